-- Written for this claim by a program of this session (wip/tools/pp.py, over the kit's print).
import Derived.Test.YtfgdjpgdabjpmaaPEdgeRunsx0
import Derived.Test.YtfgdjpgdabjpmaaPEdgeRunsx3
import Derived.Test.YtfgdjpgdabjpmaaPEdgeRunsx8
import Derived.Test.YtfgdjpgdabjpmaaPEdgeRunsx9
import Derived.Test.YtfgdjpgdabjpmaaPEdgeRunsx10
namespace Go.Proofs.Ytfgdjpgdabjpmaa.PEdgeRuns
open Go.RowKit Go.Proofs.YtfgdjpgdabjpmaaW.PrintWords Go.Proofs.YtfgdjpgdabjpmaaW.PrintLast Go.Proofs.YtfgdjpgdabjpmaaW.PrintMore
attribute [local go_sem] max2_int min2_int max_two min_two max_three min_three max_four min_four   -- for this text's walks alone
set_option linter.unusedVariables false
set_option linter.unusedSimpArgs false

/-! ### machine_Machine_step: function 103, by hand -/
-- LIB
/-- A machine as numbers and lists. -/
structure MS where
  text : List Int
  place : Int
  status : Int
  steps : Int
  taken : Int
  tape : List Int
  reg : Nat → S106
  mem : List S106
  ports : List S161
/-- Of each op the method that does it. -/
def mdoes : Nat → Nat
  | 0 => 117 | 1 => 118 | 2 => 119
  | 11 => 120 | 12 => 121 | 13 => 122 | 14 => 123
  | 15 => 124 | 16 => 125 | 17 => 126 | 18 => 127
  | 19 => 128 | 20 => 129 | 21 => 130 | _ => 131
/-- The machine's block, cell by cell. -/
def mcell (s : MS) (vt va vm vp : Value) : Nat → Value
  | 0 => .bool true | 1 => vt | 2 => .int .i64 s.place | 3 => .int .i8 s.status | 4 => .int .i64 s.steps | 5 => .int .i64 s.taken | 6 => va | 39 => vm | 40 => vp
  | k => if k < 39 then (if (k - 7) % 2 = 0 then .int .i64 (s.reg ((k - 7) / 2)).f0 else .bool (s.reg ((k - 7) / 2)).f1) else .func (.func (mdoes (k - 41))) #[] #[]
def mrow (c : Nat → Value) : Array Value := ((List.range 63).map c).toArray
theorem mrow_at (c : Nat → Value) (k : Nat) (h : k < 63) : (mrow c)[k]? = some (c k) := by simp [mrow, h]
theorem mrow_put (c : Nat → Value) (j : Nat) (u : Value) : (mrow c).setIfInBounds j u = mrow (fun k => if k = j then u else c k) := by
  apply Array.ext_getElem?
  intro i
  by_cases hi : i < 63
  · rw [mrow_at _ i hi, Array.getElem?_setIfInBounds]
    by_cases hj : j = i
    · subst hj; simp [mrow, hi]
    · rw [if_neg hj, mrow_at _ i hi, if_neg (fun e => hj e.symm)]
  · have h1 : (mrow c).size = 63 := by simp [mrow]
    have h2 : (mrow (fun k => if k = j then u else c k)).size = 63 := by simp [mrow]
    rw [Array.getElem?_eq_none (by simp; omega), Array.getElem?_eq_none (by omega)]
/-- A machine in memory: its block g; O: the blocks that are its own. -/
structure Mach (B : Nat) (w : World) (g : Nat) (O : Nat → Prop) (vt va vm vp : Value) (s : MS) : Prop where
  blk : w.heap[g]? = some (.cells (mrow (mcell s vt va vm vp)) 111 (0, 0))
  own : O g
  low : ∀ k, O k → B ≤ k
  lt : ∀ k, O k → k < w.heap.size
  text : Kd.R (Kd.int .u32) 38 w B O vt s.text
  tape : Kd.R (Kd.int .i64) 2 w B O va s.tape
  mem : Kd.R k106 106 w B O vm s.mem
  ports : Kd.R k161 161 w B O vp s.ports
/-- The blocks that are a machine's own behind a call. -/
def More (O : Nat → Prop) (w w' : World) : Nat → Prop := fun k => (O k ∨ w.heap.size ≤ k) ∧ k < w'.heap.size
theorem Mach.cell {B g : Nat} {w : World} {O : Nat → Prop} {vt va vm vp : Value} {s : MS} (h : Mach B w g O vt va vm vp s) (k : Nat) (hk : k < 63) : w.cell? ⟨g, k, none⟩ = some (mcell s vt va vm vp k) := by rw [blk_cell h.blk, mrow_at _ k hk]
theorem Mach.frozen {B g : Nat} {w : World} {O : Nat → Prop} {vt va vm vp : Value} {s : MS} (h : Mach B w g O vt va vm vp s) (k : Nat) : w.frozen? ⟨g, k, none⟩ = false := blk_frozen h.blk k
/-- It stands while others' blocks are written. -/
theorem Mach.kept {B g : Nat} {w w' : World} {O S : Nat → Prop} {vt va vm vp : Value} {s : MS} (h : Mach B w g O vt va vm vp s) (hk : Kept w w' S) (hs : ∀ k, O k → ¬ S k) : Mach B w' g O vt va vm vp s :=
  ⟨blk_kept h.blk hk (hs g h.own), h.own, h.low, fun k ho => Nat.lt_of_lt_of_le (h.lt k ho) hk.1, Kd.R_kept h.text hk hs, Kd.R_kept h.tape hk hs, Kd.R_kept h.mem hk hs, Kd.R_kept h.ports hk hs⟩
theorem Mach.below {B g : Nat} {w w' : World} {O : Nat → Prop} {vt va vm vp : Value} {s : MS} (h : Mach B w g O vt va vm vp s) (hb : Below w.heap.size w w') : Mach B w' g O vt va vm vp s := h.kept (Kept.of_below hb (fun _ => False)) (fun _ _ h => h)
/-- A cell of its block is written. -/
theorem Mach.put {B g : Nat} {w : World} {O : Nat → Prop} {vt va vm vp : Value} {s s' : MS} (h : Mach B w g O vt va vm vp s) (j : Nat) (u : Value) (hc : (fun k => if k = j then u else mcell s vt va vm vp k) = mcell s' vt va vm vp) (e1 : s'.text = s.text) (e2 : s'.tape = s.tape) (e3 : s'.mem = s.mem) (e4 : s'.ports = s.ports) :
    Mach B (w.setCell ⟨g, j, none⟩ u) g O vt va vm vp s' := by
  refine ⟨by rw [blk_set h.blk j u, mrow_put, hc], h.own, h.low, fun k ho => by simpa [World.setCell] using h.lt k ho, ?_, ?_, ?_, ?_⟩
  · rw [e1]; exact Kd.R_set h.text h.blk (by decide) j u
  · rw [e2]; exact Kd.R_set h.tape h.blk (by decide) j u
  · rw [e3]; exact Kd.R_set h.mem h.blk (by decide) j u
  · rw [e4]; exact Kd.R_set h.ports h.blk (by decide) j u
theorem Mach.step {B g : Nat} {w w' : World} {O : Nat → Prop} {vt va vm vp : Value} {s : MS} (h : Mach B w g O vt va vm vp s) (hb : Below w.heap.size w w') : Mach B w' g (More O w w') vt va vm vp s :=
  let h' := h.below hb
  have hm : ∀ k, O k → More O w w' k := fun k ho => ⟨.inl ho, h'.lt k ho⟩
  ⟨h'.blk, hm g h.own, fun k ho => ho.1.elim (h.low k) (fun hw => Nat.le_trans (h.low g h.own) (Nat.le_trans (Nat.le_of_lt (h.lt g h.own)) hw)), fun k ho => ho.2, Kd.R_mono h'.text hm, Kd.R_mono h'.tape hm, Kd.R_mono h'.mem hm, Kd.R_mono h'.ports hm⟩
/-! the single cells -/
theorem mput_place (s : MS) (vt va vm vp : Value) (n : Int) : (fun k => if k = 2 then Value.int .i64 n else mcell s vt va vm vp k) = mcell { s with place := n } vt va vm vp := by
  funext k
  by_cases h : k = 2
  · subst h; rfl
  · rw [if_neg h]; unfold mcell; split <;> first | rfl | exact absurd rfl h
theorem mput_status (s : MS) (vt va vm vp : Value) (n : Int) : (fun k => if k = 3 then Value.int .i8 n else mcell s vt va vm vp k) = mcell { s with status := n } vt va vm vp := by
  funext k
  by_cases h : k = 3
  · subst h; rfl
  · rw [if_neg h]; unfold mcell; split <;> first | rfl | exact absurd rfl h
theorem mput_steps (s : MS) (vt va vm vp : Value) (n : Int) : (fun k => if k = 4 then Value.int .i64 n else mcell s vt va vm vp k) = mcell { s with steps := n } vt va vm vp := by
  funext k
  by_cases h : k = 4
  · subst h; rfl
  · rw [if_neg h]; unfold mcell; split <;> first | rfl | exact absurd rfl h
theorem mput_taken (s : MS) (vt va vm vp : Value) (n : Int) : (fun k => if k = 5 then Value.int .i64 n else mcell s vt va vm vp k) = mcell { s with taken := n } vt va vm vp := by
  funext k
  by_cases h : k = 5
  · subst h; rfl
  · rw [if_neg h]; unfold mcell; split <;> first | rfl | exact absurd rfl h
/-- A register is written: two cells. -/
def MS.put (s : MS) (r : Nat) (x : S106) : MS := { s with reg := fun k => if k = r then x else s.reg k }
theorem mcell_regV (s : MS) (vt va vm vp : Value) (r : Nat) (h : r < 16) : mcell s vt va vm vp (7 + r * 2) = .int .i64 (s.reg r).f0 := by
  have h1 : (7 + r * 2 - 7) % 2 = 0 := by omega
  have h2 : (7 + r * 2 - 7) / 2 = r := by omega
  have h3 : 7 + r * 2 < 39 := by omega
  unfold mcell
  split <;> first | omega | (rw [if_pos h3, if_pos h1, h2])
theorem mcell_regC (s : MS) (vt va vm vp : Value) (r : Nat) (h : r < 16) : mcell s vt va vm vp (7 + r * 2 + 1) = .bool (s.reg r).f1 := by
  have h1 : ¬ ((7 + r * 2 + 1 - 7) % 2 = 0) := by omega
  have h2 : (7 + r * 2 + 1 - 7) / 2 = r := by omega
  have h3 : 7 + r * 2 + 1 < 39 := by omega
  unfold mcell
  split <;> first | omega | (rw [if_pos h3, if_neg h1, h2])
theorem mput_reg (s : MS) (vt va vm vp : Value) (r : Nat) (x : S106) (h : r < 16) :
    (fun k => if k = 7 + r * 2 + 1 then Value.bool x.f1 else (if k = 7 + r * 2 then Value.int .i64 x.f0 else mcell s vt va vm vp k)) = mcell (s.put r x) vt va vm vp := by
  funext k
  by_cases h1 : k = 7 + r * 2 + 1
  · subst h1; rw [if_pos rfl, mcell_regC _ _ _ _ _ r h]; simp [MS.put]
  · by_cases h2 : k = 7 + r * 2
    · subst h2; rw [if_neg (by omega), if_pos rfl, mcell_regV _ _ _ _ _ r h]; simp [MS.put]
    · rw [if_neg h1, if_neg h2]
      by_cases h3 : 7 ≤ k ∧ k < 39
      · have hne : ¬ (k - 7) / 2 = r := by omega
        have hp : (s.put r x).reg ((k - 7) / 2) = s.reg ((k - 7) / 2) := by simp [MS.put, hne]
        unfold mcell
        split <;> first | rfl | (rw [hp])
      · by_cases h7 : k < 7
        · have : k = 0 ∨ k = 1 ∨ k = 2 ∨ k = 3 ∨ k = 4 ∨ k = 5 ∨ k = 6 := by omega
          rcases this with rfl | rfl | rfl | rfl | rfl | rfl | rfl <;> rfl
        · have h39 : ¬ k < 39 := by omega
          unfold mcell
          split <;> first | rfl | (rw [if_neg h39, if_neg h39])
theorem Mach.putReg {B g : Nat} {w : World} {O : Nat → Prop} {vt va vm vp : Value} {s : MS} (h : Mach B w g O vt va vm vp s) (r : Nat) (hr : r < 16) (x : S106) :
    Mach B ((w.setCell ⟨g, 7 + r * 2, none⟩ (.int .i64 x.f0)).setCell ⟨g, 7 + r * 2 + 1, none⟩ (.bool x.f1)) g O vt va vm vp (s.put r x) := by
  refine ⟨by rw [blk_set (blk_set h.blk _ _) _ _, mrow_put, mrow_put, mput_reg s vt va vm vp r x hr], h.own, h.low, fun k ho => by simpa [World.setCell] using h.lt k ho, ?_, ?_, ?_, ?_⟩
  · exact Kd.R_set (Kd.R_set h.text h.blk (by decide) _ _) (blk_set h.blk _ _) (by decide) _ _
  · exact Kd.R_set (Kd.R_set h.tape h.blk (by decide) _ _) (blk_set h.blk _ _) (by decide) _ _
  · exact Kd.R_set (Kd.R_set h.mem h.blk (by decide) _ _) (blk_set h.blk _ _) (by decide) _ _
  · exact Kd.R_set (Kd.R_set h.ports h.blk (by decide) _ _) (blk_set h.blk _ _) (by decide) _ _
section
variable {B g : Nat} {w : World} {O : Nat → Prop} {vt va vm vp : Value} {s : MS}
theorem mach_none (h : Mach B w g O vt va vm vp s) : Calls Try.prog 102 #[.pointer (some ⟨g, 0, none⟩)] w fun e w' => e = .returned (.bool false) ∧ w' = w := by
  have c0 : w.cell? ⟨g, 0, none⟩ = some (.bool true) := h.cell 0 (by decide)
  have hu := Try.underlying111
  clear h
  go_enter Try.func102, Try.ntmps102
  go_wp2
  go_ret
  exact ⟨rfl, rfl⟩
theorem mach_none_nil (w : World) : Calls Try.prog 102 #[.pointer none] w fun e w' => e = .returned (.bool true) ∧ w' = w := by
  go_enter Try.func102, Try.ntmps102
  go_wp2
  go_ret
  exact ⟨rfl, rfl⟩
theorem mach_none_zero (c0 : w.cell? ⟨g, 0, none⟩ = some (.bool false)) : Calls Try.prog 102 #[.pointer (some ⟨g, 0, none⟩)] w fun e w' => e = .returned (.bool true) ∧ w' = w := by
  have hu := Try.underlying111
  go_enter Try.func102, Try.ntmps102
  go_wp2
  go_ret
  exact ⟨rfl, rfl⟩
/-- What an instruction leads to: the next place, or a fault. -/
def MOut : Except Int Int → Ending
  | .ok n => .returned (.int .i64 n)
  | .error f => .panicked [{ v := .iface 171 (.int .i8 f), recovered := false }]
set_option maxRecDepth 100000 in
theorem mach_sealed (h : Mach B w g O vt va vm vp s) (r : Nat) (hr : r < 16) : Calls Try.prog 139 #[.pointer (some ⟨g, 0, none⟩), .int .i8 r] w fun e w' => e = MOut (if (s.reg r).f1 = true then .ok (s.reg r).f0 else .error 4) ∧ w' = w := by
  have cV : w.cell? ⟨g, 7 + r * 2, none⟩ = some (.int .i64 (s.reg r).f0) := (h.cell (7 + r * 2) (by omega)).trans (congrArg some (mcell_regV s vt va vm vp r hr))
  have cC : w.cell? ⟨g, 7 + r * 2 + 1, none⟩ = some (.bool (s.reg r).f1) := (h.cell (7 + r * 2 + 1) (by omega)).trans (congrArg some (mcell_regC s vt va vm vp r hr))
  have hu := Try.underlying111
  have hu2 := Try.underlying107
  have hu3 := Try.underlying106
  clear h
  cases hs : (s.reg r).f1
  · rw [hs] at cC
    go_enter Try.func139, Try.ntmps139
    go_wp2
    exact ⟨rfl, rfl, rfl⟩
  · rw [hs] at cC
    go_enter Try.func139, Try.ntmps139
    go_wp2
    go_ret
    exact ⟨rfl, rfl⟩
set_option maxRecDepth 100000 in
theorem mach_plain (h : Mach B w g O vt va vm vp s) (r : Nat) (hr : r < 16) : Calls Try.prog 137 #[.pointer (some ⟨g, 0, none⟩), .int .i8 r] w fun e w' => e = MOut (if (s.reg r).f1 = true then .error 4 else .ok (s.reg r).f0) ∧ w' = w := by
  have cV : w.cell? ⟨g, 7 + r * 2, none⟩ = some (.int .i64 (s.reg r).f0) := (h.cell (7 + r * 2) (by omega)).trans (congrArg some (mcell_regV s vt va vm vp r hr))
  have cC : w.cell? ⟨g, 7 + r * 2 + 1, none⟩ = some (.bool (s.reg r).f1) := (h.cell (7 + r * 2 + 1) (by omega)).trans (congrArg some (mcell_regC s vt va vm vp r hr))
  have hu := Try.underlying111
  have hu2 := Try.underlying107
  have hu3 := Try.underlying106
  clear h
  cases hs : (s.reg r).f1
  · rw [hs] at cC
    go_enter Try.func137, Try.ntmps137
    go_wp2
    go_ret
    exact ⟨rfl, rfl⟩
  · rw [hs] at cC
    go_enter Try.func137, Try.ntmps137
    go_wp2
    exact ⟨rfl, rfl, rfl⟩
theorem mach_must_ok (P : Value) : Calls Try.prog 136 #[P, .int .i8 0] w fun e w' => e = .returned (.tuple #[]) ∧ w' = w := by
  go_enter Try.func136, Try.ntmps136
  go_wp2
  refine bodyPost_end (v := .tuple #[]) (by simp [results, Try.results136, go_sem]) rfl ?_
  exact ⟨rfl, rfl⟩
theorem mach_must_no (P : Value) (f : Int) (hf : f ≠ 0) : Calls Try.prog 136 #[P, .int .i8 f] w fun e w' => e = MOut (.error f) ∧ w' = w := by
  have d : (f != 0) = true := by simpa using hf
  go_enter Try.func136, Try.ntmps136
  go_wp2
  exact ⟨rfl, rfl, rfl⟩
end
/-- A word of the memory is written. -/
theorem Mach.putMem {B g gm cm n : Nat} {w : World} {O : Nat → Prop} {vt va vp : Value} {s : MS} (h : Mach B w g O vt va (.slice (some ⟨gm, 0, none⟩) n cm) vp s) (i : Int) (h0 : 0 ≤ i) (hi : i < n) (x : S106) :
    Mach B ((w.setCell ⟨gm, i.toNat * 2, none⟩ (.int .i64 x.f0)).setCell ⟨gm, i.toNat * 2 + 1, none⟩ (.bool x.f1)) g O vt va (.slice (some ⟨gm, 0, none⟩) n cm) vp { s with mem := s.mem.set i.toNat x } := by
  obtain ⟨hn, _, hC⟩ := Kd.R_reads' h.mem
  obtain ⟨ad, e, hv1, hv2⟩ := at_T106 (n := s.mem.length) hC i h0 (by omega)
  cases e
  rw [Addr.add_lit, Nat.zero_add] at hv1 hv2
  have hO : O gm := h.mem.1 gm (by simp [Value.ownBlock])
  obtain ⟨inner, hown⟩ := Kd.R_own h.mem
  obtain ⟨cells, hh⟩ := own_typed hown gm (by simp [Value.ownBlock])
  have hseg := Kd.R_seg h.mem (j := 0) (seg := [.int .i64 x.f0, .bool x.f1]) (x' := x) (okp := fun _ => False) (c := [.int .i64 (rd_T106 s.mem i).f0, .bool (rd_T106 s.mem i).f1]) i h0 hi rfl (fun j u hj => by
    rcases j with _ | _ | j
    · cases hj; exact hv1
    · cases hj; exact hv2
    · simp at hj) (Nat.le_refl 2) (k106_mkM _ _ _ x) (fun _ hk => hk.elim)
  have hK : Kept w ((w.setCell ⟨gm, i.toNat * 2, none⟩ (.int .i64 x.f0)).setCell ⟨gm, i.toNat * 2 + 1, none⟩ (.bool x.f1)) (fun k => k = gm) := ((Kept.refl w (fun k => k = gm)).setCell (p := ⟨gm, i.toNat * 2, none⟩) (.inl rfl) _).setCell (p := ⟨gm, i.toNat * 2 + 1, none⟩) (.inl rfl) _
  have hne : g ≠ gm := blk_ne h.blk hh (by decide)
  refine ⟨blk_kept h.blk hK hne, h.own, h.low, fun k ho => Nat.lt_of_lt_of_le (h.lt k ho) hK.1, ?_, ?_, hseg.1, ?_⟩
  · exact Kd.R_mono (Kd.R_kept (Kd.R_types h.text hh (by decide)) hK (fun k hk => hk.2)) (fun k hk => hk.1)
  · exact Kd.R_mono (Kd.R_kept (Kd.R_types h.tape hh (by decide)) hK (fun k hk => hk.2)) (fun k hk => hk.1)
  · exact Kd.R_mono (Kd.R_kept (Kd.R_types h.ports hh (by decide)) hK (fun k hk => hk.2)) (fun k hk => hk.1)
/-- Behind a call that a machine's state comes of. -/
def MAfter (B g : Nat) (w : World) (O : Nat → Prop) (vt va : Value) (s : MS) (w' : World) : Prop := ∃ vm vp, Mach B w' g (More O w w') vt va vm vp s ∧ Kept w w' O ∧ Below B w w'
theorem Mach.after {B g : Nat} {w w' : World} {O : Nat → Prop} {vt va vm vp : Value} {s : MS} (h : Mach B w' g O vt va vm vp s) (hB : B ≤ w.heap.size) (hk : Kept w w' O) (hb : Below B w w') : MAfter B g w O vt va s w' := by
  have hm : ∀ k, O k → More O w w' k := fun k ho => ⟨.inl ho, h.lt k ho⟩
  refine ⟨vm, vp, ⟨h.blk, hm g h.own, fun k ho => ho.1.elim (h.low k) (fun hw => Nat.le_trans hB hw), fun k ho => ho.2, Kd.R_mono h.text hm, Kd.R_mono h.tape hm, Kd.R_mono h.mem hm, Kd.R_mono h.ports hm⟩, hk, hb⟩
theorem mput_ports (s : MS) (vt va vm vp v1 : Value) (l : List S161) : (fun k => if k = 40 then v1 else mcell s vt va vm vp k) = mcell { s with ports := l } vt va vm v1 := by
  funext k
  by_cases h : k = 40
  · subst h; rfl
  · rw [if_neg h]; unfold mcell; split <;> first | rfl | exact absurd rfl h
theorem mput_mem (s : MS) (vt va vm vp v1 : Value) (l : List S106) : (fun k => if k = 39 then v1 else mcell s vt va vm vp k) = mcell { s with mem := l } vt va v1 vp := by
  funext k
  by_cases h : k = 39
  · subst h; rfl
  · rw [if_neg h]; unfold mcell; split <;> first | rfl | exact absurd rfl h
/-- Another row of the machine's stays while a row of another type grows. -/
theorem rowstays {α β : Type} {d : Kd α} {d2 : Kd β} {e e2 B : Nat} {O O2 : Nat → Prop} {W w1 : World} {v v2 : Value} {xs : List α} {ys : List β} (h : d.R e W B O v xs) (h2 : d2.R e2 W B O2 v2 ys) (hg : W.grownBy w1 v2.ownBlock) (he : ∀ q, q ∈ e :: d.E → q ≠ e2) : d.R e w1 B O v xs := by
  obtain ⟨i2, o2⟩ := Kd.R_own h2
  refine Kd.R_mono (Kd.R_grown (Kd.R_mono (ok' := fun k => O k ∧ some k ≠ v2.ownBlock) (Kd.R_bound h) fun k hk => ⟨hk.1, fun e1 => ?_⟩) hg fun _ hk => hk.2) fun _ hk => hk.1
  obtain ⟨_, _, _, q, hq, cs, hc⟩ := hk
  obtain ⟨c1, q1⟩ := own_typed o2 k e1.symm
  rw [q1] at hc
  injection hc with hc
  injection hc with _ hc
  exact he q hq hc.symm
/-- A port is told: the row of ports has grown, and the machine's cell is written. -/
theorem Mach.app {B g : Nat} {w W w1 : World} {O : Nat → Prop} {vt va vm vp v1 : Value} {s : MS} {l : List S161} (h : Mach B W g O vt va vm vp s) (hB : B ≤ w.heap.size) (hK : Kept w W O) (hL : Below B w W)
    (ho : Kd.R k161 161 w1 B (fun k => O k ∨ W.heap.size ≤ k) v1 l) (hg : W.grownBy w1 vp.ownBlock) (hb : Below B W w1) : MAfter B g w O vt va { s with ports := l } (w1.setCell ⟨g, 40, none⟩ v1) := by
  have hbg := blk_grown h.blk hg (Kd.R_ne h.ports h.blk (by decide))
  have hsz : (w1.setCell ⟨g, 40, none⟩ v1).heap.size = w1.heap.size := by simp [World.setCell]
  have hlt : ∀ k, O k → k < w1.heap.size := fun k hk => Nat.lt_of_lt_of_le (h.lt k hk) hg.size
  have hm : ∀ k, O k → More O w (w1.setCell ⟨g, 40, none⟩ v1) k := fun k hk => ⟨.inl hk, by rw [hsz]; exact hlt k hk⟩
  have hK1 : Kept w (w1.setCell ⟨g, 40, none⟩ v1) O := (Kept.of_grown hg hK (fun k hk => .inl (h.ports.1 k hk))).setCell (p := ⟨g, 40, none⟩) (.inl h.own) v1
  have hL1 : Below B w (w1.setCell ⟨g, 40, none⟩ v1) := (hL.trans hb).setCell (p := ⟨g, 40, none⟩) (h.low g h.own) v1
  refine ⟨vm, v1, ⟨by rw [blk_set hbg 40 v1, mrow_put, mput_ports s vt va vm vp v1 l], hm g h.own, fun k hk => hk.1.elim (h.low k) (fun hw => Nat.le_trans hB hw), fun k hk => hk.2, ?_, ?_, ?_, ?_⟩, hK1, hL1⟩
  · exact Kd.R_mono (Kd.R_set (rowstays h.text h.ports hg (by decide)) hbg (by decide) 40 v1) hm
  · exact Kd.R_mono (Kd.R_set (rowstays h.tape h.ports hg (by decide)) hbg (by decide) 40 v1) hm
  · exact Kd.R_mono (Kd.R_set (rowstays h.mem h.ports hg (by decide)) hbg (by decide) 40 v1) hm
  · refine Kd.R_mono (Kd.R_set (Kd.R_bound ho) hbg (by decide) 40 v1) (fun k hk => ⟨hk.1.elim .inl (fun h2 => .inr (Nat.le_trans hK.1 h2)), by rw [hsz]; exact hk.2.2.1⟩)
theorem callp_ {P : Program} {ops : Array Oper} {Q : Exit → Act → World → Prop} {oi : Oper} {N : Option Tmp} {a : Act} {w : World} {K : Act → World → Prop} (f : FuncId) (args : Array Value) (hw : Region.wanted oi (yielded ops a.tmps) = true) (hrun : (execOp a.eval oi).run P w = .ok (.enter f args) w)
    (h : Calls P f args w fun e w' => ∃ c, e = .panicked c ∧ Q (.panic c) a w') : if Region.wanted oi (yielded ops a.tmps) = true then Oper.wp P oi a w K Q else K (a.put N undef) w := by
  rw [if_pos hw]
  unfold Oper.wp
  rw [hrun, Oper.upon_enter]
  refine h.mono fun e w'' hh => ?_
  obtain ⟨c, rfl, hk⟩ := hh
  exact hk
theorem infoMP : (Try.prog.info? 161).map (fun i => (i.zero, i.size, i.bytes)) = some (some (.agg #[.int .i64 0, .int .i64 0]), 2, 16) := by kernel_rfl
theorem infoMW : (Try.prog.info? 106).map (fun i => (i.zero, i.size, i.bytes)) = some (some (.agg #[.int .i64 0, .bool false]), 2, 16) := by kernel_rfl
theorem put_defers (a : Act) (N : Option Tmp) (v : Value) : (a.put N v).defers = a.defers := by cases N <;> rfl
set_option maxRecDepth 100000 in
set_option maxHeartbeats 4000000 in
theorem mach_jump {B g : Nat} {w : World} {O : Nat → Prop} {vt va vm vp : Value} {s : MS} (h : Mach B w g O vt va vm vp s) (op d a b : Nat) (n : Int) (hB : B ≤ w.heap.size) :
    Calls Try.prog 124 #[.pointer (some ⟨g, 0, none⟩), .agg #[.int .i8 op, .int .i8 d, .int .i8 a, .int .i8 b, .int .i64 n]] w fun e w' => e = MOut (.ok n) ∧ MAfter B g w O vt va (s) w' := by
  have hM := Aside0.mk (h.below (below_alloc (Below.refl w.heap.size w) (.cells #[.int .i8 op, .int .i8 d, .int .i8 a, .int .i8 b, .int .i64 n] 36)))
  have hK := Aside0.mk (Kept.alloc (Kept.refl w O) (.cells #[.int .i8 op, .int .i8 d, .int .i8 a, .int .i8 b, .int .i64 n] 36))
  have hL := Aside0.mk ((Below.refl B w).alloc hB (.cells #[.int .i8 op, .int .i8 d, .int .i8 a, .int .i8 b, .int .i64 n] 36))
  have hI := Aside0.mk (blk_new w (.cells #[.int .i8 op, .int .i8 d, .int .i8 a, .int .i8 b, .int .i64 n] 36))
  have hi := blk_cell hI.out
  have hne : w.heap.size ≠ g := fun e => absurd (h.lt g h.own) (by omega)
  have hu := Try.underlying111
  have hu2 := Try.underlying107
  have hu3 := Try.underlying106
  have hu4 := Try.underlying36
  clear h
  go_enter Try.func124, Try.ntmps124
  go_wp2
  go_ret
  exact ⟨rfl, hM.out.after hB hK.out hL.out⟩
set_option maxRecDepth 100000 in
set_option maxHeartbeats 4000000 in
theorem mach_halt {B g : Nat} {w : World} {O : Nat → Prop} {vt va vm vp : Value} {s : MS} (h : Mach B w g O vt va vm vp s) (op d a b : Nat) (n : Int) (hB : B ≤ w.heap.size) :
    Calls Try.prog 130 #[.pointer (some ⟨g, 0, none⟩), .agg #[.int .i8 op, .int .i8 d, .int .i8 a, .int .i8 b, .int .i64 n]] w fun e w' => e = MOut (.ok s.place) ∧ MAfter B g w O vt va ({ s with status := 1 }) w' := by
  have hM := Aside0.mk (h.below (below_alloc (Below.refl w.heap.size w) (.cells #[.int .i8 op, .int .i8 d, .int .i8 a, .int .i8 b, .int .i64 n] 36)))
  have hK := Aside0.mk (Kept.alloc (Kept.refl w O) (.cells #[.int .i8 op, .int .i8 d, .int .i8 a, .int .i8 b, .int .i64 n] 36))
  have hL := Aside0.mk ((Below.refl B w).alloc hB (.cells #[.int .i8 op, .int .i8 d, .int .i8 a, .int .i8 b, .int .i64 n] 36))
  have hI := Aside0.mk (blk_new w (.cells #[.int .i8 op, .int .i8 d, .int .i8 a, .int .i8 b, .int .i64 n] 36))
  have hi := blk_cell hI.out
  have hne : w.heap.size ≠ g := fun e => absurd (h.lt g h.own) (by omega)
  have c2 : (w.alloc (.cells #[.int .i8 op, .int .i8 d, .int .i8 a, .int .i8 b, .int .i64 n] 36)).cell? ⟨g, 2, none⟩ = some (.int .i64 s.place) := hM.out.cell 2 (by decide)
  have f2 : (w.alloc (.cells #[.int .i8 op, .int .i8 d, .int .i8 a, .int .i8 b, .int .i64 n] 36)).frozen? ⟨g, 2, none⟩ = false := hM.out.frozen 2
  have c3 : (w.alloc (.cells #[.int .i8 op, .int .i8 d, .int .i8 a, .int .i8 b, .int .i64 n] 36)).cell? ⟨g, 3, none⟩ = some (.int .i8 s.status) := hM.out.cell 3 (by decide)
  have f3 : (w.alloc (.cells #[.int .i8 op, .int .i8 d, .int .i8 a, .int .i8 b, .int .i64 n] 36)).frozen? ⟨g, 3, none⟩ = false := hM.out.frozen 3
  have hu := Try.underlying111
  have hu2 := Try.underlying107
  have hu3 := Try.underlying106
  have hu4 := Try.underlying36
  clear h
  go_enter Try.func130, Try.ntmps130
  go_wp2
  go_ret
  exact ⟨rfl, (hM.out.put 3 (.int .i8 1) (mput_status s vt va vm vp 1) rfl rfl rfl rfl).after hB (hK.out.setCell (.inl hM.out.own) _) (hL.out.setCell (hM.out.low g hM.out.own) _)⟩
set_option maxRecDepth 100000 in
set_option maxHeartbeats 4000000 in
theorem mach_goes {B g : Nat} {w : World} {O : Nat → Prop} {vt va vm vp : Value} {s : MS} (h : Mach B w g O vt va vm vp s) (op d a b : Nat) (n : Int) (hB : B ≤ w.heap.size) (ha : a < 16) :
    Calls Try.prog 128 #[.pointer (some ⟨g, 0, none⟩), .agg #[.int .i8 op, .int .i8 d, .int .i8 a, .int .i8 b, .int .i64 n]] w fun e w' => e = MOut (if (s.reg a).f1 = true then .ok (s.reg a).f0 else .error 4) ∧ MAfter B g w O vt va (s) w' := by
  have hM := Aside0.mk (h.below (below_alloc (Below.refl w.heap.size w) (.cells #[.int .i8 op, .int .i8 d, .int .i8 a, .int .i8 b, .int .i64 n] 36)))
  have hK := Aside0.mk (Kept.alloc (Kept.refl w O) (.cells #[.int .i8 op, .int .i8 d, .int .i8 a, .int .i8 b, .int .i64 n] 36))
  have hL := Aside0.mk ((Below.refl B w).alloc hB (.cells #[.int .i8 op, .int .i8 d, .int .i8 a, .int .i8 b, .int .i64 n] 36))
  have hI := Aside0.mk (blk_new w (.cells #[.int .i8 op, .int .i8 d, .int .i8 a, .int .i8 b, .int .i64 n] 36))
  have hi := blk_cell hI.out
  have hne : w.heap.size ≠ g := fun e => absurd (h.lt g h.own) (by omega)
  have ia : ((a : Nat) : Int) < 16 := by omega
  have hu := Try.underlying111
  have hu2 := Try.underlying107
  have hu3 := Try.underlying106
  have hu4 := Try.underlying36
  clear h
  go_enter Try.func128, Try.ntmps128
  go_wp2_with (go_at_call 139; refine (mach_sealed hM.out a ha).mono ?_; rintro e w' ⟨rfl, hw'⟩; obtain rfl := hw'.symm)
  · go_ret
    exact ⟨rfl, hM.out.after hB hK.out hL.out⟩
  · exact ⟨rfl, rfl, hM.out.after hB hK.out hL.out⟩
set_option maxRecDepth 100000 in
set_option maxHeartbeats 4000000 in
theorem mach_move {B g : Nat} {w : World} {O : Nat → Prop} {vt va vm vp : Value} {s : MS} (h : Mach B w g O vt va vm vp s) (op d a b : Nat) (n : Int) (hB : B ≤ w.heap.size) (hd : d < 16) (ha : a < 16) :
    Calls Try.prog 119 #[.pointer (some ⟨g, 0, none⟩), .agg #[.int .i8 op, .int .i8 d, .int .i8 a, .int .i8 b, .int .i64 n]] w fun e w' => e = MOut (.ok (wrap64 (s.place + 1))) ∧ MAfter B g w O vt va (s.put d (s.reg a)) w' := by
  have hM := Aside0.mk (h.below (below_alloc (Below.refl w.heap.size w) (.cells #[.int .i8 op, .int .i8 d, .int .i8 a, .int .i8 b, .int .i64 n] 36)))
  have hK := Aside0.mk (Kept.alloc (Kept.refl w O) (.cells #[.int .i8 op, .int .i8 d, .int .i8 a, .int .i8 b, .int .i64 n] 36))
  have hL := Aside0.mk ((Below.refl B w).alloc hB (.cells #[.int .i8 op, .int .i8 d, .int .i8 a, .int .i8 b, .int .i64 n] 36))
  have hI := Aside0.mk (blk_new w (.cells #[.int .i8 op, .int .i8 d, .int .i8 a, .int .i8 b, .int .i64 n] 36))
  have hi := blk_cell hI.out
  have hne : w.heap.size ≠ g := fun e => absurd (h.lt g h.own) (by omega)
  have c2 : (w.alloc (.cells #[.int .i8 op, .int .i8 d, .int .i8 a, .int .i8 b, .int .i64 n] 36)).cell? ⟨g, 2, none⟩ = some (.int .i64 s.place) := hM.out.cell 2 (by decide)
  have f2 : (w.alloc (.cells #[.int .i8 op, .int .i8 d, .int .i8 a, .int .i8 b, .int .i64 n] 36)).frozen? ⟨g, 2, none⟩ = false := hM.out.frozen 2
  have rv_d : (w.alloc (.cells #[.int .i8 op, .int .i8 d, .int .i8 a, .int .i8 b, .int .i64 n] 36)).cell? ⟨g, 7 + d * 2, none⟩ = some (.int .i64 (s.reg d).f0) := (hM.out.cell (7 + d * 2) (by omega)).trans (congrArg some (mcell_regV s _ _ _ _ d hd))
  have rk_d : (w.alloc (.cells #[.int .i8 op, .int .i8 d, .int .i8 a, .int .i8 b, .int .i64 n] 36)).cell? ⟨g, 7 + d * 2 + 1, none⟩ = some (.bool (s.reg d).f1) := (hM.out.cell (7 + d * 2 + 1) (by omega)).trans (congrArg some (mcell_regC s _ _ _ _ d hd))
  have rfv_d : (w.alloc (.cells #[.int .i8 op, .int .i8 d, .int .i8 a, .int .i8 b, .int .i64 n] 36)).frozen? ⟨g, 7 + d * 2, none⟩ = false := hM.out.frozen _
  have rfk_d : (w.alloc (.cells #[.int .i8 op, .int .i8 d, .int .i8 a, .int .i8 b, .int .i64 n] 36)).frozen? ⟨g, 7 + d * 2 + 1, none⟩ = false := hM.out.frozen _
  have rv_a : (w.alloc (.cells #[.int .i8 op, .int .i8 d, .int .i8 a, .int .i8 b, .int .i64 n] 36)).cell? ⟨g, 7 + a * 2, none⟩ = some (.int .i64 (s.reg a).f0) := (hM.out.cell (7 + a * 2) (by omega)).trans (congrArg some (mcell_regV s _ _ _ _ a ha))
  have rk_a : (w.alloc (.cells #[.int .i8 op, .int .i8 d, .int .i8 a, .int .i8 b, .int .i64 n] 36)).cell? ⟨g, 7 + a * 2 + 1, none⟩ = some (.bool (s.reg a).f1) := (hM.out.cell (7 + a * 2 + 1) (by omega)).trans (congrArg some (mcell_regC s _ _ _ _ a ha))
  have rfv_a : (w.alloc (.cells #[.int .i8 op, .int .i8 d, .int .i8 a, .int .i8 b, .int .i64 n] 36)).frozen? ⟨g, 7 + a * 2, none⟩ = false := hM.out.frozen _
  have rfk_a : (w.alloc (.cells #[.int .i8 op, .int .i8 d, .int .i8 a, .int .i8 b, .int .i64 n] 36)).frozen? ⟨g, 7 + a * 2 + 1, none⟩ = false := hM.out.frozen _
  have id : ((d : Nat) : Int) < 16 := by omega
  have ia : ((a : Nat) : Int) < 16 := by omega
  have hu := Try.underlying111
  have hu2 := Try.underlying107
  have hu3 := Try.underlying106
  have hu4 := Try.underlying36
  clear h
  go_enter Try.func119, Try.ntmps119
  go_wp2
  go_region
  have hM2 : Aside0 (Mach B ((((w.alloc (.cells #[.int .i8 op, .int .i8 d, .int .i8 a, .int .i8 b, .int .i64 n] 36)).setCell ⟨g, 7 + d * 2, none⟩ (.int .i64 (s.reg a).f0)).setCell ⟨g, 7 + d * 2 + 1, none⟩ (.bool (s.reg a).f1)).drew) g O vt _ _ _ (s.put d (s.reg a))) := ⟨(hM.out.putReg d hd (s.reg a)).below (below_drew (Below.refl _ _))⟩
  have hK2 : Aside0 (Kept w ((((w.alloc (.cells #[.int .i8 op, .int .i8 d, .int .i8 a, .int .i8 b, .int .i64 n] 36)).setCell ⟨g, 7 + d * 2, none⟩ (.int .i64 (s.reg a).f0)).setCell ⟨g, 7 + d * 2 + 1, none⟩ (.bool (s.reg a).f1)).drew) O) := ⟨Kept.drew ((hK.out.setCell (p := ⟨g, 7 + d * 2, none⟩) (.inl hM.out.own) (.int .i64 (s.reg a).f0)).setCell (p := ⟨g, 7 + d * 2 + 1, none⟩) (.inl hM.out.own) (.bool (s.reg a).f1))⟩
  have hL2 : Aside0 (Below B w ((((w.alloc (.cells #[.int .i8 op, .int .i8 d, .int .i8 a, .int .i8 b, .int .i64 n] 36)).setCell ⟨g, 7 + d * 2, none⟩ (.int .i64 (s.reg a).f0)).setCell ⟨g, 7 + d * 2 + 1, none⟩ (.bool (s.reg a).f1)).drew)) := ⟨below_drew ((hL.out.setCell (p := ⟨g, 7 + d * 2, none⟩) (hM.out.low g hM.out.own) (.int .i64 (s.reg a).f0)).setCell (p := ⟨g, 7 + d * 2 + 1, none⟩) (hM.out.low g hM.out.own) (.bool (s.reg a).f1))⟩
  have hI2 : Aside0 (((((w.alloc (.cells #[.int .i8 op, .int .i8 d, .int .i8 a, .int .i8 b, .int .i64 n] 36)).setCell ⟨g, 7 + d * 2, none⟩ (.int .i64 (s.reg a).f0)).setCell ⟨g, 7 + d * 2 + 1, none⟩ (.bool (s.reg a).f1)).drew).heap[w.heap.size]? = some (.cells #[.int .i8 op, .int .i8 d, .int .i8 a, .int .i8 b, .int .i64 n] 36)) := ⟨blk_drew (blk_far (blk_far hI.out hne _) hne _)⟩
  revert hM2 hK2 hL2 hI2
  generalize (((w.alloc (.cells #[.int .i8 op, .int .i8 d, .int .i8 a, .int .i8 b, .int .i64 n] 36)).setCell ⟨g, 7 + d * 2, none⟩ (.int .i64 (s.reg a).f0)).setCell ⟨g, 7 + d * 2 + 1, none⟩ (.bool (s.reg a).f1)).drew = w9
  intro hM2 hK2 hL2 hI2
  have hi9 := blk_cell hI2.out
  have d2 : w9.cell? ⟨g, 2, none⟩ = some (.int .i64 s.place) := hM2.out.cell 2 (by decide)
  go_wp2
  go_ret
  exact ⟨rfl, hM2.out.after hB hK2.out hL2.out⟩
set_option maxRecDepth 100000 in
set_option maxHeartbeats 4000000 in
theorem mach_set {B g : Nat} {w : World} {O : Nat → Prop} {vt va vm vp : Value} {s : MS} (h : Mach B w g O vt va vm vp s) (op d a b : Nat) (n : Int) (hB : B ≤ w.heap.size) (hd : d < 16) :
    Calls Try.prog 118 #[.pointer (some ⟨g, 0, none⟩), .agg #[.int .i8 op, .int .i8 d, .int .i8 a, .int .i8 b, .int .i64 n]] w fun e w' => e = MOut (.ok (wrap64 (s.place + 1))) ∧ MAfter B g w O vt va (s.put d ⟨n, false⟩) w' := by
  have hM := Aside0.mk (h.below (below_alloc (Below.refl w.heap.size w) (.cells #[.int .i8 op, .int .i8 d, .int .i8 a, .int .i8 b, .int .i64 n] 36)))
  have hK := Aside0.mk (Kept.alloc (Kept.refl w O) (.cells #[.int .i8 op, .int .i8 d, .int .i8 a, .int .i8 b, .int .i64 n] 36))
  have hL := Aside0.mk ((Below.refl B w).alloc hB (.cells #[.int .i8 op, .int .i8 d, .int .i8 a, .int .i8 b, .int .i64 n] 36))
  have hI := Aside0.mk (blk_new w (.cells #[.int .i8 op, .int .i8 d, .int .i8 a, .int .i8 b, .int .i64 n] 36))
  have hi := blk_cell hI.out
  have hne : w.heap.size ≠ g := fun e => absurd (h.lt g h.own) (by omega)
  have c2 : (w.alloc (.cells #[.int .i8 op, .int .i8 d, .int .i8 a, .int .i8 b, .int .i64 n] 36)).cell? ⟨g, 2, none⟩ = some (.int .i64 s.place) := hM.out.cell 2 (by decide)
  have f2 : (w.alloc (.cells #[.int .i8 op, .int .i8 d, .int .i8 a, .int .i8 b, .int .i64 n] 36)).frozen? ⟨g, 2, none⟩ = false := hM.out.frozen 2
  have rv_d : (w.alloc (.cells #[.int .i8 op, .int .i8 d, .int .i8 a, .int .i8 b, .int .i64 n] 36)).cell? ⟨g, 7 + d * 2, none⟩ = some (.int .i64 (s.reg d).f0) := (hM.out.cell (7 + d * 2) (by omega)).trans (congrArg some (mcell_regV s _ _ _ _ d hd))
  have rk_d : (w.alloc (.cells #[.int .i8 op, .int .i8 d, .int .i8 a, .int .i8 b, .int .i64 n] 36)).cell? ⟨g, 7 + d * 2 + 1, none⟩ = some (.bool (s.reg d).f1) := (hM.out.cell (7 + d * 2 + 1) (by omega)).trans (congrArg some (mcell_regC s _ _ _ _ d hd))
  have rfv_d : (w.alloc (.cells #[.int .i8 op, .int .i8 d, .int .i8 a, .int .i8 b, .int .i64 n] 36)).frozen? ⟨g, 7 + d * 2, none⟩ = false := hM.out.frozen _
  have rfk_d : (w.alloc (.cells #[.int .i8 op, .int .i8 d, .int .i8 a, .int .i8 b, .int .i64 n] 36)).frozen? ⟨g, 7 + d * 2 + 1, none⟩ = false := hM.out.frozen _
  have id : ((d : Nat) : Int) < 16 := by omega
  have hu := Try.underlying111
  have hu2 := Try.underlying107
  have hu3 := Try.underlying106
  have hu4 := Try.underlying36
  clear h
  go_enter Try.func118, Try.ntmps118
  go_wp2
  go_region_with (go_at_call 101; refine (word_Plain.calls n n false _ rfl).mono ?_; rintro e w1 ⟨rfl, hb⟩; have hM1 := Aside0.mk ((hM.out.below (below_drew (Below.refl _ _))).below hb); have hK1 := Aside0.mk ((hK.out.drew).below hb); have hL1 := Aside0.mk ((below_drew hL.out).trans (hb.mono (Nat.le_trans hB hL.out.size))); have hI1 := Aside0.mk (blk_below (blk_drew hI.out) hb); have hi1 := blk_cell hI1.out; clear hb; have q1 : w1.cell? ⟨g, 7 + d * 2, none⟩ = some (.int .i64 (s.reg d).f0) := (hM1.out.cell _ (by omega)).trans (congrArg some (mcell_regV s vt va vm vp d (by omega))); have q2 : w1.cell? ⟨g, 7 + d * 2 + 1, none⟩ = some (.bool (s.reg d).f1) := (hM1.out.cell _ (by omega)).trans (congrArg some (mcell_regC s vt va vm vp d (by omega))); have p1 : w1.frozen? ⟨g, 7 + d * 2, none⟩ = false := hM1.out.frozen _; have p2 : w1.frozen? ⟨g, 7 + d * 2 + 1, none⟩ = false := hM1.out.frozen _; have hM2 : Aside0 (Mach B ((w1.setCell ⟨g, 7 + d * 2, none⟩ (.int .i64 n)).setCell ⟨g, 7 + d * 2 + 1, none⟩ (.bool false)) g O vt _ _ _ (s.put d ⟨n, false⟩)) := ⟨hM1.out.putReg d hd ⟨n, false⟩⟩; have d2 : ((w1.setCell ⟨g, 7 + d * 2, none⟩ (.int .i64 n)).setCell ⟨g, 7 + d * 2 + 1, none⟩ (.bool false)).cell? ⟨g, 2, none⟩ = some (.int .i64 s.place) := hM2.out.cell 2 (by decide); have hI2 := Aside0.mk (blk_far (blk_far hI1.out (p := ⟨g, 7 + d * 2, none⟩) hne (.int .i64 n)) (p := ⟨g, 7 + d * 2 + 1, none⟩) hne (.bool false)); have hi2 : ∀ j, ((w1.setCell ⟨g, 7 + d * 2, none⟩ (.int .i64 n)).setCell ⟨g, 7 + d * 2 + 1, none⟩ (.bool false)).cell? ⟨w.heap.size, j, none⟩ = _ := blk_cell hI2.out; have hK2 : Aside0 (Kept w ((w1.setCell ⟨g, 7 + d * 2, none⟩ (.int .i64 n)).setCell ⟨g, 7 + d * 2 + 1, none⟩ (.bool false)) O) := ⟨(hK1.out.setCell (p := ⟨g, 7 + d * 2, none⟩) (.inl hM1.out.own) (.int .i64 n)).setCell (p := ⟨g, 7 + d * 2 + 1, none⟩) (.inl hM1.out.own) (.bool false)⟩; have hL2 : Aside0 (Below B w ((w1.setCell ⟨g, 7 + d * 2, none⟩ (.int .i64 n)).setCell ⟨g, 7 + d * 2 + 1, none⟩ (.bool false))) := ⟨(hL1.out.setCell (p := ⟨g, 7 + d * 2, none⟩) (hM1.out.low g hM1.out.own) (.int .i64 n)).setCell (p := ⟨g, 7 + d * 2 + 1, none⟩) (hM1.out.low g hM1.out.own) (.bool false)⟩)
  all_goals (try go_wp2)
  all_goals go_ret
  all_goals first | exact ⟨rfl, hM2.out.after hB hK2.out hL2.out⟩ | (have hM3 := hM2.out.after hB hK2.out hL2.out; simp only [i64_w] at hM3 ⊢; exact ⟨rfl, hM3⟩)
set_option maxRecDepth 100000 in
set_option maxHeartbeats 4000000 in
theorem mach_seal {B g : Nat} {w : World} {O : Nat → Prop} {vt va vm vp : Value} {s : MS} (h : Mach B w g O vt va vm vp s) (op d a b : Nat) (n : Int) (hB : B ≤ w.heap.size) (hd : d < 16) :
    Calls Try.prog 129 #[.pointer (some ⟨g, 0, none⟩), .agg #[.int .i8 op, .int .i8 d, .int .i8 a, .int .i8 b, .int .i64 n]] w fun e w' => e = MOut (.ok (wrap64 (s.place + 1))) ∧ MAfter B g w O vt va (s.put d ⟨n, true⟩) w' := by
  have hM := Aside0.mk (h.below (below_alloc (Below.refl w.heap.size w) (.cells #[.int .i8 op, .int .i8 d, .int .i8 a, .int .i8 b, .int .i64 n] 36)))
  have hK := Aside0.mk (Kept.alloc (Kept.refl w O) (.cells #[.int .i8 op, .int .i8 d, .int .i8 a, .int .i8 b, .int .i64 n] 36))
  have hL := Aside0.mk ((Below.refl B w).alloc hB (.cells #[.int .i8 op, .int .i8 d, .int .i8 a, .int .i8 b, .int .i64 n] 36))
  have hI := Aside0.mk (blk_new w (.cells #[.int .i8 op, .int .i8 d, .int .i8 a, .int .i8 b, .int .i64 n] 36))
  have hi := blk_cell hI.out
  have hne : w.heap.size ≠ g := fun e => absurd (h.lt g h.own) (by omega)
  have c2 : (w.alloc (.cells #[.int .i8 op, .int .i8 d, .int .i8 a, .int .i8 b, .int .i64 n] 36)).cell? ⟨g, 2, none⟩ = some (.int .i64 s.place) := hM.out.cell 2 (by decide)
  have f2 : (w.alloc (.cells #[.int .i8 op, .int .i8 d, .int .i8 a, .int .i8 b, .int .i64 n] 36)).frozen? ⟨g, 2, none⟩ = false := hM.out.frozen 2
  have rv_d : (w.alloc (.cells #[.int .i8 op, .int .i8 d, .int .i8 a, .int .i8 b, .int .i64 n] 36)).cell? ⟨g, 7 + d * 2, none⟩ = some (.int .i64 (s.reg d).f0) := (hM.out.cell (7 + d * 2) (by omega)).trans (congrArg some (mcell_regV s _ _ _ _ d hd))
  have rk_d : (w.alloc (.cells #[.int .i8 op, .int .i8 d, .int .i8 a, .int .i8 b, .int .i64 n] 36)).cell? ⟨g, 7 + d * 2 + 1, none⟩ = some (.bool (s.reg d).f1) := (hM.out.cell (7 + d * 2 + 1) (by omega)).trans (congrArg some (mcell_regC s _ _ _ _ d hd))
  have rfv_d : (w.alloc (.cells #[.int .i8 op, .int .i8 d, .int .i8 a, .int .i8 b, .int .i64 n] 36)).frozen? ⟨g, 7 + d * 2, none⟩ = false := hM.out.frozen _
  have rfk_d : (w.alloc (.cells #[.int .i8 op, .int .i8 d, .int .i8 a, .int .i8 b, .int .i64 n] 36)).frozen? ⟨g, 7 + d * 2 + 1, none⟩ = false := hM.out.frozen _
  have id : ((d : Nat) : Int) < 16 := by omega
  have hu := Try.underlying111
  have hu2 := Try.underlying107
  have hu3 := Try.underlying106
  have hu4 := Try.underlying36
  clear h
  go_enter Try.func129, Try.ntmps129
  go_wp2
  go_region_with (go_at_call 138; refine (word_Sealed.calls n n true _ rfl).mono ?_; rintro e w1 ⟨rfl, hb⟩; have hM1 := Aside0.mk ((hM.out.below (below_drew (Below.refl _ _))).below hb); have hK1 := Aside0.mk ((hK.out.drew).below hb); have hL1 := Aside0.mk ((below_drew hL.out).trans (hb.mono (Nat.le_trans hB hL.out.size))); have hI1 := Aside0.mk (blk_below (blk_drew hI.out) hb); have hi1 := blk_cell hI1.out; clear hb; have q1 : w1.cell? ⟨g, 7 + d * 2, none⟩ = some (.int .i64 (s.reg d).f0) := (hM1.out.cell _ (by omega)).trans (congrArg some (mcell_regV s vt va vm vp d (by omega))); have q2 : w1.cell? ⟨g, 7 + d * 2 + 1, none⟩ = some (.bool (s.reg d).f1) := (hM1.out.cell _ (by omega)).trans (congrArg some (mcell_regC s vt va vm vp d (by omega))); have p1 : w1.frozen? ⟨g, 7 + d * 2, none⟩ = false := hM1.out.frozen _; have p2 : w1.frozen? ⟨g, 7 + d * 2 + 1, none⟩ = false := hM1.out.frozen _; have hM2 : Aside0 (Mach B ((w1.setCell ⟨g, 7 + d * 2, none⟩ (.int .i64 n)).setCell ⟨g, 7 + d * 2 + 1, none⟩ (.bool true)) g O vt _ _ _ (s.put d ⟨n, true⟩)) := ⟨hM1.out.putReg d hd ⟨n, true⟩⟩; have d2 : ((w1.setCell ⟨g, 7 + d * 2, none⟩ (.int .i64 n)).setCell ⟨g, 7 + d * 2 + 1, none⟩ (.bool true)).cell? ⟨g, 2, none⟩ = some (.int .i64 s.place) := hM2.out.cell 2 (by decide); have hI2 := Aside0.mk (blk_far (blk_far hI1.out (p := ⟨g, 7 + d * 2, none⟩) hne (.int .i64 n)) (p := ⟨g, 7 + d * 2 + 1, none⟩) hne (.bool true)); have hi2 : ∀ j, ((w1.setCell ⟨g, 7 + d * 2, none⟩ (.int .i64 n)).setCell ⟨g, 7 + d * 2 + 1, none⟩ (.bool true)).cell? ⟨w.heap.size, j, none⟩ = _ := blk_cell hI2.out; have hK2 : Aside0 (Kept w ((w1.setCell ⟨g, 7 + d * 2, none⟩ (.int .i64 n)).setCell ⟨g, 7 + d * 2 + 1, none⟩ (.bool true)) O) := ⟨(hK1.out.setCell (p := ⟨g, 7 + d * 2, none⟩) (.inl hM1.out.own) (.int .i64 n)).setCell (p := ⟨g, 7 + d * 2 + 1, none⟩) (.inl hM1.out.own) (.bool true)⟩; have hL2 : Aside0 (Below B w ((w1.setCell ⟨g, 7 + d * 2, none⟩ (.int .i64 n)).setCell ⟨g, 7 + d * 2 + 1, none⟩ (.bool true))) := ⟨(hL1.out.setCell (p := ⟨g, 7 + d * 2, none⟩) (hM1.out.low g hM1.out.own) (.int .i64 n)).setCell (p := ⟨g, 7 + d * 2 + 1, none⟩) (hM1.out.low g hM1.out.own) (.bool true)⟩)
  all_goals (try go_wp2)
  all_goals go_ret
  all_goals first | exact ⟨rfl, hM2.out.after hB hK2.out hL2.out⟩ | (have hM3 := hM2.out.after hB hK2.out hL2.out; simp only [i64_w] at hM3 ⊢; exact ⟨rfl, hM3⟩)
set_option maxRecDepth 100000 in
set_option maxHeartbeats 4000000 in
theorem mach_call {B g : Nat} {w : World} {O : Nat → Prop} {vt va vm vp : Value} {s : MS} (h : Mach B w g O vt va vm vp s) (op d a b : Nat) (n : Int) (hB : B ≤ w.heap.size) :
    Calls Try.prog 126 #[.pointer (some ⟨g, 0, none⟩), .agg #[.int .i8 op, .int .i8 d, .int .i8 a, .int .i8 b, .int .i64 n]] w fun e w' => e = MOut (.ok n) ∧ MAfter B g w O vt va (s.put 15 ⟨IntKind.i64.wrap (s.place + 1), true⟩) w' := by
  have hM := Aside0.mk (h.below (below_alloc (Below.refl w.heap.size w) (.cells #[.int .i8 op, .int .i8 d, .int .i8 a, .int .i8 b, .int .i64 n] 36)))
  have hK := Aside0.mk (Kept.alloc (Kept.refl w O) (.cells #[.int .i8 op, .int .i8 d, .int .i8 a, .int .i8 b, .int .i64 n] 36))
  have hL := Aside0.mk ((Below.refl B w).alloc hB (.cells #[.int .i8 op, .int .i8 d, .int .i8 a, .int .i8 b, .int .i64 n] 36))
  have hI := Aside0.mk (blk_new w (.cells #[.int .i8 op, .int .i8 d, .int .i8 a, .int .i8 b, .int .i64 n] 36))
  have hi := blk_cell hI.out
  have hne : w.heap.size ≠ g := fun e => absurd (h.lt g h.own) (by omega)
  have c2 : (w.alloc (.cells #[.int .i8 op, .int .i8 d, .int .i8 a, .int .i8 b, .int .i64 n] 36)).cell? ⟨g, 2, none⟩ = some (.int .i64 s.place) := hM.out.cell 2 (by decide)
  have f2 : (w.alloc (.cells #[.int .i8 op, .int .i8 d, .int .i8 a, .int .i8 b, .int .i64 n] 36)).frozen? ⟨g, 2, none⟩ = false := hM.out.frozen 2
  have hu := Try.underlying111
  have hu2 := Try.underlying107
  have hu3 := Try.underlying106
  have hu4 := Try.underlying36
  clear h
  go_enter Try.func126, Try.ntmps126
  go_wp2
  go_region_with (go_at_call 138; refine (word_Sealed.calls _ _ true _ rfl).mono ?_; rintro e w1 ⟨rfl, hb⟩; have hM1 := Aside0.mk ((hM.out.below (below_drew (Below.refl _ _))).below hb); have hK1 := Aside0.mk ((hK.out.drew).below hb); have hL1 := Aside0.mk ((below_drew hL.out).trans (hb.mono (Nat.le_trans hB hL.out.size))); have hI1 := Aside0.mk (blk_below (blk_drew hI.out) hb); have hi1 := blk_cell hI1.out; clear hb; have q1 : w1.cell? ⟨g, 37, none⟩ = some (.int .i64 (s.reg 15).f0) := (hM1.out.cell _ (by omega)).trans (congrArg some (mcell_regV s vt va vm vp 15 (by omega))); have q2 : w1.cell? ⟨g, 38, none⟩ = some (.bool (s.reg 15).f1) := (hM1.out.cell _ (by omega)).trans (congrArg some (mcell_regC s vt va vm vp 15 (by omega))); have p1 : w1.frozen? ⟨g, 37, none⟩ = false := hM1.out.frozen _; have p2 : w1.frozen? ⟨g, 38, none⟩ = false := hM1.out.frozen _; have hM2 : Aside0 (Mach B ((w1.setCell ⟨g, 37, none⟩ (.int .i64 (IntKind.i64.wrap (s.place + 1)))).setCell ⟨g, 38, none⟩ (.bool true)) g O vt _ _ _ (s.put 15 ⟨IntKind.i64.wrap (s.place + 1), true⟩)) := ⟨hM1.out.putReg 15 (by decide) ⟨IntKind.i64.wrap (s.place + 1), true⟩⟩; have d2 : ((w1.setCell ⟨g, 37, none⟩ (.int .i64 (IntKind.i64.wrap (s.place + 1)))).setCell ⟨g, 38, none⟩ (.bool true)).cell? ⟨g, 2, none⟩ = some (.int .i64 s.place) := hM2.out.cell 2 (by decide); have hI2 := Aside0.mk (blk_far (blk_far hI1.out (p := ⟨g, 37, none⟩) hne (.int .i64 (IntKind.i64.wrap (s.place + 1)))) (p := ⟨g, 38, none⟩) hne (.bool true)); have hi2 : ∀ j, ((w1.setCell ⟨g, 37, none⟩ (.int .i64 (IntKind.i64.wrap (s.place + 1)))).setCell ⟨g, 38, none⟩ (.bool true)).cell? ⟨w.heap.size, j, none⟩ = _ := blk_cell hI2.out; have hK2 : Aside0 (Kept w ((w1.setCell ⟨g, 37, none⟩ (.int .i64 (IntKind.i64.wrap (s.place + 1)))).setCell ⟨g, 38, none⟩ (.bool true)) O) := ⟨(hK1.out.setCell (p := ⟨g, 37, none⟩) (.inl hM1.out.own) (.int .i64 (IntKind.i64.wrap (s.place + 1)))).setCell (p := ⟨g, 38, none⟩) (.inl hM1.out.own) (.bool true)⟩; have hL2 : Aside0 (Below B w ((w1.setCell ⟨g, 37, none⟩ (.int .i64 (IntKind.i64.wrap (s.place + 1)))).setCell ⟨g, 38, none⟩ (.bool true))) := ⟨(hL1.out.setCell (p := ⟨g, 37, none⟩) (hM1.out.low g hM1.out.own) (.int .i64 (IntKind.i64.wrap (s.place + 1)))).setCell (p := ⟨g, 38, none⟩) (hM1.out.low g hM1.out.own) (.bool true)⟩)
  all_goals (try go_wp2)
  all_goals go_ret
  all_goals first | exact ⟨rfl, hM2.out.after hB hK2.out hL2.out⟩ | (have hM3 := hM2.out.after hB hK2.out hL2.out; simp only [i64_w] at hM3 ⊢; exact ⟨rfl, hM3⟩)
set_option maxRecDepth 100000 in
set_option maxHeartbeats 4000000 in
theorem mach_calls {B g : Nat} {w : World} {O : Nat → Prop} {vt va vm vp : Value} {s : MS} (h : Mach B w g O vt va vm vp s) (op d a b : Nat) (n : Int) (hB : B ≤ w.heap.size) (ha : a < 16) :
    Calls Try.prog 127 #[.pointer (some ⟨g, 0, none⟩), .agg #[.int .i8 op, .int .i8 d, .int .i8 a, .int .i8 b, .int .i64 n]] w fun e w' => e = MOut (if (s.reg a).f1 = true then .ok (s.reg a).f0 else .error 4) ∧ MAfter B g w O vt va (if (s.reg a).f1 = true then s.put 15 ⟨IntKind.i64.wrap (s.place + 1), true⟩ else s) w' := by
  have hM := Aside0.mk (h.below (below_alloc (Below.refl w.heap.size w) (.cells #[.int .i8 op, .int .i8 d, .int .i8 a, .int .i8 b, .int .i64 n] 36)))
  have hK := Aside0.mk (Kept.alloc (Kept.refl w O) (.cells #[.int .i8 op, .int .i8 d, .int .i8 a, .int .i8 b, .int .i64 n] 36))
  have hL := Aside0.mk ((Below.refl B w).alloc hB (.cells #[.int .i8 op, .int .i8 d, .int .i8 a, .int .i8 b, .int .i64 n] 36))
  have hI := Aside0.mk (blk_new w (.cells #[.int .i8 op, .int .i8 d, .int .i8 a, .int .i8 b, .int .i64 n] 36))
  have hi := blk_cell hI.out
  have hne : w.heap.size ≠ g := fun e => absurd (h.lt g h.own) (by omega)
  have c2 : (w.alloc (.cells #[.int .i8 op, .int .i8 d, .int .i8 a, .int .i8 b, .int .i64 n] 36)).cell? ⟨g, 2, none⟩ = some (.int .i64 s.place) := hM.out.cell 2 (by decide)
  have f2 : (w.alloc (.cells #[.int .i8 op, .int .i8 d, .int .i8 a, .int .i8 b, .int .i64 n] 36)).frozen? ⟨g, 2, none⟩ = false := hM.out.frozen 2
  have ia : ((a : Nat) : Int) < 16 := by omega
  have hu := Try.underlying111
  have hu2 := Try.underlying107
  have hu3 := Try.underlying106
  have hu4 := Try.underlying36
  clear h
  go_enter Try.func127, Try.ntmps127
  by_cases hs : (s.reg a).f1 = true
  · go_wp2_with (go_at_call 139; refine (mach_sealed hM.out a ha).mono ?_; rintro e w' ⟨he, hw'⟩; obtain rfl := hw'.symm; rw [if_pos hs] at he; obtain rfl : e = .returned (.int .i64 (s.reg a).f0) := he)
    go_region_with (go_at_call 138; refine (word_Sealed.calls _ _ true _ rfl).mono ?_; rintro e w1 ⟨rfl, hb⟩; have hM1 := Aside0.mk ((hM.out.below (below_drew (Below.refl _ _))).below hb); have hK1 := Aside0.mk ((hK.out.drew).below hb); have hL1 := Aside0.mk ((below_drew hL.out).trans (hb.mono (Nat.le_trans hB hL.out.size))); have hI1 := Aside0.mk (blk_below (blk_drew hI.out) hb); have hi1 := blk_cell hI1.out; clear hb; have q1 : w1.cell? ⟨g, 37, none⟩ = some (.int .i64 (s.reg 15).f0) := (hM1.out.cell _ (by omega)).trans (congrArg some (mcell_regV s vt va vm vp 15 (by omega))); have q2 : w1.cell? ⟨g, 38, none⟩ = some (.bool (s.reg 15).f1) := (hM1.out.cell _ (by omega)).trans (congrArg some (mcell_regC s vt va vm vp 15 (by omega))); have p1 : w1.frozen? ⟨g, 37, none⟩ = false := hM1.out.frozen _; have p2 : w1.frozen? ⟨g, 38, none⟩ = false := hM1.out.frozen _; have hM2 : Aside0 (Mach B ((w1.setCell ⟨g, 37, none⟩ (.int .i64 (IntKind.i64.wrap (s.place + 1)))).setCell ⟨g, 38, none⟩ (.bool true)) g O vt _ _ _ (s.put 15 ⟨IntKind.i64.wrap (s.place + 1), true⟩)) := ⟨hM1.out.putReg 15 (by decide) ⟨IntKind.i64.wrap (s.place + 1), true⟩⟩; have d2 : ((w1.setCell ⟨g, 37, none⟩ (.int .i64 (IntKind.i64.wrap (s.place + 1)))).setCell ⟨g, 38, none⟩ (.bool true)).cell? ⟨g, 2, none⟩ = some (.int .i64 s.place) := hM2.out.cell 2 (by decide); have hI2 := Aside0.mk (blk_far (blk_far hI1.out (p := ⟨g, 37, none⟩) hne (.int .i64 (IntKind.i64.wrap (s.place + 1)))) (p := ⟨g, 38, none⟩) hne (.bool true)); have hi2 : ∀ j, ((w1.setCell ⟨g, 37, none⟩ (.int .i64 (IntKind.i64.wrap (s.place + 1)))).setCell ⟨g, 38, none⟩ (.bool true)).cell? ⟨w.heap.size, j, none⟩ = _ := blk_cell hI2.out; have hK2 : Aside0 (Kept w ((w1.setCell ⟨g, 37, none⟩ (.int .i64 (IntKind.i64.wrap (s.place + 1)))).setCell ⟨g, 38, none⟩ (.bool true)) O) := ⟨(hK1.out.setCell (p := ⟨g, 37, none⟩) (.inl hM1.out.own) (.int .i64 (IntKind.i64.wrap (s.place + 1)))).setCell (p := ⟨g, 38, none⟩) (.inl hM1.out.own) (.bool true)⟩; have hL2 : Aside0 (Below B w ((w1.setCell ⟨g, 37, none⟩ (.int .i64 (IntKind.i64.wrap (s.place + 1)))).setCell ⟨g, 38, none⟩ (.bool true))) := ⟨(hL1.out.setCell (p := ⟨g, 37, none⟩) (hM1.out.low g hM1.out.own) (.int .i64 (IntKind.i64.wrap (s.place + 1)))).setCell (p := ⟨g, 38, none⟩) (hM1.out.low g hM1.out.own) (.bool true)⟩)
    all_goals (try go_wp2)
    all_goals go_ret
    all_goals first | exact ⟨rfl, hM2.out.after hB hK2.out hL2.out⟩ | (have hM3 := hM2.out.after hB hK2.out hL2.out; simp only [i64_w] at hM3 ⊢; exact ⟨rfl, hM3⟩)
  · go_wp2_with (go_at_call 139; refine (mach_sealed hM.out a ha).mono ?_; rintro e w' ⟨he, hw'⟩; obtain rfl := hw'.symm; rw [if_neg hs] at he; obtain rfl : e = .panicked [{ v := .iface 171 (.int .i8 4), recovered := false }] := he)
    exact ⟨rfl, rfl, hM.out.after hB hK.out hL.out⟩
set_option maxRecDepth 100000 in
set_option maxHeartbeats 4000000 in
theorem mach_zero {B g : Nat} {w : World} {O : Nat → Prop} {vt va vm vp : Value} {s : MS} (h : Mach B w g O vt va vm vp s) (op d a b : Nat) (n : Int) (hB : B ≤ w.heap.size) (ha : a < 16) :
    Calls Try.prog 125 #[.pointer (some ⟨g, 0, none⟩), .agg #[.int .i8 op, .int .i8 d, .int .i8 a, .int .i8 b, .int .i64 n]] w fun e w' => e = MOut (if (s.reg a).f1 = true then .error 4 else .ok (if (s.reg a).f0 = 0 then n else wrap64 (s.place + 1))) ∧ MAfter B g w O vt va (s) w' := by
  have hM := Aside0.mk (h.below (below_alloc (Below.refl w.heap.size w) (.cells #[.int .i8 op, .int .i8 d, .int .i8 a, .int .i8 b, .int .i64 n] 36)))
  have hK := Aside0.mk (Kept.alloc (Kept.refl w O) (.cells #[.int .i8 op, .int .i8 d, .int .i8 a, .int .i8 b, .int .i64 n] 36))
  have hL := Aside0.mk ((Below.refl B w).alloc hB (.cells #[.int .i8 op, .int .i8 d, .int .i8 a, .int .i8 b, .int .i64 n] 36))
  have hI := Aside0.mk (blk_new w (.cells #[.int .i8 op, .int .i8 d, .int .i8 a, .int .i8 b, .int .i64 n] 36))
  have hi := blk_cell hI.out
  have hne : w.heap.size ≠ g := fun e => absurd (h.lt g h.own) (by omega)
  have c2 : (w.alloc (.cells #[.int .i8 op, .int .i8 d, .int .i8 a, .int .i8 b, .int .i64 n] 36)).cell? ⟨g, 2, none⟩ = some (.int .i64 s.place) := hM.out.cell 2 (by decide)
  have f2 : (w.alloc (.cells #[.int .i8 op, .int .i8 d, .int .i8 a, .int .i8 b, .int .i64 n] 36)).frozen? ⟨g, 2, none⟩ = false := hM.out.frozen 2
  have ia : ((a : Nat) : Int) < 16 := by omega
  have hu := Try.underlying111
  have hu2 := Try.underlying107
  have hu3 := Try.underlying106
  have hu4 := Try.underlying36
  clear h
  go_enter Try.func125, Try.ntmps125
  by_cases hs : (s.reg a).f1 = true
  · go_wp2_with (go_at_call 137; refine (mach_plain hM.out a ha).mono ?_; rintro e w' ⟨he, hw'⟩; obtain rfl := hw'.symm; rw [if_pos hs] at he; obtain rfl : e = .panicked [{ v := .iface 171 (.int .i8 4), recovered := false }] := he)
    exact ⟨rfl, rfl, hM.out.after hB hK.out hL.out⟩
  · by_cases hz : (s.reg a).f0 = 0
    · have dz : ((s.reg a).f0 == 0) = true := by simpa using hz
      go_wp2_with (go_at_call 137; refine (mach_plain hM.out a ha).mono ?_; rintro e w' ⟨he, hw'⟩; obtain rfl := hw'.symm; rw [if_neg hs] at he; obtain rfl : e = .returned (.int .i64 (s.reg a).f0) := he)
      go_ret
      exact ⟨rfl, hM.out.after hB hK.out hL.out⟩
    · have dz : ((s.reg a).f0 == 0) = false := by simpa using hz
      go_wp2_with (go_at_call 137; refine (mach_plain hM.out a ha).mono ?_; rintro e w' ⟨he, hw'⟩; obtain rfl := hw'.symm; rw [if_neg hs] at he; obtain rfl : e = .returned (.int .i64 (s.reg a).f0) := he)
      go_ret
      exact ⟨rfl, hM.out.after hB hK.out hL.out⟩
set_option maxRecDepth 100000 in
set_option maxHeartbeats 4000000 in
theorem mach_calc {B g : Nat} {w : World} {O : Nat → Prop} {vt va vm vp : Value} {s : MS} (h : Mach B w g O vt va vm vp s) (op d a b : Nat) (n : Int) (hB : B ≤ w.heap.size) (hd : d < 16) (ha : a < 16) (hb : b < 16) (r1 : Int) (r2 : Bool) (r3 : Int) (hc : word_Calc.f op (s.reg a).f0 (s.reg a).f1 (s.reg b).f0 (s.reg b).f1 = some (r1, r2, r3)) :
    Calls Try.prog 131 #[.pointer (some ⟨g, 0, none⟩), .agg #[.int .i8 op, .int .i8 d, .int .i8 a, .int .i8 b, .int .i64 n]] w fun e w' => e = MOut (if r3 = 0 then .ok (wrap64 (s.place + 1)) else .error r3) ∧ MAfter B g w O vt va (if r3 = 0 then s.put d ⟨r1, r2⟩ else s) w' := by
  have hM := Aside0.mk (h.below (below_alloc (Below.refl w.heap.size w) (.cells #[.int .i8 op, .int .i8 d, .int .i8 a, .int .i8 b, .int .i64 n] 36)))
  have hK := Aside0.mk (Kept.alloc (Kept.refl w O) (.cells #[.int .i8 op, .int .i8 d, .int .i8 a, .int .i8 b, .int .i64 n] 36))
  have hL := Aside0.mk ((Below.refl B w).alloc hB (.cells #[.int .i8 op, .int .i8 d, .int .i8 a, .int .i8 b, .int .i64 n] 36))
  have hI := Aside0.mk (blk_new w (.cells #[.int .i8 op, .int .i8 d, .int .i8 a, .int .i8 b, .int .i64 n] 36))
  have hi := blk_cell hI.out
  have hne : w.heap.size ≠ g := fun e => absurd (h.lt g h.own) (by omega)
  have c2 : (w.alloc (.cells #[.int .i8 op, .int .i8 d, .int .i8 a, .int .i8 b, .int .i64 n] 36)).cell? ⟨g, 2, none⟩ = some (.int .i64 s.place) := hM.out.cell 2 (by decide)
  have f2 : (w.alloc (.cells #[.int .i8 op, .int .i8 d, .int .i8 a, .int .i8 b, .int .i64 n] 36)).frozen? ⟨g, 2, none⟩ = false := hM.out.frozen 2
  have rv_a : (w.alloc (.cells #[.int .i8 op, .int .i8 d, .int .i8 a, .int .i8 b, .int .i64 n] 36)).cell? ⟨g, 7 + a * 2, none⟩ = some (.int .i64 (s.reg a).f0) := (hM.out.cell (7 + a * 2) (by omega)).trans (congrArg some (mcell_regV s _ _ _ _ a ha))
  have rk_a : (w.alloc (.cells #[.int .i8 op, .int .i8 d, .int .i8 a, .int .i8 b, .int .i64 n] 36)).cell? ⟨g, 7 + a * 2 + 1, none⟩ = some (.bool (s.reg a).f1) := (hM.out.cell (7 + a * 2 + 1) (by omega)).trans (congrArg some (mcell_regC s _ _ _ _ a ha))
  have rfv_a : (w.alloc (.cells #[.int .i8 op, .int .i8 d, .int .i8 a, .int .i8 b, .int .i64 n] 36)).frozen? ⟨g, 7 + a * 2, none⟩ = false := hM.out.frozen _
  have rfk_a : (w.alloc (.cells #[.int .i8 op, .int .i8 d, .int .i8 a, .int .i8 b, .int .i64 n] 36)).frozen? ⟨g, 7 + a * 2 + 1, none⟩ = false := hM.out.frozen _
  have rv_b : (w.alloc (.cells #[.int .i8 op, .int .i8 d, .int .i8 a, .int .i8 b, .int .i64 n] 36)).cell? ⟨g, 7 + b * 2, none⟩ = some (.int .i64 (s.reg b).f0) := (hM.out.cell (7 + b * 2) (by omega)).trans (congrArg some (mcell_regV s _ _ _ _ b hb))
  have rk_b : (w.alloc (.cells #[.int .i8 op, .int .i8 d, .int .i8 a, .int .i8 b, .int .i64 n] 36)).cell? ⟨g, 7 + b * 2 + 1, none⟩ = some (.bool (s.reg b).f1) := (hM.out.cell (7 + b * 2 + 1) (by omega)).trans (congrArg some (mcell_regC s _ _ _ _ b hb))
  have rfv_b : (w.alloc (.cells #[.int .i8 op, .int .i8 d, .int .i8 a, .int .i8 b, .int .i64 n] 36)).frozen? ⟨g, 7 + b * 2, none⟩ = false := hM.out.frozen _
  have rfk_b : (w.alloc (.cells #[.int .i8 op, .int .i8 d, .int .i8 a, .int .i8 b, .int .i64 n] 36)).frozen? ⟨g, 7 + b * 2 + 1, none⟩ = false := hM.out.frozen _
  have id : ((d : Nat) : Int) < 16 := by omega
  have ia : ((a : Nat) : Int) < 16 := by omega
  have ib : ((b : Nat) : Int) < 16 := by omega
  have hu := Try.underlying111
  have hu2 := Try.underlying107
  have hu3 := Try.underlying106
  have hu4 := Try.underlying36
  clear h
  go_enter Try.func131, Try.ntmps131
  go_wp2
  refine wp_only ?_
  refine start_ (n := 23) (S := fun w' => w'.cell? ⟨w.heap.size, 0, none⟩ = some (.int .i8 op) ∧ w'.cell? ⟨w.heap.size, 2, none⟩ = some (.int .i8 a) ∧ w'.cell? ⟨w.heap.size, 3, none⟩ = some (.int .i8 b) ∧ w'.cell? ⟨g, 7 + a * 2, none⟩ = some (.int .i64 (s.reg a).f0) ∧ w'.cell? ⟨g, 7 + a * 2 + 1, none⟩ = some (.bool (s.reg a).f1) ∧ w'.cell? ⟨g, 7 + b * 2, none⟩ = some (.int .i64 (s.reg b).f0) ∧ w'.cell? ⟨g, 7 + b * 2 + 1, none⟩ = some (.bool (s.reg b).f1)) (ds := [21]) #[false, false, false, false, false, false, false, false, false, false, false, false, false, false, false, false, false, false, false, false, false, false, false] (by kernel_rfl) rfl rfl ⟨(blk_cell (blk_drew hI.out) 0).trans rfl, (blk_cell (blk_drew hI.out) 2).trans rfl, (blk_cell (blk_drew hI.out) 3).trans rfl, ((hM.out.below (below_drew (Below.refl _ _))).cell (7 + a * 2) (by omega)).trans (congrArg some (mcell_regV s _ _ _ _ a ha)), ((hM.out.below (below_drew (Below.refl _ _))).cell (7 + a * 2 + 1) (by omega)).trans (congrArg some (mcell_regC s _ _ _ _ a ha)), ((hM.out.below (below_drew (Below.refl _ _))).cell (7 + b * 2) (by omega)).trans (congrArg some (mcell_regV s _ _ _ _ b hb)), ((hM.out.below (below_drew (Below.refl _ _))).cell (7 + b * 2 + 1) (by omega)).trans (congrArg some (mcell_regC s _ _ _ _ b hb))⟩ (fun hHeld => ?_)
  refine zPu (N := some 8) 0 ?_
  refine zTa (N := some 9) 1 hHeld ?_
  refine zPu (N := some 10) 2 ?_
  refine zPu (N := some 11) 3 ?_
  refine zTa (N := some 12) 4 hHeld ?_
  refine zPu (N := some 13) 5 ?_
  refine zPu (N := some 14) 6 ?_
  refine zPu (N := some 15) 7 ?_
  refine zTa (N := some 16) 8 hHeld ?_
  refine zPu (N := some 17) 9 ?_
  refine zPu (N := some 18) 10 ?_
  refine zTa (N := some 19) 11 hHeld ?_
  refine zPu (N := some 20) 12 ?_
  refine zPu (N := some 21) 13 ?_
  refine zPu (N := some 22) 14 ?_
  refine zTa (N := some 23) 15 hHeld ?_
  refine two_ (i := 16) (j := 20) (Ni := some 24) (Nj := some 5) #[true, true, true, true, true, true, true, true, true, true, true, true, true, true, true, true, true, false, false, false, false, false, false] #[true, true, true, true, true, true, true, true, true, true, true, true, true, true, true, true, false, false, false, false, true, false, false] (by rfl) (by rfl) (by rfl) (by rfl) (by kernel_rfl) (by decide) (by decide) (fun KK hKK => ?_) (fun KK hKK => ?_)
  · refine zCl (N := some 24) 140 #[.int .i8 op, .agg #[.int .i64 (s.reg a).f0, .bool (s.reg a).f1], .agg #[.int .i64 (s.reg b).f0, .bool (s.reg b).f1]] ?_
    refine (word_Calc.calls op (s.reg a).f0 (s.reg a).f1 (s.reg b).f0 (s.reg b).f1 r1 r2 r3 _ hc).mono ?_
    rintro e w1 ⟨rfl, hb⟩; have hM1 := Aside0.mk ((hM.out.below (below_drew (Below.refl _ _))).below hb); have hK1 := Aside0.mk ((hK.out.drew).below hb); have hL1 := Aside0.mk ((below_drew hL.out).trans (hb.mono (Nat.le_trans hB hL.out.size))); have hI1 := Aside0.mk (blk_below (blk_drew hI.out) hb); clear hb
    refine ⟨_, rfl, hKK.out _ _ ⟨(blk_cell hI1.out 0).trans rfl, (blk_cell hI1.out 2).trans rfl, (blk_cell hI1.out 3).trans rfl, (hM1.out.cell (7 + a * 2) (by omega)).trans (congrArg some (mcell_regV s _ _ _ _ a ha)), (hM1.out.cell (7 + a * 2 + 1) (by omega)).trans (congrArg some (mcell_regC s _ _ _ _ a ha)), (hM1.out.cell (7 + b * 2) (by omega)).trans (congrArg some (mcell_regV s _ _ _ _ b hb)), (hM1.out.cell (7 + b * 2 + 1) (by omega)).trans (congrArg some (mcell_regC s _ _ _ _ b hb))⟩ (fun hHeld2 => ?_)⟩
    clear hKK KK hHeld; have hHeld := hHeld2; clear hHeld2
    refine zNo ?_
    refine zPu (N := some 7) 17 ?_
    refine zPu (N := some 25) 18 ?_
    refine zPu (N := some 26) 19 ?_
    refine zOn (N := some 5) 20 (fun KK hKK => ?_)
    refine zEv (W := w1) (v := .pointer (some ⟨w1.heap.size, 0, none⟩)) (w1 := w1.alloc (.cells #[.int .i64 0, .bool false] 106)) ?_
    refine hKK.out _ _ ⟨(blk_cell (blk_alloc hI1.out _) 0).trans rfl, (blk_cell (blk_alloc hI1.out _) 2).trans rfl, (blk_cell (blk_alloc hI1.out _) 3).trans rfl, ((hM1.out.below (below_alloc (Below.refl _ _) _)).cell (7 + a * 2) (by omega)).trans (congrArg some (mcell_regV s _ _ _ _ a ha)), ((hM1.out.below (below_alloc (Below.refl _ _) _)).cell (7 + a * 2 + 1) (by omega)).trans (congrArg some (mcell_regC s _ _ _ _ a ha)), ((hM1.out.below (below_alloc (Below.refl _ _) _)).cell (7 + b * 2) (by omega)).trans (congrArg some (mcell_regV s _ _ _ _ b hb)), ((hM1.out.below (below_alloc (Below.refl _ _) _)).cell (7 + b * 2 + 1) (by omega)).trans (congrArg some (mcell_regC s _ _ _ _ b hb))⟩ (fun hHeld2 => ?_)
    clear hKK KK hHeld hHeld2
    refine zNo ?_
    have hMx := Aside0.mk (hM1.out.below (below_alloc (Below.refl _ _) (.cells #[.int .i64 0, .bool false] 106))); have hKx := Aside0.mk (hK1.out.alloc (.cells #[.int .i64 0, .bool false] 106)); have hLx := Aside0.mk (hL1.out.alloc (Nat.le_trans hB hL1.out.size) (.cells #[.int .i64 0, .bool false] 106)); have hIx := Aside0.mk (blk_alloc hI1.out (.cells #[.int .i64 0, .bool false] 106)); have hXx := Aside0.mk (blk_new w1 (.cells #[.int .i64 0, .bool false] 106))
    have hg1 : w.heap.size < w1.heap.size := blk_lt hI1.out
    have hg2 : ∀ k, O k → k ≠ w1.heap.size := fun k ho e => absurd (hM1.out.lt k ho) (by omega)
    clear hM hK hL hI hi c2 f2 rv_a rk_a rfv_a rfk_a rv_b rk_b rfv_b rfk_b hM1 hK1 hL1 hI1
    revert hMx hKx hLx hIx hXx hg1 hg2
    generalize w1.alloc (.cells #[.int .i64 0, .bool false] 106) = wx
    generalize w1.heap.size = gb
    intro hMx hKx hLx hIx hXx hg1 hg2
    refine zLa (N := none) 21 (fun KK hKK => ?_)
    have hcx := blk_cell hXx.out; have hfx := blk_frozen hXx.out
    refine zSt (w1 := (wx.setCell ⟨gb, 0, none⟩ (.int .i64 r1)).setCell ⟨gb, 1, none⟩ (.bool r2)) ?_
    refine hKK.out _ _ ?_
    clear hKK KK hcx hfx
    have hM9 := Aside0.mk (hMx.out.kept (S := fun k => k = gb) (((Kept.refl wx (fun k => k = gb)).setCell (p := ⟨gb, 0, none⟩) (.inl rfl) (.int .i64 r1)).setCell (p := ⟨gb, 1, none⟩) (.inl rfl) (.bool r2)) hg2)
    have hK9 := Aside0.mk ((hKx.out.setCell (p := ⟨gb, 0, none⟩) (.inr (Nat.le_of_lt hg1)) (.int .i64 r1)).setCell (p := ⟨gb, 1, none⟩) (.inr (Nat.le_of_lt hg1)) (.bool r2))
    have hL9 := Aside0.mk ((hLx.out.setCell (p := ⟨gb, 0, none⟩) (Nat.le_trans hB (Nat.le_of_lt hg1)) (.int .i64 r1)).setCell (p := ⟨gb, 1, none⟩) (Nat.le_trans hB (Nat.le_of_lt hg1)) (.bool r2))
    have hI9 := Aside0.mk (blk_far (blk_far hIx.out (p := ⟨gb, 0, none⟩) (Nat.ne_of_lt hg1) (.int .i64 r1)) (p := ⟨gb, 1, none⟩) (Nat.ne_of_lt hg1) (.bool r2))
    have hX9 : Aside0 (((wx.setCell ⟨gb, 0, none⟩ (.int .i64 r1)).setCell ⟨gb, 1, none⟩ (.bool r2)).heap[gb]? = some (.cells #[.int .i64 r1, .bool r2] 106 (0, 0))) := ⟨blk_put (blk_put hXx.out 0 _ rfl) 1 _ rfl⟩
    clear hMx hKx hLx hIx hXx
    revert hM9 hK9 hL9 hI9 hX9
    generalize (wx.setCell ⟨gb, 0, none⟩ (.int .i64 r1)).setCell ⟨gb, 1, none⟩ (.bool r2) = w9
    intro hM9 hK9 hL9 hI9 hX9
    refine zPu (N := some 6) 22 ?_
    refine zDo ⟨rfl, ?_⟩
    have hi9 := blk_cell hI9.out
    have hbx := blk_cell hX9.out
    have e2 : w9.cell? ⟨g, 2, none⟩ = some (.int .i64 s.place) := hM9.out.cell 2 (by decide)
    by_cases hz : r3 = 0
    · subst hz
      have rv_d : w9.cell? ⟨g, 7 + d * 2, none⟩ = some (.int .i64 (s.reg d).f0) := (hM9.out.cell (7 + d * 2) (by omega)).trans (congrArg some (mcell_regV s _ _ _ _ d hd))
      have rk_d : w9.cell? ⟨g, 7 + d * 2 + 1, none⟩ = some (.bool (s.reg d).f1) := (hM9.out.cell (7 + d * 2 + 1) (by omega)).trans (congrArg some (mcell_regC s _ _ _ _ d hd))
      have p1 : w9.frozen? ⟨g, 7 + d * 2, none⟩ = false := hM9.out.frozen _
      have p2 : w9.frozen? ⟨g, 7 + d * 2 + 1, none⟩ = false := hM9.out.frozen _
      go_wp2_with (go_at_call 136; refine (mach_must_ok _).mono ?_; rintro e w' ⟨rfl, hw'⟩; obtain rfl := hw'.symm)
      go_region
      have hM2 : Aside0 (Mach B (((w9.setCell ⟨g, 7 + d * 2, none⟩ (.int .i64 r1)).setCell ⟨g, 7 + d * 2 + 1, none⟩ (.bool r2)).drew) g O vt _ _ _ (s.put d ⟨r1, r2⟩)) := ⟨(hM9.out.putReg d hd ⟨r1, r2⟩).below (below_drew (Below.refl _ _))⟩
      have hK2 : Aside0 (Kept w (((w9.setCell ⟨g, 7 + d * 2, none⟩ (.int .i64 r1)).setCell ⟨g, 7 + d * 2 + 1, none⟩ (.bool r2)).drew) O) := ⟨Kept.drew ((hK9.out.setCell (p := ⟨g, 7 + d * 2, none⟩) (.inl hM9.out.own) (.int .i64 r1)).setCell (p := ⟨g, 7 + d * 2 + 1, none⟩) (.inl hM9.out.own) (.bool r2))⟩
      have hL2 : Aside0 (Below B w (((w9.setCell ⟨g, 7 + d * 2, none⟩ (.int .i64 r1)).setCell ⟨g, 7 + d * 2 + 1, none⟩ (.bool r2)).drew)) := ⟨below_drew ((hL9.out.setCell (p := ⟨g, 7 + d * 2, none⟩) (hM9.out.low g hM9.out.own) (.int .i64 r1)).setCell (p := ⟨g, 7 + d * 2 + 1, none⟩) (hM9.out.low g hM9.out.own) (.bool r2))⟩
      have hI2 : Aside0 ((((w9.setCell ⟨g, 7 + d * 2, none⟩ (.int .i64 r1)).setCell ⟨g, 7 + d * 2 + 1, none⟩ (.bool r2)).drew).heap[w.heap.size]? = some (.cells #[.int .i8 op, .int .i8 d, .int .i8 a, .int .i8 b, .int .i64 n] 36)) := ⟨blk_drew (blk_far (blk_far hI9.out hne _) hne _)⟩
      revert hM2 hK2 hL2 hI2
      generalize ((w9.setCell ⟨g, 7 + d * 2, none⟩ (.int .i64 r1)).setCell ⟨g, 7 + d * 2 + 1, none⟩ (.bool r2)).drew = w8
      intro hM2 hK2 hL2 hI2
      have hi9 := blk_cell hI2.out
      have d2 : w8.cell? ⟨g, 2, none⟩ = some (.int .i64 s.place) := hM2.out.cell 2 (by decide)
      go_wp2
      go_ret
      exact ⟨rfl, hM2.out.after hB hK2.out hL2.out⟩
    · have d0 : (r3 != 0) = true := by simpa using hz
      go_wp2_with (go_at_call 136; refine (mach_must_no _ r3 hz).mono ?_; rintro e w' ⟨rfl, hw'⟩; obtain rfl := hw'.symm)
      exact ⟨rfl, rfl, hM9.out.after hB hK9.out hL9.out⟩
  · refine zEv (v := .pointer (some ⟨w.heap.size + 1, 0, none⟩)) (w1 := (World.drew (w.alloc (.cells #[.int .i8 op, .int .i8 d, .int .i8 a, .int .i8 b, .int .i64 n] 36))).alloc (.cells #[.int .i64 0, .bool false] 106)) ?_
    refine hKK.out _ _ ⟨(blk_cell (blk_alloc (blk_drew hI.out) _) 0).trans rfl, (blk_cell (blk_alloc (blk_drew hI.out) _) 2).trans rfl, (blk_cell (blk_alloc (blk_drew hI.out) _) 3).trans rfl, (((hM.out.below (below_drew (Below.refl _ _))).below (below_alloc (Below.refl _ _) _)).cell (7 + a * 2) (by omega)).trans (congrArg some (mcell_regV s _ _ _ _ a ha)), (((hM.out.below (below_drew (Below.refl _ _))).below (below_alloc (Below.refl _ _) _)).cell (7 + a * 2 + 1) (by omega)).trans (congrArg some (mcell_regC s _ _ _ _ a ha)), (((hM.out.below (below_drew (Below.refl _ _))).below (below_alloc (Below.refl _ _) _)).cell (7 + b * 2) (by omega)).trans (congrArg some (mcell_regV s _ _ _ _ b hb)), (((hM.out.below (below_drew (Below.refl _ _))).below (below_alloc (Below.refl _ _) _)).cell (7 + b * 2 + 1) (by omega)).trans (congrArg some (mcell_regC s _ _ _ _ b hb))⟩ (fun hHeld2 => ?_)
    clear hKK KK hHeld; have hHeld := hHeld2; clear hHeld2
    refine zNo ?_
    have hM0 := Aside0.mk ((hM.out.below (below_drew (Below.refl _ _))).below (below_alloc (Below.refl _ _) (.cells #[.int .i64 0, .bool false] 106))); have hK0 := Aside0.mk (hK.out.drew.alloc (.cells #[.int .i64 0, .bool false] 106)); have hL0 := Aside0.mk ((below_drew hL.out).alloc (Nat.le_trans hB hL.out.size) (.cells #[.int .i64 0, .bool false] 106)); have hI0 := Aside0.mk (blk_alloc (blk_drew hI.out) (.cells #[.int .i64 0, .bool false] 106)); have hX0 := Aside0.mk (blk_new (World.drew (w.alloc (.cells #[.int .i8 op, .int .i8 d, .int .i8 a, .int .i8 b, .int .i64 n] 36))) (.cells #[.int .i64 0, .bool false] 106))
    have hsz : (World.drew (w.alloc (.cells #[.int .i8 op, .int .i8 d, .int .i8 a, .int .i8 b, .int .i64 n] 36))).heap.size = w.heap.size + 1 := by simp
    rw [hsz] at hX0
    have hg0 : ∀ k, O k → k < w.heap.size + 1 := fun k ho => by have := hM.out.lt k ho; simpa using this
    refine zOn (N := some 24) 16 (fun KK hKK => ?_)
    refine zCl (N := some 24) 140 #[.int .i8 op, .agg #[.int .i64 (s.reg a).f0, .bool (s.reg a).f1], .agg #[.int .i64 (s.reg b).f0, .bool (s.reg b).f1]] ?_
    refine (word_Calc.calls op (s.reg a).f0 (s.reg a).f1 (s.reg b).f0 (s.reg b).f1 r1 r2 r3 _ hc).mono ?_
    rintro e w1 ⟨rfl, hb⟩; have hM1 := Aside0.mk ((hM0.out).below hb); have hK1 := Aside0.mk ((hK0.out).below hb); have hL1 := Aside0.mk ((hL0.out).trans (hb.mono (Nat.le_trans hB hL0.out.size))); have hI1 := Aside0.mk (blk_below (hI0.out) hb); have hX1 := Aside0.mk (blk_below hX0.out hb); clear hb
    refine ⟨_, rfl, hKK.out _ _ ⟨(blk_cell hI1.out 0).trans rfl, (blk_cell hI1.out 2).trans rfl, (blk_cell hI1.out 3).trans rfl, (hM1.out.cell (7 + a * 2) (by omega)).trans (congrArg some (mcell_regV s _ _ _ _ a ha)), (hM1.out.cell (7 + a * 2 + 1) (by omega)).trans (congrArg some (mcell_regC s _ _ _ _ a ha)), (hM1.out.cell (7 + b * 2) (by omega)).trans (congrArg some (mcell_regV s _ _ _ _ b hb)), (hM1.out.cell (7 + b * 2 + 1) (by omega)).trans (congrArg some (mcell_regC s _ _ _ _ b hb))⟩ (fun hHeld2 => ?_)⟩
    clear hKK KK hHeld; have hHeld := hHeld2; clear hHeld2
    refine zNo ?_
    refine zPu (N := some 7) 17 ?_
    refine zPu (N := some 25) 18 ?_
    refine zPu (N := some 26) 19 ?_
    clear hHeld
    have hMx := Aside0.mk (hM1.out); have hKx := Aside0.mk (hK1.out); have hLx := Aside0.mk (hL1.out); have hIx := Aside0.mk (hI1.out); have hXx := Aside0.mk (hX1.out)
    have hg1 : w.heap.size < w.heap.size + 1 := Nat.lt_succ_self _
    have hg2 : ∀ k, O k → k ≠ w.heap.size + 1 := fun k ho e => absurd (hg0 k ho) (by omega)
    clear hM hK hL hI hi c2 f2 rv_a rk_a rfv_a rfk_a rv_b rk_b rfv_b rfk_b hM0 hK0 hL0 hI0 hX0 hM1 hK1 hL1 hI1 hX1 hsz hg0
    revert hMx hKx hLx hIx hXx hg1 hg2
    generalize w1 = wx
    generalize w.heap.size + 1 = gb
    intro hMx hKx hLx hIx hXx hg1 hg2
    refine zLa (N := none) 21 (fun KK hKK => ?_)
    have hcx := blk_cell hXx.out; have hfx := blk_frozen hXx.out
    refine zSt (w1 := (wx.setCell ⟨gb, 0, none⟩ (.int .i64 r1)).setCell ⟨gb, 1, none⟩ (.bool r2)) ?_
    refine hKK.out _ _ ?_
    clear hKK KK hcx hfx
    have hM9 := Aside0.mk (hMx.out.kept (S := fun k => k = gb) (((Kept.refl wx (fun k => k = gb)).setCell (p := ⟨gb, 0, none⟩) (.inl rfl) (.int .i64 r1)).setCell (p := ⟨gb, 1, none⟩) (.inl rfl) (.bool r2)) hg2)
    have hK9 := Aside0.mk ((hKx.out.setCell (p := ⟨gb, 0, none⟩) (.inr (Nat.le_of_lt hg1)) (.int .i64 r1)).setCell (p := ⟨gb, 1, none⟩) (.inr (Nat.le_of_lt hg1)) (.bool r2))
    have hL9 := Aside0.mk ((hLx.out.setCell (p := ⟨gb, 0, none⟩) (Nat.le_trans hB (Nat.le_of_lt hg1)) (.int .i64 r1)).setCell (p := ⟨gb, 1, none⟩) (Nat.le_trans hB (Nat.le_of_lt hg1)) (.bool r2))
    have hI9 := Aside0.mk (blk_far (blk_far hIx.out (p := ⟨gb, 0, none⟩) (Nat.ne_of_lt hg1) (.int .i64 r1)) (p := ⟨gb, 1, none⟩) (Nat.ne_of_lt hg1) (.bool r2))
    have hX9 : Aside0 (((wx.setCell ⟨gb, 0, none⟩ (.int .i64 r1)).setCell ⟨gb, 1, none⟩ (.bool r2)).heap[gb]? = some (.cells #[.int .i64 r1, .bool r2] 106 (0, 0))) := ⟨blk_put (blk_put hXx.out 0 _ rfl) 1 _ rfl⟩
    clear hMx hKx hLx hIx hXx
    revert hM9 hK9 hL9 hI9 hX9
    generalize (wx.setCell ⟨gb, 0, none⟩ (.int .i64 r1)).setCell ⟨gb, 1, none⟩ (.bool r2) = w9
    intro hM9 hK9 hL9 hI9 hX9
    refine zPu (N := some 6) 22 ?_
    refine zDo ⟨rfl, ?_⟩
    have hi9 := blk_cell hI9.out
    have hbx := blk_cell hX9.out
    have e2 : w9.cell? ⟨g, 2, none⟩ = some (.int .i64 s.place) := hM9.out.cell 2 (by decide)
    by_cases hz : r3 = 0
    · subst hz
      have rv_d : w9.cell? ⟨g, 7 + d * 2, none⟩ = some (.int .i64 (s.reg d).f0) := (hM9.out.cell (7 + d * 2) (by omega)).trans (congrArg some (mcell_regV s _ _ _ _ d hd))
      have rk_d : w9.cell? ⟨g, 7 + d * 2 + 1, none⟩ = some (.bool (s.reg d).f1) := (hM9.out.cell (7 + d * 2 + 1) (by omega)).trans (congrArg some (mcell_regC s _ _ _ _ d hd))
      have p1 : w9.frozen? ⟨g, 7 + d * 2, none⟩ = false := hM9.out.frozen _
      have p2 : w9.frozen? ⟨g, 7 + d * 2 + 1, none⟩ = false := hM9.out.frozen _
      go_wp2_with (go_at_call 136; refine (mach_must_ok _).mono ?_; rintro e w' ⟨rfl, hw'⟩; obtain rfl := hw'.symm)
      go_region
      have hM2 : Aside0 (Mach B (((w9.setCell ⟨g, 7 + d * 2, none⟩ (.int .i64 r1)).setCell ⟨g, 7 + d * 2 + 1, none⟩ (.bool r2)).drew) g O vt _ _ _ (s.put d ⟨r1, r2⟩)) := ⟨(hM9.out.putReg d hd ⟨r1, r2⟩).below (below_drew (Below.refl _ _))⟩
      have hK2 : Aside0 (Kept w (((w9.setCell ⟨g, 7 + d * 2, none⟩ (.int .i64 r1)).setCell ⟨g, 7 + d * 2 + 1, none⟩ (.bool r2)).drew) O) := ⟨Kept.drew ((hK9.out.setCell (p := ⟨g, 7 + d * 2, none⟩) (.inl hM9.out.own) (.int .i64 r1)).setCell (p := ⟨g, 7 + d * 2 + 1, none⟩) (.inl hM9.out.own) (.bool r2))⟩
      have hL2 : Aside0 (Below B w (((w9.setCell ⟨g, 7 + d * 2, none⟩ (.int .i64 r1)).setCell ⟨g, 7 + d * 2 + 1, none⟩ (.bool r2)).drew)) := ⟨below_drew ((hL9.out.setCell (p := ⟨g, 7 + d * 2, none⟩) (hM9.out.low g hM9.out.own) (.int .i64 r1)).setCell (p := ⟨g, 7 + d * 2 + 1, none⟩) (hM9.out.low g hM9.out.own) (.bool r2))⟩
      have hI2 : Aside0 ((((w9.setCell ⟨g, 7 + d * 2, none⟩ (.int .i64 r1)).setCell ⟨g, 7 + d * 2 + 1, none⟩ (.bool r2)).drew).heap[w.heap.size]? = some (.cells #[.int .i8 op, .int .i8 d, .int .i8 a, .int .i8 b, .int .i64 n] 36)) := ⟨blk_drew (blk_far (blk_far hI9.out hne _) hne _)⟩
      revert hM2 hK2 hL2 hI2
      generalize ((w9.setCell ⟨g, 7 + d * 2, none⟩ (.int .i64 r1)).setCell ⟨g, 7 + d * 2 + 1, none⟩ (.bool r2)).drew = w8
      intro hM2 hK2 hL2 hI2
      have hi9 := blk_cell hI2.out
      have d2 : w8.cell? ⟨g, 2, none⟩ = some (.int .i64 s.place) := hM2.out.cell 2 (by decide)
      go_wp2
      go_ret
      exact ⟨rfl, hM2.out.after hB hK2.out hL2.out⟩
    · have d0 : (r3 != 0) = true := by simpa using hz
      go_wp2_with (go_at_call 136; refine (mach_must_no _ r3 hz).mono ?_; rintro e w' ⟨rfl, hw'⟩; obtain rfl := hw'.symm)
      exact ⟨rfl, rfl, hM9.out.after hB hK9.out hL9.out⟩
set_option maxRecDepth 100000 in
set_option maxHeartbeats 4000000 in
theorem mach_load {B g : Nat} {w : World} {O : Nat → Prop} {vt va vm vp : Value} {s : MS} (h : Mach B w g O vt va vm vp s) (op d a b : Nat) (n : Int) (hB : B ≤ w.heap.size) (hd : d < 16) (ha : a < 16) (r1 r2 : Int) (hc : word_Address.f (s.reg a).f0 (s.reg a).f1 n s.mem.length = some (r1, r2)) (hrg : r2 = 0 → 0 ≤ r1 ∧ r1 < s.mem.length) :
    Calls Try.prog 120 #[.pointer (some ⟨g, 0, none⟩), .agg #[.int .i8 op, .int .i8 d, .int .i8 a, .int .i8 b, .int .i64 n]] w fun e w' => e = MOut (if r2 = 0 then .ok (wrap64 (s.place + 1)) else .error r2) ∧ MAfter B g w O vt va (if r2 = 0 then s.put d (rd_T106 s.mem r1) else s) w' := by
  obtain ⟨Am, cm, rfl, hlm, hCm⟩ := Kd.R_reads h.mem; clear hlm hCm
  have hM := Aside0.mk (h.below (below_alloc (Below.refl w.heap.size w) (.cells #[.int .i8 op, .int .i8 d, .int .i8 a, .int .i8 b, .int .i64 n] 36)))
  have hK := Aside0.mk (Kept.alloc (Kept.refl w O) (.cells #[.int .i8 op, .int .i8 d, .int .i8 a, .int .i8 b, .int .i64 n] 36))
  have hL := Aside0.mk ((Below.refl B w).alloc hB (.cells #[.int .i8 op, .int .i8 d, .int .i8 a, .int .i8 b, .int .i64 n] 36))
  have hI := Aside0.mk (blk_new w (.cells #[.int .i8 op, .int .i8 d, .int .i8 a, .int .i8 b, .int .i64 n] 36))
  have hi := blk_cell hI.out
  have hne : w.heap.size ≠ g := fun e => absurd (h.lt g h.own) (by omega)
  have c2 : (w.alloc (.cells #[.int .i8 op, .int .i8 d, .int .i8 a, .int .i8 b, .int .i64 n] 36)).cell? ⟨g, 2, none⟩ = some (.int .i64 s.place) := hM.out.cell 2 (by decide)
  have f2 : (w.alloc (.cells #[.int .i8 op, .int .i8 d, .int .i8 a, .int .i8 b, .int .i64 n] 36)).frozen? ⟨g, 2, none⟩ = false := hM.out.frozen 2
  have c39 : (w.alloc (.cells #[.int .i8 op, .int .i8 d, .int .i8 a, .int .i8 b, .int .i64 n] 36)).cell? ⟨g, 39, none⟩ = some (.slice Am s.mem.length cm) := hM.out.cell 39 (by decide)
  have f39 : (w.alloc (.cells #[.int .i8 op, .int .i8 d, .int .i8 a, .int .i8 b, .int .i64 n] 36)).frozen? ⟨g, 39, none⟩ = false := hM.out.frozen 39
  have rv_a : (w.alloc (.cells #[.int .i8 op, .int .i8 d, .int .i8 a, .int .i8 b, .int .i64 n] 36)).cell? ⟨g, 7 + a * 2, none⟩ = some (.int .i64 (s.reg a).f0) := (hM.out.cell (7 + a * 2) (by omega)).trans (congrArg some (mcell_regV s _ _ _ _ a ha))
  have rk_a : (w.alloc (.cells #[.int .i8 op, .int .i8 d, .int .i8 a, .int .i8 b, .int .i64 n] 36)).cell? ⟨g, 7 + a * 2 + 1, none⟩ = some (.bool (s.reg a).f1) := (hM.out.cell (7 + a * 2 + 1) (by omega)).trans (congrArg some (mcell_regC s _ _ _ _ a ha))
  have rfv_a : (w.alloc (.cells #[.int .i8 op, .int .i8 d, .int .i8 a, .int .i8 b, .int .i64 n] 36)).frozen? ⟨g, 7 + a * 2, none⟩ = false := hM.out.frozen _
  have rfk_a : (w.alloc (.cells #[.int .i8 op, .int .i8 d, .int .i8 a, .int .i8 b, .int .i64 n] 36)).frozen? ⟨g, 7 + a * 2 + 1, none⟩ = false := hM.out.frozen _
  have id : ((d : Nat) : Int) < 16 := by omega
  have ia : ((a : Nat) : Int) < 16 := by omega
  have hu := Try.underlying111
  have hu2 := Try.underlying107
  have hu3 := Try.underlying106
  have hu4 := Try.underlying36
  clear h
  go_enter Try.func120, Try.ntmps120
  go_wp2
  refine wp_only ?_
  refine start_ (n := 20) (S := fun w' => w'.cell? ⟨w.heap.size, 2, none⟩ = some (.int .i8 a) ∧ w'.cell? ⟨w.heap.size, 4, none⟩ = some (.int .i64 n) ∧ w'.cell? ⟨g, 7 + a * 2, none⟩ = some (.int .i64 (s.reg a).f0) ∧ w'.cell? ⟨g, 7 + a * 2 + 1, none⟩ = some (.bool (s.reg a).f1) ∧ w'.cell? ⟨g, 39, none⟩ = some (.slice Am s.mem.length cm)) (ds := []) #[false, false, false, false, false, false, false, false, false, false, false, false, false, false, false, false, false, false, false, false] (by kernel_rfl) rfl rfl ⟨(blk_cell (blk_drew hI.out) 2).trans rfl, (blk_cell (blk_drew hI.out) 4).trans rfl, ((hM.out.below (below_drew (Below.refl _ _))).cell (7 + a * 2) (by omega)).trans (congrArg some (mcell_regV s _ _ _ _ a ha)), ((hM.out.below (below_drew (Below.refl _ _))).cell (7 + a * 2 + 1) (by omega)).trans (congrArg some (mcell_regC s _ _ _ _ a ha)), (hM.out.below (below_drew (Below.refl _ _))).cell 39 (by decide)⟩ (fun hHeld => ?_)
  refine zPu (N := some 8) 0 ?_
  refine zPu (N := some 9) 1 ?_
  refine zTa (N := some 10) 2 hHeld ?_
  refine zPu (N := some 11) 3 ?_
  refine zPu (N := some 12) 4 ?_
  refine zPu (N := some 13) 5 ?_
  refine zTa (N := some 14) 6 hHeld ?_
  refine zPu (N := some 15) 7 ?_
  refine zTa (N := some 16) 8 hHeld ?_
  refine zPu (N := some 17) 9 ?_
  refine zPu (N := some 18) 10 ?_
  refine zPu (N := some 19) 11 ?_
  refine zTa (N := some 20) 12 hHeld ?_
  refine zPu (N := some 21) 13 ?_
  refine zOn (N := some 22) 14 (fun KK hKK => ?_)
  refine zCl (N := some 22) 135 #[.agg #[.int .i64 (s.reg a).f0, .bool (s.reg a).f1], .int .i64 n, .int .i64 s.mem.length] ?_
  refine (word_Address.calls (s.reg a).f0 (s.reg a).f1 n s.mem.length r1 r2 _ hc).mono ?_
  rintro e w1 ⟨rfl, hb⟩; have hM1 := Aside0.mk ((hM.out.below (below_drew (Below.refl _ _))).below hb); have hK1 := Aside0.mk ((hK.out.drew).below hb); have hL1 := Aside0.mk ((below_drew hL.out).trans (hb.mono (Nat.le_trans hB hL.out.size))); have hI1 := Aside0.mk (blk_below (blk_drew hI.out) hb); clear hb
  refine ⟨_, rfl, hKK.out _ _ ⟨(blk_cell hI1.out 2).trans rfl, (blk_cell hI1.out 4).trans rfl, (hM1.out.cell (7 + a * 2) (by omega)).trans (congrArg some (mcell_regV s _ _ _ _ a ha)), (hM1.out.cell (7 + a * 2 + 1) (by omega)).trans (congrArg some (mcell_regC s _ _ _ _ a ha)), hM1.out.cell 39 (by decide)⟩ (fun hHeld2 => ?_)⟩
  clear hKK KK hHeld; have hHeld := hHeld2; clear hHeld2
  refine zNo ?_
  refine zPu (N := some 7) 15 ?_
  refine zPu (N := some 23) 16 ?_
  refine zPu (N := some 24) 17 ?_
  refine zPu (N := some 5) 18 ?_
  refine zPu (N := some 6) 19 ?_
  refine zDo ⟨rfl, ?_⟩
  clear hM hK hL hI hi hHeld c2 f2 c39 f39 rv_a rk_a rfv_a rfk_a
  by_cases hz : r2 = 0
  · subst hz
    obtain ⟨hr0, hr1⟩ := hrg rfl
    obtain ⟨Am', cm', ee, hlm, hCm⟩ := Kd.R_reads hM1.out.mem
    obtain ⟨rfl, rfl⟩ : Am = Am' ∧ cm = cm' := by injection ee with e1 _ e3; exact ⟨e1, e3⟩
    clear ee
    have hi1 := blk_cell hI1.out
    have e2 : w1.cell? ⟨g, 2, none⟩ = some (.int .i64 s.place) := hM1.out.cell 2 (by decide)
    have e39 : w1.cell? ⟨g, 39, none⟩ = some (.slice Am s.mem.length cm) := hM1.out.cell 39 (by decide)
    obtain ⟨ad, rfl, hv1, hv2⟩ := at_T106 hCm r1 hr0 hr1
    have rv_d : w1.cell? ⟨g, 7 + d * 2, none⟩ = some (.int .i64 (s.reg d).f0) := (hM1.out.cell (7 + d * 2) (by omega)).trans (congrArg some (mcell_regV s _ _ _ _ d hd))
    have rk_d : w1.cell? ⟨g, 7 + d * 2 + 1, none⟩ = some (.bool (s.reg d).f1) := (hM1.out.cell (7 + d * 2 + 1) (by omega)).trans (congrArg some (mcell_regC s _ _ _ _ d hd))
    have p1 : w1.frozen? ⟨g, 7 + d * 2, none⟩ = false := hM1.out.frozen _
    have p2 : w1.frozen? ⟨g, 7 + d * 2 + 1, none⟩ = false := hM1.out.frozen _
    go_wp2_with (go_at_call 136; refine (mach_must_ok _).mono ?_; rintro e w' ⟨rfl, hw'⟩; obtain rfl := hw'.symm)
    go_region
    have hM2 : Aside0 (Mach B (((w1.setCell ⟨g, 7 + d * 2, none⟩ (.int .i64 (rd_T106 s.mem r1).f0)).setCell ⟨g, 7 + d * 2 + 1, none⟩ (.bool (rd_T106 s.mem r1).f1)).drew) g O vt _ _ _ (s.put d (rd_T106 s.mem r1))) := ⟨(hM1.out.putReg d hd (rd_T106 s.mem r1)).below (below_drew (Below.refl _ _))⟩
    have hK2 : Aside0 (Kept w (((w1.setCell ⟨g, 7 + d * 2, none⟩ (.int .i64 (rd_T106 s.mem r1).f0)).setCell ⟨g, 7 + d * 2 + 1, none⟩ (.bool (rd_T106 s.mem r1).f1)).drew) O) := ⟨Kept.drew ((hK1.out.setCell (p := ⟨g, 7 + d * 2, none⟩) (.inl hM1.out.own) (.int .i64 (rd_T106 s.mem r1).f0)).setCell (p := ⟨g, 7 + d * 2 + 1, none⟩) (.inl hM1.out.own) (.bool (rd_T106 s.mem r1).f1))⟩
    have hL2 : Aside0 (Below B w (((w1.setCell ⟨g, 7 + d * 2, none⟩ (.int .i64 (rd_T106 s.mem r1).f0)).setCell ⟨g, 7 + d * 2 + 1, none⟩ (.bool (rd_T106 s.mem r1).f1)).drew)) := ⟨below_drew ((hL1.out.setCell (p := ⟨g, 7 + d * 2, none⟩) (hM1.out.low g hM1.out.own) (.int .i64 (rd_T106 s.mem r1).f0)).setCell (p := ⟨g, 7 + d * 2 + 1, none⟩) (hM1.out.low g hM1.out.own) (.bool (rd_T106 s.mem r1).f1))⟩
    have hI2 : Aside0 ((((w1.setCell ⟨g, 7 + d * 2, none⟩ (.int .i64 (rd_T106 s.mem r1).f0)).setCell ⟨g, 7 + d * 2 + 1, none⟩ (.bool (rd_T106 s.mem r1).f1)).drew).heap[w.heap.size]? = some (.cells #[.int .i8 op, .int .i8 d, .int .i8 a, .int .i8 b, .int .i64 n] 36)) := ⟨blk_drew (blk_far (blk_far hI1.out hne _) hne _)⟩
    revert hM2 hK2 hL2 hI2
    generalize ((w1.setCell ⟨g, 7 + d * 2, none⟩ (.int .i64 (rd_T106 s.mem r1).f0)).setCell ⟨g, 7 + d * 2 + 1, none⟩ (.bool (rd_T106 s.mem r1).f1)).drew = w9
    intro hM2 hK2 hL2 hI2
    have hi9 := blk_cell hI2.out
    have d2 : w9.cell? ⟨g, 2, none⟩ = some (.int .i64 s.place) := hM2.out.cell 2 (by decide)
    go_wp2
    go_ret
    exact ⟨rfl, hM2.out.after hB hK2.out hL2.out⟩
  · have d0 : (r2 != 0) = true := by simpa using hz
    go_wp2_with (go_at_call 136; refine (mach_must_no _ r2 hz).mono ?_; rintro e w' ⟨rfl, hw'⟩; obtain rfl := hw'.symm)
    exact ⟨rfl, rfl, hM1.out.after hB hK1.out hL1.out⟩
set_option maxRecDepth 100000 in
set_option maxHeartbeats 4000000 in
theorem mach_store {B g : Nat} {w : World} {O : Nat → Prop} {vt va vm vp : Value} {s : MS} (h : Mach B w g O vt va vm vp s) (op d a b : Nat) (n : Int) (hB : B ≤ w.heap.size) (ha : a < 16) (hb : b < 16) (r1 r2 : Int) (hc : word_Address.f (s.reg a).f0 (s.reg a).f1 n s.mem.length = some (r1, r2)) (hrg : r2 = 0 → 0 ≤ r1 ∧ r1 < s.mem.length) :
    Calls Try.prog 121 #[.pointer (some ⟨g, 0, none⟩), .agg #[.int .i8 op, .int .i8 d, .int .i8 a, .int .i8 b, .int .i64 n]] w fun e w' => e = MOut (if r2 = 0 then .ok (wrap64 (s.place + 1)) else .error r2) ∧ MAfter B g w O vt va (if r2 = 0 then { s with mem := s.mem.set r1.toNat (s.reg b) } else s) w' := by
  obtain ⟨Am, cm, rfl, hlm, hCm⟩ := Kd.R_reads h.mem; clear hlm hCm
  have hM := Aside0.mk (h.below (below_alloc (Below.refl w.heap.size w) (.cells #[.int .i8 op, .int .i8 d, .int .i8 a, .int .i8 b, .int .i64 n] 36)))
  have hK := Aside0.mk (Kept.alloc (Kept.refl w O) (.cells #[.int .i8 op, .int .i8 d, .int .i8 a, .int .i8 b, .int .i64 n] 36))
  have hL := Aside0.mk ((Below.refl B w).alloc hB (.cells #[.int .i8 op, .int .i8 d, .int .i8 a, .int .i8 b, .int .i64 n] 36))
  have hI := Aside0.mk (blk_new w (.cells #[.int .i8 op, .int .i8 d, .int .i8 a, .int .i8 b, .int .i64 n] 36))
  have hi := blk_cell hI.out
  have hne : w.heap.size ≠ g := fun e => absurd (h.lt g h.own) (by omega)
  have c2 : (w.alloc (.cells #[.int .i8 op, .int .i8 d, .int .i8 a, .int .i8 b, .int .i64 n] 36)).cell? ⟨g, 2, none⟩ = some (.int .i64 s.place) := hM.out.cell 2 (by decide)
  have f2 : (w.alloc (.cells #[.int .i8 op, .int .i8 d, .int .i8 a, .int .i8 b, .int .i64 n] 36)).frozen? ⟨g, 2, none⟩ = false := hM.out.frozen 2
  have c39 : (w.alloc (.cells #[.int .i8 op, .int .i8 d, .int .i8 a, .int .i8 b, .int .i64 n] 36)).cell? ⟨g, 39, none⟩ = some (.slice Am s.mem.length cm) := hM.out.cell 39 (by decide)
  have f39 : (w.alloc (.cells #[.int .i8 op, .int .i8 d, .int .i8 a, .int .i8 b, .int .i64 n] 36)).frozen? ⟨g, 39, none⟩ = false := hM.out.frozen 39
  have rv_a : (w.alloc (.cells #[.int .i8 op, .int .i8 d, .int .i8 a, .int .i8 b, .int .i64 n] 36)).cell? ⟨g, 7 + a * 2, none⟩ = some (.int .i64 (s.reg a).f0) := (hM.out.cell (7 + a * 2) (by omega)).trans (congrArg some (mcell_regV s _ _ _ _ a ha))
  have rk_a : (w.alloc (.cells #[.int .i8 op, .int .i8 d, .int .i8 a, .int .i8 b, .int .i64 n] 36)).cell? ⟨g, 7 + a * 2 + 1, none⟩ = some (.bool (s.reg a).f1) := (hM.out.cell (7 + a * 2 + 1) (by omega)).trans (congrArg some (mcell_regC s _ _ _ _ a ha))
  have rfv_a : (w.alloc (.cells #[.int .i8 op, .int .i8 d, .int .i8 a, .int .i8 b, .int .i64 n] 36)).frozen? ⟨g, 7 + a * 2, none⟩ = false := hM.out.frozen _
  have rfk_a : (w.alloc (.cells #[.int .i8 op, .int .i8 d, .int .i8 a, .int .i8 b, .int .i64 n] 36)).frozen? ⟨g, 7 + a * 2 + 1, none⟩ = false := hM.out.frozen _
  have ia : ((a : Nat) : Int) < 16 := by omega
  have ib : ((b : Nat) : Int) < 16 := by omega
  have hu := Try.underlying111
  have hu2 := Try.underlying107
  have hu3 := Try.underlying106
  have hu4 := Try.underlying36
  clear h
  go_enter Try.func121, Try.ntmps121
  go_wp2
  refine wp_only ?_
  refine start_ (n := 20) (S := fun w' => w'.cell? ⟨w.heap.size, 2, none⟩ = some (.int .i8 a) ∧ w'.cell? ⟨w.heap.size, 4, none⟩ = some (.int .i64 n) ∧ w'.cell? ⟨g, 7 + a * 2, none⟩ = some (.int .i64 (s.reg a).f0) ∧ w'.cell? ⟨g, 7 + a * 2 + 1, none⟩ = some (.bool (s.reg a).f1) ∧ w'.cell? ⟨g, 39, none⟩ = some (.slice Am s.mem.length cm)) (ds := []) #[false, false, false, false, false, false, false, false, false, false, false, false, false, false, false, false, false, false, false, false] (by kernel_rfl) rfl rfl ⟨(blk_cell (blk_drew hI.out) 2).trans rfl, (blk_cell (blk_drew hI.out) 4).trans rfl, ((hM.out.below (below_drew (Below.refl _ _))).cell (7 + a * 2) (by omega)).trans (congrArg some (mcell_regV s _ _ _ _ a ha)), ((hM.out.below (below_drew (Below.refl _ _))).cell (7 + a * 2 + 1) (by omega)).trans (congrArg some (mcell_regC s _ _ _ _ a ha)), (hM.out.below (below_drew (Below.refl _ _))).cell 39 (by decide)⟩ (fun hHeld => ?_)
  refine zPu (N := some 8) 0 ?_
  refine zPu (N := some 9) 1 ?_
  refine zTa (N := some 10) 2 hHeld ?_
  refine zPu (N := some 11) 3 ?_
  refine zPu (N := some 12) 4 ?_
  refine zPu (N := some 13) 5 ?_
  refine zTa (N := some 14) 6 hHeld ?_
  refine zPu (N := some 15) 7 ?_
  refine zTa (N := some 16) 8 hHeld ?_
  refine zPu (N := some 17) 9 ?_
  refine zPu (N := some 18) 10 ?_
  refine zPu (N := some 19) 11 ?_
  refine zTa (N := some 20) 12 hHeld ?_
  refine zPu (N := some 21) 13 ?_
  refine zOn (N := some 22) 14 (fun KK hKK => ?_)
  refine zCl (N := some 22) 135 #[.agg #[.int .i64 (s.reg a).f0, .bool (s.reg a).f1], .int .i64 n, .int .i64 s.mem.length] ?_
  refine (word_Address.calls (s.reg a).f0 (s.reg a).f1 n s.mem.length r1 r2 _ hc).mono ?_
  rintro e w1 ⟨rfl, hb⟩; have hM1 := Aside0.mk ((hM.out.below (below_drew (Below.refl _ _))).below hb); have hK1 := Aside0.mk ((hK.out.drew).below hb); have hL1 := Aside0.mk ((below_drew hL.out).trans (hb.mono (Nat.le_trans hB hL.out.size))); have hI1 := Aside0.mk (blk_below (blk_drew hI.out) hb); clear hb
  refine ⟨_, rfl, hKK.out _ _ ⟨(blk_cell hI1.out 2).trans rfl, (blk_cell hI1.out 4).trans rfl, (hM1.out.cell (7 + a * 2) (by omega)).trans (congrArg some (mcell_regV s _ _ _ _ a ha)), (hM1.out.cell (7 + a * 2 + 1) (by omega)).trans (congrArg some (mcell_regC s _ _ _ _ a ha)), hM1.out.cell 39 (by decide)⟩ (fun hHeld2 => ?_)⟩
  clear hKK KK hHeld; have hHeld := hHeld2; clear hHeld2
  refine zNo ?_
  refine zPu (N := some 7) 15 ?_
  refine zPu (N := some 23) 16 ?_
  refine zPu (N := some 24) 17 ?_
  refine zPu (N := some 5) 18 ?_
  refine zPu (N := some 6) 19 ?_
  refine zDo ⟨rfl, ?_⟩
  clear hM hK hL hI hi hHeld c2 f2 c39 f39 rv_a rk_a rfv_a rfk_a
  by_cases hz : r2 = 0
  · subst hz
    obtain ⟨hr0, hr1⟩ := hrg rfl
    obtain ⟨gm, cm', ee, _, _, cells, hh⟩ := Kd.R_form hM1.out.mem (by omega)
    obtain ⟨rfl, rfl⟩ : Am = some ⟨gm, 0, none⟩ ∧ cm = cm' := by injection ee with e1 _ e3; exact ⟨e1, e3⟩
    clear ee
    obtain ⟨ad, e, hv1, hv2⟩ := at_T106 (n := s.mem.length) (Kd.R_reads' hM1.out.mem).2.2 r1 hr0 hr1
    cases e
    rw [Addr.add_lit, Nat.zero_add] at hv1 hv2
    have hfm := blk_frozen hh
    clear hh
    have hi1 := blk_cell hI1.out
    have e2 : w1.cell? ⟨g, 2, none⟩ = some (.int .i64 s.place) := hM1.out.cell 2 (by decide)
    have e39 : w1.cell? ⟨g, 39, none⟩ = some (.slice (some ⟨gm, 0, none⟩) s.mem.length cm) := hM1.out.cell 39 (by decide)
    have rv_b : w1.cell? ⟨g, 7 + b * 2, none⟩ = some (.int .i64 (s.reg b).f0) := (hM1.out.cell (7 + b * 2) (by omega)).trans (congrArg some (mcell_regV s _ _ _ _ b hb))
    have rk_b : w1.cell? ⟨g, 7 + b * 2 + 1, none⟩ = some (.bool (s.reg b).f1) := (hM1.out.cell (7 + b * 2 + 1) (by omega)).trans (congrArg some (mcell_regC s _ _ _ _ b hb))
    go_wp2_with (go_at_call 136; refine (mach_must_ok _).mono ?_; rintro e w' ⟨rfl, hw'⟩; obtain rfl := hw'.symm)
    go_region
    have hOm : O gm := hM1.out.mem.1 gm (by simp [Value.ownBlock])
    have hM2 : Aside0 (Mach B (((w1.setCell ⟨gm, r1.toNat * 2, none⟩ (.int .i64 (s.reg b).f0)).setCell ⟨gm, r1.toNat * 2 + 1, none⟩ (.bool (s.reg b).f1)).drew) g O vt va _ vp { s with mem := s.mem.set r1.toNat (s.reg b) }) := ⟨(hM1.out.putMem r1 hr0 hr1 (s.reg b)).below (below_drew (Below.refl _ _))⟩
    have hK2 : Aside0 (Kept w (((w1.setCell ⟨gm, r1.toNat * 2, none⟩ (.int .i64 (s.reg b).f0)).setCell ⟨gm, r1.toNat * 2 + 1, none⟩ (.bool (s.reg b).f1)).drew) O) := ⟨Kept.drew ((hK1.out.setCell (p := ⟨gm, r1.toNat * 2, none⟩) (.inl hOm) _).setCell (p := ⟨gm, r1.toNat * 2 + 1, none⟩) (.inl hOm) _)⟩
    have hL2 : Aside0 (Below B w (((w1.setCell ⟨gm, r1.toNat * 2, none⟩ (.int .i64 (s.reg b).f0)).setCell ⟨gm, r1.toNat * 2 + 1, none⟩ (.bool (s.reg b).f1)).drew)) := ⟨below_drew ((hL1.out.setCell (p := ⟨gm, r1.toNat * 2, none⟩) (hM1.out.low gm hOm) _).setCell (p := ⟨gm, r1.toNat * 2 + 1, none⟩) (hM1.out.low gm hOm) _)⟩
    revert hM2 hK2 hL2
    generalize ((w1.setCell ⟨gm, r1.toNat * 2, none⟩ (.int .i64 (s.reg b).f0)).setCell ⟨gm, r1.toNat * 2 + 1, none⟩ (.bool (s.reg b).f1)).drew = w9
    intro hM2 hK2 hL2
    have d2 : w9.cell? ⟨g, 2, none⟩ = some (.int .i64 s.place) := hM2.out.cell 2 (by decide)
    go_wp2
    go_ret
    exact ⟨rfl, hM2.out.after hB hK2.out hL2.out⟩
  · have d0 : (r2 != 0) = true := by simpa using hz
    go_wp2_with (go_at_call 136; refine (mach_must_no _ r2 hz).mono ?_; rintro e w' ⟨rfl, hw'⟩; obtain rfl := hw'.symm)
    exact ⟨rfl, rfl, hM1.out.after hB hK1.out hL1.out⟩
set_option maxRecDepth 100000 in
set_option maxHeartbeats 4000000 in
theorem mach_in {B g : Nat} {w : World} {O : Nat → Prop} {vt va vm vp : Value} {s : MS} (h : Mach B w g O vt va vm vp s) (op d a b : Nat) (n : Int) (hB : B ≤ w.heap.size) (hd : d < 16) (ht : 0 ≤ s.taken) :
    Calls Try.prog 122 #[.pointer (some ⟨g, 0, none⟩), .agg #[.int .i8 op, .int .i8 d, .int .i8 a, .int .i8 b, .int .i64 n]] w fun e w' => e = MOut (.ok (wrap64 (s.place + 1))) ∧ MAfter B g w O vt va (if s.taken < s.tape.length then ({ s with taken := wrap64 (s.taken + 1) } : MS).put d ⟨rd s.tape s.taken, false⟩ else s.put d ⟨0, false⟩) w' := by
  obtain ⟨Aa, ca, rfl, hla, hCa⟩ := Kd.R_reads (Kd.R_below h.tape (below_alloc (Below.refl w.heap.size w) (.cells #[.int .i8 op, .int .i8 d, .int .i8 a, .int .i8 b, .int .i64 n] 36))); clear hla
  have hM := Aside0.mk (h.below (below_alloc (Below.refl w.heap.size w) (.cells #[.int .i8 op, .int .i8 d, .int .i8 a, .int .i8 b, .int .i64 n] 36)))
  have hK := Aside0.mk (Kept.alloc (Kept.refl w O) (.cells #[.int .i8 op, .int .i8 d, .int .i8 a, .int .i8 b, .int .i64 n] 36))
  have hL := Aside0.mk ((Below.refl B w).alloc hB (.cells #[.int .i8 op, .int .i8 d, .int .i8 a, .int .i8 b, .int .i64 n] 36))
  have hI := Aside0.mk (blk_new w (.cells #[.int .i8 op, .int .i8 d, .int .i8 a, .int .i8 b, .int .i64 n] 36))
  have hi := blk_cell hI.out
  have hne : w.heap.size ≠ g := fun e => absurd (h.lt g h.own) (by omega)
  have c2 : (w.alloc (.cells #[.int .i8 op, .int .i8 d, .int .i8 a, .int .i8 b, .int .i64 n] 36)).cell? ⟨g, 2, none⟩ = some (.int .i64 s.place) := hM.out.cell 2 (by decide)
  have f2 : (w.alloc (.cells #[.int .i8 op, .int .i8 d, .int .i8 a, .int .i8 b, .int .i64 n] 36)).frozen? ⟨g, 2, none⟩ = false := hM.out.frozen 2
  have c5 : (w.alloc (.cells #[.int .i8 op, .int .i8 d, .int .i8 a, .int .i8 b, .int .i64 n] 36)).cell? ⟨g, 5, none⟩ = some (.int .i64 s.taken) := hM.out.cell 5 (by decide)
  have f5 : (w.alloc (.cells #[.int .i8 op, .int .i8 d, .int .i8 a, .int .i8 b, .int .i64 n] 36)).frozen? ⟨g, 5, none⟩ = false := hM.out.frozen 5
  have c6 : (w.alloc (.cells #[.int .i8 op, .int .i8 d, .int .i8 a, .int .i8 b, .int .i64 n] 36)).cell? ⟨g, 6, none⟩ = some (.slice Aa s.tape.length ca) := hM.out.cell 6 (by decide)
  have f6 : (w.alloc (.cells #[.int .i8 op, .int .i8 d, .int .i8 a, .int .i8 b, .int .i64 n] 36)).frozen? ⟨g, 6, none⟩ = false := hM.out.frozen 6
  have rv_d : (w.alloc (.cells #[.int .i8 op, .int .i8 d, .int .i8 a, .int .i8 b, .int .i64 n] 36)).cell? ⟨g, 7 + d * 2, none⟩ = some (.int .i64 (s.reg d).f0) := (hM.out.cell (7 + d * 2) (by omega)).trans (congrArg some (mcell_regV s _ _ _ _ d hd))
  have rk_d : (w.alloc (.cells #[.int .i8 op, .int .i8 d, .int .i8 a, .int .i8 b, .int .i64 n] 36)).cell? ⟨g, 7 + d * 2 + 1, none⟩ = some (.bool (s.reg d).f1) := (hM.out.cell (7 + d * 2 + 1) (by omega)).trans (congrArg some (mcell_regC s _ _ _ _ d hd))
  have rfv_d : (w.alloc (.cells #[.int .i8 op, .int .i8 d, .int .i8 a, .int .i8 b, .int .i64 n] 36)).frozen? ⟨g, 7 + d * 2, none⟩ = false := hM.out.frozen _
  have rfk_d : (w.alloc (.cells #[.int .i8 op, .int .i8 d, .int .i8 a, .int .i8 b, .int .i64 n] 36)).frozen? ⟨g, 7 + d * 2 + 1, none⟩ = false := hM.out.frozen _
  have id : ((d : Nat) : Int) < 16 := by omega
  have hu := Try.underlying111
  have hu2 := Try.underlying107
  have hu3 := Try.underlying106
  have hu4 := Try.underlying36
  clear h
  go_enter Try.func122, Try.ntmps122
  by_cases hlt : s.taken < s.tape.length
  · have d1 : decide (s.taken < (s.tape.length : Int)) = true := decide_eq_true hlt
    rw [if_pos hlt]
    obtain ⟨ad, rfl, hv⟩ := Kd.at_int hCa s.taken ht hlt
    go_wp2
    go_region
    go_wp2
    go_region
    go_wp2
    obtain ⟨s9, hs9⟩ : ∃ s9 : MS, s9 = { s with taken := wrap64 (s.taken + 1) } := ⟨_, rfl⟩
    have hM9 : Aside0 (Mach B (World.drew (World.drew ((w.alloc (.cells #[.int .i8 op, .int .i8 d, .int .i8 a, .int .i8 b, .int .i64 n] 36)).setCell ⟨g, 5, none⟩ (.int .i64 (wrap64 (s.taken + 1)))))) g O vt _ vm vp s9) := ⟨hs9 ▸ ((hM.out.put 5 (.int .i64 (wrap64 (s.taken + 1))) (mput_taken s _ _ _ _ _) rfl rfl rfl rfl).below (below_drew (Below.refl _ _))).below (below_drew (Below.refl _ _))⟩
    have hK9 : Aside0 (Kept w (World.drew (World.drew ((w.alloc (.cells #[.int .i8 op, .int .i8 d, .int .i8 a, .int .i8 b, .int .i64 n] 36)).setCell ⟨g, 5, none⟩ (.int .i64 (wrap64 (s.taken + 1)))))) O) := ⟨(hK.out.setCell (p := ⟨g, 5, none⟩) (.inl hM.out.own) _).drew.drew⟩
    have hL9 : Aside0 (Below B w (World.drew (World.drew ((w.alloc (.cells #[.int .i8 op, .int .i8 d, .int .i8 a, .int .i8 b, .int .i64 n] 36)).setCell ⟨g, 5, none⟩ (.int .i64 (wrap64 (s.taken + 1))))))) := ⟨below_drew (below_drew (hL.out.setCell (p := ⟨g, 5, none⟩) (hM.out.low g hM.out.own) _))⟩
    have hI9 : Aside0 ((World.drew (World.drew ((w.alloc (.cells #[.int .i8 op, .int .i8 d, .int .i8 a, .int .i8 b, .int .i64 n] 36)).setCell ⟨g, 5, none⟩ (.int .i64 (wrap64 (s.taken + 1)))))).heap[w.heap.size]? = some (.cells #[.int .i8 op, .int .i8 d, .int .i8 a, .int .i8 b, .int .i64 n] 36)) := ⟨blk_drew (blk_drew (blk_far hI.out (p := ⟨g, 5, none⟩) hne _))⟩
    clear hM hK hL hI hi c2 c5 c6 f2 f5 f6 rv_d rk_d rfv_d rfk_d
    revert hM9 hK9 hL9 hI9
    generalize World.drew (World.drew ((w.alloc (.cells #[.int .i8 op, .int .i8 d, .int .i8 a, .int .i8 b, .int .i64 n] 36)).setCell ⟨g, 5, none⟩ (.int .i64 (wrap64 (s.taken + 1))))) = w9
    intro hM9 hK9 hL9 hI9
    have hi9 := blk_cell hI9.out
    have e2 : w9.cell? ⟨g, 2, none⟩ = some (.int .i64 s9.place) := hM9.out.cell 2 (by decide)
    have qv : w9.cell? ⟨g, 7 + d * 2, none⟩ = some (.int .i64 (s9.reg d).f0) := (hM9.out.cell (7 + d * 2) (by omega)).trans (congrArg some (mcell_regV s9 _ _ _ _ d hd))
    have qk : w9.cell? ⟨g, 7 + d * 2 + 1, none⟩ = some (.bool (s9.reg d).f1) := (hM9.out.cell (7 + d * 2 + 1) (by omega)).trans (congrArg some (mcell_regC s9 _ _ _ _ d hd))
    have qf1 : w9.frozen? ⟨g, 7 + d * 2, none⟩ = false := hM9.out.frozen _
    have qf2 : w9.frozen? ⟨g, 7 + d * 2 + 1, none⟩ = false := hM9.out.frozen _
    go_region_with (go_at_call 101; refine (word_Plain.calls (rd s.tape s.taken) (rd s.tape s.taken) false _ rfl).mono ?_; rintro e w1 ⟨rfl, hb⟩; have hM1 := Aside0.mk ((hM9.out.below (below_drew (Below.refl _ _))).below hb); have hK1 := Aside0.mk ((hK9.out.drew).below hb); have hL1 := Aside0.mk ((below_drew hL9.out).trans (hb.mono (Nat.le_trans hB hL9.out.size))); have hI1 := Aside0.mk (blk_below (blk_drew hI9.out) hb); have hi1 := blk_cell hI1.out; clear hb; have q1 : w1.cell? ⟨g, 7 + d * 2, none⟩ = some (.int .i64 (s9.reg d).f0) := (hM1.out.cell _ (by omega)).trans (congrArg some (mcell_regV s9 vt _ vm vp d (by omega))); have q2 : w1.cell? ⟨g, 7 + d * 2 + 1, none⟩ = some (.bool (s9.reg d).f1) := (hM1.out.cell _ (by omega)).trans (congrArg some (mcell_regC s9 vt _ vm vp d (by omega))); have p1 : w1.frozen? ⟨g, 7 + d * 2, none⟩ = false := hM1.out.frozen _; have p2 : w1.frozen? ⟨g, 7 + d * 2 + 1, none⟩ = false := hM1.out.frozen _; have hM2 : Aside0 (Mach B ((w1.setCell ⟨g, 7 + d * 2, none⟩ (.int .i64 (rd s.tape s.taken))).setCell ⟨g, 7 + d * 2 + 1, none⟩ (.bool false)) g O vt _ _ _ (s9.put d ⟨rd s.tape s.taken, false⟩)) := ⟨hM1.out.putReg d hd ⟨rd s.tape s.taken, false⟩⟩; have d2 : ((w1.setCell ⟨g, 7 + d * 2, none⟩ (.int .i64 (rd s.tape s.taken))).setCell ⟨g, 7 + d * 2 + 1, none⟩ (.bool false)).cell? ⟨g, 2, none⟩ = some (.int .i64 s9.place) := hM2.out.cell 2 (by decide); have hI2 := Aside0.mk (blk_far (blk_far hI1.out (p := ⟨g, 7 + d * 2, none⟩) hne (.int .i64 (rd s.tape s.taken))) (p := ⟨g, 7 + d * 2 + 1, none⟩) hne (.bool false)); have hi2 : ∀ j, ((w1.setCell ⟨g, 7 + d * 2, none⟩ (.int .i64 (rd s.tape s.taken))).setCell ⟨g, 7 + d * 2 + 1, none⟩ (.bool false)).cell? ⟨w.heap.size, j, none⟩ = _ := blk_cell hI2.out; have hK2 : Aside0 (Kept w ((w1.setCell ⟨g, 7 + d * 2, none⟩ (.int .i64 (rd s.tape s.taken))).setCell ⟨g, 7 + d * 2 + 1, none⟩ (.bool false)) O) := ⟨(hK1.out.setCell (p := ⟨g, 7 + d * 2, none⟩) (.inl hM1.out.own) (.int .i64 (rd s.tape s.taken))).setCell (p := ⟨g, 7 + d * 2 + 1, none⟩) (.inl hM1.out.own) (.bool false)⟩; have hL2 : Aside0 (Below B w ((w1.setCell ⟨g, 7 + d * 2, none⟩ (.int .i64 (rd s.tape s.taken))).setCell ⟨g, 7 + d * 2 + 1, none⟩ (.bool false))) := ⟨(hL1.out.setCell (p := ⟨g, 7 + d * 2, none⟩) (hM1.out.low g hM1.out.own) (.int .i64 (rd s.tape s.taken))).setCell (p := ⟨g, 7 + d * 2 + 1, none⟩) (hM1.out.low g hM1.out.own) (.bool false)⟩)
    all_goals (try go_wp2)
    all_goals go_ret
    all_goals subst hs9
    all_goals exact ⟨rfl, hM2.out.after hB hK2.out hL2.out⟩
  · have d1 : decide (s.taken < (s.tape.length : Int)) = false := decide_eq_false hlt
    rw [if_neg hlt]
    go_wp2
    go_region
    go_wp2
    obtain ⟨s9, hs9⟩ : ∃ s9 : MS, s9 = s := ⟨_, rfl⟩
    have hM9 : Aside0 (Mach B ((World.drew (w.alloc (.cells #[.int .i8 op, .int .i8 d, .int .i8 a, .int .i8 b, .int .i64 n] 36)))) g O vt _ vm vp s9) := ⟨hs9 ▸ hM.out.below (below_drew (Below.refl _ _))⟩
    have hK9 : Aside0 (Kept w ((World.drew (w.alloc (.cells #[.int .i8 op, .int .i8 d, .int .i8 a, .int .i8 b, .int .i64 n] 36)))) O) := ⟨hK.out.drew⟩
    have hL9 : Aside0 (Below B w ((World.drew (w.alloc (.cells #[.int .i8 op, .int .i8 d, .int .i8 a, .int .i8 b, .int .i64 n] 36))))) := ⟨below_drew hL.out⟩
    have hI9 : Aside0 (((World.drew (w.alloc (.cells #[.int .i8 op, .int .i8 d, .int .i8 a, .int .i8 b, .int .i64 n] 36)))).heap[w.heap.size]? = some (.cells #[.int .i8 op, .int .i8 d, .int .i8 a, .int .i8 b, .int .i64 n] 36)) := ⟨blk_drew hI.out⟩
    clear hM hK hL hI hi c2 c5 c6 f2 f5 f6 rv_d rk_d rfv_d rfk_d
    revert hM9 hK9 hL9 hI9
    generalize (World.drew (w.alloc (.cells #[.int .i8 op, .int .i8 d, .int .i8 a, .int .i8 b, .int .i64 n] 36))) = w9
    intro hM9 hK9 hL9 hI9
    have hi9 := blk_cell hI9.out
    have e2 : w9.cell? ⟨g, 2, none⟩ = some (.int .i64 s9.place) := hM9.out.cell 2 (by decide)
    have qv : w9.cell? ⟨g, 7 + d * 2, none⟩ = some (.int .i64 (s9.reg d).f0) := (hM9.out.cell (7 + d * 2) (by omega)).trans (congrArg some (mcell_regV s9 _ _ _ _ d hd))
    have qk : w9.cell? ⟨g, 7 + d * 2 + 1, none⟩ = some (.bool (s9.reg d).f1) := (hM9.out.cell (7 + d * 2 + 1) (by omega)).trans (congrArg some (mcell_regC s9 _ _ _ _ d hd))
    have qf1 : w9.frozen? ⟨g, 7 + d * 2, none⟩ = false := hM9.out.frozen _
    have qf2 : w9.frozen? ⟨g, 7 + d * 2 + 1, none⟩ = false := hM9.out.frozen _
    go_region_with (go_at_call 101; refine (word_Plain.calls (0) (0) false _ rfl).mono ?_; rintro e w1 ⟨rfl, hb⟩; have hM1 := Aside0.mk ((hM9.out.below (below_drew (Below.refl _ _))).below hb); have hK1 := Aside0.mk ((hK9.out.drew).below hb); have hL1 := Aside0.mk ((below_drew hL9.out).trans (hb.mono (Nat.le_trans hB hL9.out.size))); have hI1 := Aside0.mk (blk_below (blk_drew hI9.out) hb); have hi1 := blk_cell hI1.out; clear hb; have q1 : w1.cell? ⟨g, 7 + d * 2, none⟩ = some (.int .i64 (s9.reg d).f0) := (hM1.out.cell _ (by omega)).trans (congrArg some (mcell_regV s9 vt _ vm vp d (by omega))); have q2 : w1.cell? ⟨g, 7 + d * 2 + 1, none⟩ = some (.bool (s9.reg d).f1) := (hM1.out.cell _ (by omega)).trans (congrArg some (mcell_regC s9 vt _ vm vp d (by omega))); have p1 : w1.frozen? ⟨g, 7 + d * 2, none⟩ = false := hM1.out.frozen _; have p2 : w1.frozen? ⟨g, 7 + d * 2 + 1, none⟩ = false := hM1.out.frozen _; have hM2 : Aside0 (Mach B ((w1.setCell ⟨g, 7 + d * 2, none⟩ (.int .i64 (0))).setCell ⟨g, 7 + d * 2 + 1, none⟩ (.bool false)) g O vt _ _ _ (s9.put d ⟨0, false⟩)) := ⟨hM1.out.putReg d hd ⟨0, false⟩⟩; have d2 : ((w1.setCell ⟨g, 7 + d * 2, none⟩ (.int .i64 (0))).setCell ⟨g, 7 + d * 2 + 1, none⟩ (.bool false)).cell? ⟨g, 2, none⟩ = some (.int .i64 s9.place) := hM2.out.cell 2 (by decide); have hI2 := Aside0.mk (blk_far (blk_far hI1.out (p := ⟨g, 7 + d * 2, none⟩) hne (.int .i64 (0))) (p := ⟨g, 7 + d * 2 + 1, none⟩) hne (.bool false)); have hi2 : ∀ j, ((w1.setCell ⟨g, 7 + d * 2, none⟩ (.int .i64 (0))).setCell ⟨g, 7 + d * 2 + 1, none⟩ (.bool false)).cell? ⟨w.heap.size, j, none⟩ = _ := blk_cell hI2.out; have hK2 : Aside0 (Kept w ((w1.setCell ⟨g, 7 + d * 2, none⟩ (.int .i64 (0))).setCell ⟨g, 7 + d * 2 + 1, none⟩ (.bool false)) O) := ⟨(hK1.out.setCell (p := ⟨g, 7 + d * 2, none⟩) (.inl hM1.out.own) (.int .i64 (0))).setCell (p := ⟨g, 7 + d * 2 + 1, none⟩) (.inl hM1.out.own) (.bool false)⟩; have hL2 : Aside0 (Below B w ((w1.setCell ⟨g, 7 + d * 2, none⟩ (.int .i64 (0))).setCell ⟨g, 7 + d * 2 + 1, none⟩ (.bool false))) := ⟨(hL1.out.setCell (p := ⟨g, 7 + d * 2, none⟩) (hM1.out.low g hM1.out.own) (.int .i64 (0))).setCell (p := ⟨g, 7 + d * 2 + 1, none⟩) (hM1.out.low g hM1.out.own) (.bool false)⟩)
    all_goals (try go_wp2)
    all_goals go_ret
    all_goals subst hs9
    all_goals exact ⟨rfl, hM2.out.after hB hK2.out hL2.out⟩

set_option maxRecDepth 100000 in
set_option maxHeartbeats 4000000 in
theorem mach_out {B g : Nat} {w : World} {O : Nat → Prop} {vt va vm vp : Value} {s : MS} (h : Mach B w g O vt va vm vp s) (op d a b : Nat) (n : Int) (hB : B ≤ w.heap.size) (ha : a < 16) (hpl : (s.ports.length + 1) * 16 ≤ 140737488355328) :
    Calls Try.prog 123 #[.pointer (some ⟨g, 0, none⟩), .agg #[.int .i8 op, .int .i8 d, .int .i8 a, .int .i8 b, .int .i64 n]] w fun e w' => e = MOut (if (s.reg a).f1 = true then .error 4 else .ok (wrap64 (s.place + 1))) ∧ MAfter B g w O vt va (if (s.reg a).f1 = true then s else { s with ports := s.ports ++ [⟨n, (s.reg a).f0⟩] }) w' := by
  obtain ⟨Ap, cp, rfl, hlp, hCp⟩ := Kd.R_reads h.ports; clear hlp hCp
  have hM := Aside0.mk (h.below (below_alloc (Below.refl w.heap.size w) (.cells #[.int .i8 op, .int .i8 d, .int .i8 a, .int .i8 b, .int .i64 n] 36)))
  have hK := Aside0.mk (Kept.alloc (Kept.refl w O) (.cells #[.int .i8 op, .int .i8 d, .int .i8 a, .int .i8 b, .int .i64 n] 36))
  have hL := Aside0.mk ((Below.refl B w).alloc hB (.cells #[.int .i8 op, .int .i8 d, .int .i8 a, .int .i8 b, .int .i64 n] 36))
  have hI := Aside0.mk (blk_new w (.cells #[.int .i8 op, .int .i8 d, .int .i8 a, .int .i8 b, .int .i64 n] 36))
  have hi := blk_cell hI.out
  have hne : w.heap.size ≠ g := fun e => absurd (h.lt g h.own) (by omega)
  have c2 : (w.alloc (.cells #[.int .i8 op, .int .i8 d, .int .i8 a, .int .i8 b, .int .i64 n] 36)).cell? ⟨g, 2, none⟩ = some (.int .i64 s.place) := hM.out.cell 2 (by decide)
  have f2 : (w.alloc (.cells #[.int .i8 op, .int .i8 d, .int .i8 a, .int .i8 b, .int .i64 n] 36)).frozen? ⟨g, 2, none⟩ = false := hM.out.frozen 2
  have c40 : (w.alloc (.cells #[.int .i8 op, .int .i8 d, .int .i8 a, .int .i8 b, .int .i64 n] 36)).cell? ⟨g, 40, none⟩ = some (.slice Ap s.ports.length cp) := hM.out.cell 40 (by decide)
  have f40 : (w.alloc (.cells #[.int .i8 op, .int .i8 d, .int .i8 a, .int .i8 b, .int .i64 n] 36)).frozen? ⟨g, 40, none⟩ = false := hM.out.frozen 40
  have ia : ((a : Nat) : Int) < 16 := by omega
  have hu := Try.underlying111
  have hu2 := Try.underlying107
  have hu3 := Try.underlying106
  have hu4 := Try.underlying36
  clear h
  go_enter Try.func123, Try.ntmps123
  by_cases hs : (s.reg a).f1 = true
  · rw [if_pos hs, if_pos hs]
    go_wp2
    refine Code.wp_mono (Q := fun e a w' => e = .panic [{ v := .iface 171 (.int .i8 4), recovered := false }] ∧ a.defers = [] ∧ MAfter B g w O vt va s w') (fun e a w' h => by obtain ⟨rfl, hd, h⟩ := h; exact ⟨hd, rfl, h⟩) ?_
    refine start_ (n := 17) (S := fun w' => w'.cell? ⟨w.heap.size, 2, none⟩ = some (.int .i8 a) ∧ w'.cell? ⟨w.heap.size, 4, none⟩ = some (.int .i64 n) ∧ w'.cell? ⟨g, 40, none⟩ = some (.slice Ap s.ports.length cp)) (ds := [13, 16]) #[false, false, false, false, false, false, false, false, false, false, false, false, false, false, false, false, false] (by kernel_rfl) rfl rfl ⟨(blk_cell (blk_drew hI.out) 2).trans rfl, (blk_cell (blk_drew hI.out) 4).trans rfl, (hM.out.below (below_drew (Below.refl _ _))).cell 40 (by decide)⟩ (fun hHeld => ?_)
    refine zPu (hQ := fun _ _ _ h => ⟨h.1, (put_defers _ _ _).symm.trans h.2.1, h.2.2⟩) (N := some 5) 0 ?_
    refine zPu (hQ := fun _ _ _ h => ⟨h.1, (put_defers _ _ _).symm.trans h.2.1, h.2.2⟩) (N := some 6) 1 ?_
    refine zPu (hQ := fun _ _ _ h => ⟨h.1, (put_defers _ _ _).symm.trans h.2.1, h.2.2⟩) (N := some 7) 2 ?_
    refine zPu (hQ := fun _ _ _ h => ⟨h.1, (put_defers _ _ _).symm.trans h.2.1, h.2.2⟩) (N := some 8) 3 ?_
    refine zTa (hQ := fun _ _ _ h => ⟨h.1, (put_defers _ _ _).symm.trans h.2.1, h.2.2⟩) (N := some 9) 4 hHeld ?_
    refine zPu (hQ := fun _ _ _ h => ⟨h.1, (put_defers _ _ _).symm.trans h.2.1, h.2.2⟩) (N := some 10) 5 ?_
    refine zTa (hQ := fun _ _ _ h => ⟨h.1, (put_defers _ _ _).symm.trans h.2.1, h.2.2⟩) (N := some 11) 6 hHeld ?_
    refine zPu (hQ := fun _ _ _ h => ⟨h.1, (put_defers _ _ _).symm.trans h.2.1, h.2.2⟩) (N := some 12) 7 ?_
    refine zPu (hQ := fun _ _ _ h => ⟨h.1, (put_defers _ _ _).symm.trans h.2.1, h.2.2⟩) (N := some 13) 8 ?_
    refine zTa (hQ := fun _ _ _ h => ⟨h.1, (put_defers _ _ _).symm.trans h.2.1, h.2.2⟩) (N := some 14) 9 hHeld ?_
    refine zOn (N := some 15) 10 (fun KK hKK => ?_)
    refine callp_ 137 #[.pointer (some ⟨g, 0, none⟩), .int .i8 a] (by rfl) (by go_simp) ?_
    refine (mach_plain (hM.out.below (below_drew (Below.refl _ _))) a ha).mono ?_
    rintro e w' ⟨he, hw'⟩
    obtain rfl := hw'.symm
    rw [if_pos hs] at he
    exact ⟨_, he, rfl, rfl, (hM.out.below (below_drew (Below.refl _ _))).after hB hK.out.drew (below_drew hL.out)⟩
  · rw [if_neg hs, if_neg hs]
    go_wp2
    refine wp_only ?_
    refine start_ (n := 17) (S := fun w' => w'.cell? ⟨w.heap.size, 2, none⟩ = some (.int .i8 a) ∧ w'.cell? ⟨w.heap.size, 4, none⟩ = some (.int .i64 n) ∧ w'.cell? ⟨g, 40, none⟩ = some (.slice Ap s.ports.length cp)) (ds := [13, 16]) #[false, false, false, false, false, false, false, false, false, false, false, false, false, false, false, false, false] (by kernel_rfl) rfl rfl ⟨(blk_cell (blk_drew hI.out) 2).trans rfl, (blk_cell (blk_drew hI.out) 4).trans rfl, (hM.out.below (below_drew (Below.refl _ _))).cell 40 (by decide)⟩ (fun hHeld => ?_)
    refine zPu (N := some 5) 0 ?_
    refine zPu (N := some 6) 1 ?_
    refine zPu (N := some 7) 2 ?_
    refine zPu (N := some 8) 3 ?_
    refine zTa (N := some 9) 4 hHeld ?_
    refine zPu (N := some 10) 5 ?_
    refine zTa (N := some 11) 6 hHeld ?_
    refine zPu (N := some 12) 7 ?_
    refine zPu (N := some 13) 8 ?_
    refine zTa (N := some 14) 9 hHeld ?_
    refine zOn (N := some 15) 10 (fun KK hKK => ?_)
    refine zCl (N := some 15) 137 #[.pointer (some ⟨g, 0, none⟩), .int .i8 a] ?_
    refine (mach_plain (hM.out.below (below_drew (Below.refl _ _))) a ha).mono ?_
    rintro e w' ⟨he, hw'⟩
    obtain rfl := hw'.symm
    rw [if_neg hs] at he
    refine ⟨_, he, hKK.out _ _ hHeld (fun hHeld2 => ?_)⟩
    clear hKK KK hHeld2
    refine zNo ?_
    refine zPu (N := some 16) 11 ?_
    have hMd := Aside0.mk (hM.out.below (below_drew (Below.refl _ _))); have hKd := Aside0.mk hK.out.drew; have hLd := Aside0.mk (below_drew hL.out); have hId := Aside0.mk (blk_drew hI.out)
    have hBd := Aside0.mk (Nat.le_trans hB hLd.out.size)
    clear hM hK hL hI hi hHeld c2 c40 f2 f40
    revert hMd hKd hLd hId hBd
    generalize World.drew (w.alloc (.cells #[.int .i8 op, .int .i8 d, .int .i8 a, .int .i8 b, .int .i64 n] 36)) = wd
    intro hMd hKd hLd hId hBd
    refine zOn (N := some 17) 12 (fun KK hKK => ?_)
    refine zEv (W := wd) (v := .slice (some ⟨wd.heap.size, 0, none⟩) 1 1) (w1 := wd.alloc (.cells #[.int .i64 n, .int .i64 (s.reg a).f0] 161)) ?_
    refine hKK.out _ _ ⟨(blk_cell (blk_alloc hId.out _) 2).trans rfl, (blk_cell (blk_alloc hId.out _) 4).trans rfl, (hMd.out.below (below_alloc (Below.refl _ _) _)).cell 40 (by decide)⟩ (fun hHeld3 => ?_)
    clear hKK KK hHeld3
    refine zNo ?_
    refine zLa (N := some 18) 13 (fun KK hKK => ?_)
    refine Kd.R_append_step k161 (w0 := wd) B rfl (.tmp 9) (.tmp 17) 102 161 (.agg #[.int .i64 0, .int .i64 0]) 16 rfl Try.underlying102 infoMP rfl (by decide) (by omega) (.slice Ap s.ports.length cp) s.ports ⟨n, (s.reg a).f0⟩ [.int .i64 n, .int .i64 (s.reg a).f0] (fun k => O k ∨ wd.heap.size ≤ k) (fun _ => False) rfl rfl (k161_mkM _ _ _ _) (fun _ hk => hk.elim) (fun _ hk => .inr hk) (Kd.R_mono hMd.out.ports (fun _ hk => .inl hk)) (Below.refl _ _) hBd.out (by omega) ?_
    intro v1 w4 ho hb hg hat
    have hsl := Kd.R_slice ho
    have hMA := Aside0.mk (hMd.out.app hB hKd.out hLd.out ho hg hb)
    have hbg := Aside0.mk (blk_grown hMd.out.blk hg (Kd.R_ne hMd.out.ports hMd.out.blk (by decide)))
    have hIg := Aside0.mk (blk_grown hId.out hg (Kd.R_ne hMd.out.ports hId.out (by decide)))
    clear ho hb hg hat hMd hKd hLd hId hBd
    refine hKK.out _ _ ?_
    clear hKK KK
    refine zNo ?_
    refine zPu (N := some 19) 14 ?_
    refine zPu (N := some 20) 15 ?_
    refine zLa (N := none) 16 (fun KK hKK => ?_)
    have hc4 := (blk_cell hbg.out 40).trans (mrow_at _ 40 (by decide)); have hf4 := blk_frozen hbg.out
    obtain ⟨Ao, co, eo⟩ : ∃ A c, v1 = .slice A (s.ports ++ [(⟨n, (s.reg a).f0⟩ : S161)]).length c := hsl
    subst eo
    refine zSt (w1 := w4.setCell ⟨g, 40, none⟩ (.slice Ao (s.ports ++ [(⟨n, (s.reg a).f0⟩ : S161)]).length co)) ?_
    refine hKK.out _ _ ?_
    clear hKK KK hc4 hf4
    refine zDo ⟨rfl, ?_⟩
    obtain ⟨vm9, vp9, hM9, hK9, hL9⟩ := hMA.out
    clear hMA hbg hIg
    revert hM9 hK9 hL9
    generalize w4.setCell ⟨g, 40, none⟩ (.slice Ao (s.ports ++ [(⟨n, (s.reg a).f0⟩ : S161)]).length co) = w9
    intro hM9 hK9 hL9
    have d2 : w9.cell? ⟨g, 2, none⟩ = some (.int .i64 s.place) := hM9.cell 2 (by decide)
    go_wp2
    go_ret
    exact ⟨rfl, vm9, vp9, hM9, hK9, hL9⟩

set_option maxRecDepth 100000 in
set_option maxHeartbeats 4000000 in
theorem mach_trap {B g : Nat} {w : World} {O : Nat → Prop} {vt va vm vp : Value} {s : MS} (h : Mach B w g O vt va vm vp s) (op d a b : Nat) (n : Int) (hB : B ≤ w.heap.size) :
    Calls Try.prog 117 #[.pointer (some ⟨g, 0, none⟩), .agg #[.int .i8 op, .int .i8 d, .int .i8 a, .int .i8 b, .int .i64 n]] w fun e w' => e = MOut (.error 2) ∧ MAfter B g w O vt va (s) w' := by
  have hM := Aside0.mk (h.below (below_alloc (Below.refl w.heap.size w) (.cells #[.int .i8 op, .int .i8 d, .int .i8 a, .int .i8 b, .int .i64 n] 36)))
  have hK := Aside0.mk (Kept.alloc (Kept.refl w O) (.cells #[.int .i8 op, .int .i8 d, .int .i8 a, .int .i8 b, .int .i64 n] 36))
  have hL := Aside0.mk ((Below.refl B w).alloc hB (.cells #[.int .i8 op, .int .i8 d, .int .i8 a, .int .i8 b, .int .i64 n] 36))
  have hI := Aside0.mk (blk_new w (.cells #[.int .i8 op, .int .i8 d, .int .i8 a, .int .i8 b, .int .i64 n] 36))
  have hi := blk_cell hI.out
  have hne : w.heap.size ≠ g := fun e => absurd (h.lt g h.own) (by omega)
  have hu := Try.underlying111
  have hu2 := Try.underlying107
  have hu3 := Try.underlying106
  have hu4 := Try.underlying36
  clear h
  go_enter Try.func117, Try.ntmps117
  go_wp2
  exact ⟨rfl, rfl, hM.out.after hB hK.out hL.out⟩

/-- What one instruction does: the state behind it, and the next place or the fault. None: outside of what is looked at. -/
def mexec (s : MS) (op d a b : Nat) (n : Int) : Option (MS × Except Int Int) :=
  match op with
  | 0 => some (s, .error 2)
  | 1 => some (s.put d ⟨n, false⟩, .ok (wrap64 (s.place + 1)))
  | 2 => some (s.put d (s.reg a), .ok (wrap64 (s.place + 1)))
  | 11 => (word_Address.f (s.reg a).f0 (s.reg a).f1 n s.mem.length).bind fun r => if r.2 = 0 then (if 0 ≤ r.1 ∧ r.1 < s.mem.length then some (s.put d (rd_T106 s.mem r.1), .ok (wrap64 (s.place + 1))) else none) else some (s, .error r.2)
  | 12 => (word_Address.f (s.reg a).f0 (s.reg a).f1 n s.mem.length).bind fun r => if r.2 = 0 then (if 0 ≤ r.1 ∧ r.1 < s.mem.length then some ({ s with mem := s.mem.set r.1.toNat (s.reg b) }, .ok (wrap64 (s.place + 1))) else none) else some (s, .error r.2)
  | 13 => if 0 ≤ s.taken then (if s.taken < s.tape.length then some (({ s with taken := wrap64 (s.taken + 1) } : MS).put d ⟨rd s.tape s.taken, false⟩, .ok (wrap64 (s.place + 1))) else some (s.put d ⟨0, false⟩, .ok (wrap64 (s.place + 1)))) else none
  | 14 => if (s.ports.length + 1) * 16 ≤ 140737488355328 then (if (s.reg a).f1 = true then some (s, .error 4) else some ({ s with ports := s.ports ++ [⟨n, (s.reg a).f0⟩] }, .ok (wrap64 (s.place + 1)))) else none
  | 15 => some (s, .ok n)
  | 16 => some (s, if (s.reg a).f1 = true then .error 4 else .ok (if (s.reg a).f0 = 0 then n else wrap64 (s.place + 1)))
  | 17 => some (s.put 15 ⟨wrap64 (s.place + 1), true⟩, .ok n)
  | 18 => if (s.reg a).f1 = true then some (s.put 15 ⟨wrap64 (s.place + 1), true⟩, .ok (s.reg a).f0) else some (s, .error 4)
  | 19 => some (s, if (s.reg a).f1 = true then .ok (s.reg a).f0 else .error 4)
  | 20 => some (s.put d ⟨n, true⟩, .ok (wrap64 (s.place + 1)))
  | 21 => some ({ s with status := 1 }, .ok s.place)
  | _ => (word_Calc.f op (s.reg a).f0 (s.reg a).f1 (s.reg b).f0 (s.reg b).f1).bind fun r => if r.2.2 = 0 then some (s.put d ⟨r.1, r.2.1⟩, .ok (wrap64 (s.place + 1))) else some (s, .error r.2.2)
/-- Behind an instruction: one step more, and its place; or the fault. -/
def mland (r : MS × Except Int Int) : MS :=
  match r.2 with
  | .ok n => { r.1 with steps := wrap64 (r.1.steps + 1), place := n }
  | .error f => { r.1 with status := f }
/-- One step of a machine that runs. -/
def mstep (k : Nat) (s : MS) : Option MS :=
  if (s.text.length : Int) ≤ s.place then some { s with status := 2 } else if s.place < 0 then none else
  (isa_Decode.f k (rd s.text s.place)).bind fun i => if i.1 < 0 then some { s with status := 3 } else
    if i.1 < 22 ∧ 0 ≤ i.2.1 ∧ i.2.1 < 16 ∧ 0 ≤ i.2.2.1 ∧ i.2.2.1 < 16 ∧ 0 ≤ i.2.2.2.1 ∧ i.2.2.2.1 < 16 then (mexec s i.1.toNat i.2.1.toNat i.2.2.1.toNat i.2.2.2.1.toNat i.2.2.2.2).bind fun r => some (mland r) else none
theorem mstep_mono (s : MS) (k : Nat) : LeO (mstep k s) (mstep (k + 1) s) :=
  LeO.ite (LeO.refl _) (LeO.ite (LeO.refl _) (LeO.bind (isa_Decode.mono _ _) (fun _ => LeO.refl _)))
theorem mach_exec {B g : Nat} {w : World} {O : Nat → Prop} {vt va vm vp : Value} {s : MS} (h : Mach B w g O vt va vm vp s) (op d a b : Nat) (n : Int) (hB : B ≤ w.heap.size) (hop : op < 22) (hd : d < 16) (ha : a < 16) (hb : b < 16) (s' : MS) (o : Except Int Int) (he : mexec s op d a b n = some (s', o)) :
    Calls Try.prog (mdoes op) #[.pointer (some ⟨g, 0, none⟩), .agg #[.int .i8 op, .int .i8 d, .int .i8 a, .int .i8 b, .int .i64 n]] w fun e w' => e = MOut o ∧ MAfter B g w O vt va s' w' := by
  have hc : op = 0 ∨ op = 1 ∨ op = 2 ∨ (3 ≤ op ∧ op ≤ 10) ∨ op = 11 ∨ op = 12 ∨ op = 13 ∨ op = 14 ∨ op = 15 ∨ op = 16 ∨ op = 17 ∨ op = 18 ∨ op = 19 ∨ op = 20 ∨ op = 21 := by omega
  rcases hc with rfl | rfl | rfl | hc | rfl | rfl | rfl | rfl | rfl | rfl | rfl | rfl | rfl | rfl | rfl
  · obtain ⟨rfl, rfl⟩ := Prod.mk.inj (Option.some.inj he); exact mach_trap h _ _ _ _ _ hB
  · obtain ⟨rfl, rfl⟩ := Prod.mk.inj (Option.some.inj he); exact mach_set h _ _ _ _ _ hB hd
  · obtain ⟨rfl, rfl⟩ := Prod.mk.inj (Option.some.inj he); exact mach_move h _ _ _ _ _ hB hd ha
  · have hdo : mdoes op = 131 := by
      have : op = 3 ∨ op = 4 ∨ op = 5 ∨ op = 6 ∨ op = 7 ∨ op = 8 ∨ op = 9 ∨ op = 10 := by omega
      rcases this with rfl | rfl | rfl | rfl | rfl | rfl | rfl | rfl <;> rfl
    have he2 : ((word_Calc.f op (s.reg a).f0 (s.reg a).f1 (s.reg b).f0 (s.reg b).f1).bind fun r => if r.2.2 = 0 then some (s.put d ⟨r.1, r.2.1⟩, Except.ok (wrap64 (s.place + 1))) else some (s, Except.error r.2.2)) = some (s', o) := by
      have : op = 3 ∨ op = 4 ∨ op = 5 ∨ op = 6 ∨ op = 7 ∨ op = 8 ∨ op = 9 ∨ op = 10 := by omega
      rcases this with rfl | rfl | rfl | rfl | rfl | rfl | rfl | rfl <;> exact he
    obtain ⟨⟨r1, r2, r3⟩, hr, he3⟩ := Option.bind_eq_some_iff.1 he2
    rw [hdo]
    refine (mach_calc h op d a b n hB hd ha hb r1 r2 r3 hr).mono ?_
    rintro e w' ⟨rfl, hm⟩
    dsimp only at he3
    by_cases hz : r3 = 0
    · rw [if_pos hz] at he3 hm ⊢; obtain ⟨rfl, rfl⟩ := Prod.mk.inj (Option.some.inj he3); exact ⟨rfl, hm⟩
    · rw [if_neg hz] at he3 hm ⊢; obtain ⟨rfl, rfl⟩ := Prod.mk.inj (Option.some.inj he3); exact ⟨rfl, hm⟩
  · obtain ⟨⟨r1, r2⟩, hr, he3⟩ := Option.bind_eq_some_iff.1 he
    dsimp only at he3
    by_cases hz : r2 = 0
    · rw [if_pos hz] at he3
      by_cases hi : 0 ≤ r1 ∧ r1 < s.mem.length
      · rw [if_pos hi] at he3
        obtain ⟨rfl, rfl⟩ := Prod.mk.inj (Option.some.inj he3)
        refine (mach_load h 11 d a b n hB hd ha r1 r2 hr (fun _ => hi)).mono ?_
        rintro e w' ⟨rfl, hm⟩
        rw [if_pos hz] at hm ⊢
        exact ⟨rfl, hm⟩
      · rw [if_neg hi] at he3; cases he3
    · rw [if_neg hz] at he3
      obtain ⟨rfl, rfl⟩ := Prod.mk.inj (Option.some.inj he3)
      refine (mach_load h 11 d a b n hB hd ha r1 r2 hr (fun h0 => absurd h0 hz)).mono ?_
      rintro e w' ⟨rfl, hm⟩
      rw [if_neg hz] at hm ⊢
      exact ⟨rfl, hm⟩
  · obtain ⟨⟨r1, r2⟩, hr, he3⟩ := Option.bind_eq_some_iff.1 he
    dsimp only at he3
    by_cases hz : r2 = 0
    · rw [if_pos hz] at he3
      by_cases hi : 0 ≤ r1 ∧ r1 < s.mem.length
      · rw [if_pos hi] at he3
        obtain ⟨rfl, rfl⟩ := Prod.mk.inj (Option.some.inj he3)
        refine (mach_store h 12 d a b n hB ha hb r1 r2 hr (fun _ => hi)).mono ?_
        rintro e w' ⟨rfl, hm⟩
        rw [if_pos hz] at hm ⊢
        exact ⟨rfl, hm⟩
      · rw [if_neg hi] at he3; cases he3
    · rw [if_neg hz] at he3
      obtain ⟨rfl, rfl⟩ := Prod.mk.inj (Option.some.inj he3)
      refine (mach_store h 12 d a b n hB ha hb r1 r2 hr (fun h0 => absurd h0 hz)).mono ?_
      rintro e w' ⟨rfl, hm⟩
      rw [if_neg hz] at hm ⊢
      exact ⟨rfl, hm⟩
  · have he2 : (if 0 ≤ s.taken then (if s.taken < s.tape.length then some (({ s with taken := wrap64 (s.taken + 1) } : MS).put d ⟨rd s.tape s.taken, false⟩, Except.ok (wrap64 (s.place + 1))) else some (s.put d ⟨0, false⟩, Except.ok (wrap64 (s.place + 1)))) else none) = some (s', o) := he
    by_cases ht : 0 ≤ s.taken
    · rw [if_pos ht] at he2
      refine (mach_in h 13 d a b n hB hd ht).mono ?_
      rintro e w' ⟨rfl, hm⟩
      by_cases hl : s.taken < s.tape.length
      · rw [if_pos hl] at he2 hm; obtain ⟨rfl, rfl⟩ := Prod.mk.inj (Option.some.inj he2); exact ⟨rfl, hm⟩
      · rw [if_neg hl] at he2 hm; obtain ⟨rfl, rfl⟩ := Prod.mk.inj (Option.some.inj he2); exact ⟨rfl, hm⟩
    · rw [if_neg ht] at he2; cases he2
  · have he2 : (if (s.ports.length + 1) * 16 ≤ 140737488355328 then (if (s.reg a).f1 = true then some (s, Except.error 4) else some ({ s with ports := s.ports ++ [⟨n, (s.reg a).f0⟩] }, Except.ok (wrap64 (s.place + 1)))) else none) = some (s', o) := he
    by_cases hp : (s.ports.length + 1) * 16 ≤ 140737488355328
    · rw [if_pos hp] at he2
      refine (mach_out h 14 d a b n hB ha hp).mono ?_
      rintro e w' ⟨rfl, hm⟩
      by_cases hs : (s.reg a).f1 = true
      · rw [if_pos hs] at he2 hm ⊢; obtain ⟨rfl, rfl⟩ := Prod.mk.inj (Option.some.inj he2); exact ⟨rfl, hm⟩
      · rw [if_neg hs] at he2 hm ⊢; obtain ⟨rfl, rfl⟩ := Prod.mk.inj (Option.some.inj he2); exact ⟨rfl, hm⟩
    · rw [if_neg hp] at he2; cases he2
  · obtain ⟨rfl, rfl⟩ := Prod.mk.inj (Option.some.inj he); exact mach_jump h _ _ _ _ _ hB
  · obtain ⟨rfl, rfl⟩ := Prod.mk.inj (Option.some.inj he); exact mach_zero h _ _ _ _ _ hB ha
  · obtain ⟨rfl, rfl⟩ := Prod.mk.inj (Option.some.inj he)
    refine (mach_call h 17 d a b n hB).mono ?_
    rintro e w' ⟨rfl, hm⟩
    rw [i64_w] at hm
    exact ⟨rfl, hm⟩
  · have he2 : (if (s.reg a).f1 = true then some (s.put 15 ⟨wrap64 (s.place + 1), true⟩, Except.ok (s.reg a).f0) else some (s, Except.error 4)) = some (s', o) := he
    refine (mach_calls h 18 d a b n hB ha).mono ?_
    rintro e w' ⟨rfl, hm⟩
    rw [i64_w] at hm
    by_cases hs : (s.reg a).f1 = true
    · rw [if_pos hs] at he2 hm ⊢; obtain ⟨rfl, rfl⟩ := Prod.mk.inj (Option.some.inj he2); exact ⟨rfl, hm⟩
    · rw [if_neg hs] at he2 hm ⊢; obtain ⟨rfl, rfl⟩ := Prod.mk.inj (Option.some.inj he2); exact ⟨rfl, hm⟩
  · obtain ⟨rfl, rfl⟩ := Prod.mk.inj (Option.some.inj he); exact mach_goes h _ _ _ _ _ hB ha
  · obtain ⟨rfl, rfl⟩ := Prod.mk.inj (Option.some.inj he); exact mach_seal h _ _ _ _ _ hB hd
  · obtain ⟨rfl, rfl⟩ := Prod.mk.inj (Option.some.inj he); exact mach_halt h _ _ _ _ _ hB
/-! ### the step -/
set_option maxHeartbeats 4000000 in
set_option maxRecDepth 100000 in
theorem mcatch_idle (bb : Nat) (w : World) :
    CallsD Try.prog 132 #[.pointer (some ⟨bb, 0, none⟩)] .returning w fun e u' w' => e = .returned (.tuple #[]) ∧ u' = .returning ∧ w' = w := by
  refine callsD_of_wpS Try.func132 rfl fun c₀ cs hu => ?_
  simp only [Try.ntmps132, List.size_toArray, List.length_cons, List.length_nil, Nat.reduceAdd, Nat.reduceSub, Array.replicate_succ, Array.replicate_zero, List.push_toArray, List.append_toArray, List.nil_append, List.cons_append]
  apply wpS_seq
  apply wpS_region
  simp [wpOpsS, go_sem, recoverD, hu, Exit.thenS]
  refine wpS_of_wp ?_
  have hta : ∀ (W : World), (Instr.typeAssert (.nilIface) 20 171 true).run Try.prog W = .ok (.tuple #[.int .i8 0, .bool false]) W := fun W => by rfl
  go_wp2
  cases c₀
  simp_all [bodyPostS, results, Try.results132]
set_option maxHeartbeats 4000000 in
set_option maxRecDepth 100000 in
theorem mcatch_panicking {B g bb : Nat} {w : World} {O : Nat → Prop} {vt va vm vp : Value} {s : MS} (f : Int) (older : List PanicEntry) (h : Mach B w g O vt va vm vp s) (hb : w.heap[bb]? = some (.cells #[.pointer (some ⟨g, 0, none⟩)] 77 (0, 0))) :
    CallsD Try.prog 132 #[.pointer (some ⟨bb, 0, none⟩)] (.panicking ({ v := .iface 171 (.int .i8 f), recovered := false } :: older)) w fun e' u' w' =>
      e' = .returned (.tuple #[]) ∧ u' = .panicking ({ v := .iface 171 (.int .i8 f), recovered := true } :: older) ∧ w' = w.setCell ⟨g, 3, none⟩ (.int .i8 f) := by
  refine callsD_of_wpS Try.func132 rfl fun c₀ cs hu => ?_
  simp only [Try.ntmps132, List.size_toArray, List.length_cons, List.length_nil, Nat.reduceAdd, Nat.reduceSub, Array.replicate_succ, Array.replicate_zero, List.push_toArray, List.append_toArray, List.nil_append, List.cons_append]
  apply wpS_seq
  apply wpS_region
  simp [wpOpsS, go_sem, recoverD, hu, Exit.thenS]
  refine wpS_of_wp ?_
  have c0 := blk_cell hb
  have c3 : w.cell? ⟨g, 3, none⟩ = some (.int .i8 s.status) := h.cell 3 (by decide)
  have f3 := h.frozen 3
  clear h
  have hta : ∀ (v : Value) (W : World), (Instr.typeAssert (.iface 171 v) 20 171 true).run Try.prog W = .ok (.tuple #[v, .bool true]) W := fun v W => by rfl
  have hu1 := Try.underlying171
  have hu2 := Try.underlying111
  go_wp2
  exact ⟨rfl, _, rfl, .tuple #[], by simp [results, Try.results132], rfl, rfl, rfl⟩
theorem MAfter.then_ {B g : Nat} {w wq w' : World} {O : Nat → Prop} {vt va : Value} {s : MS} (h : MAfter B g wq O vt va s w') (hB : B ≤ w.heap.size) (hK : Kept w wq O) (hL : Below B w wq) : MAfter B g w O vt va s w' := by
  obtain ⟨vm, vp, hM, hk, hb⟩ := h
  have hm : ∀ k, More O wq w' k → More O w w' k := fun k hk => ⟨hk.1.elim .inl (fun h2 => .inr (Nat.le_trans hK.1 h2)), hk.2⟩
  exact ⟨vm, vp, ⟨hM.blk, hm g hM.own, fun k hk => hk.1.elim (fun ho => hM.low k ⟨.inl ho, hk.2⟩) (fun hw => Nat.le_trans hB hw), fun k hk => hk.2, Kd.R_mono hM.text hm, Kd.R_mono hM.tape hm, Kd.R_mono hM.mem hm, Kd.R_mono hM.ports hm⟩, hK.then_ hk (fun k hk => .inl hk), hL.trans hb⟩
theorem MAfter.put {B g : Nat} {w w' : World} {O : Nat → Prop} {vt va : Value} {s s' : MS} (h : MAfter B g w O vt va s w') (j : Nat) (u : Value) (hc : ∀ vm vp, (fun k => if k = j then u else mcell s vt va vm vp k) = mcell s' vt va vm vp) (e1 : s'.text = s.text) (e2 : s'.tape = s.tape) (e3 : s'.mem = s.mem) (e4 : s'.ports = s.ports) :
    MAfter B g w O vt va s' (w'.setCell ⟨g, j, none⟩ u) := by
  obtain ⟨vm, vp, hM, hk, hb⟩ := h
  have hm : ∀ k, More O w w' k → More O w (w'.setCell ⟨g, j, none⟩ u) k := fun k hk => ⟨hk.1, by simpa [World.setCell] using hk.2⟩
  have hP := hM.put j u (hc vm vp) e1 e2 e3 e4
  exact ⟨vm, vp, ⟨hP.blk, hm g hP.own, fun k hk => hP.low k ⟨hk.1, by simpa [World.setCell] using hk.2⟩, fun k hk => hk.2, Kd.R_mono hP.text hm, Kd.R_mono hP.tape hm, Kd.R_mono hP.mem hm, Kd.R_mono hP.ports hm⟩, hk.setCell (p := ⟨g, j, none⟩) hM.own.1 u, hb.setCell (p := ⟨g, j, none⟩) (hM.low g hM.own) u⟩
theorem MAfter.below {B g : Nat} {w w' w2 : World} {O : Nat → Prop} {vt va : Value} {s : MS} (h : MAfter B g w O vt va s w') (hb2 : Below w'.heap.size w' w2) (hB : B ≤ w'.heap.size) : MAfter B g w O vt va s w2 := by
  obtain ⟨vm, vp, hM, hk, hb⟩ := h
  have hm : ∀ k, More O w w' k → More O w w2 k := fun k hk => ⟨hk.1, Nat.lt_of_lt_of_le hk.2 hb2.size⟩
  have hP := hM.below hb2
  exact ⟨vm, vp, ⟨hP.blk, hm g hP.own, fun k hk => hk.1.elim (fun ho => (Nat.lt_or_ge k w'.heap.size).elim (fun h1 => hM.low k ⟨.inl ho, h1⟩) (fun h2 => Nat.le_trans hB h2)) (fun hw => (Nat.lt_or_ge k w'.heap.size).elim (fun h1 => hM.low k ⟨.inr hw, h1⟩) (fun h2 => Nat.le_trans hB h2)), fun k hk => hk.2, Kd.R_mono hP.text hm, Kd.R_mono hP.tape hm, Kd.R_mono hP.mem hm, Kd.R_mono hP.ports hm⟩, hk.below hb2, hb.trans (hb2.mono hB)⟩
theorem MAfter.mach {B g : Nat} {w w' : World} {O : Nat → Prop} {vt va : Value} {s : MS} (h : MAfter B g w O vt va s w') : ∃ vm vp, Mach B w' g (More O w w') vt va vm vp s := by
  obtain ⟨vm, vp, hM, _, _⟩ := h
  exact ⟨vm, vp, hM⟩
theorem mcell_does (s : MS) (vt va vm vp : Value) (op : Nat) (h : op < 22) : mcell s vt va vm vp (41 + op) = .func (.func (mdoes op)) #[] #[] := by
  have h1 : ¬ 41 + op < 39 := by omega
  have h2 : 41 + op - 41 = op := by omega
  unfold mcell
  split <;> first | omega | (rw [if_neg h1, h2])
/-- The step ends without a fault. -/
theorem mfin_ok {R : Ending → World → Prop} {a : Act} {w : World} {bb : Nat} (hd : a.defers = [{ target := .fn (.func 132) #[.pointer (some ⟨bb, 0, none⟩)], args := #[] }]) (hR : R (.returned (.tuple #[])) w) :
    bodyPostD Try.prog Try.f103 R .normal a w := by
  show Leaves _ _ a.tmps _ a.defers _ w
  rw [hd]
  refine leaves_cons (f := 132) (args := #[.pointer (some ⟨bb, 0, none⟩)]) (by simp) (by simp [go_sem]) ?_
  refine (mcatch_idle bb w).mono ?_
  rintro e' u' w'' ⟨rfl, rfl, rfl⟩
  exact ⟨_, by simp [results, Try.results103], hR⟩
/-- The step ends with a fault: the deferred closure writes it down. -/
theorem mfin_err {B g bb : Nat} {w : World} {O : Nat → Prop} {vt va vm vp : Value} {s : MS} {R : Ending → World → Prop} {a : Act} {f : Int} (h : Mach B w g O vt va vm vp s) (hb : w.heap[bb]? = some (.cells #[.pointer (some ⟨g, 0, none⟩)] 77 (0, 0)))
    (hd : a.defers = [{ target := .fn (.func 132) #[.pointer (some ⟨bb, 0, none⟩)], args := #[] }]) (hR : R (.returned (.tuple #[])) (w.setCell ⟨g, 3, none⟩ (.int .i8 f))) :
    bodyPostD Try.prog Try.f103 R (.panic [{ v := .iface 171 (.int .i8 f), recovered := false }]) a w := by
  show Leaves _ _ a.tmps _ a.defers _ w
  rw [hd]
  refine leaves_cons (f := 132) (args := #[.pointer (some ⟨bb, 0, none⟩)]) (by simp) (by simp [go_sem]) ?_
  refine (mcatch_panicking f [] h hb).mono ?_
  rintro e' u' w'' ⟨rfl, rfl, rfl⟩
  exact ⟨_, by simp [results, Try.results103], hR⟩
theorem MAfter.keeps {B g b : Nat} {w w' : World} {O : Nat → Prop} {vt va : Value} {s : MS} {o : Obj} (h : MAfter B g w O vt va s w') (hb : w.heap[b]? = some o) (hn : ¬ O b) : w'.heap[b]? = some o := by
  obtain ⟨_, _, _, hk, _⟩ := h
  exact blk_kept hb hk hn
theorem mtext {B g n c : Nat} {w : World} {O : Nat → Prop} {ad : Addr} {va vm vp : Value} {s : MS} (h : Mach B w g O (.slice (some ad) n c) va vm vp s) (i : Int) (h0 : 0 ≤ i) (h1 : i < s.text.length) : w.cell? (ad.add i.toNat) = some (.int .u32 (rd s.text i)) := by
  obtain ⟨_, _, hC⟩ := Kd.R_reads' h.text
  obtain ⟨ad', e, hv⟩ := Kd.at_int hC i h0 h1
  cases e
  exact hv
set_option maxRecDepth 100000 in
theorem mdoes_enters (op : Nat) (h : op < 22) (a : Array Value) (W : World) : (callFunc (mdoes op) a).run Try.prog W = .ok (.enter (mdoes op) a) W := by
  have : op = 0 ∨ op = 1 ∨ op = 2 ∨ op = 3 ∨ op = 4 ∨ op = 5 ∨ op = 6 ∨ op = 7 ∨ op = 8 ∨ op = 9 ∨ op = 10 ∨ op = 11 ∨ op = 12 ∨ op = 13 ∨ op = 14 ∨ op = 15 ∨ op = 16 ∨ op = 17 ∨ op = 18 ∨ op = 19 ∨ op = 20 ∨ op = 21 := by omega
  rcases this with rfl | rfl | rfl | rfl | rfl | rfl | rfl | rfl | rfl | rfl | rfl | rfl | rfl | rfl | rfl | rfl | rfl | rfl | rfl | rfl | rfl | rfl <;> rfl
set_option maxHeartbeats 8000000 in
set_option maxRecDepth 100000 in
theorem mach_step {B g : Nat} {w : World} {O : Nat → Prop} {vt va vm vp : Value} {s : MS} (h : Mach B w g O vt va vm vp s) (hB : B ≤ w.heap.size) (k : Nat) (s' : MS) (hs : mstep k s = some s') :
    Calls Try.prog 103 #[.pointer (some ⟨g, 0, none⟩)] w fun e w' => e = .returned (.tuple #[]) ∧ MAfter B g w O vt va s' w' := by
  have hOn : Aside0 (¬ O w.heap.size) := ⟨fun ho => absurd (h.lt _ ho) (by omega)⟩
  obtain ⟨At, ct, rfl, hlt, hCt⟩ := Kd.R_reads h.text
  have hM := Aside0.mk (h.below (below_alloc (Below.refl w.heap.size w) (.cells #[.pointer (some ⟨g, 0, none⟩)] 77)))
  have hK := Aside0.mk (Kept.alloc (Kept.refl w O) (.cells #[.pointer (some ⟨g, 0, none⟩)] 77))
  have hL := Aside0.mk ((Below.refl B w).alloc hB (.cells #[.pointer (some ⟨g, 0, none⟩)] 77))
  have hX := Aside0.mk (blk_new w (.cells #[.pointer (some ⟨g, 0, none⟩)] 77))
  have hx := blk_cell hX.out
  have c1 : (w.alloc (.cells #[.pointer (some ⟨g, 0, none⟩)] 77)).cell? ⟨g, 1, none⟩ = some (.slice At s.text.length ct) := hM.out.cell 1 (by decide)
  have c2 : (w.alloc (.cells #[.pointer (some ⟨g, 0, none⟩)] 77)).cell? ⟨g, 2, none⟩ = some (.int .i64 s.place) := hM.out.cell 2 (by decide)
  have hmf : ∀ (fn : Fn) (first cap : Array Value) (w : World), (Instr.makeFunc fn first cap).run Try.prog w = .ok (.func fn first cap) w := fun _ _ _ _ => rfl
  have hu := Try.underlying111
  have hu2 := Try.underlying36
  have hu3 := Try.underlying109
  unfold mstep at hs
  by_cases hp : (s.text.length : Int) ≤ s.place
  · rw [if_pos hp] at hs
    obtain rfl := Option.some.inj hs
    have dp : decide (s.place ≥ (s.text.length : Int)) = true := decide_eq_true hp
    clear h hCt hlt
    go_enter_defers Try.func103, Try.ntmps103
    go_wp2
    go_region
    go_wp2
    exact mfin_err (hM.out.below (below_drew (Below.refl _ _))) (blk_drew hX.out) rfl ⟨rfl, ((hM.out.below (below_drew (Below.refl _ _))).after hB hK.out.drew (below_drew hL.out)).put 3 _ (fun vm vp => mput_status s _ _ vm vp 2) rfl rfl rfl rfl⟩
  · rw [if_neg hp] at hs
    by_cases hp0' : s.place < 0
    · rw [if_pos hp0'] at hs; cases hs
    rw [if_neg hp0'] at hs
    obtain ⟨⟨i1, i2, i3, i4, i5⟩, hd, hs⟩ := Option.bind_eq_some_iff.1 hs
    dsimp only at hs
    have hp0 : 0 ≤ s.place := by omega
    have hp1 : s.place < (s.text.length : Int) := by omega
    have dp : decide (s.place ≥ (s.text.length : Int)) = false := decide_eq_false (by omega)
    obtain ⟨ad, rfl, hv⟩ := Kd.at_int hCt s.place hp0 hp1
    clear h hCt hlt hv hp hp0'
    go_enter_defers Try.func103, Try.ntmps103
    go_wp2
    go_region
    go_wp2
    have hMa := Aside0.mk (hM.out.below (below_drew (Below.refl _ _))); have hKa := Aside0.mk hK.out.drew; have hLa := Aside0.mk (below_drew hL.out); have hXa := Aside0.mk (blk_drew hX.out)
    clear hM hK hL hX hx c1 c2 dp
    revert hMa hKa hLa hXa
    generalize World.drew (w.alloc (.cells #[.pointer (some ⟨g, 0, none⟩)] 77)) = wa0
    intro hMa hKa hLa hXa
    refine wp_only ?_
    refine start_ (n := 13) (S := fun w' => w'.cell? ⟨w.heap.size, 0, none⟩ = some (.pointer (some ⟨g, 0, none⟩)) ∧ w'.cell? ⟨g, 1, none⟩ = some (.slice (some ad) s.text.length ct) ∧ w'.cell? ⟨g, 2, none⟩ = some (.int .i64 s.place) ∧ w'.cell? (ad.add s.place.toNat) = some (.int .u32 (rd s.text s.place))) (ds := [12]) #[false, false, false, false, false, false, false, false, false, false, false, false, false] (by kernel_rfl) rfl rfl ⟨(blk_cell (blk_drew hXa.out) 0).trans rfl, (hMa.out.below (below_drew (Below.refl _ _))).cell 1 (by decide), (hMa.out.below (below_drew (Below.refl _ _))).cell 2 (by decide), mtext (hMa.out.below (below_drew (Below.refl _ _))) s.place hp0 hp1⟩ (fun hHeld => ?_)
    replace hMa := Aside0.mk (hMa.out.below (below_drew (Below.refl _ _))); replace hKa := Aside0.mk hKa.out.drew; replace hLa := Aside0.mk (below_drew hLa.out); replace hXa := Aside0.mk (blk_drew hXa.out)
    revert hMa hKa hLa hXa hHeld
    generalize wa0.drew = wa
    intro hHeld hMa hKa hLa hXa
    refine zTa (N := some 16) 0 hHeld ?_
    refine zPu (N := some 17) 1 ?_
    refine zPu (N := some 18) 2 ?_
    refine zTa (N := some 19) 3 hHeld ?_
    refine zTa (N := some 20) 4 hHeld ?_
    refine zPu (N := some 21) 5 ?_
    refine zPu (N := some 22) 6 ?_
    refine zTa (N := some 23) 7 hHeld ?_
    refine zPu (N := some 24) 8 ?_
    refine zTa (N := some 25) 9 hHeld ?_
    refine two_ (i := 10) (j := 11) (Ni := some 26) (Nj := some 2) #[true, true, true, true, true, true, true, true, true, true, true, false, false] #[true, true, true, true, true, true, true, true, true, true, false, true, false] (by rfl) (by rfl) (by rfl) (by rfl) (by kernel_rfl) (by decide) (by decide) (fun KK hKK => ?_) (fun KK hKK => ?_)
    · refine zCl (N := some 26) 16 #[.int .u32 (rd s.text s.place)] ?_
      refine (isa_Decode.calls k (rd s.text s.place) i1 i2 i3 i4 i5 _ hd).mono ?_
      rintro e w1 ⟨rfl, hb⟩; have hM1 := Aside0.mk (hMa.out.below hb); have hK1 := Aside0.mk (hKa.out.below hb); have hL1 := Aside0.mk (hLa.out.trans (hb.mono (Nat.le_trans hB hLa.out.size))); have hX1 := Aside0.mk (blk_below hXa.out hb); clear hb
      refine ⟨_, rfl, hKK.out _ _ ⟨(blk_cell hX1.out 0).trans rfl, (hM1.out).cell 1 (by decide), (hM1.out).cell 2 (by decide), mtext (hM1.out) s.place hp0 hp1⟩ (fun hHeld2 => ?_)⟩
      clear hKK KK hHeld; have hHeld := hHeld2; clear hHeld2
      refine zNo ?_
      refine zOn (N := some 2) 11 (fun KK hKK => ?_)
      refine zEv (W := w1) (v := .pointer (some ⟨w1.heap.size, 0, none⟩)) (w1 := w1.alloc (.cells #[.int .i8 0, .int .i8 0, .int .i8 0, .int .i8 0, .int .i64 0] 36)) ?_
      refine hKK.out _ _ ⟨(blk_cell (blk_alloc hX1.out _) 0).trans rfl, (hM1.out.below (below_alloc (Below.refl _ _) _)).cell 1 (by decide), (hM1.out.below (below_alloc (Below.refl _ _) _)).cell 2 (by decide), mtext (hM1.out.below (below_alloc (Below.refl _ _) _)) s.place hp0 hp1⟩ (fun hHeld2 => ?_)
      clear hKK KK hHeld hHeld2
      refine zNo ?_
      have hMx := Aside0.mk (hM1.out.below (below_alloc (Below.refl _ _) (.cells #[.int .i8 0, .int .i8 0, .int .i8 0, .int .i8 0, .int .i64 0] 36))); have hKx := Aside0.mk (hK1.out.alloc (.cells #[.int .i8 0, .int .i8 0, .int .i8 0, .int .i8 0, .int .i64 0] 36)); have hLx := Aside0.mk (hL1.out.alloc (Nat.le_trans hB hL1.out.size) (.cells #[.int .i8 0, .int .i8 0, .int .i8 0, .int .i8 0, .int .i64 0] 36)); have hXx := Aside0.mk (blk_alloc hX1.out (.cells #[.int .i8 0, .int .i8 0, .int .i8 0, .int .i8 0, .int .i64 0] 36)); have hYx := Aside0.mk (blk_new w1 (.cells #[.int .i8 0, .int .i8 0, .int .i8 0, .int .i8 0, .int .i64 0] 36))
      have hg1 : w.heap.size < w1.heap.size := blk_lt hX1.out
      have hg2 : ∀ k, O k → k ≠ w1.heap.size := fun k ho e => absurd (hM1.out.lt k ho) (by omega)
      clear hMa hKa hLa hXa hM1 hK1 hL1 hX1
      revert hMx hKx hLx hXx hYx hg1 hg2
      generalize w1.alloc (.cells #[.int .i8 0, .int .i8 0, .int .i8 0, .int .i8 0, .int .i64 0] 36) = wx
      generalize w1.heap.size = gb
      intro hMx hKx hLx hXx hYx hg1 hg2
      refine zLa (N := none) 12 (fun KK hKK => ?_)
      have hcx := blk_cell hYx.out; have hfx := blk_frozen hYx.out
      refine zSt (w1 := (((((wx.setCell ⟨gb, 0, none⟩ (.int .i8 i1)).setCell ⟨gb, 1, none⟩ (.int .i8 i2)).setCell ⟨gb, 2, none⟩ (.int .i8 i3)).setCell ⟨gb, 3, none⟩ (.int .i8 i4)).setCell ⟨gb, 4, none⟩ (.int .i64 i5))) ?_
      refine hKK.out _ _ ?_
      clear hKK KK hcx hfx
      have hM9 := Aside0.mk (hMx.out.kept (S := fun k => k = gb) ((((((Kept.refl wx (fun k => k = gb)).setCell (p := ⟨gb, 0, none⟩) (.inl rfl) (.int .i8 i1)).setCell (p := ⟨gb, 1, none⟩) (.inl rfl) (.int .i8 i2)).setCell (p := ⟨gb, 2, none⟩) (.inl rfl) (.int .i8 i3)).setCell (p := ⟨gb, 3, none⟩) (.inl rfl) (.int .i8 i4)).setCell (p := ⟨gb, 4, none⟩) (.inl rfl) (.int .i64 i5)) hg2)
      have hK9 := Aside0.mk (((((hKx.out.setCell (p := ⟨gb, 0, none⟩) (.inr (Nat.le_of_lt hg1)) (.int .i8 i1)).setCell (p := ⟨gb, 1, none⟩) (.inr (Nat.le_of_lt hg1)) (.int .i8 i2)).setCell (p := ⟨gb, 2, none⟩) (.inr (Nat.le_of_lt hg1)) (.int .i8 i3)).setCell (p := ⟨gb, 3, none⟩) (.inr (Nat.le_of_lt hg1)) (.int .i8 i4)).setCell (p := ⟨gb, 4, none⟩) (.inr (Nat.le_of_lt hg1)) (.int .i64 i5))
      have hL9 := Aside0.mk (((((hLx.out.setCell (p := ⟨gb, 0, none⟩) (Nat.le_trans hB (Nat.le_of_lt hg1)) (.int .i8 i1)).setCell (p := ⟨gb, 1, none⟩) (Nat.le_trans hB (Nat.le_of_lt hg1)) (.int .i8 i2)).setCell (p := ⟨gb, 2, none⟩) (Nat.le_trans hB (Nat.le_of_lt hg1)) (.int .i8 i3)).setCell (p := ⟨gb, 3, none⟩) (Nat.le_trans hB (Nat.le_of_lt hg1)) (.int .i8 i4)).setCell (p := ⟨gb, 4, none⟩) (Nat.le_trans hB (Nat.le_of_lt hg1)) (.int .i64 i5))
      have hX9 := Aside0.mk (blk_far (blk_far (blk_far (blk_far (blk_far hXx.out (p := ⟨gb, 0, none⟩) (Nat.ne_of_lt hg1) (.int .i8 i1)) (p := ⟨gb, 1, none⟩) (Nat.ne_of_lt hg1) (.int .i8 i2)) (p := ⟨gb, 2, none⟩) (Nat.ne_of_lt hg1) (.int .i8 i3)) (p := ⟨gb, 3, none⟩) (Nat.ne_of_lt hg1) (.int .i8 i4)) (p := ⟨gb, 4, none⟩) (Nat.ne_of_lt hg1) (.int .i64 i5))
      have hY9 : Aside0 (((((((wx.setCell ⟨gb, 0, none⟩ (.int .i8 i1)).setCell ⟨gb, 1, none⟩ (.int .i8 i2)).setCell ⟨gb, 2, none⟩ (.int .i8 i3)).setCell ⟨gb, 3, none⟩ (.int .i8 i4)).setCell ⟨gb, 4, none⟩ (.int .i64 i5))).heap[gb]? = some (.cells #[.int .i8 i1, .int .i8 i2, .int .i8 i3, .int .i8 i4, .int .i64 i5] 36 (0, 0))) := ⟨(blk_put (blk_put (blk_put (blk_put (blk_put hYx.out 0 _ rfl) 1 _ rfl) 2 _ rfl) 3 _ rfl) 4 _ rfl)⟩
      clear hMx hKx hLx hXx hYx
      revert hM9 hK9 hL9 hX9 hY9
      generalize (((((wx.setCell ⟨gb, 0, none⟩ (.int .i8 i1)).setCell ⟨gb, 1, none⟩ (.int .i8 i2)).setCell ⟨gb, 2, none⟩ (.int .i8 i3)).setCell ⟨gb, 3, none⟩ (.int .i8 i4)).setCell ⟨gb, 4, none⟩ (.int .i64 i5)) = w9
      intro hM9 hK9 hL9 hX9 hY9
      refine zDo ⟨rfl, ?_⟩
      have hx9 := blk_cell hX9.out
      have hy9 := blk_cell hY9.out
      by_cases hneg : i1 < 0
      · rw [if_pos hneg] at hs
        obtain rfl := Option.some.inj hs
        have dn : decide (i1 < 0) = true := decide_eq_true hneg
        go_wp2
        exact mfin_err hM9.out hX9.out rfl ⟨rfl, (hM9.out.after hB hK9.out hL9.out).put 3 _ (fun vm vp => mput_status s _ _ vm vp 3) rfl rfl rfl rfl⟩
      · rw [if_neg hneg] at hs
        have dn : decide (i1 < 0) = false := decide_eq_false hneg
        by_cases hin : i1 < 22 ∧ 0 ≤ i2 ∧ i2 < 16 ∧ 0 ≤ i3 ∧ i3 < 16 ∧ 0 ≤ i4 ∧ i4 < 16
        · rw [if_pos hin] at hs
          obtain ⟨⟨s2, o⟩, hex, hs⟩ := Option.bind_eq_some_iff.1 hs
          obtain rfl := Option.some.inj hs
          obtain ⟨q1, q2, q3, q4, q5, q6, q7⟩ := hin
          obtain ⟨op, rfl⟩ : ∃ n : Nat, i1 = (n : Int) := ⟨i1.toNat, by omega⟩
          obtain ⟨d, rfl⟩ : ∃ n : Nat, i2 = (n : Int) := ⟨i2.toNat, by omega⟩
          obtain ⟨a, rfl⟩ : ∃ n : Nat, i3 = (n : Int) := ⟨i3.toNat, by omega⟩
          obtain ⟨b, rfl⟩ : ∃ n : Nat, i4 = (n : Int) := ⟨i4.toNat, by omega⟩
          simp only [Int.toNat_natCast] at hex
          have hop : op < 22 := by omega
          have hop2 : (0 : Int) ≤ (op : Int) := by omega
          have hEX : Aside0 (∀ W : World, Mach B W g O (.slice (some ad) s.text.length ct) va vm vp s → Calls Try.prog (mdoes op) #[.pointer (some ⟨g, 0, none⟩), .agg #[.int .i8 op, .int .i8 d, .int .i8 a, .int .i8 b, .int .i64 i5]] W fun e w' => e = MOut o ∧ MAfter B g W O (.slice (some ad) s.text.length ct) va s2 w') := ⟨fun W hW => mach_exec hW op d a b i5 (Nat.le_of_lt (Nat.lt_of_le_of_lt (hW.low g hW.own) (hW.lt g hW.own))) hop (by omega) (by omega) (by omega) s2 o hex⟩
          have hF : ∀ (a : Array Value) (W : World), (callFunc (mdoes op) a).run Try.prog W = .ok (.enter (mdoes op) a) W := mdoes_enters op hop
          have hMC := Aside0.mk (fun (v1 v2 v3 v4 : Value) => mcell_does s v1 v2 v3 v4 op hop)
          go_wp2
          revert hF hEX hMC
          generalize mdoes op = F
          intro hEX hF hMC
          cases o with
          | ok n2 =>
            refine wp_only ?_
            refine start_ (n := 11) (S := fun w' => w'.cell? ⟨w.heap.size, 0, none⟩ = some (.pointer (some ⟨g, 0, none⟩)) ∧ w'.cell? ⟨g, 41 + op, none⟩ = some (.func (.func F) #[] #[]) ∧ w'.cell? ⟨gb, 0, none⟩ = some (.int .i8 op) ∧ w'.cell? ⟨gb, 1, none⟩ = some (.int .i8 d) ∧ w'.cell? ⟨gb, 2, none⟩ = some (.int .i8 a) ∧ w'.cell? ⟨gb, 3, none⟩ = some (.int .i8 b) ∧ w'.cell? ⟨gb, 4, none⟩ = some (.int .i64 i5)) (ds := [9]) #[false, false, false, false, false, false, false, false, false, false, false] (by kernel_rfl) rfl rfl ⟨(blk_cell (blk_drew hX9.out) 0).trans rfl, (((hM9.out.below (below_drew (Below.refl _ _)))).cell (41 + op) (by omega)).trans (congrArg some (hMC.out _ _ _ _)), (blk_cell (blk_drew hY9.out) 0).trans rfl, (blk_cell (blk_drew hY9.out) 1).trans rfl, (blk_cell (blk_drew hY9.out) 2).trans rfl, (blk_cell (blk_drew hY9.out) 3).trans rfl, (blk_cell (blk_drew hY9.out) 4).trans rfl⟩ (fun hHeld => ?_)
            refine zTa (N := some 31) 0 hHeld ?_
            refine zPu (N := some 32) 1 ?_
            refine zTa (N := some 33) 2 hHeld ?_
            refine zPu (N := some 34) 3 ?_
            refine zPu (N := some 35) 4 ?_
            refine zPu (N := some 36) 5 ?_
            refine zTa (N := some 37) 6 hHeld ?_
            refine zTa (N := some 38) 7 hHeld ?_
            refine zTa (N := some 39) 8 hHeld ?_
            refine zLa (N := some 40) 9 (fun KK hKK => ?_)
            refine zCl (N := some 40) F #[.pointer (some ⟨g, 0, none⟩), .agg #[.int .i8 op, .int .i8 d, .int .i8 a, .int .i8 b, .int .i64 i5]] ?_
            refine (hEX.out (World.drew w9) (hM9.out.below (below_drew (Below.refl _ _)))).mono ?_
            rintro e w2 ⟨he, hma⟩
            refine ⟨_, he, hKK.out _ _ ?_⟩
            clear hKK KK hHeld
            refine zNo ?_
            refine zPu (N := some 3) 10 ?_
            refine zDo ⟨rfl, ?_⟩
            have hxx := hma.keeps (blk_drew hX9.out) hOn.out
            replace hma := hma.then_ hB hK9.out.drew (below_drew hL9.out)
            obtain ⟨vm2, vp2, hm2⟩ := hma.mach
            have z4 : w2.cell? ⟨g, 4, none⟩ = some (.int .i64 s2.steps) := hm2.cell 4 (by decide)
            have z2 : w2.cell? ⟨g, 2, none⟩ = some (.int .i64 s2.place) := hm2.cell 2 (by decide)
            have y4 := hm2.frozen 4; have y2 := hm2.frozen 2
            have hxc := blk_cell hxx
            have HMA := Aside0.mk hma; clear hma
            clear hm2 hxx hM9 hK9 hL9 hX9 hY9 hx9 hy9
            go_wp2
            exact mfin_ok rfl ⟨rfl, (HMA.out.put 4 (.int .i64 (wrap64 (s2.steps + 1))) (fun vm vp => mput_steps s2 _ _ vm vp (wrap64 (s2.steps + 1))) rfl rfl rfl rfl).put 2 (.int .i64 n2) (fun vm vp => mput_place { s2 with steps := wrap64 (s2.steps + 1) } _ _ vm vp n2) rfl rfl rfl rfl⟩
          | error f =>
            refine Code.wp_mono (Q := fun e a_ w' => e = .panic [{ v := .iface 171 (.int .i8 f), recovered := false }] ∧ a_.defers = [{ target := .fn (.func 132) #[.pointer (some ⟨w.heap.size, 0, none⟩)], args := #[] }] ∧ MAfter B g w O _ va s2 w' ∧ w'.heap[w.heap.size]? = some (.cells #[.pointer (some ⟨g, 0, none⟩)] 77 (0, 0))) (fun e a_ w' h => by
              obtain ⟨rfl, hdf, hma, hxx⟩ := h
              obtain ⟨vm2, vp2, hm2⟩ := hma.mach
              exact mfin_err hm2 hxx hdf ⟨rfl, hma.put 3 _ (fun vm vp => mput_status s2 _ _ vm vp f) rfl rfl rfl rfl⟩) ?_
            refine start_ (n := 11) (S := fun w' => w'.cell? ⟨w.heap.size, 0, none⟩ = some (.pointer (some ⟨g, 0, none⟩)) ∧ w'.cell? ⟨g, 41 + op, none⟩ = some (.func (.func F) #[] #[]) ∧ w'.cell? ⟨gb, 0, none⟩ = some (.int .i8 op) ∧ w'.cell? ⟨gb, 1, none⟩ = some (.int .i8 d) ∧ w'.cell? ⟨gb, 2, none⟩ = some (.int .i8 a) ∧ w'.cell? ⟨gb, 3, none⟩ = some (.int .i8 b) ∧ w'.cell? ⟨gb, 4, none⟩ = some (.int .i64 i5)) (ds := []) #[false, false, false, false, false, false, false, false, false, false, false] (by kernel_rfl) rfl rfl ⟨(blk_cell (blk_drew hX9.out) 0).trans rfl, (((hM9.out.below (below_drew (Below.refl _ _)))).cell (41 + op) (by omega)).trans (congrArg some (hMC.out _ _ _ _)), (blk_cell (blk_drew hY9.out) 0).trans rfl, (blk_cell (blk_drew hY9.out) 1).trans rfl, (blk_cell (blk_drew hY9.out) 2).trans rfl, (blk_cell (blk_drew hY9.out) 3).trans rfl, (blk_cell (blk_drew hY9.out) 4).trans rfl⟩ (fun hHeld => ?_)
            refine zTa (hQ := fun _ _ _ h => ⟨h.1, (put_defers _ _ _).symm.trans h.2.1, h.2.2⟩) (N := some 31) 0 hHeld ?_
            refine zPu (hQ := fun _ _ _ h => ⟨h.1, (put_defers _ _ _).symm.trans h.2.1, h.2.2⟩) (N := some 32) 1 ?_
            refine zTa (hQ := fun _ _ _ h => ⟨h.1, (put_defers _ _ _).symm.trans h.2.1, h.2.2⟩) (N := some 33) 2 hHeld ?_
            refine zPu (hQ := fun _ _ _ h => ⟨h.1, (put_defers _ _ _).symm.trans h.2.1, h.2.2⟩) (N := some 34) 3 ?_
            refine zPu (hQ := fun _ _ _ h => ⟨h.1, (put_defers _ _ _).symm.trans h.2.1, h.2.2⟩) (N := some 35) 4 ?_
            refine zPu (hQ := fun _ _ _ h => ⟨h.1, (put_defers _ _ _).symm.trans h.2.1, h.2.2⟩) (N := some 36) 5 ?_
            refine zTa (hQ := fun _ _ _ h => ⟨h.1, (put_defers _ _ _).symm.trans h.2.1, h.2.2⟩) (N := some 37) 6 hHeld ?_
            refine zTa (hQ := fun _ _ _ h => ⟨h.1, (put_defers _ _ _).symm.trans h.2.1, h.2.2⟩) (N := some 38) 7 hHeld ?_
            refine zTa (hQ := fun _ _ _ h => ⟨h.1, (put_defers _ _ _).symm.trans h.2.1, h.2.2⟩) (N := some 39) 8 hHeld ?_
            refine zOn (N := some 40) 9 (fun KK hKK => ?_)
            refine callp_ F #[.pointer (some ⟨g, 0, none⟩), .agg #[.int .i8 op, .int .i8 d, .int .i8 a, .int .i8 b, .int .i64 i5]] (by rfl) (by go_simp) ?_
            refine (hEX.out (World.drew w9) (hM9.out.below (below_drew (Below.refl _ _)))).mono ?_
            rintro e w' ⟨he, hma⟩
            exact ⟨_, he, rfl, rfl, hma.then_ hB hK9.out.drew (below_drew hL9.out), hma.keeps (blk_drew hX9.out) hOn.out⟩
        · rw [if_neg hin] at hs; cases hs
    · refine zEv (W := wa) (v := .pointer (some ⟨wa.heap.size, 0, none⟩)) (w1 := wa.alloc (.cells #[.int .i8 0, .int .i8 0, .int .i8 0, .int .i8 0, .int .i64 0] 36)) ?_
      refine hKK.out _ _ ⟨(blk_cell (blk_alloc hXa.out _) 0).trans rfl, (hMa.out.below (below_alloc (Below.refl _ _) _)).cell 1 (by decide), (hMa.out.below (below_alloc (Below.refl _ _) _)).cell 2 (by decide), mtext (hMa.out.below (below_alloc (Below.refl _ _) _)) s.place hp0 hp1⟩ (fun hHeld2 => ?_)
      clear hKK KK hHeld; have hHeld := hHeld2; clear hHeld2
      refine zNo ?_
      have hM0 := Aside0.mk (hMa.out.below (below_alloc (Below.refl _ _) (.cells #[.int .i8 0, .int .i8 0, .int .i8 0, .int .i8 0, .int .i64 0] 36))); have hK0 := Aside0.mk (hKa.out.alloc (.cells #[.int .i8 0, .int .i8 0, .int .i8 0, .int .i8 0, .int .i64 0] 36)); have hL0 := Aside0.mk (hLa.out.alloc (Nat.le_trans hB hLa.out.size) (.cells #[.int .i8 0, .int .i8 0, .int .i8 0, .int .i8 0, .int .i64 0] 36)); have hX0 := Aside0.mk (blk_alloc hXa.out (.cells #[.int .i8 0, .int .i8 0, .int .i8 0, .int .i8 0, .int .i64 0] 36)); have hY0 := Aside0.mk (blk_new wa (.cells #[.int .i8 0, .int .i8 0, .int .i8 0, .int .i8 0, .int .i64 0] 36))
      refine zOn (N := some 26) 10 (fun KK hKK => ?_)
      refine zCl (N := some 26) 16 #[.int .u32 (rd s.text s.place)] ?_
      refine (isa_Decode.calls k (rd s.text s.place) i1 i2 i3 i4 i5 _ hd).mono ?_
      rintro e w1 ⟨rfl, hb⟩; have hM1 := Aside0.mk (hM0.out.below hb); have hK1 := Aside0.mk (hK0.out.below hb); have hL1 := Aside0.mk (hL0.out.trans (hb.mono (Nat.le_trans hB hL0.out.size))); have hX1 := Aside0.mk (blk_below hX0.out hb); have hY1 := Aside0.mk (blk_below hY0.out hb); clear hb
      refine ⟨_, rfl, hKK.out _ _ ⟨(blk_cell hX1.out 0).trans rfl, (hM1.out).cell 1 (by decide), (hM1.out).cell 2 (by decide), mtext (hM1.out) s.place hp0 hp1⟩ (fun hHeld2 => ?_)⟩
      clear hKK KK hHeld; have hHeld := hHeld2; clear hHeld2
      refine zNo ?_
      clear hHeld
      have hMx := Aside0.mk (hM1.out); have hKx := Aside0.mk (hK1.out); have hLx := Aside0.mk (hL1.out); have hXx := Aside0.mk (hX1.out); have hYx := Aside0.mk (hY1.out)
      have hg1 : w.heap.size < wa.heap.size := blk_lt hXa.out
      have hg2 : ∀ k, O k → k ≠ wa.heap.size := fun k ho e => absurd (hMa.out.lt k ho) (by omega)
      clear hMa hKa hLa hXa hM0 hK0 hL0 hX0 hY0 hM1 hK1 hL1 hX1 hY1
      revert hMx hKx hLx hXx hYx hg1 hg2
      generalize w1 = wx
      generalize wa.heap.size = gb
      intro hMx hKx hLx hXx hYx hg1 hg2
      refine zLa (N := none) 12 (fun KK hKK => ?_)
      have hcx := blk_cell hYx.out; have hfx := blk_frozen hYx.out
      refine zSt (w1 := (((((wx.setCell ⟨gb, 0, none⟩ (.int .i8 i1)).setCell ⟨gb, 1, none⟩ (.int .i8 i2)).setCell ⟨gb, 2, none⟩ (.int .i8 i3)).setCell ⟨gb, 3, none⟩ (.int .i8 i4)).setCell ⟨gb, 4, none⟩ (.int .i64 i5))) ?_
      refine hKK.out _ _ ?_
      clear hKK KK hcx hfx
      have hM9 := Aside0.mk (hMx.out.kept (S := fun k => k = gb) ((((((Kept.refl wx (fun k => k = gb)).setCell (p := ⟨gb, 0, none⟩) (.inl rfl) (.int .i8 i1)).setCell (p := ⟨gb, 1, none⟩) (.inl rfl) (.int .i8 i2)).setCell (p := ⟨gb, 2, none⟩) (.inl rfl) (.int .i8 i3)).setCell (p := ⟨gb, 3, none⟩) (.inl rfl) (.int .i8 i4)).setCell (p := ⟨gb, 4, none⟩) (.inl rfl) (.int .i64 i5)) hg2)
      have hK9 := Aside0.mk (((((hKx.out.setCell (p := ⟨gb, 0, none⟩) (.inr (Nat.le_of_lt hg1)) (.int .i8 i1)).setCell (p := ⟨gb, 1, none⟩) (.inr (Nat.le_of_lt hg1)) (.int .i8 i2)).setCell (p := ⟨gb, 2, none⟩) (.inr (Nat.le_of_lt hg1)) (.int .i8 i3)).setCell (p := ⟨gb, 3, none⟩) (.inr (Nat.le_of_lt hg1)) (.int .i8 i4)).setCell (p := ⟨gb, 4, none⟩) (.inr (Nat.le_of_lt hg1)) (.int .i64 i5))
      have hL9 := Aside0.mk (((((hLx.out.setCell (p := ⟨gb, 0, none⟩) (Nat.le_trans hB (Nat.le_of_lt hg1)) (.int .i8 i1)).setCell (p := ⟨gb, 1, none⟩) (Nat.le_trans hB (Nat.le_of_lt hg1)) (.int .i8 i2)).setCell (p := ⟨gb, 2, none⟩) (Nat.le_trans hB (Nat.le_of_lt hg1)) (.int .i8 i3)).setCell (p := ⟨gb, 3, none⟩) (Nat.le_trans hB (Nat.le_of_lt hg1)) (.int .i8 i4)).setCell (p := ⟨gb, 4, none⟩) (Nat.le_trans hB (Nat.le_of_lt hg1)) (.int .i64 i5))
      have hX9 := Aside0.mk (blk_far (blk_far (blk_far (blk_far (blk_far hXx.out (p := ⟨gb, 0, none⟩) (Nat.ne_of_lt hg1) (.int .i8 i1)) (p := ⟨gb, 1, none⟩) (Nat.ne_of_lt hg1) (.int .i8 i2)) (p := ⟨gb, 2, none⟩) (Nat.ne_of_lt hg1) (.int .i8 i3)) (p := ⟨gb, 3, none⟩) (Nat.ne_of_lt hg1) (.int .i8 i4)) (p := ⟨gb, 4, none⟩) (Nat.ne_of_lt hg1) (.int .i64 i5))
      have hY9 : Aside0 (((((((wx.setCell ⟨gb, 0, none⟩ (.int .i8 i1)).setCell ⟨gb, 1, none⟩ (.int .i8 i2)).setCell ⟨gb, 2, none⟩ (.int .i8 i3)).setCell ⟨gb, 3, none⟩ (.int .i8 i4)).setCell ⟨gb, 4, none⟩ (.int .i64 i5))).heap[gb]? = some (.cells #[.int .i8 i1, .int .i8 i2, .int .i8 i3, .int .i8 i4, .int .i64 i5] 36 (0, 0))) := ⟨(blk_put (blk_put (blk_put (blk_put (blk_put hYx.out 0 _ rfl) 1 _ rfl) 2 _ rfl) 3 _ rfl) 4 _ rfl)⟩
      clear hMx hKx hLx hXx hYx
      revert hM9 hK9 hL9 hX9 hY9
      generalize (((((wx.setCell ⟨gb, 0, none⟩ (.int .i8 i1)).setCell ⟨gb, 1, none⟩ (.int .i8 i2)).setCell ⟨gb, 2, none⟩ (.int .i8 i3)).setCell ⟨gb, 3, none⟩ (.int .i8 i4)).setCell ⟨gb, 4, none⟩ (.int .i64 i5)) = w9
      intro hM9 hK9 hL9 hX9 hY9
      refine zDo ⟨rfl, ?_⟩
      have hx9 := blk_cell hX9.out
      have hy9 := blk_cell hY9.out
      by_cases hneg : i1 < 0
      · rw [if_pos hneg] at hs
        obtain rfl := Option.some.inj hs
        have dn : decide (i1 < 0) = true := decide_eq_true hneg
        go_wp2
        exact mfin_err hM9.out hX9.out rfl ⟨rfl, (hM9.out.after hB hK9.out hL9.out).put 3 _ (fun vm vp => mput_status s _ _ vm vp 3) rfl rfl rfl rfl⟩
      · rw [if_neg hneg] at hs
        have dn : decide (i1 < 0) = false := decide_eq_false hneg
        by_cases hin : i1 < 22 ∧ 0 ≤ i2 ∧ i2 < 16 ∧ 0 ≤ i3 ∧ i3 < 16 ∧ 0 ≤ i4 ∧ i4 < 16
        · rw [if_pos hin] at hs
          obtain ⟨⟨s2, o⟩, hex, hs⟩ := Option.bind_eq_some_iff.1 hs
          obtain rfl := Option.some.inj hs
          obtain ⟨q1, q2, q3, q4, q5, q6, q7⟩ := hin
          obtain ⟨op, rfl⟩ : ∃ n : Nat, i1 = (n : Int) := ⟨i1.toNat, by omega⟩
          obtain ⟨d, rfl⟩ : ∃ n : Nat, i2 = (n : Int) := ⟨i2.toNat, by omega⟩
          obtain ⟨a, rfl⟩ : ∃ n : Nat, i3 = (n : Int) := ⟨i3.toNat, by omega⟩
          obtain ⟨b, rfl⟩ : ∃ n : Nat, i4 = (n : Int) := ⟨i4.toNat, by omega⟩
          simp only [Int.toNat_natCast] at hex
          have hop : op < 22 := by omega
          have hop2 : (0 : Int) ≤ (op : Int) := by omega
          have hEX : Aside0 (∀ W : World, Mach B W g O (.slice (some ad) s.text.length ct) va vm vp s → Calls Try.prog (mdoes op) #[.pointer (some ⟨g, 0, none⟩), .agg #[.int .i8 op, .int .i8 d, .int .i8 a, .int .i8 b, .int .i64 i5]] W fun e w' => e = MOut o ∧ MAfter B g W O (.slice (some ad) s.text.length ct) va s2 w') := ⟨fun W hW => mach_exec hW op d a b i5 (Nat.le_of_lt (Nat.lt_of_le_of_lt (hW.low g hW.own) (hW.lt g hW.own))) hop (by omega) (by omega) (by omega) s2 o hex⟩
          have hF : ∀ (a : Array Value) (W : World), (callFunc (mdoes op) a).run Try.prog W = .ok (.enter (mdoes op) a) W := mdoes_enters op hop
          have hMC := Aside0.mk (fun (v1 v2 v3 v4 : Value) => mcell_does s v1 v2 v3 v4 op hop)
          go_wp2
          revert hF hEX hMC
          generalize mdoes op = F
          intro hEX hF hMC
          cases o with
          | ok n2 =>
            refine wp_only ?_
            refine start_ (n := 11) (S := fun w' => w'.cell? ⟨w.heap.size, 0, none⟩ = some (.pointer (some ⟨g, 0, none⟩)) ∧ w'.cell? ⟨g, 41 + op, none⟩ = some (.func (.func F) #[] #[]) ∧ w'.cell? ⟨gb, 0, none⟩ = some (.int .i8 op) ∧ w'.cell? ⟨gb, 1, none⟩ = some (.int .i8 d) ∧ w'.cell? ⟨gb, 2, none⟩ = some (.int .i8 a) ∧ w'.cell? ⟨gb, 3, none⟩ = some (.int .i8 b) ∧ w'.cell? ⟨gb, 4, none⟩ = some (.int .i64 i5)) (ds := [9]) #[false, false, false, false, false, false, false, false, false, false, false] (by kernel_rfl) rfl rfl ⟨(blk_cell (blk_drew hX9.out) 0).trans rfl, (((hM9.out.below (below_drew (Below.refl _ _)))).cell (41 + op) (by omega)).trans (congrArg some (hMC.out _ _ _ _)), (blk_cell (blk_drew hY9.out) 0).trans rfl, (blk_cell (blk_drew hY9.out) 1).trans rfl, (blk_cell (blk_drew hY9.out) 2).trans rfl, (blk_cell (blk_drew hY9.out) 3).trans rfl, (blk_cell (blk_drew hY9.out) 4).trans rfl⟩ (fun hHeld => ?_)
            refine zTa (N := some 31) 0 hHeld ?_
            refine zPu (N := some 32) 1 ?_
            refine zTa (N := some 33) 2 hHeld ?_
            refine zPu (N := some 34) 3 ?_
            refine zPu (N := some 35) 4 ?_
            refine zPu (N := some 36) 5 ?_
            refine zTa (N := some 37) 6 hHeld ?_
            refine zTa (N := some 38) 7 hHeld ?_
            refine zTa (N := some 39) 8 hHeld ?_
            refine zLa (N := some 40) 9 (fun KK hKK => ?_)
            refine zCl (N := some 40) F #[.pointer (some ⟨g, 0, none⟩), .agg #[.int .i8 op, .int .i8 d, .int .i8 a, .int .i8 b, .int .i64 i5]] ?_
            refine (hEX.out (World.drew w9) (hM9.out.below (below_drew (Below.refl _ _)))).mono ?_
            rintro e w2 ⟨he, hma⟩
            refine ⟨_, he, hKK.out _ _ ?_⟩
            clear hKK KK hHeld
            refine zNo ?_
            refine zPu (N := some 3) 10 ?_
            refine zDo ⟨rfl, ?_⟩
            have hxx := hma.keeps (blk_drew hX9.out) hOn.out
            replace hma := hma.then_ hB hK9.out.drew (below_drew hL9.out)
            obtain ⟨vm2, vp2, hm2⟩ := hma.mach
            have z4 : w2.cell? ⟨g, 4, none⟩ = some (.int .i64 s2.steps) := hm2.cell 4 (by decide)
            have z2 : w2.cell? ⟨g, 2, none⟩ = some (.int .i64 s2.place) := hm2.cell 2 (by decide)
            have y4 := hm2.frozen 4; have y2 := hm2.frozen 2
            have hxc := blk_cell hxx
            have HMA := Aside0.mk hma; clear hma
            clear hm2 hxx hM9 hK9 hL9 hX9 hY9 hx9 hy9
            go_wp2
            exact mfin_ok rfl ⟨rfl, (HMA.out.put 4 (.int .i64 (wrap64 (s2.steps + 1))) (fun vm vp => mput_steps s2 _ _ vm vp (wrap64 (s2.steps + 1))) rfl rfl rfl rfl).put 2 (.int .i64 n2) (fun vm vp => mput_place { s2 with steps := wrap64 (s2.steps + 1) } _ _ vm vp n2) rfl rfl rfl rfl⟩
          | error f =>
            refine Code.wp_mono (Q := fun e a_ w' => e = .panic [{ v := .iface 171 (.int .i8 f), recovered := false }] ∧ a_.defers = [{ target := .fn (.func 132) #[.pointer (some ⟨w.heap.size, 0, none⟩)], args := #[] }] ∧ MAfter B g w O _ va s2 w' ∧ w'.heap[w.heap.size]? = some (.cells #[.pointer (some ⟨g, 0, none⟩)] 77 (0, 0))) (fun e a_ w' h => by
              obtain ⟨rfl, hdf, hma, hxx⟩ := h
              obtain ⟨vm2, vp2, hm2⟩ := hma.mach
              exact mfin_err hm2 hxx hdf ⟨rfl, hma.put 3 _ (fun vm vp => mput_status s2 _ _ vm vp f) rfl rfl rfl rfl⟩) ?_
            refine start_ (n := 11) (S := fun w' => w'.cell? ⟨w.heap.size, 0, none⟩ = some (.pointer (some ⟨g, 0, none⟩)) ∧ w'.cell? ⟨g, 41 + op, none⟩ = some (.func (.func F) #[] #[]) ∧ w'.cell? ⟨gb, 0, none⟩ = some (.int .i8 op) ∧ w'.cell? ⟨gb, 1, none⟩ = some (.int .i8 d) ∧ w'.cell? ⟨gb, 2, none⟩ = some (.int .i8 a) ∧ w'.cell? ⟨gb, 3, none⟩ = some (.int .i8 b) ∧ w'.cell? ⟨gb, 4, none⟩ = some (.int .i64 i5)) (ds := []) #[false, false, false, false, false, false, false, false, false, false, false] (by kernel_rfl) rfl rfl ⟨(blk_cell (blk_drew hX9.out) 0).trans rfl, (((hM9.out.below (below_drew (Below.refl _ _)))).cell (41 + op) (by omega)).trans (congrArg some (hMC.out _ _ _ _)), (blk_cell (blk_drew hY9.out) 0).trans rfl, (blk_cell (blk_drew hY9.out) 1).trans rfl, (blk_cell (blk_drew hY9.out) 2).trans rfl, (blk_cell (blk_drew hY9.out) 3).trans rfl, (blk_cell (blk_drew hY9.out) 4).trans rfl⟩ (fun hHeld => ?_)
            refine zTa (hQ := fun _ _ _ h => ⟨h.1, (put_defers _ _ _).symm.trans h.2.1, h.2.2⟩) (N := some 31) 0 hHeld ?_
            refine zPu (hQ := fun _ _ _ h => ⟨h.1, (put_defers _ _ _).symm.trans h.2.1, h.2.2⟩) (N := some 32) 1 ?_
            refine zTa (hQ := fun _ _ _ h => ⟨h.1, (put_defers _ _ _).symm.trans h.2.1, h.2.2⟩) (N := some 33) 2 hHeld ?_
            refine zPu (hQ := fun _ _ _ h => ⟨h.1, (put_defers _ _ _).symm.trans h.2.1, h.2.2⟩) (N := some 34) 3 ?_
            refine zPu (hQ := fun _ _ _ h => ⟨h.1, (put_defers _ _ _).symm.trans h.2.1, h.2.2⟩) (N := some 35) 4 ?_
            refine zPu (hQ := fun _ _ _ h => ⟨h.1, (put_defers _ _ _).symm.trans h.2.1, h.2.2⟩) (N := some 36) 5 ?_
            refine zTa (hQ := fun _ _ _ h => ⟨h.1, (put_defers _ _ _).symm.trans h.2.1, h.2.2⟩) (N := some 37) 6 hHeld ?_
            refine zTa (hQ := fun _ _ _ h => ⟨h.1, (put_defers _ _ _).symm.trans h.2.1, h.2.2⟩) (N := some 38) 7 hHeld ?_
            refine zTa (hQ := fun _ _ _ h => ⟨h.1, (put_defers _ _ _).symm.trans h.2.1, h.2.2⟩) (N := some 39) 8 hHeld ?_
            refine zOn (N := some 40) 9 (fun KK hKK => ?_)
            refine callp_ F #[.pointer (some ⟨g, 0, none⟩), .agg #[.int .i8 op, .int .i8 d, .int .i8 a, .int .i8 b, .int .i64 i5]] (by rfl) (by go_simp) ?_
            refine (hEX.out (World.drew w9) (hM9.out.below (below_drew (Below.refl _ _)))).mono ?_
            rintro e w' ⟨he, hma⟩
            exact ⟨_, he, rfl, rfl, hma.then_ hB hK9.out.drew (below_drew hL9.out), hma.keeps (blk_drew hX9.out) hOn.out⟩
        · rw [if_neg hin] at hs; cases hs
/-! ### what a machine is asked -/
/-- A call behind a call. -/
theorem MAfter.grow {B g : Nat} {w w1 w2 : World} {O : Nat → Prop} {vt va : Value} {s s2 : MS} (h2 : MAfter B g w1 (More O w w1) vt va s2 w2) (h1 : MAfter B g w O vt va s w1) : MAfter B g w O vt va s2 w2 := by
  obtain ⟨vm1, vp1, hM1, hk1, hb1⟩ := h1
  obtain ⟨vm, vp, hM, hk, hb⟩ := h2
  have hm : ∀ k, More (More O w w1) w1 w2 k → More O w w2 k := fun k hk => ⟨hk.1.elim (fun h => h.1) (fun h => .inr (Nat.le_trans hk1.1 h)), hk.2⟩
  have hm2 : ∀ k, More O w w2 k → More (More O w w1) w1 w2 k := fun k hk => ⟨(Nat.lt_or_ge k w1.heap.size).elim (fun h => .inl ⟨hk.1, h⟩) .inr, hk.2⟩
  exact ⟨vm, vp, ⟨hM.blk, hm g hM.own, fun k hk => hM.low k (hm2 k hk), fun k hk => hk.2, Kd.R_mono hM.text hm, Kd.R_mono hM.tape hm, Kd.R_mono hM.mem hm, Kd.R_mono hM.ports hm⟩, hk1.then_ hk (fun k hk => hk.1), hb1.trans hb⟩
/-- So many steps at most, while it runs. -/
def mrun (k : Nat) : Nat → Int → Int → MS → Option MS
  | 0, _, _, _ => none
  | q + 1, was, most, s => if wrap64 (s.steps - was) < most ∧ s.status = 0 then (mstep k s).bind fun s' => mrun k q was most s' else some s
theorem mrun_mono (k : Nat) : ∀ q was most s, LeO (mrun k q was most s) (mrun (k + 1) (q + 1) was most s)
  | 0, _, _, _ => fun r h => by simp [mrun] at h
  | q + 1, was, most, s => by
    rw [mrun, mrun]
    exact LeO.ite (LeO.bind (mstep_mono s k) (fun _ => mrun_mono k q _ _ _)) (LeO.refl _)
section
variable {B g : Nat} {w : World} {O : Nat → Prop} {vt va vm vp : Value} {s : MS}
theorem Mach.self (h : Mach B w g O vt va vm vp s) (hB : B ≤ w.heap.size) : MAfter B g w O vt va s w := h.after hB (Kept.refl w O) (Below.refl B w)
set_option maxRecDepth 100000 in
set_option maxHeartbeats 4000000 in
theorem mach_Run (h : Mach B w g O vt va vm vp s) (hB : B ≤ w.heap.size) (k q : Nat) (most : Int) (s' : MS) (hr : mrun k q s.steps most s = some s') :
    Calls Try.prog 57 #[.pointer (some ⟨g, 0, none⟩), .int .i64 most] w fun e w' => e = .returned (.tuple #[.int .i64 (wrap64 (s'.steps - s.steps)), .int .i8 s'.status]) ∧ MAfter B g w O vt va s' w' := by
  have c4 : w.cell? ⟨g, 4, none⟩ = some (.int .i64 s.steps) := h.cell 4 (by decide)
  have hM := Aside0.mk h
  have HR := Aside0.mk hr
  have hu := Try.underlying111
  clear h hr
  go_enter Try.func57, Try.ntmps57
  go_wp2_with (go_at_call 102; refine (mach_none hM.out).mono ?_; rintro e w' ⟨rfl, hw'⟩; obtain rfl := hw'.symm)
  go_loopg [] q (fun kq wr => ∃ (s1 : MS), Aside0 (mrun k kq s.steps most s1 = some s') ∧ Aside0 (MAfter B g w O vt va s1 wr))
  case atStart => exact ⟨s, HR, ⟨hM.out.self hB⟩⟩
  case round =>
    clear c4 HR hM
    obtain ⟨s1, HR, HA⟩ := hrel
    cases gk with
    | zero => exact absurd HR.out (by simp [mrun])
    | succ k1 =>
      have hr := HR.out
      clear HR
      rw [mrun] at hr
      obtain ⟨vm1, vp1, hm1⟩ := HA.out.mach
      have c4 : wr.cell? ⟨g, 4, none⟩ = some (.int .i64 s1.steps) := hm1.cell 4 (by decide)
      have c3 : wr.cell? ⟨g, 3, none⟩ = some (.int .i8 s1.status) := hm1.cell 3 (by decide)
      have hM1 := Aside0.mk hm1
      clear hm1
      by_cases hc : wrap64 (s1.steps - s.steps) < most
      · have d1 : decide (wrap64 (s1.steps - s.steps) < most) = true := decide_eq_true hc
        by_cases hz : s1.status = 0
        · have d2 : (s1.status == 0) = true := by simpa using hz
          rw [if_pos ⟨hc, hz⟩] at hr
          obtain ⟨s2, hs2, hr2⟩ := Option.bind_eq_some_iff.1 hr
          have HR := Aside0.mk hr2; have HS := Aside0.mk hs2
          have hBr := Aside0.mk (Nat.le_of_lt (Nat.lt_of_le_of_lt (hM1.out.low g hM1.out.own) (hM1.out.lt g hM1.out.own)))
          clear hr hr2 hs2 hz hc
          go_wp2_with (go_at_call 103; refine (mach_step hM1.out hBr.out k s2 HS.out).mono ?_; rintro e w2 ⟨rfl, ha⟩; obtain ⟨vmx, vpx, hmx, hkx, hlx⟩ := HA.out; have HA2 := Aside0.mk (ha.grow HA.out); clear ha hmx hkx hlx)
          go_roundg k1
          case measure => omega
          case rel => exact ⟨s2, HR, HA2⟩
        · have d2 : (s1.status == 0) = false := by simpa using hz
          rw [if_neg (fun h => hz h.2)] at hr
          obtain rfl := Option.some.inj hr
          go_wp2
          go_region
          go_wp2
          go_ret2
          exact ⟨rfl, HA.out.below (below_drew (Below.refl _ _)) (Nat.le_of_lt (Nat.lt_of_le_of_lt (hM1.out.low g hM1.out.own) (hM1.out.lt g hM1.out.own)))⟩
      · have d1 : decide (wrap64 (s1.steps - s.steps) < most) = false := decide_eq_false hc
        rw [if_neg (fun h => hc h.1)] at hr
        obtain rfl := Option.some.inj hr
        go_wp2
        go_region
        go_wp2
        go_ret2
        exact ⟨rfl, HA.out.below (below_drew (Below.refl _ _)) (Nat.le_of_lt (Nat.lt_of_le_of_lt (hM1.out.low g hM1.out.own) (hM1.out.lt g hM1.out.own)))⟩
end
section
variable {B g : Nat} {w : World} {O : Nat → Prop} {vt va vm vp : Value} {s : MS}
theorem mach_Status (h : Mach B w g O vt va vm vp s) : Calls Try.prog 65 #[.pointer (some ⟨g, 0, none⟩)] w fun e w' => e = .returned (.int .i8 s.status) ∧ w' = w := by
  have c3 : w.cell? ⟨g, 3, none⟩ = some (.int .i8 s.status) := h.cell 3 (by decide)
  have hM := Aside0.mk h
  have hu := Try.underlying111
  clear h
  go_enter Try.func65, Try.ntmps65
  go_wp2_with (go_at_call 102; refine (mach_none hM.out).mono ?_; rintro e w' ⟨rfl, hw'⟩; obtain rfl := hw'.symm)
  go_ret
  exact ⟨rfl, rfl⟩
theorem mach_Status_nil : Calls Try.prog 65 #[.pointer none] w fun e w' => e = .returned (.int .i8 0) ∧ w' = w := by
  go_enter Try.func65, Try.ntmps65
  go_wp2_with (go_at_call 102; refine (mach_none_nil _).mono ?_; rintro e w' ⟨rfl, hw'⟩; obtain rfl := hw'.symm)
  (try rw [Exit.noGoto_ret])
  go_ret
  exact ⟨rfl, rfl⟩
theorem mach_Status_zero (c0 : w.cell? ⟨g, 0, none⟩ = some (.bool false)) : Calls Try.prog 65 #[.pointer (some ⟨g, 0, none⟩)] w fun e w' => e = .returned (.int .i8 0) ∧ w' = w := by
  go_enter Try.func65, Try.ntmps65
  go_wp2_with (go_at_call 102; refine (mach_none_zero c0).mono ?_; rintro e w' ⟨rfl, hw'⟩; obtain rfl := hw'.symm)
  (try rw [Exit.noGoto_ret])
  go_ret
  exact ⟨rfl, rfl⟩
theorem mach_At (h : Mach B w g O vt va vm vp s) : Calls Try.prog 47 #[.pointer (some ⟨g, 0, none⟩)] w fun e w' => e = .returned (.int .i64 s.place) ∧ w' = w := by
  have c2 : w.cell? ⟨g, 2, none⟩ = some (.int .i64 s.place) := h.cell 2 (by decide)
  have hM := Aside0.mk h
  have hu := Try.underlying111
  clear h
  go_enter Try.func47, Try.ntmps47
  go_wp2_with (go_at_call 102; refine (mach_none hM.out).mono ?_; rintro e w' ⟨rfl, hw'⟩; obtain rfl := hw'.symm)
  go_ret
  exact ⟨rfl, rfl⟩
theorem mach_At_nil : Calls Try.prog 47 #[.pointer none] w fun e w' => e = .returned (.int .i64 0) ∧ w' = w := by
  go_enter Try.func47, Try.ntmps47
  go_wp2_with (go_at_call 102; refine (mach_none_nil _).mono ?_; rintro e w' ⟨rfl, hw'⟩; obtain rfl := hw'.symm)
  (try rw [Exit.noGoto_ret])
  go_ret
  exact ⟨rfl, rfl⟩
theorem mach_At_zero (c0 : w.cell? ⟨g, 0, none⟩ = some (.bool false)) : Calls Try.prog 47 #[.pointer (some ⟨g, 0, none⟩)] w fun e w' => e = .returned (.int .i64 0) ∧ w' = w := by
  go_enter Try.func47, Try.ntmps47
  go_wp2_with (go_at_call 102; refine (mach_none_zero c0).mono ?_; rintro e w' ⟨rfl, hw'⟩; obtain rfl := hw'.symm)
  (try rw [Exit.noGoto_ret])
  go_ret
  exact ⟨rfl, rfl⟩
theorem mach_Steps (h : Mach B w g O vt va vm vp s) : Calls Try.prog 58 #[.pointer (some ⟨g, 0, none⟩)] w fun e w' => e = .returned (.int .i64 s.steps) ∧ w' = w := by
  have c4 : w.cell? ⟨g, 4, none⟩ = some (.int .i64 s.steps) := h.cell 4 (by decide)
  have hM := Aside0.mk h
  have hu := Try.underlying111
  clear h
  go_enter Try.func58, Try.ntmps58
  go_wp2_with (go_at_call 102; refine (mach_none hM.out).mono ?_; rintro e w' ⟨rfl, hw'⟩; obtain rfl := hw'.symm)
  go_ret
  exact ⟨rfl, rfl⟩
theorem mach_Steps_nil : Calls Try.prog 58 #[.pointer none] w fun e w' => e = .returned (.int .i64 0) ∧ w' = w := by
  go_enter Try.func58, Try.ntmps58
  go_wp2_with (go_at_call 102; refine (mach_none_nil _).mono ?_; rintro e w' ⟨rfl, hw'⟩; obtain rfl := hw'.symm)
  (try rw [Exit.noGoto_ret])
  go_ret
  exact ⟨rfl, rfl⟩
theorem mach_Steps_zero (c0 : w.cell? ⟨g, 0, none⟩ = some (.bool false)) : Calls Try.prog 58 #[.pointer (some ⟨g, 0, none⟩)] w fun e w' => e = .returned (.int .i64 0) ∧ w' = w := by
  go_enter Try.func58, Try.ntmps58
  go_wp2_with (go_at_call 102; refine (mach_none_zero c0).mono ?_; rintro e w' ⟨rfl, hw'⟩; obtain rfl := hw'.symm)
  (try rw [Exit.noGoto_ret])
  go_ret
  exact ⟨rfl, rfl⟩
theorem mach_Taken (h : Mach B w g O vt va vm vp s) : Calls Try.prog 59 #[.pointer (some ⟨g, 0, none⟩)] w fun e w' => e = .returned (.int .i64 s.taken) ∧ w' = w := by
  have c5 : w.cell? ⟨g, 5, none⟩ = some (.int .i64 s.taken) := h.cell 5 (by decide)
  have hM := Aside0.mk h
  have hu := Try.underlying111
  clear h
  go_enter Try.func59, Try.ntmps59
  go_wp2_with (go_at_call 102; refine (mach_none hM.out).mono ?_; rintro e w' ⟨rfl, hw'⟩; obtain rfl := hw'.symm)
  go_ret
  exact ⟨rfl, rfl⟩
theorem mach_Taken_nil : Calls Try.prog 59 #[.pointer none] w fun e w' => e = .returned (.int .i64 0) ∧ w' = w := by
  go_enter Try.func59, Try.ntmps59
  go_wp2_with (go_at_call 102; refine (mach_none_nil _).mono ?_; rintro e w' ⟨rfl, hw'⟩; obtain rfl := hw'.symm)
  (try rw [Exit.noGoto_ret])
  go_ret
  exact ⟨rfl, rfl⟩
theorem mach_Taken_zero (c0 : w.cell? ⟨g, 0, none⟩ = some (.bool false)) : Calls Try.prog 59 #[.pointer (some ⟨g, 0, none⟩)] w fun e w' => e = .returned (.int .i64 0) ∧ w' = w := by
  go_enter Try.func59, Try.ntmps59
  go_wp2_with (go_at_call 102; refine (mach_none_zero c0).mono ?_; rintro e w' ⟨rfl, hw'⟩; obtain rfl := hw'.symm)
  (try rw [Exit.noGoto_ret])
  go_ret
  exact ⟨rfl, rfl⟩
set_option maxRecDepth 100000 in
theorem mach_Step (h : Mach B w g O vt va vm vp s) (hB : B ≤ w.heap.size) (k : Nat) (s' : MS) (hs : (if s.status = 0 then mstep k s else some s) = some s') : Calls Try.prog 49 #[.pointer (some ⟨g, 0, none⟩)] w fun e w' => e = .returned (.int .i8 s'.status) ∧ MAfter B g w O vt va s' w' := by
  have c3 : w.cell? ⟨g, 3, none⟩ = some (.int .i8 s.status) := h.cell 3 (by decide)
  have hM := Aside0.mk h
  have hu := Try.underlying111
  clear h
  by_cases hz : s.status = 0
  · have d2 : (s.status == 0) = true := by simpa using hz
    rw [if_pos hz] at hs
    have HS := Aside0.mk hs
    clear hs hz
    go_enter Try.func49, Try.ntmps49
    go_wp2_with (first | (go_at_call 102; refine (mach_none hM.out).mono ?_; rintro e w' ⟨rfl, hw'⟩; obtain rfl := hw'.symm) | (go_at_call 103; refine (mach_step hM.out hB k s' HS.out).mono ?_; rintro e w2 ⟨rfl, ha⟩; obtain ⟨vm2, vp2, hm2⟩ := ha.mach; have c9 : w2.cell? ⟨g, 3, none⟩ = some (.int .i8 s'.status) := hm2.cell 3 (by decide); have HA := Aside0.mk ha; clear ha hm2))
    go_ret
    exact ⟨rfl, HA.out⟩
  · have d2 : (s.status == 0) = false := by simpa using hz
    rw [if_neg hz] at hs
    obtain rfl := Option.some.inj hs
    go_enter Try.func49, Try.ntmps49
    go_wp2_with (go_at_call 102; refine (mach_none hM.out).mono ?_; rintro e w' ⟨rfl, hw'⟩; obtain rfl := hw'.symm)
    go_ret
    exact ⟨rfl, hM.out.self hB⟩
theorem mach_Step_nil : Calls Try.prog 49 #[.pointer none] w fun e w' => e = .returned (.int .i8 0) ∧ w' = w := by
  go_enter Try.func49, Try.ntmps49
  go_wp2_with (go_at_call 102; refine (mach_none_nil _).mono ?_; rintro e w' ⟨rfl, hw'⟩; obtain rfl := hw'.symm)
  (try rw [Exit.noGoto_ret])
  go_ret
  exact ⟨rfl, rfl⟩
theorem mach_Run_nil (most : Int) : Calls Try.prog 57 #[.pointer none, .int .i64 most] w fun e w' => e = .returned (.tuple #[.int .i64 0, .int .i8 0]) ∧ w' = w := by
  go_enter Try.func57, Try.ntmps57
  go_wp2_with (go_at_call 102; refine (mach_none_nil _).mono ?_; rintro e w' ⟨rfl, hw'⟩; obtain rfl := hw'.symm)
  (try rw [Exit.noGoto_ret])
  go_ret2
  exact ⟨rfl, rfl⟩
theorem mach_Register_nil (r : Int) : Calls Try.prog 64 #[.pointer none, .int .i64 r] w fun e w' => e = .returned (.tuple #[.agg #[.int .i64 0, .bool false], .int .i64 1]) ∧ Below w.heap.size w w' := by
  have hu3 := Try.underlying106
  go_enter Try.func64, Try.ntmps64
  go_wp2_with (go_at_call 102; refine (mach_none_nil _).mono ?_; rintro e w' ⟨rfl, hw'⟩; obtain rfl := hw'.symm)
  (try rw [Exit.noGoto_ret])
  have hl := run_loadVar_row (P := Try.prog) _ w.heap.size 106 106 #[.int .i64 0, .bool false] (0, 0) _ (blk_new w (.cells #[.int .i64 0, .bool false] 106)) Try.underlying106 rfl (by kernel_rfl)
  exact bodyPost_ret (v := .tuple #[.agg #[.int .i64 0, .bool false], .int .i64 1]) (by simp [results, Try.results64, asAddr, hl]) rfl ⟨rfl, below_alloc (Below.refl _ _) _⟩
theorem mach_Step_zero (c0 : w.cell? ⟨g, 0, none⟩ = some (.bool false)) : Calls Try.prog 49 #[.pointer (some ⟨g, 0, none⟩)] w fun e w' => e = .returned (.int .i8 0) ∧ w' = w := by
  go_enter Try.func49, Try.ntmps49
  go_wp2_with (go_at_call 102; refine (mach_none_zero c0).mono ?_; rintro e w' ⟨rfl, hw'⟩; obtain rfl := hw'.symm)
  (try rw [Exit.noGoto_ret])
  go_ret
  exact ⟨rfl, rfl⟩
theorem mach_Run_zero (c0 : w.cell? ⟨g, 0, none⟩ = some (.bool false)) (most : Int) : Calls Try.prog 57 #[.pointer (some ⟨g, 0, none⟩), .int .i64 most] w fun e w' => e = .returned (.tuple #[.int .i64 0, .int .i8 0]) ∧ w' = w := by
  go_enter Try.func57, Try.ntmps57
  go_wp2_with (go_at_call 102; refine (mach_none_zero c0).mono ?_; rintro e w' ⟨rfl, hw'⟩; obtain rfl := hw'.symm)
  (try rw [Exit.noGoto_ret])
  go_ret2
  exact ⟨rfl, rfl⟩
theorem mach_Register_zero (c0 : w.cell? ⟨g, 0, none⟩ = some (.bool false)) (r : Int) : Calls Try.prog 64 #[.pointer (some ⟨g, 0, none⟩), .int .i64 r] w fun e w' => e = .returned (.tuple #[.agg #[.int .i64 0, .bool false], .int .i64 1]) ∧ Below w.heap.size w w' := by
  have hu3 := Try.underlying106
  have c1 : (w.alloc (.cells #[.int .i64 0, .bool false] 106)).cell? ⟨g, 0, none⟩ = some (.bool false) := (Below.cell (below_alloc (Below.refl w.heap.size w) _) (World.block_lt_of_cell? w _ c0)).trans c0
  go_enter Try.func64, Try.ntmps64
  go_wp2_with (go_at_call 102; refine (mach_none_zero (g := g) (w := w.alloc (.cells #[.int .i64 0, .bool false] 106)) c1).mono ?_; rintro e w' ⟨rfl, hw'⟩; obtain rfl := hw'.symm)
  (try rw [Exit.noGoto_ret])
  have hl := run_loadVar_row (P := Try.prog) _ w.heap.size 106 106 #[.int .i64 0, .bool false] (0, 0) _ (blk_new w (.cells #[.int .i64 0, .bool false] 106)) Try.underlying106 rfl (by kernel_rfl)
  exact bodyPost_ret (v := .tuple #[.agg #[.int .i64 0, .bool false], .int .i64 1]) (by simp [results, Try.results64, asAddr, hl]) rfl ⟨rfl, below_alloc (Below.refl _ _) _⟩
set_option maxRecDepth 100000 in
theorem mach_Register (h : Mach B w g O vt va vm vp s) (r : Nat) (hr : r < 16) : Calls Try.prog 64 #[.pointer (some ⟨g, 0, none⟩), .int .i64 r] w fun e w' => e = .returned (.tuple #[.agg #[.int .i64 (s.reg r).f0, .bool (s.reg r).f1], .int .i64 0]) ∧ Below w.heap.size w w' := by
  have hM := Aside0.mk (h.below (below_alloc (Below.refl w.heap.size w) (.cells #[.int .i64 0, .bool false] 106)))
  have rv : (w.alloc (.cells #[.int .i64 0, .bool false] 106)).cell? ⟨g, 7 + r * 2, none⟩ = some (.int .i64 (s.reg r).f0) := (hM.out.cell (7 + r * 2) (by omega)).trans (congrArg some (mcell_regV s _ _ _ _ r hr))
  have rk : (w.alloc (.cells #[.int .i64 0, .bool false] 106)).cell? ⟨g, 7 + r * 2 + 1, none⟩ = some (.bool (s.reg r).f1) := (hM.out.cell (7 + r * 2 + 1) (by omega)).trans (congrArg some (mcell_regC s _ _ _ _ r hr))
  have hu := Try.underlying111
  have hu2 := Try.underlying107
  have hu3 := Try.underlying106
  have ir : ((r : Nat) : Int) < 16 := by omega
  have d1 : decide ((r : Int) < 0) = false := decide_eq_false (by omega)
  have d2 : decide ((r : Int) ≥ 16) = false := decide_eq_false (by omega)
  have hL := Aside0.mk (below_alloc (Below.refl w.heap.size w) (.cells #[.int .i64 0, .bool false] 106))
  have hx := blk_cell (blk_new w (.cells #[.int .i64 0, .bool false] 106)); have hf := blk_frozen (blk_new w (.cells #[.int .i64 0, .bool false] 106))
  clear h
  go_enter Try.func64, Try.ntmps64
  go_wp2_with (go_at_call 102; refine (mach_none hM.out).mono ?_; rintro e w' ⟨rfl, hw'⟩; obtain rfl := hw'.symm)
  have hl := run_loadVar_row (P := Try.prog) _ w.heap.size 106 106 #[.int .i64 (s.reg r).f0, .bool (s.reg r).f1] (0, 0) _ (blk_new w (.cells #[.int .i64 (s.reg r).f0, .bool (s.reg r).f1] 106)) Try.underlying106 rfl (by kernel_rfl)
  exact bodyPost_ret (v := .tuple #[.agg #[.int .i64 (s.reg r).f0, .bool (s.reg r).f1], .int .i64 0]) (by simp [results, Try.results64, asAddr, hl]) rfl ⟨rfl, below_alloc (Below.refl _ _) _⟩
theorem mach_Memory (h : Mach B w g O vt va vm vp s) (hl : s.mem.length * 16 ≤ 140737488355328) : Calls Try.prog 61 #[.pointer (some ⟨g, 0, none⟩)] w fun e w' => ∃ v, e = .returned v ∧ Kd.R k106 106 w' w.heap.size (fun _ => True) v s.mem ∧ Below w.heap.size w w' := by
  obtain ⟨Av, cv, rfl, hlv, hCv⟩ := Kd.R_reads h.mem
  have c : w.cell? ⟨g, 39, none⟩ = some (.slice Av s.mem.length cv) := h.cell 39 (by decide)
  have hM := Aside0.mk h
  have hu := Try.underlying111
  clear h
  go_enter Try.func61, Try.ntmps61
  go_wp2_with (first | (go_at_call 102; refine (mach_none hM.out).mono ?_; rintro e w' ⟨rfl, hw'⟩; obtain rfl := hw'.symm) | (at_builtin; refine Kd.R_append_rows k106 (w0 := w) w.heap.size rfl (.const (.slice none 0 0)) (.tmp 8) 99 106 (.agg #[.int .i64 0, .bool false]) 16 rfl Try.underlying99 infoMW rfl (by decide) (by omega) (.slice none 0 0) ([] : List _) s.mem Av s.mem.length cv (fun _ => True) (fun _ => False) rfl rfl (Kd.R_nil _ _ _ _ _) hCv (fun x cs h => by obtain rfl := k106_open h; exact k106_mkM _ _ _ x) (fun _ hk => hk.elim) (fun _ _ => trivial) (Below.refl _ _) (Nat.le_refl _) (by simpa using hl) ?_; intro v1 w1 ho hb hg hat))
  go_ret
  exact ⟨_, rfl, ho, hb⟩
theorem mach_Memory_nil : Calls Try.prog 61 #[.pointer none] w fun e w' => e = .returned (.slice none 0 0) ∧ w' = w := by
  go_enter Try.func61, Try.ntmps61
  go_wp2_with (go_at_call 102; refine (mach_none_nil _).mono ?_; rintro e w' ⟨rfl, hw'⟩; obtain rfl := hw'.symm)
  (try rw [Exit.noGoto_ret])
  go_ret
  exact ⟨rfl, rfl⟩
theorem mach_Memory_zero (c0 : w.cell? ⟨g, 0, none⟩ = some (.bool false)) : Calls Try.prog 61 #[.pointer (some ⟨g, 0, none⟩)] w fun e w' => e = .returned (.slice none 0 0) ∧ w' = w := by
  go_enter Try.func61, Try.ntmps61
  go_wp2_with (go_at_call 102; refine (mach_none_zero c0).mono ?_; rintro e w' ⟨rfl, hw'⟩; obtain rfl := hw'.symm)
  (try rw [Exit.noGoto_ret])
  go_ret
  exact ⟨rfl, rfl⟩
theorem mach_Ports (h : Mach B w g O vt va vm vp s) (hl : s.ports.length * 16 ≤ 140737488355328) : Calls Try.prog 63 #[.pointer (some ⟨g, 0, none⟩)] w fun e w' => ∃ v, e = .returned v ∧ Kd.R k161 161 w' w.heap.size (fun _ => True) v s.ports ∧ Below w.heap.size w w' := by
  obtain ⟨Av, cv, rfl, hlv, hCv⟩ := Kd.R_reads h.ports
  have c : w.cell? ⟨g, 40, none⟩ = some (.slice Av s.ports.length cv) := h.cell 40 (by decide)
  have hM := Aside0.mk h
  have hu := Try.underlying111
  clear h
  go_enter Try.func63, Try.ntmps63
  go_wp2_with (first | (go_at_call 102; refine (mach_none hM.out).mono ?_; rintro e w' ⟨rfl, hw'⟩; obtain rfl := hw'.symm) | (at_builtin; refine Kd.R_append_rows k161 (w0 := w) w.heap.size rfl (.const (.slice none 0 0)) (.tmp 8) 102 161 (.agg #[.int .i64 0, .int .i64 0]) 16 rfl Try.underlying102 infoMP rfl (by decide) (by omega) (.slice none 0 0) ([] : List _) s.ports Av s.ports.length cv (fun _ => True) (fun _ => False) rfl rfl (Kd.R_nil _ _ _ _ _) hCv (fun x cs h => by obtain rfl := k161_open h; exact k161_mkM _ _ _ x) (fun _ hk => hk.elim) (fun _ _ => trivial) (Below.refl _ _) (Nat.le_refl _) (by simpa using hl) ?_; intro v1 w1 ho hb hg hat))
  go_ret
  exact ⟨_, rfl, ho, hb⟩
theorem mach_Ports_nil : Calls Try.prog 63 #[.pointer none] w fun e w' => e = .returned (.slice none 0 0) ∧ w' = w := by
  go_enter Try.func63, Try.ntmps63
  go_wp2_with (go_at_call 102; refine (mach_none_nil _).mono ?_; rintro e w' ⟨rfl, hw'⟩; obtain rfl := hw'.symm)
  (try rw [Exit.noGoto_ret])
  go_ret
  exact ⟨rfl, rfl⟩
theorem mach_Ports_zero (c0 : w.cell? ⟨g, 0, none⟩ = some (.bool false)) : Calls Try.prog 63 #[.pointer (some ⟨g, 0, none⟩)] w fun e w' => e = .returned (.slice none 0 0) ∧ w' = w := by
  go_enter Try.func63, Try.ntmps63
  go_wp2_with (go_at_call 102; refine (mach_none_zero c0).mono ?_; rintro e w' ⟨rfl, hw'⟩; obtain rfl := hw'.symm)
  (try rw [Exit.noGoto_ret])
  go_ret
  exact ⟨rfl, rfl⟩
end

end Go.Proofs.Ytfgdjpgdabjpmaa.PEdgeRuns
