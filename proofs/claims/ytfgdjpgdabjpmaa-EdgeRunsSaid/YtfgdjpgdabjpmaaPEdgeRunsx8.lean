-- Written for this claim by a program of this session (wip/tools/pp.py, over the kit's print).
import Derived.Test.YtfgdjpgdabjpmaaPEdgeRunsx0
import Derived.Test.YtfgdjpgdabjpmaaPEdgeRunsx1
import Derived.Test.YtfgdjpgdabjpmaaPEdgeRunsx5
import Derived.Test.YtfgdjpgdabjpmaaPEdgeRunsx7
namespace Go.Proofs.Ytfgdjpgdabjpmaa.PEdgeRuns
open Go.RowKit Go.Proofs.YtfgdjpgdabjpmaaW.PrintWords Go.Proofs.YtfgdjpgdabjpmaaW.PrintLast Go.Proofs.YtfgdjpgdabjpmaaW.PrintMore
attribute [local go_sem] max2_int min2_int max_two min_two max_three min_three max_four min_four   -- for this text's walks alone
set_option linter.unusedVariables false
set_option linter.unusedSimpArgs false

attribute [local go_sem high] eqA106
/-! ### pleatlaw12_much: function 32 -/
def pleatlaw12_much.f (l0_0 : List Int) (a0_1 : Int) (l0_2 : List Int) : Option (Bool) := if (l0_0.length : Int) > 600 then (some true) else (some (decide ((l0_2.length : Int) > 16384)))
set_option maxHeartbeats 8000000 in
set_option maxRecDepth 100000 in
theorem pleatlaw12_much.calls (A0_0 : Option Addr) (c0_0 : Nat) (l0_0 : List Int) (a0_1 : Int) (A0_2 : Option Addr) (c0_2 : Nat) (l0_2 : List Int) (r : Bool) (w : World) (hr0_0 : Kd.C (Kd.int .u32) w A0_0 l0_0.length l0_0) (hc0_0 : l0_0.length ≤ c0_0) (hr0_2 : Kd.C (Kd.int .i64) w A0_2 l0_2.length l0_2) (hc0_2 : l0_2.length ≤ c0_2) (h : pleatlaw12_much.f l0_0 a0_1 l0_2 = some r) :
    Calls Try.prog 32 #[.agg #[.slice A0_0 l0_0.length c0_0, .int .i64 a0_1, .slice A0_2 l0_2.length c0_2]] w fun e w' => e = .returned (.bool r) ∧ Below w.heap.size w w' := by
  have hu25 := Try.underlying25
  have HR0_0 := Aside0.mk hr0_0
  have HC0_0 := Aside0.mk hc0_0
  clear hr0_0 hc0_0
  have HR0_2 := Aside0.mk hr0_2
  have HC0_2 := Aside0.mk hc0_2
  clear hr0_2 hc0_2
  have HB := Aside0.mk (Below.refl w.heap.size w)
  have H := h
  clear h
  unfold pleatlaw12_much.f at H
  by_cases c2 : (l0_0.length : Int) > 600
  · rw [if_pos c2] at H
    have c2b0 : decide (600 < (l0_0.length : Int)) = true := decide_eq_true c2
    have c2b1 : decide (600 < l0_0.length) = true := decide_eq_true (by omega)
    clear c2
    obtain rfl := Option.some.inj H
    go_enter Try.func32, Try.ntmps32
    go_wp2_with (first | ((with_reducible refine gate_dst (N := 1) rfl ?_); (try (refine gate_guard (by rfl) ?_; dsimp only)); refine zBox (N := 1) (cs := #[.slice A0_0 l0_0.length c0_0, .int .i64 a0_1, .slice A0_2 l0_2.length c0_2]) (t := 25) ?_; intro gb154 hg w3 hbox hb; refine zs (below_step (zHB) hb) (zs hbox (zs (zGe hg zHB) (zs (zGe hg zHB) ?_))); clear HB; intro GE154 GW154 BK154 HB; clear hb hbox hg; have hcz4 := blk_cell BK154.out; have hfz4 := blk_frozen BK154.out))
    go_ret
    exact ⟨zE, zHB⟩
  · rw [if_neg c2] at H
    have c2b0 : decide (600 < (l0_0.length : Int)) = false := decide_eq_false c2
    have c2b1 : decide (600 < l0_0.length) = false := decide_eq_false (by omega)
    clear c2
    obtain rfl := Option.some.inj H
    go_enter Try.func32, Try.ntmps32
    go_wp2_with (first | ((with_reducible refine gate_dst (N := 1) rfl ?_); (try (refine gate_guard (by rfl) ?_; dsimp only)); refine zBox (N := 1) (cs := #[.slice A0_0 l0_0.length c0_0, .int .i64 a0_1, .slice A0_2 l0_2.length c0_2]) (t := 25) ?_; intro gb154 hg w5 hbox hb; refine zs (below_step (zHB) hb) (zs hbox (zs (zGe hg zHB) (zs (zGe hg zHB) ?_))); clear HB; intro GE154 GW154 BK154 HB; clear hb hbox hg; have hcz6 := blk_cell BK154.out; have hfz6 := blk_frozen BK154.out))
    go_ret
    exact ⟨zE, zHB⟩

/-! ### block_Of: function 48 -/
def block_Of.l0 : Nat → Int → List (S84) → Int → Int → Option (Int)
  | 0, _, _, _, _ => none
  | k + 1, x1, x7, x8, x9 => if x9 < x8 then (if 0 ≤ x9 then (if x9 < (x7.length : Int) then (if ((rd_T84 x7 x9).f0) ≤ x1 then (if x1 < ((rd_T84 x7 x9).f1) then (some x9) else (block_Of.l0 k x1 x7 x8 (wrap64 (x9 + 1)))) else (block_Of.l0 k x1 x7 x8 (wrap64 (x9 + 1)))) else (none)) else (none)) else (some (-1))
def block_Of.f (k : Nat) (l0 : List (S84)) (a1 : Int) : Option (Int) := block_Of.l0 k a1 l0 (l0.length : Int) 0
theorem block_Of.mono_l : ∀ k, (∀ y0 y1 y2 y3, LeO (block_Of.l0 k y0 y1 y2 y3) (block_Of.l0 (k + 1) y0 y1 y2 y3))
  | 0 => fun _ _ _ _ r h => by simp [block_Of.l0] at h
  | k + 1 => by
    have ih0 := block_Of.mono_l k
    · intro y0 y1 y2 y3
      unfold block_Of.l0
      exact zMo
theorem block_Of.mono : ∀ a0 a1 k, LeO (block_Of.f k a0 a1) (block_Of.f (k + 1) a0 a1) := by
  intro a0 a1 k
  have ih0 := block_Of.mono_l k
  unfold block_Of.f
  exact zMo
set_option maxHeartbeats 8000000 in
set_option maxRecDepth 100000 in
theorem block_Of.calls (k : Nat) (A0 : Option Addr) (c0 : Nat) (l0 : List (S84)) (a1 : Int) (r : Int) (w : World) (hr0 : Kd.C k84 w A0 l0.length l0) (hc0 : l0.length ≤ c0) (h : block_Of.f k l0 a1 = some r) :
    Calls Try.prog 48 #[.slice A0 l0.length c0, .int .i64 a1] w fun e w' => e = .returned (.int .i64 r) ∧ Below w.heap.size w w' := by
  have hu84 := Try.underlying84
  have HR0 := Aside0.mk hr0
  have HC0 := Aside0.mk hc0
  clear hr0 hc0
  have HB := Aside0.mk (Below.refl w.heap.size w)
  have H := h
  clear h
  unfold block_Of.f at H
  have H' := Aside0.mk H
  clear H
  go_enter Try.func48, Try.ntmps48
  go_wp2
  go_loopg [9] k (fun kq v9 w' => ∃ (x9_1 : Int), v9 = .int .i64 x9_1 ∧ Aside0 (block_Of.l0 kq a1 l0 (l0.length : Int) x9_1 = some r) ∧ Aside0 (kq ≤ k) ∧ Aside0 (Below w.heap.size w w'))
  case atStart => exact ⟨(0), zF', H', ⟨Nat.le_refl _⟩, ⟨zHB⟩⟩
  case round =>
    clear H'
    obtain ⟨x9_1, rfl, HA, HK1, HB⟩ := hrel
    cases gk with
    | zero => exact absurd HA.out (by simp [block_Of.l0])
    | succ k1 =>
      have H := HA.out
      clear HA
      simp only [block_Of.l0] at H
      by_cases c3 : x9_1 < (l0.length : Int)
      · rw [if_pos c3] at H
        have c3b0 := decide_eq_true c3
        clear c3
        obtain ⟨c4, H⟩ := zG H
        have c4b0 := decide_eq_true c4
        clear c4
        obtain ⟨c5, H⟩ := zG H
        have c5b0 := decide_eq_true c5
        clear c5
        by_cases c6 : ((rd_T84 l0 x9_1).f0) ≤ a1
        · rw [if_pos c6] at H
          have c6b0 := decide_eq_true c6
          clear c6
          by_cases c7 : a1 < ((rd_T84 l0 x9_1).f1)
          · rw [if_pos c7] at H
            have c7b0 := decide_eq_true c7
            clear c7
            obtain rfl := Option.some.inj H
            have p155 : 0 ≤ (x9_1 : Int) := zOD
            have q155 : x9_1 < (l0.length : Int) := zOD
            obtain ⟨ad155, e155, hx155_0, hx155_1⟩ := at_T84 HR0.out x9_1 p155 q155
            cases e155
            replace hx155_0 := (HB.out.cell (World.block_lt_of_cell? w _ hx155_0)).trans hx155_0
            replace hx155_1 := (HB.out.cell (World.block_lt_of_cell? w _ hx155_1)).trans hx155_1
            replace p155 := eq_true p155
            replace q155 := eq_true q155
            go_wp2_with (first | ((with_reducible refine gate_dst (N := 6) rfl ?_); refine zBox (N := 6) (cs := #[.int .i64 0, .int .i64 0]) (t := 84) ?_; intro gb156 hg w8 hbox hb; refine zs (below_step (zHB) hb) (zs hbox (zs (zGe hg zHB) (zs (zGe hg zHB) ?_))); clear HB; intro GE156 GW156 BK156 HB; clear hb hbox hg; have hcz9 := blk_cell BK156.out; have hfz9 := blk_frozen BK156.out))
            go_ret
            exact ⟨zE, zHB⟩
          · rw [if_neg c7] at H
            have c7b0 := decide_eq_false c7
            clear c7
            have H' := Aside0.mk H
            clear H
            have p155 : 0 ≤ (x9_1 : Int) := zOD
            have q155 : x9_1 < (l0.length : Int) := zOD
            obtain ⟨ad155, e155, hx155_0, hx155_1⟩ := at_T84 HR0.out x9_1 p155 q155
            cases e155
            replace hx155_0 := (HB.out.cell (World.block_lt_of_cell? w _ hx155_0)).trans hx155_0
            replace hx155_1 := (HB.out.cell (World.block_lt_of_cell? w _ hx155_1)).trans hx155_1
            replace p155 := eq_true p155
            replace q155 := eq_true q155
            go_wp2_with (first | ((with_reducible refine gate_dst (N := 6) rfl ?_); refine zBox (N := 6) (cs := #[.int .i64 0, .int .i64 0]) (t := 84) ?_; intro gb156 hg w10 hbox hb; refine zs (below_step (zHB) hb) (zs hbox (zs (zGe hg zHB) (zs (zGe hg zHB) ?_))); clear HB; intro GE156 GW156 BK156 HB; clear hb hbox hg; have hcz11 := blk_cell BK156.out; have hfz11 := blk_frozen BK156.out))
            go_roundg k1
            case measure => have := HK1.out; omega
            case rel => exact ⟨(wrap64 (x9_1 + 1)), zF', H', ⟨by have := HK1.out; omega⟩, ⟨zHB⟩⟩
        · rw [if_neg c6] at H
          have c6b0 := decide_eq_false c6
          clear c6
          have H' := Aside0.mk H
          clear H
          have p155 : 0 ≤ (x9_1 : Int) := zOD
          have q155 : x9_1 < (l0.length : Int) := zOD
          obtain ⟨ad155, e155, hx155_0, hx155_1⟩ := at_T84 HR0.out x9_1 p155 q155
          cases e155
          replace hx155_0 := (HB.out.cell (World.block_lt_of_cell? w _ hx155_0)).trans hx155_0
          replace hx155_1 := (HB.out.cell (World.block_lt_of_cell? w _ hx155_1)).trans hx155_1
          replace p155 := eq_true p155
          replace q155 := eq_true q155
          go_wp2_with (first | ((with_reducible refine gate_dst (N := 6) rfl ?_); refine zBox (N := 6) (cs := #[.int .i64 0, .int .i64 0]) (t := 84) ?_; intro gb156 hg w12 hbox hb; refine zs (below_step (zHB) hb) (zs hbox (zs (zGe hg zHB) (zs (zGe hg zHB) ?_))); clear HB; intro GE156 GW156 BK156 HB; clear hb hbox hg; have hcz13 := blk_cell BK156.out; have hfz13 := blk_frozen BK156.out))
          go_roundg k1
          case measure => have := HK1.out; omega
          case rel => exact ⟨(wrap64 (x9_1 + 1)), zF', H', ⟨by have := HK1.out; omega⟩, ⟨zHB⟩⟩
      · rw [if_neg c3] at H
        have c3b0 := decide_eq_false c3
        clear c3
        obtain rfl := Option.some.inj H
        go_wp2
        go_ret
        exact ⟨zE, zHB⟩

/-! ### edge_Reached: function 34, by hand -/
open Go.Maps
/-- A row of numbers that lies in a block that is not go: it may be read; nothing is asked of what lies behind it. -/
def TC (wr : World) (go : Nat) (v : Value) (todo : List Int) : Prop := ∃ (b o c : Nat), v = .slice (some ⟨b, o, none⟩) todo.length c ∧ todo.length ≤ c ∧ b ≠ go ∧ b < wr.heap.size ∧ ∀ j x, todo[j]? = some x → wr.cell? ⟨b, o + j, none⟩ = some (.int .i64 x)
theorem cell_of_same {w w' : World} {b o : Nat} {v : Value} (h : w'.heap[b]? = w.heap[b]?) (hc : w.cell? ⟨b, o, none⟩ = some v) : w'.cell? ⟨b, o, none⟩ = some v := by
  simpa [World.cell?, h] using hc
theorem TC.keep {wr w' : World} {go : Nat} {v : Value} {todo : List Int} (h : TC wr go v todo) (hs : wr.heap.size ≤ w'.heap.size) (hk : ∀ k, k ≠ go → k < wr.heap.size → w'.heap[k]? = wr.heap[k]?) : TC w' go v todo := by
  obtain ⟨b, o, c, e, hc, hn, hl, hx⟩ := h
  exact ⟨b, o, c, e, hc, hn, by omega, fun j x hj => cell_of_same (hk b hn hl) (hx j x hj)⟩
theorem TC_of_R {w : World} {e base go : Nat} {ok : Nat → Prop} {v : Value} {xs : List Int} (h : Kd.R (Kd.int .i64) e w base ok v xs) (hp : 0 < xs.length) (hgo : go < base) : TC w go v xs := by
  obtain ⟨g, cap, rfl, hb, hl, _⟩ := Kd.R_form h hp
  refine ⟨g, 0, cap, rfl, (Kd.R_reads' h).2.1, by omega, hl, fun j x hx => ?_⟩
  have hj : j < xs.length := (List.getElem?_eq_some_iff.1 hx).1
  have := (Kd.R_celln 0 h (j : Int) (by omega) (by omega)).1
  rw [Int.toNat_natCast] at this
  rw [Nat.zero_add, this]
  have e : rdOf 0 xs (j : Int) = x := by simp [rdOf, List.getD_eq_getElem?_getD, hx]
  rw [e]
theorem append_tight {P : Program} {ops : Array Oper} {rest : List Oper} {o : Oper} {a : Act} {Q : Exit → Act → World → Prop} (w : World) (hg : o.guard = none) (s x : Operand) (t e : TypeId) (bytes : Nat)
    (hop : o.op = .call { callee := .builtin .append, args := #[s, x], argTypes := #[t, t] }) (h1 : P.underlying t = some (.slice e)) (hinfo : (P.info? e).map (fun i => (i.zero, i.size, i.bytes)) = some (some (.int .i64 0), 1, bytes))
    (go b of : Nat) (xs : List Int) (hs : a.eval s = .slice (some ⟨b, of, none⟩) xs.length xs.length) (hbg : b ≠ go) (hbw : b < w.heap.size) (hgo : go < w.heap.size) (holds : ∀ j y, xs[j]? = some y → w.cell? ⟨b, of + j, none⟩ = some (.int .i64 y))
    (B : Option Addr) (c : Nat) (ys : List Int) (hx : a.eval x = .slice B ys.length c) (hC : Kd.C (Kd.int .i64) w B ys.length ys) (hb1 : xs.length + ys.length ≤ maxLen) (hb2 : (xs.length + ys.length) * bytes ≤ 140737488355328)
    (hK : ∀ v' w', TC w' go v' (xs ++ ys) → Below w.heap.size w w' → wpList P ops Q rest (a.put o.dst v') w') : wpList P ops Q (o :: rest) a w := by
  obtain ⟨i, hi, hz0, hz1, hz2⟩ := info_parts hinfo
  by_cases hy : ys = []
  · subst hy
    have hsrc : Src P i.size t (.slice B 0 c) 0 [] w := by
      cases B with
      | none => exact Src.ofNil w h1 c
      | some ad => exact Src.ofSlice w h1 ad 0 c [] (by simp) (by simp) (by simp)
    have hrun := run_append_nothing (P := P) w t t o.type e i h1 hi (some ⟨b, of, none⟩) xs.length xs.length (Nat.le_refl _) (.slice B 0 c) hsrc
    refine wpList_plain hg fun K hK' => ?_
    have hx' : a.eval x = .slice B 0 c := hx
    unfold Oper.wp
    simp [execOp, hop, resolve, invoke, builtin, hs, hx', hrun, Result.andThen]
    refine hK' _ _ (hK _ _ ?_ (Below.refl _ _))
    rw [List.append_nil]
    exact ⟨b, of, xs.length, rfl, Nat.le_refl _, hbg, hbw, holds⟩
  · have hp : 0 < ys.length := List.length_pos_iff.2 hy
    obtain ⟨ad, e0, _⟩ := Kd.at_int hC 0 (by omega) (by omega)
    subst e0
    refine wpList_append_grows w hg s x t hop e i (.int .i64 0) 1 bytes h1 hi hz0 hz1 hz2 rfl (by omega) (some ⟨b, of, none⟩) xs.length xs.length (xs.map (Value.int .i64)) hs (fun h => by cases h) (by simp) (fun b' e' j u hj => ?_) ad ys.length c (ys.map (Value.int .i64)) hx (by simp) (fun j u hj => ?_) (fun u hu => ?_) (by omega) hb1 hb2 ?_
    · cases e'
      rw [List.getElem?_map, Option.map_eq_some_iff] at hj
      obtain ⟨y, hy1, rfl⟩ := hj
      rw [Addr.add_lit]
      exact holds j y hy1
    · rw [List.getElem?_map, Option.map_eq_some_iff] at hj
      obtain ⟨y, hy1, rfl⟩ := hj
      have hjl := (List.getElem?_eq_some_iff.1 hy1).1
      obtain ⟨ad', e', hc'⟩ := Kd.at_int hC (j : Int) (by omega) (by omega)
      cases e'
      rw [Int.toNat_natCast] at hc'
      rw [hc']
      simp [rd, List.getD_eq_getElem?_getD, hy1]
    · obtain ⟨y, _, rfl⟩ := List.mem_map.1 hu
      rfl
    · intro v' w' hown hgr
      rw [← List.map_append] at hown
      have hR : Kd.R (Kd.int .i64) e w' w.heap.size (fun _ => True) v' (xs ++ ys) := Kd.R_of_own (by rw [List.length_append]; exact hown) (fun _ _ => trivial)
      exact hK v' w' (TC_of_R hR (by rw [List.length_append]; omega) hgo) ((Below.refl _ _).grown hgr (Nat.le_refl _) (fun k e => by cases e))
theorem edge_at_list {w : World} {A : Option Addr} {n : Nat} {xs : List (List Int)} (h : Kd.C (Kd.slice 3 (Kd.int .i64)) w A n xs) (i : Int) (h0 : 0 ≤ i) (h1 : i < n) : ∃ ad A0 c0, A = some ad ∧ w.cell? (ad.add i.toNat) = some (.slice A0 (xs.getD i.toNat []).length c0) ∧ (xs.getD i.toNat []).length ≤ c0 ∧ (Kd.int .i64).C w A0 (xs.getD i.toNat []).length (xs.getD i.toNat []) := by
  obtain ⟨ad, c, e, _, hK, hc0⟩ := Kd.C_get h ([] : List Int) i h0 h1
  have hc : ∀ j u, c[j]? = some u → w.cell? (ad.add (i.toNat * 1 + j)) = some u := hc0
  obtain ⟨A0, c0, rfl, l0, g0⟩ := hK
  exact ⟨ad, A0, c0, e, by have hq := hc 0 _ rfl; rwa [Nat.mul_one, Nat.add_zero] at hq, l0, g0⟩
/-- The walk over the edges: the places to come to stand in a row, the last one first. -/
def edgeWalk : Nat → List (List Int) → List Bool → List Int → Option (List Bool)
  | 0, _, _, _ => none
  | k + 1, l, out, todo => if todo = [] then some out else
      (if 0 ≤ todo.getLastD 0 ∧ todo.getLastD 0 < (out.length : Int) ∧ todo.getLastD 0 < (l.length : Int) ∧ todo.length ≤ 1000000000 ∧ (l.getD (todo.getLastD 0).toNat []).length ≤ 1000000000 then
        (if rdOf false out (todo.getLastD 0) = true then edgeWalk k l out todo.dropLast else edgeWalk k l (out.set (todo.getLastD 0).toNat true) (todo.dropLast ++ l.getD (todo.getLastD 0).toNat [])) else none)
theorem edgeWalk_mono : ∀ k l out todo, LeO (edgeWalk k l out todo) (edgeWalk (k + 1) l out todo)
  | 0, l, out, todo => fun r h => by simp [edgeWalk] at h
  | k + 1, l, out, todo => by
    rw [edgeWalk, edgeWalk]
    exact LeO.ite (LeO.refl _) (LeO.ite (LeO.ite (edgeWalk_mono _ _ _ _) (edgeWalk_mono _ _ _ _)) (LeO.refl _))
def edge_Reached.f (k : Nat) (a0_0 : List Int) (a0_1 : Int) (a0_2 : List Int) : Option (List Bool × Int) :=
  (edge_Edges.f k a0_0 a0_1 a0_2).bind fun b => if b.2 = 0 then (block_Blocks.f k a0_0 a0_1 a0_2).bind fun c => (block_Of.f k c.1 a0_1).bind fun b0 => if 0 < b.1.length ∧ b.1.length ≤ 16384 then
      (edgeWalk k b.1 (List.replicate b.1.length false) [b0]).bind fun out => some (out, 0) else none
    else some ([], b.2)
theorem edge_Reached.mono : ∀ a0 a1 a2 k, LeO (edge_Reached.f k a0 a1 a2) (edge_Reached.f (k + 1) a0 a1 a2) := fun a0 a1 a2 k =>
  LeO.bind (edge_Edges.mono _ _ _ _) (fun _ => LeO.ite (LeO.bind (block_Blocks.mono _ _ _ _) (fun _ => LeO.bind (block_Of.mono _ _ _) (fun _ => LeO.ite (LeO.bind (edgeWalk_mono _ _ _ _) (fun _ => LeO.refl _)) (LeO.refl _)))) (LeO.refl _))
theorem infoReachB : (Try.prog.info? 4).map (fun i => (i.zero, i.size, i.bytes)) = some (some (.bool false), 1, 1) := by kernel_rfl
theorem infoReachI : (Try.prog.info? 3).map (fun i => (i.zero, i.size, i.bytes)) = some (some (.int .i64 0), 1, 8) := by kernel_rfl
set_option maxRecDepth 100000 in
set_option maxHeartbeats 8000000 in
theorem edge_Reached.calls (k : Nat) (A0_0 : Option Addr) (c0_0 : Nat) (l0_0 : List Int) (a0_1 : Int) (A0_2 : Option Addr) (c0_2 : Nat) (l0_2 : List Int) (r1 : List Bool) (r2 : Int) (w : World) (hr0_0 : Kd.C (Kd.int .u32) w A0_0 l0_0.length l0_0) (hc0_0 : l0_0.length ≤ c0_0) (hr0_2 : Kd.C (Kd.int .i64) w A0_2 l0_2.length l0_2) (hc0_2 : l0_2.length ≤ c0_2) (h : edge_Reached.f k l0_0 a0_1 l0_2 = some (r1, r2)) :
    Calls Try.prog 34 #[.agg #[.slice A0_0 l0_0.length c0_0, .int .i64 a0_1, .slice A0_2 l0_2.length c0_2]] w fun e w' => ∃ v0_ : Value, e = .returned (.tuple #[v0_, .int .i64 r2]) ∧ Kd.R Kd.bool 4 w' w.heap.size (fun _ => True) v0_ r1 ∧ Below w.heap.size w w' := by
  unfold edge_Reached.f at h
  obtain ⟨⟨l, e1⟩, h0, h⟩ := Option.bind_eq_some_iff.1 h
  have A0 := Aside0.mk h0
  have HR0 := Aside0.mk (Kd.C_alloc hr0_0 (.cells #[.slice A0_0 l0_0.length c0_0, .int .i64 a0_1, .slice A0_2 l0_2.length c0_2] 25))
  have HR2 := Aside0.mk (Kd.C_alloc hr0_2 (.cells #[.slice A0_0 l0_0.length c0_0, .int .i64 a0_1, .slice A0_2 l0_2.length c0_2] 25))
  have HB1 := Aside0.mk ((Below.refl w.heap.size w).alloc (Nat.le_refl _) (.cells #[.slice A0_0 l0_0.length c0_0, .int .i64 a0_1, .slice A0_2 l0_2.length c0_2] 25))
  have HB0 := Aside0.mk (heap_alloc_new w (.cells #[.slice A0_0 l0_0.length c0_0, .int .i64 a0_1, .slice A0_2 l0_2.length c0_2] 25))
  clear h0 hr0_0 hr0_2
  by_cases he : e1 = 0
  · subst he
    rw [if_pos rfl] at h
    obtain ⟨⟨bs, e2⟩, h1, h⟩ := Option.bind_eq_some_iff.1 h
    obtain ⟨b0, h2, h⟩ := Option.bind_eq_some_iff.1 h
    by_cases hl : 0 < l.length ∧ l.length ≤ 16384
    · replace h := (if_pos hl).symm.trans h
      obtain ⟨out, h3, h⟩ := Option.bind_eq_some_iff.1 h
      obtain ⟨rfl, rfl⟩ := Prod.mk.inj (Option.some.inj h)
      have H1 := Aside0.mk h1
      have H2 := Aside0.mk h2
      have H3 := Aside0.mk h3
      have HL := Aside0.mk hl
      clear h h1 h2 h3 hl
      go_enter Try.func34, Try.ntmps34
      go_wp2_with (first | (go_step3) | (go_at_call 33; refine (edge_Edges.calls k A0_0 c0_0 l0_0 a0_1 A0_2 c0_2 l0_2 l 0 _ HR0.out hc0_0 HR2.out hc0_2 A0.out).mono ?_; rintro e w1 ⟨v, rfl, hv, hb1⟩; obtain ⟨Av, cv, rfl, hcv, hCv⟩ := Kd.S_reads hv; have HV := Aside0.mk hCv; have HBW : Aside0 (Below w.heap.size w w1) := ⟨HB1.out.trans (hb1.mono (by simp))⟩; have HBX := Aside0.mk ((hb1.block w.heap.size (by simp)).trans HB0.out); have HR0' := Aside0.mk (Kd.C_below HR0.out hb1); have HR2' := Aside0.mk (Kd.C_below HR2.out hb1); clear hv hCv hb1; have d0 : w1.cell? ⟨w.heap.size, 0, none⟩ = some (.slice A0_0 l0_0.length c0_0) := (cell_of_row _ _ _ _ _ _ HBX.out).trans rfl; have d1 : w1.cell? ⟨w.heap.size, 1, none⟩ = some (.int .i64 a0_1) := (cell_of_row _ _ _ _ _ _ HBX.out).trans rfl; have d2 : w1.cell? ⟨w.heap.size, 2, none⟩ = some (.slice A0_2 l0_2.length c0_2) := (cell_of_row _ _ _ _ _ _ HBX.out).trans rfl) | (go_at_call 45; refine (block_Blocks.calls k A0_0 c0_0 l0_0 a0_1 A0_2 c0_2 l0_2 bs e2 _ HR0'.out hc0_0 HR2'.out hc0_2 H1.out).mono ?_; rintro e w2 ⟨v2, rfl, hv2, hb2⟩; obtain ⟨Ab, cb, rfl, hcb, hCb⟩ := Kd.R_reads hv2; have HVB := Aside0.mk hCb; have HBY := Aside0.mk hb2; have x1 := (hb2.cell (World.block_lt_of_cell? w1 _ d1)).trans d1; clear hv2 hCb hb2) | ((with_reducible refine gate_dst (N := 26) rfl ?_); refine Kd.R_make Kd.bool _ 4 rfl (N := 26) rfl 59 _ _ rfl (l.length : Int) rfl rfl Try.underlying59 (.bool false) 1 infoReachB rfl (by decide) (by omega) false (ok := fun _ => True) (okp := fun _ => True) rfl (fun _ hk => hk) trivial (by omega) (by have := HL.out; omega) (Below.refl _ _) (Nat.le_refl _) ?_; intro vo w5 ho6 hb6 hg_ hnew_; clear hg_ hnew_; rw [Int.toNat_natCast] at ho6; obtain ⟨go, co, eo, hgo1, hgo2, _⟩ := Kd.R_form ho6 (by rw [List.length_replicate]; exact HL.out.1); rw [List.length_replicate] at eo; subst eo; have HRO := Aside0.mk ho6; have HG := Aside0.mk (And.intro hgo1 hgo2); have HB5 := Aside0.mk hb6; have x2 := (hb6.cell (World.block_lt_of_cell? w2 _ x1)).trans x1; have HVB5 := Aside0.mk (Kd.C_below HVB.out hb6); clear ho6 hb6 hgo1 hgo2) | (go_at_call 48; refine (block_Of.calls k Ab cb bs a0_1 b0 _ HVB5.out hcb H2.out).mono ?_; rintro e w6 ⟨rfl, hb6⟩; have HB6 := Aside0.mk hb6; clear hb6) | ((with_reducible refine gate_dst (N := 31) rfl ?_); (try (refine gate_guard (by rfl) ?_; dsimp only)); refine Kd.R_lit (Kd.int .i64) _ 3 ?hg (N := 31) ?hd (xs := ([b0] : List Int)) (inner := [.int .i64 b0]) (ok := fun _ => True) (okp := fun _ => True) ?hr ?hp (fun _ hk => hk) trivial (Below.refl _ _) (Nat.le_refl _) (by simp) ?_; (case hd => rfl); (case hg => rfl); (case hr => first | (go_simp; done) | (go_simp; rfl)); (case hp => exact Reps.one (show Kd.M (Kd.int .i64) _ _ _ (b0) [.int .i64 (b0)] from rfl) (Reps.none _ _)); intro u w9 hu9 hb9 hg_ hnew_; clear hg_ hnew_; have HU9 := Aside0.mk hu9; have HB9 := Aside0.mk hb9; clear hu9 hb9))
      have hgw6 : go < w6.heap.size := Nat.lt_of_lt_of_le HG.out.2 HB6.out.size
      have HT0 := Aside0.mk (TC_of_R HU9.out (by simp) hgw6)
      have HBA := Aside0.mk ((HBY.out.trans (HB5.out.mono HBY.out.size)).trans ((HB6.out.mono (Nat.le_trans HBY.out.size HB5.out.size)).trans (HB9.out.mono (Nat.le_trans (Nat.le_trans HBY.out.size HB5.out.size) HB6.out.size))))
      have HR9 := Aside0.mk (Kd.R_below (Kd.R_below HRO.out HB6.out) HB9.out)
      have hgo1 : w1.heap.size ≤ go := Nat.le_trans HBY.out.size HG.out.1
      have hgo2 := HG.out.1
      go_loopg [9] k (fun kq v9 w' => ∃ (todo : List Int) (outL : List Bool), Aside0 (TC w' go v9 todo) ∧ Aside0 (edgeWalk kq l outL todo = some out) ∧ Aside0 (Kd.R Kd.bool 4 w' w2.heap.size (fun _ => True) (.slice (some ⟨go, 0, none⟩) l.length co) outL) ∧ Aside0 (Below w1.heap.size w1 w') ∧ go < w'.heap.size)
      case atStart => exact ⟨[b0], List.replicate l.length false, HT0, H3, HR9, HBA, Nat.lt_of_lt_of_le hgw6 HB9.out.size⟩
      case round =>
        obtain ⟨todo, outL, HT, HW, HR, HB, hgw⟩ := hrel
        cases gk with
        | zero => exact absurd HW.out (by simp [edgeWalk])
        | succ k1 =>
          have h := HW.out
          clear HW
          rw [edgeWalk] at h
          by_cases hn : todo = []
          · subst hn
            rw [if_pos rfl] at h
            obtain rfl := Option.some.inj h
            obtain ⟨tb, to_, tc, rfl, _, _, _, _⟩ := HT.out
            go_wp2_with (go_step3)
            go_ret2
            exact ⟨_, rfl, Kd.R_lower HR.out (by have := HBW.out.size; have := HBY.out.size; omega), HBW.out.trans (HB.out.mono HBW.out.size)⟩
          · rw [if_neg hn] at h
            obtain ⟨pre, kk, rfl⟩ : ∃ pre kk, todo = pre ++ [kk] := ⟨todo.dropLast, todo.getLast hn, (List.dropLast_concat_getLast hn).symm⟩
            rw [List.getLastD_concat, List.dropLast_concat] at h
            by_cases hc : 0 ≤ kk ∧ kk < (outL.length : Int) ∧ kk < (l.length : Int) ∧ (pre ++ [kk]).length ≤ 1000000000 ∧ (l.getD kk.toNat []).length ≤ 1000000000
            · rw [if_pos hc] at h
              obtain ⟨k0, kol, kll, kpl, kel⟩ := hc
              obtain ⟨tb, to_, tc, e, htc, htg, hts, htx⟩ := HT.out
              rw [List.length_append, List.length_singleton] at e htc kpl
              subst e
              have hlast : wr.cell? ⟨tb, to_ + pre.length, none⟩ = some (.int .i64 kk) := htx pre.length kk (by simp)
              obtain ⟨hx, hf⟩ := Kd.R_celln false HR.out kk k0 kll
              have HTP : Aside0 (∀ j x, pre[j]? = some x → wr.cell? ⟨tb, to_ + j, none⟩ = some (.int .i64 x)) := ⟨fun j x hj => htx j x (by rw [List.getElem?_append_left (List.getElem?_eq_some_iff.1 hj).1]; exact hj)⟩
              clear htx
              have HPUT := Kd.R_putg HR.out kk true
              generalize hbo : rdOf false outL kk = bo at hx h
              cases bo
              · rw [if_neg (by decide)] at h
                have H := Aside0.mk h
                have HP := Aside0.mk HPUT.1
                have hgs : go < (wr.setCell ⟨go, kk.toNat, none⟩ (.bool true)).heap.size := Nat.lt_of_lt_of_le hgw HPUT.2.size
                have hts2 : tb < (wr.setCell ⟨go, kk.toNat, none⟩ (.bool true)).heap.size := Nat.lt_of_lt_of_le hts HPUT.2.size
                have hsame : ∀ j, j ≠ go → (wr.setCell ⟨go, kk.toNat, none⟩ (.bool true)).heap[j]? = wr.heap[j]? := fun j hj => Below.heap_setCell _ _ _ j (fun e => hj e)
                have HTQ : Aside0 (∀ j x, pre[j]? = some x → (wr.setCell ⟨go, kk.toNat, none⟩ (.bool true)).cell? ⟨tb, to_ + j, none⟩ = some (.int .i64 x)) := ⟨fun j x hj => cell_of_same (hsame tb htg) (HTP.out j x hj)⟩
                have HBS := Aside0.mk (HB.out.setCell (p := ⟨go, kk.toNat, none⟩) hgo1 (.bool true))
                obtain ⟨ade2, Ae2, ce2, e2', hxe2, hce2, hCe2⟩ := edge_at_list (Kd.C_below HV.out HBS.out) kk k0 kll
                cases e2'
                have H := H.out
                generalize l.getD kk.toNat [] = nb at hxe2 hce2 hCe2 H kel
                replace H := Aside0.mk H
                have HCE2 := Aside0.mk hCe2
                clear h hCe2 HPUT
                go_wp2_with (first | (go_step3) | (at_builtin; (refine append_tight _ rfl (.tmp 56) (.tmp 60) 30 3 8 rfl Try.underlying30 infoReachI go tb to_ pre rfl htg hts2 hgs HTQ.out Ae2 ce2 nb rfl HCE2.out (by simp only [maxLen]; omega) (by omega) ?_; intro v9 w9 hT9 hb9)))
                go_roundg k1
                case measure => omega
                case rel => exact ⟨pre ++ nb, outL.set kk.toNat true, ⟨hT9⟩, H, ⟨Kd.R_below HP.out hb9⟩, ⟨HBS.out.trans (hb9.mono (by have := HBS.out.size; omega))⟩, Nat.lt_of_lt_of_le hgs hb9.size⟩
              · rw [if_pos rfl] at h
                have H := Aside0.mk h
                clear h
                go_wp2_with (go_step3)
                go_roundg k1
                case measure => omega
                case rel => exact ⟨pre, outL, ⟨⟨tb, to_, pre.length, rfl, Nat.le_refl _, htg, hts, HTP.out⟩⟩, H, HR, HB, hgw⟩
            · rw [if_neg hc] at h
              cases h
    · replace h := (if_neg hl).symm.trans h
      cases h
  · replace h := (if_neg he).symm.trans h
    obtain ⟨rfl, rfl⟩ := Prod.mk.inj (Option.some.inj h)
    have hne : (e1 != 0) = true := bne_iff_ne.2 he
    clear h he
    go_enter Try.func34, Try.ntmps34
    go_wp2_with (first | (go_step3) | (go_at_call 33; refine (edge_Edges.calls k A0_0 c0_0 l0_0 a0_1 A0_2 c0_2 l0_2 l e1 _ HR0.out hc0_0 HR2.out hc0_2 A0.out).mono ?_; rintro e w1 ⟨v, rfl, hv, hb1⟩; obtain ⟨Av, cv, rfl, hcv, hCv⟩ := Kd.S_reads hv))
    rw [Exit.noGoto_ret]
    go_ret2
    exact ⟨_, rfl, Kd.R_nil _ _ _ _ _, HB1.out.trans (hb1.mono (by simp))⟩

/-! ### word_Plain: function 101 -/
def word_Plain.f (a0 : Int) : Option (Int × Bool) := some (a0, false)
set_option maxHeartbeats 8000000 in
set_option maxRecDepth 100000 in
theorem word_Plain.calls (a0 : Int) (r1 : Int) (r2 : Bool) (w : World) (h : word_Plain.f a0 = some (r1, r2)) :
    Calls Try.prog 101 #[.int .i64 a0] w fun e w' => e = .returned (.agg #[.int .i64 r1, .bool r2]) ∧ Below w.heap.size w w' := by
  have hu106 := Try.underlying106
  have HB := Aside0.mk (Below.refl w.heap.size w)
  have H := h
  clear h
  unfold word_Plain.f at H
  simp only [Option.some.injEq, Prod.mk.injEq] at H
  obtain ⟨rfl, rfl⟩ := H
  go_enter Try.func101, Try.ntmps101
  go_wp2_with (first | ((with_reducible refine gate_dst (N := 2) rfl ?_); refine zBox (N := 2) (cs := #[.int .i64 0, .bool false]) (t := 106) ?_; intro gb157 hg w2 hbox hb; refine zs (below_step (zHB) hb) (zs hbox (zs (zGe hg zHB) (zs (zGe hg zHB) ?_))); clear HB; intro GE157 GW157 BK157 HB; clear hb hbox hg; have hcz3 := blk_cell BK157.out; have hfz3 := blk_frozen BK157.out))
  refine zRet gb157 106 #[.int .i64 a0, .bool false] Try.underlying106 ?_
  exact ⟨zE, zHB⟩

/-! ### pleatref00_EqRow: function 60 -/
def pleatref00_EqRow.l0 : Nat → List (S106) → List (S106) → Int → Option (Bool)
  | 0, _, _, _ => none
  | k + 1, x0, x1, x5 => if x5 < (x0.length : Int) then (if 0 ≤ x5 then (if x5 < (x1.length : Int) then (if (!(((rd_T106 x0 x5).f0) == ((rd_T106 x1 x5).f0)) || (!(((rd_T106 x0 x5).f1) == ((rd_T106 x1 x5).f1)))) = true then (some false) else (pleatref00_EqRow.l0 k x0 x1 (wrap64 (x5 + 1)))) else (none)) else (none)) else (some true)
def pleatref00_EqRow.f (k : Nat) (l0 : List (S106)) (l1 : List (S106)) : Option (Bool) := if (l0.length : Int) = (l1.length : Int) then (pleatref00_EqRow.l0 k l0 l1 0) else (some false)
theorem pleatref00_EqRow.mono_l : ∀ k, (∀ y0 y1 y2, LeO (pleatref00_EqRow.l0 k y0 y1 y2) (pleatref00_EqRow.l0 (k + 1) y0 y1 y2))
  | 0 => fun _ _ _ r h => by simp [pleatref00_EqRow.l0] at h
  | k + 1 => by
    have ih0 := pleatref00_EqRow.mono_l k
    · intro y0 y1 y2
      unfold pleatref00_EqRow.l0
      exact zMo
theorem pleatref00_EqRow.mono : ∀ a0 a1 k, LeO (pleatref00_EqRow.f k a0 a1) (pleatref00_EqRow.f (k + 1) a0 a1) := by
  intro a0 a1 k
  have ih0 := pleatref00_EqRow.mono_l k
  unfold pleatref00_EqRow.f
  exact zMo
set_option maxHeartbeats 8000000 in
set_option maxRecDepth 100000 in
theorem pleatref00_EqRow.calls (k : Nat) (A0 : Option Addr) (c0 : Nat) (l0 : List (S106)) (A1 : Option Addr) (c1 : Nat) (l1 : List (S106)) (r : Bool) (w : World) (hr0 : Kd.C k106 w A0 l0.length l0) (hc0 : l0.length ≤ c0) (hr1 : Kd.C k106 w A1 l1.length l1) (hc1 : l1.length ≤ c1) (h : pleatref00_EqRow.f k l0 l1 = some r) :
    Calls Try.prog 60 #[.slice A0 l0.length c0, .slice A1 l1.length c1] w fun e w' => e = .returned (.bool r) ∧ Drawn0 w w' := by
  have hu106 := Try.underlying106
  have HR0 := Aside0.mk hr0
  have HC0 := Aside0.mk hc0
  clear hr0 hc0
  have HR1 := Aside0.mk hr1
  have HC1 := Aside0.mk hc1
  clear hr1 hc1
  have H := h
  clear h
  unfold pleatref00_EqRow.f at H
  by_cases c3 : (l0.length : Int) = (l1.length : Int)
  · rw [if_pos c3] at H
    have c3b0 := beq_iff_eq.mpr c3
    have c3b1 := bne_eq_false_iff_eq.mpr c3
    have c3b2 : (l0.length == l1.length) = true := by first | simpa using c3 | (simp at c3 ⊢; omega)
    clear c3
    have H' := Aside0.mk H
    clear H
    go_enter Try.func60, Try.ntmps60
    go_wp2
    repeat (go_quiet (fail); try go_wp2)
    go_loopg [5] k (fun kq v5 w' => ∃ (x5_1 : Int), v5 = .int .i64 x5_1 ∧ Aside0 (pleatref00_EqRow.l0 kq l0 l1 x5_1 = some r) ∧ Aside0 (kq ≤ k) ∧ Drawn0 w w')
    case atStart => exact ⟨(0), zF', H', ⟨Nat.le_refl _⟩, zDr⟩
    case round =>
      clear H'
      try clear c3b0
      try clear c3b1
      try clear c3b2
      obtain ⟨x5_1, rfl, HA, HK1, ⟨m1, rfl⟩⟩ := hrel
      cases gk with
      | zero => exact absurd HA.out (by simp [pleatref00_EqRow.l0])
      | succ k1 =>
        have H := HA.out
        clear HA
        simp only [pleatref00_EqRow.l0] at H
        by_cases c4 : x5_1 < (l0.length : Int)
        · rw [if_pos c4] at H
          have c4b0 := decide_eq_true c4
          clear c4
          obtain ⟨c5, H⟩ := zG H
          have c5b0 := decide_eq_true c5
          clear c5
          obtain ⟨c6, H⟩ := zG H
          have c6b0 := decide_eq_true c6
          clear c6
          by_cases c7 : (!(((rd_T106 l0 x5_1).f0) == ((rd_T106 l1 x5_1).f0)) || (!(((rd_T106 l0 x5_1).f1) == ((rd_T106 l1 x5_1).f1)))) = true
          · rw [if_pos c7] at H
            have c7b0 : (!(((rd_T106 l0 x5_1).f0) == ((rd_T106 l1 x5_1).f0)) || (!(((rd_T106 l0 x5_1).f1) == ((rd_T106 l1 x5_1).f1)))) = true := c7
            clear c7
            obtain rfl := Option.some.inj H
            have p158 : 0 ≤ (x5_1 : Int) := zOD
            have q158 : x5_1 < (l0.length : Int) := zOD
            obtain ⟨ad158, e158, hx158_0, hx158_1⟩ := at_T106 HR0.out x5_1 p158 q158
            cases e158
            replace p158 := eq_true p158
            replace q158 := eq_true q158
            have p159 : 0 ≤ (x5_1 : Int) := zOD
            have q159 : x5_1 < (l1.length : Int) := zOD
            obtain ⟨ad159, e159, hx159_0, hx159_1⟩ := at_T106 HR1.out x5_1 p159 q159
            cases e159
            replace p159 := eq_true p159
            replace q159 := eq_true q159
            go_wp2
            repeat (go_quiet (fail); try go_wp2)
            go_ret
            exact ⟨zF', zDr⟩
          · rw [if_neg c7] at H
            have c7b0 : (!(((rd_T106 l0 x5_1).f0) == ((rd_T106 l1 x5_1).f0)) || (!(((rd_T106 l0 x5_1).f1) == ((rd_T106 l1 x5_1).f1)))) = false := by simpa using c7
            clear c7
            have H' := Aside0.mk H
            clear H
            have p158 : 0 ≤ (x5_1 : Int) := zOD
            have q158 : x5_1 < (l0.length : Int) := zOD
            obtain ⟨ad158, e158, hx158_0, hx158_1⟩ := at_T106 HR0.out x5_1 p158 q158
            cases e158
            replace p158 := eq_true p158
            replace q158 := eq_true q158
            have p159 : 0 ≤ (x5_1 : Int) := zOD
            have q159 : x5_1 < (l1.length : Int) := zOD
            obtain ⟨ad159, e159, hx159_0, hx159_1⟩ := at_T106 HR1.out x5_1 p159 q159
            cases e159
            replace p159 := eq_true p159
            replace q159 := eq_true q159
            go_wp2
            repeat (go_quiet (fail); try go_wp2)
            go_roundg k1
            case measure => have := HK1.out; omega
            case rel => exact ⟨(wrap64 (x5_1 + 1)), zF', H', ⟨by have := HK1.out; omega⟩, zDr⟩
        · rw [if_neg c4] at H
          have c4b0 := decide_eq_false c4
          clear c4
          obtain rfl := Option.some.inj H
          go_wp2
          repeat (go_quiet (fail); try go_wp2)
          go_ret
          exact ⟨zF', zDr⟩
  · rw [if_neg c3] at H
    have c3b0 := beq_eq_false_iff_ne.mpr c3
    have c3b1 := bne_iff_ne.mpr c3
    have c3b2 : (l0.length == l1.length) = false := by first | simpa using c3 | (simp at c3 ⊢; omega)
    obtain rfl := Option.some.inj H
    go_enter Try.func60, Try.ntmps60
    go_wp2
    repeat (go_quiet (fail); try go_wp2)
    go_ret
    exact ⟨zF', zDr⟩

end Go.Proofs.Ytfgdjpgdabjpmaa.PEdgeRuns
