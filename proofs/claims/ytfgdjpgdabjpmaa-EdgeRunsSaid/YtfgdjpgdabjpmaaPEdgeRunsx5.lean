-- Written for this claim by a program of this session (wip/tools/pp.py, over the kit's print).
import Derived.Test.YtfgdjpgdabjpmaaPEdgeRunsx0
import Derived.Test.YtfgdjpgdabjpmaaPEdgeRunsx3
import Derived.Test.YtfgdjpgdabjpmaaPEdgeRunsx4
namespace Go.Proofs.Ytfgdjpgdabjpmaa.PEdgeRuns
open Go.RowKit Go.Proofs.YtfgdjpgdabjpmaaW.PrintWords Go.Proofs.YtfgdjpgdabjpmaaW.PrintLast Go.Proofs.YtfgdjpgdabjpmaaW.PrintMore
attribute [local go_sem] max2_int min2_int max_two min_two max_three min_three max_four min_four   -- for this text's walks alone
set_option linter.unusedVariables false
set_option linter.unusedSimpArgs false

/-! ### block_gather: function 98, by hand -/
-- LIB
/-- The places that were seen: the variable in block S holds the map in block b, of at most c entries. -/
structure IsSet (w : World) (S b c : Nat) (L : List Int) : Prop where
  cell : w.heap[S]? = some (.cells #[.map (some b)] 126 (0, 0))
  own : w.ownsMap Try.prog 3 (plainElem Try.prog 4) b c (Mapv.sview .i64 L)
  ne : S ≠ b
/-- Block b alone is written. -/
structure KeptB (b : Nat) (w w' : World) : Prop where
  os : w'.os = w.os
  tape : w'.tape = w.tape
  output : w'.output = w.output
  size : w.heap.size ≤ w'.heap.size
  block : ∀ k, k < w.heap.size → k ≠ b → w'.heap[k]? = w.heap[k]?
theorem KeptB.refl (b : Nat) (w : World) : KeptB b w w := ⟨rfl, rfl, rfl, Nat.le_refl _, fun _ _ _ => rfl⟩
theorem KeptB.trans {b : Nat} {w w1 w2 : World} (h : KeptB b w w1) (k : KeptB b w1 w2) : KeptB b w w2 :=
  ⟨k.os.trans h.os, k.tape.trans h.tape, k.output.trans h.output, Nat.le_trans h.size k.size, fun i hi hb => (k.block i (Nat.lt_of_lt_of_le hi h.size) hb).trans (h.block i hi hb)⟩
theorem KeptB.of_below {b : Nat} {w w1 : World} (h : Below w.heap.size w w1) : KeptB b w w1 := ⟨h.os, h.tape, h.output, h.size, fun i hi _ => h.block i hi⟩
theorem KeptB.of_grown {b : Nat} {w w1 : World} (h : w.grownBy w1 (some b)) : KeptB b w w1 := ⟨h.os, h.tape, h.output, h.size, fun i hi hb => h.block i hi (fun e => hb (Option.some.inj e))⟩
theorem KeptB.below {B b : Nat} {w w1 w2 : World} (h : Below B w w1) (hk : KeptB b w1 w2) (hb : B ≤ b) (hB : B ≤ w1.heap.size) : Below B w w2 :=
  ⟨hk.os.trans h.os, hk.tape.trans h.tape, hk.output.trans h.output, Nat.le_trans h.size hk.size, fun i hi => (hk.block i (Nat.lt_of_lt_of_le hi hB) (by omega)).trans (h.block i hi)⟩
theorem IsSet.lt {w : World} {S b c : Nat} {L : List Int} (h : IsSet w S b c L) : S < w.heap.size ∧ b < w.heap.size := ⟨(Array.getElem?_eq_some_iff.1 h.cell).1, h.own.lt⟩
theorem IsSet.below {w w1 : World} {S b c : Nat} {L : List Int} (h : IsSet w S b c L) (hb : Below w.heap.size w w1) : IsSet w1 S b c L :=
  ⟨(hb.block S h.lt.1).trans h.cell, Mapv.ownsMap_below h.own hb h.lt.2, h.ne⟩
theorem IsSet.grown {w w1 : World} {S b c : Nat} {L : List Int} {row : Option Nat} (h : IsSet w S b c L) (hg : w.grownBy w1 row) (h1 : some S ≠ row) (h2 : some b ≠ row) : IsSet w1 S b c L :=
  ⟨Mapv.heap_kept h.cell hg h1, h.own.kept hg h2, h.ne⟩
theorem IsSet.mono {w : World} {S b c c' : Nat} {L : List Int} (h : IsSet w S b c L) (hc : c ≤ c') : IsSet w S b c' L := ⟨h.cell, h.own.mono hc, h.ne⟩
theorem wf_i64_of {x : Int} (h0 : -9223372036854775808 ≤ x) (h1 : x ≤ 9223372036854775807) : (Lit.int .i64 x).wf = true := by
  have hmin : IntKind.i64.min = -9223372036854775808 := rfl
  have hmax : IntKind.i64.max = 9223372036854775807 := rfl
  simp only [Lit.wf, Bool.and_eq_true, decide_eq_true_eq]
  omega
set_option maxRecDepth 100000 in
set_option maxHeartbeats 4000000 in
/-- 'func(place int) { seen[place] = true }' -/
theorem gather_see (S b c : Nat) (L : List Int) (p : Int) (w : World) (hS : IsSet w S b c L) (h0 : -9223372036854775808 ≤ p) (h1 : p ≤ 9223372036854775807) (hc : c < maxLen) :
    Calls Try.prog 116 #[.int .i64 p, .pointer (some ⟨S, 0, none⟩)] w fun e w' => e = .returned (.tuple #[]) ∧ IsSet w' S b (c + 1) (p :: L) ∧ KeptB b w w' := by
  have c0 : w.cell? ⟨S, 0, none⟩ = some (.map (some b)) := (cell_of_row _ _ _ _ _ _ hS.cell).trans rfl
  have HS := Aside0.mk hS
  have hkey : keyOf Try.prog 3 (.int .i64 p) = some (.int .i64 p) := Maps.keyOf_int_mk Try.underlying3 (wf_i64_of h0 h1)
  clear hS
  go_enter Try.func116, Try.ntmps116
  go_wp2_with (at_mapUpdate; refine wpList_mapUpdate_own _ rfl _ _ _ 126 rfl 3 4 (Maps.int_keyed Try.underlying3) Try.underlying126 _ b c _ rfl HS.out.own hc _ _ _ rfl rfl hkey _ [] (plainElem_bool Try.underlying4 true) ?_; intro w2 hown2 hg2)
  go_end0
  exact ⟨rfl, ⟨Mapv.heap_kept HS.out.cell hg2 (fun e => HS.out.ne (Option.some.inj e)), hown2, HS.out.ne⟩, KeptB.of_grown hg2⟩
/-- What a mark function does at the place at: it sees the places of mk. -/
def Marks (k : Nat) (F : Nat) (caps : Array Value) (w : World) (l : List Int) (mk : Nat → List Int) : Prop :=
  ∀ (W : World) (S b c at_ : Nat) (L : List Int) (t0 t1 t2 t3 t4 : Int), at_ < l.length → Below w.heap.size w W → w.heap.size ≤ b → IsSet W S b c L → c ≤ 1048576 → isa_Decode.f k (rd l (at_ : Int)) = some (t0, t1, t2, t3, t4) → -4611686018427387904 ≤ t4 → t4 ≤ 4611686018427387904 →
    Calls Try.prog F (#[.int .i64 at_, .agg #[.int .i8 t0, .int .i8 t1, .int .i8 t2, .int .i8 t3, .int .i64 t4], .func (.func 116) #[] #[.pointer (some ⟨S, 0, none⟩)]] ++ caps) W
      fun e W' => e = .returned (.tuple #[]) ∧ IsSet W' S b (c + (mk at_).length) ((mk at_).reverse ++ L) ∧ KeptB b W W'
/-- All places that are seen, newest first. -/
def seenTo (mk : Nat → List Int) : Nat → List Int
  | 0 => []
  | n + 1 => (mk n).reverse ++ seenTo mk n
/-- The places below n that are seen. -/
def places (L : List Int) : Nat → List Int
  | 0 => []
  | n + 1 => if L.contains (n : Int) = true then places L n ++ [(n : Int)] else places L n
theorem places_len (L : List Int) : ∀ n, (places L n).length ≤ n
  | 0 => Nat.le_refl _
  | n + 1 => by
    have := places_len L n
    unfold places
    split <;> simp <;> omega
/-- At the head of a round of the second loop. -/
def GRel2 (w : World) (S b c : Nat) (L : List Int) (n : Nat) (i v : Value) (wr : World) : Prop :=
  ∃ j : Nat, i = .int .i64 j ∧ j ≤ n ∧ IsSet wr S b c L ∧ wr.ownsRow w.heap.size 3 1 v (places L j).length (nums .i64 (places L j)) ∧ v.ownBlock ≠ some S ∧ v.ownBlock ≠ some b ∧ Below w.heap.size w wr
/-- At the head of a round of the first loop. -/
def GRel1 (w : World) (S b : Nat) (cells : Array Value) (n : Nat) (mk : Nat → List Int) (i : Value) (wr : World) : Prop :=
  ∃ j : Nat, i = .int .i64 j ∧ j ≤ n ∧ IsSet wr S b (8 * j) (seenTo mk j) ∧ Below w.heap.size w wr ∧ wr.heap[w.heap.size]? = some (.cells cells 25 (0, 0))
set_option maxRecDepth 100000 in
set_option maxHeartbeats 8000000 in
theorem gather_calls (k : Nat) (A0_0 : Option Addr) (c0_0 : Nat) (l0_0 : List Int) (a0_1 : Int) (A0_2 : Option Addr) (c0_2 : Nat) (l0_2 : List Int) (e2 : Int) (F : Nat) (caps : Array Value) (mk : Nat → List Int) (w : World)
    (hr0_0 : Kd.C (Kd.int .u32) w A0_0 l0_0.length l0_0) (hc0_0 : l0_0.length ≤ c0_0) (hr0_2 : Kd.C (Kd.int .i64) w A0_2 l0_2.length l0_2) (hc0_2 : l0_2.length ≤ c0_2)
    (h : image_Check.f k l0_0 a0_1 l0_2 = some (0, e2)) (hdec : ∀ j : Nat, j < l0_0.length → ∃ t, isa_Decode.f k (rd l0_0 (j : Int)) = some t ∧ -4611686018427387904 ≤ t.2.2.2.2 ∧ t.2.2.2.2 ≤ 4611686018427387904) (hlen : l0_0.length ≤ 16384) (hmk : ∀ j, (mk j).length ≤ 8) (hM : Marks k F caps w l0_0 mk) (hF : ∀ (a : Array Value) (W : World), (callFunc F a).run Try.prog W = .ok (.enter F a) W) :
    Calls Try.prog 98 #[.agg #[.slice A0_0 l0_0.length c0_0, .int .i64 a0_1, .slice A0_2 l0_2.length c0_2], .func (.func F) #[] caps] w fun e w' => ∃ v0_ : Value, e = .returned (.tuple #[v0_, .int .i64 0]) ∧ Kd.R (Kd.int .i64) 3 w' w.heap.size (fun _ => True) v0_ (places (seenTo mk l0_0.length) l0_0.length) ∧ Below w.heap.size w w' := by
  have hmm := @run_makeMap Try.prog
  have hmf : ∀ (fn : Fn) (first cap : Array Value) (w : World), (Instr.makeFunc fn first cap).run Try.prog w = .ok (.func fn first cap) w := fun _ _ _ _ => rfl
  have A0 := Aside0.mk h
  have HR0 := Aside0.mk hr0_0
  have HR2 := Aside0.mk hr0_2
  have HD := Aside0.mk hdec
  have HMK := Aside0.mk hmk
  have HM := Aside0.mk hM
  clear h hr0_0 hr0_2 hdec hmk hM
  go_enter Try.func98, Try.ntmps98
  go_wp2_with (go_at_call 22; refine (image_Check.calls k A0_0 c0_0 l0_0 a0_1 A0_2 c0_2 l0_2 0 e2 _ (Kd.C_alloc HR0.out _) hc0_0 (Kd.C_alloc HR2.out _) hc0_2 A0.out).mono ?_; rintro e w1 ⟨rfl, hb1⟩; have d0 : w1.cell? ⟨w.heap.size, 0, none⟩ = some (.slice A0_0 l0_0.length c0_0) := (hb1.cell (p := ⟨w.heap.size, 0, none⟩) (by simp)).trans ((cell_of_row _ _ _ _ _ _ (heap_alloc_new _ _)).trans rfl); have hz : w.heap.size < w1.heap.size := by have := hb1.size; simp at this; omega)
  have hB0 := (hb1.block w.heap.size (by simp)).trans (heap_alloc_new _ _)
  have HW1 : Aside0 (Below w.heap.size w w1) := ⟨((Below.refl w.heap.size w).alloc (Nat.le_refl _) _).trans (hb1.mono (by simp))⟩
  have HB0 := Aside0.mk hB0
  have hwz := Aside0.mk (Nat.le_of_lt hz)
  have hlast := Aside0.mk hz
  clear hb1 d0 hB0
  go_loopw [25] (fun i wr => GRel1 w (w1.heap.size + 1) w1.heap.size #[.slice A0_0 l0_0.length c0_0, .int .i64 a0_1, .slice A0_2 l0_2.length c0_2] l0_0.length mk i wr) (fun i _ => l0_0.length - (intOf i).toNat)
  case atStart =>
    refine ⟨0, rfl, Nat.zero_le _, ⟨heap_alloc2_new _ _ _, (World.ownsMap_made (H := Unit) _ _ _ _).alloc _, by omega⟩, (HW1.out.alloc hwz.out _).alloc (by simp; omega) _, ?_⟩
    rw [heap_alloc_old _ _ (by simp; omega), heap_alloc_old _ _ hlast.out]
    exact HB0.out
  case round =>
    obtain ⟨j, rfl, hj, hset, hbel, hcl⟩ := hrel
    have HS := Aside0.mk hset
    have HL := Aside0.mk hbel
    have HC := Aside0.mk hcl
    clear hset hbel hcl
    by_cases hlt : j < l0_0.length
    · obtain ⟨ad, e, hx⟩ := Kd.at_int (Kd.C_below HR0.out HL.out) (j : Int) (by omega) (by omega)
      cases e
      rw [Int.toNat_natCast] at hx
      obtain ⟨⟨t0, t1, t2, t3, t4⟩, hdj, hr1, hr2⟩ := HD.out j hlt
      have HR1 := Aside0.mk hr1
      have HR2' := Aside0.mk hr2
      clear hr1 hr2
      have HDJ := Aside0.mk hdj
      clear hdj
      go_wp2_with (go_at_call 16; refine (isa_Decode.calls k _ t0 t1 t2 t3 t4 _ HDJ.out).mono ?_; rintro e w2 ⟨rfl, hb2⟩)
      have hS2 := HS.out.below hb2
      have hL2 := HL.out.trans (hb2.mono HL.out.size)
      refine (HM.out w2 (w1.heap.size + 1) w1.heap.size (8 * j) j (seenTo mk j) t0 t1 t2 t3 t4 hlt hL2 hwz.out hS2 (by omega) HDJ.out HR1.out HR2'.out).mono ?_
      rintro e w3 ⟨rfl, hs3, hk3⟩
      have HS3 := Aside0.mk hs3
      have HK3 := Aside0.mk hk3
      have HL2 := Aside0.mk hL2
      have HC2 := Aside0.mk ((hb2.block w.heap.size (Array.getElem?_eq_some_iff.1 HC.out).1).trans HC.out)
      clear hs3 hk3 hS2 hL2 hb2
      go_wp2
      refine ⟨⟨j + 1, by simp, by omega, HS3.out.mono (by have := HMK.out j; omega), KeptB.below HL2.out HK3.out hwz.out HL2.out.size, ?_⟩, by simp [intOf]; omega⟩
      exact (HK3.out.block _ (Array.getElem?_eq_some_iff.1 HC2.out).1 (by have := hlast.out; omega)).trans HC2.out
    · obtain rfl : j = l0_0.length := by omega
      have d1 : wr.cell? ⟨w.heap.size, 0, none⟩ = some (.slice A0_0 l0_0.length c0_0) := (cell_of_row _ _ _ _ _ _ HC.out).trans rfl
      go_wp2
      have HS4 := Aside0.mk HS.out
      have HL4 := Aside0.mk HL.out
      clear HS HL HC d1
      go_loopw [40, 11] (fun i v wr' => GRel2 w (w1.heap.size + 1) w1.heap.size (8 * l0_0.length) (seenTo mk l0_0.length) l0_0.length i v wr') (fun i _ _ => l0_0.length - (intOf i).toNat)
      case atStart => exact ⟨0, rfl, Nat.zero_le _, HS4.out, own_nil _ _ _ _, by simp [Value.ownBlock], by simp [Value.ownBlock], HL4.out⟩
      case round =>
        obtain ⟨j, rfl, hj, hset, hrow, hvS, hvb, hbel⟩ := hrel
        have HS := Aside0.mk hset
        have HR := Aside0.mk hrow
        have HL := Aside0.mk hbel
        have HVS := Aside0.mk hvS
        have HVB := Aside0.mk hvb
        clear hset hrow hbel hvS hvb
        by_cases hlt : j < l0_0.length
        · have d2 : wr.cell? ⟨w1.heap.size + 1, 0, none⟩ = some (.map (some w1.heap.size)) := (cell_of_row _ _ _ _ _ _ HS.out.cell).trans rfl
          have hj5 : (j : Int) < 16384 := by omega
          have hlk := Mapv.look_bool HS.out.own Try.underlying3 Try.underlying126 Try.underlying4 (by kernel_rfl) (wf_i64_of (x := (j : Int)) (by omega) (by omega))
          have hpl : places (seenTo mk l0_0.length) (j + 1) = if (seenTo mk l0_0.length).contains (j : Int) = true then places (seenTo mk l0_0.length) j ++ [(j : Int)] else places (seenTo mk l0_0.length) j := rfl
          have HP := Aside0.mk hpl
          have hple := places_len (seenTo mk l0_0.length) j
          have HB := Aside0.mk (show ((places (seenTo mk l0_0.length) j).length + 1) * 8 ≤ 140737488355328 by omega)
          clear hpl hple
          cases hc : (seenTo mk l0_0.length).contains (j : Int) with
          | true =>
            rw [hc] at hlk
            have HP2 := Aside0.mk (HP.out.trans (by rw [hc] <;> rfl))
            clear hc HP
            go_wp2_with (at_builtin; refine print_append_num (w0 := w) w.heap.size rfl (.tmp 46) (.tmp 48) 30 3 .i64 8 rfl Try.underlying30 info3 (by decide) _ (places (seenTo mk l0_0.length) j) (j : Int) rfl rfl HR.out HL.out HL.out.size HB.out ?_; intro v1 w3 ho hb hg hat)
            refine ⟨⟨j + 1, by simp, by omega, HS.out.grown hg (fun e => HVS.out e.symm) (fun e => HVB.out e.symm), by rw [HP2.out]; exact ho, ?_, ?_, hb⟩, by simp [intOf]; omega⟩
            · rcases hat with e | ⟨q, e, hq⟩
              · rw [e]; exact HVS.out
              · rw [e]; intro e'; have := Option.some.inj e'; have := HS.out.lt; omega
            · rcases hat with e | ⟨q, e, hq⟩
              · rw [e]; exact HVB.out
              · rw [e]; intro e'; have := Option.some.inj e'; have := HS.out.lt; omega
          | false =>
            rw [hc] at hlk
            have HP2 := Aside0.mk (HP.out.trans (by rw [hc] <;> rfl))
            clear hc HP
            go_wp2
            exact ⟨⟨j + 1, by simp, by omega, HS.out, by rw [HP2.out]; exact HR.out, HVS.out, HVB.out, HL.out⟩, by simp [intOf]; omega⟩
        · obtain rfl : j = l0_0.length := by omega
          go_wp2
          go_ret2
          exact ⟨_, rfl, Kd.R_of_own HR.out (fun _ _ => trivial), HL.out⟩
set_option maxRecDepth 100000 in
set_option maxHeartbeats 8000000 in
theorem gather_err (k : Nat) (A0_0 : Option Addr) (c0_0 : Nat) (l0_0 : List Int) (a0_1 : Int) (A0_2 : Option Addr) (c0_2 : Nat) (l0_2 : List Int) (e1 e2 : Int) (F : Nat) (caps : Array Value) (w : World)
    (hr0_0 : Kd.C (Kd.int .u32) w A0_0 l0_0.length l0_0) (hc0_0 : l0_0.length ≤ c0_0) (hr0_2 : Kd.C (Kd.int .i64) w A0_2 l0_2.length l0_2) (hc0_2 : l0_2.length ≤ c0_2)
    (h : image_Check.f k l0_0 a0_1 l0_2 = some (e1, e2)) (he : ¬ e1 = 0) :
    Calls Try.prog 98 #[.agg #[.slice A0_0 l0_0.length c0_0, .int .i64 a0_1, .slice A0_2 l0_2.length c0_2], .func (.func F) #[] caps] w fun e w' => e = .returned (.tuple #[.slice none 0 0, .int .i64 e1]) ∧ Below w.heap.size w w' := by
  have A0 := Aside0.mk h
  have HR0 := Aside0.mk hr0_0
  have HR2 := Aside0.mk hr0_2
  have h1 : (e1 != 0) = true := by simpa using he
  clear h hr0_0 hr0_2 he
  go_enter Try.func98, Try.ntmps98
  go_wp2_with (go_at_call 22; refine (image_Check.calls k A0_0 c0_0 l0_0 a0_1 A0_2 c0_2 l0_2 e1 e2 _ (Kd.C_alloc HR0.out _) hc0_0 (Kd.C_alloc HR2.out _) hc0_2 A0.out).mono ?_; rintro e w1 ⟨rfl, hb1⟩)
  go_ret2
  exact ⟨rfl, ((Below.refl w.heap.size w).alloc (Nat.le_refl _) _).trans (hb1.mono (by simp))⟩
/-- The words' fields. -/
def decs (k : Nat) : List Int → Option (List (Int × Int × Int × Int × Int))
  | [] => some []
  | v :: ws => (isa_Decode.f k v).bind fun t => if -4611686018427387904 ≤ t.2.2.2.2 ∧ t.2.2.2.2 ≤ 4611686018427387904 then (decs k ws).bind fun ts => some (t :: ts) else none
theorem decs_mono (k : Nat) : ∀ ws, LeO (decs k ws) (decs (k + 1) ws)
  | [] => LeO.refl _
  | v :: ws => LeO.bind (isa_Decode.mono _ _) (fun t => LeO.ite (LeO.bind (decs_mono k ws) (fun _ => LeO.refl _)) (LeO.none _))
theorem decs_get {k : Nat} : ∀ {ws : List Int} {ts : List (Int × Int × Int × Int × Int)}, decs k ws = some ts → ts.length = ws.length ∧ ∀ j : Nat, j < ws.length → isa_Decode.f k (rd ws (j : Int)) = some (ts.getD j (0, 0, 0, 0, 0)) ∧ -4611686018427387904 ≤ (ts.getD j (0, 0, 0, 0, 0)).2.2.2.2 ∧ (ts.getD j (0, 0, 0, 0, 0)).2.2.2.2 ≤ 4611686018427387904
  | [], ts, h => by
    obtain rfl := Option.some.inj h
    exact ⟨rfl, fun j hj => by simp at hj⟩
  | v :: ws, ts, h => by
    obtain ⟨t, h1, h2⟩ := Option.bind_eq_some_iff.1 h
    by_cases hc : -4611686018427387904 ≤ t.2.2.2.2 ∧ t.2.2.2.2 ≤ 4611686018427387904
    · rw [if_pos hc] at h2
      obtain ⟨ts', h3, h4⟩ := Option.bind_eq_some_iff.1 h2
      obtain rfl := Option.some.inj h4
      obtain ⟨hl, hg⟩ := decs_get h3
      refine ⟨by simp [hl], fun j hj => ?_⟩
      cases j with
      | zero => exact ⟨by simpa [rd] using h1, by simpa using hc.1, by simpa using hc.2⟩
      | succ j =>
        have := hg j (by simpa using hj)
        simpa [rd] using this
    · rw [if_neg hc] at h2
      cases h2
def gathered (k : Nat) (mk : List (Int × Int × Int × Int × Int) → Nat → List Int) (l : List Int) (e : Int) (m : List Int) : Option (List Int × Int) :=
  (image_Check.f k l e m).bind fun c => if c.1 = 0 then (if l.length ≤ 16384 then (decs k l).bind fun ts => some (places (seenTo (mk ts) l.length) l.length, 0) else none) else some ([], c.1)
theorem gathered_mono (k : Nat) (mk : List (Int × Int × Int × Int × Int) → Nat → List Int) (l : List Int) (e : Int) (m : List Int) : LeO (gathered k mk l e m) (gathered (k + 1) mk l e m) :=
  LeO.bind (image_Check.mono _ _ _ _) (fun c => LeO.ite (LeO.ite (LeO.bind (decs_mono k _) (fun _ => LeO.refl _)) (LeO.none _)) (LeO.refl _))

/-! ### block_Blocks: function 45, by hand -/
def blkInfo (k : Nat) : List Int → Option (List ((Int × Bool) × Bool))
  | [] => some []
  | v :: ws => (isa_Target.f k v).bind fun t => (isa_Ends.f k v).bind fun b => if -4611686018427387904 ≤ t.1 ∧ t.1 ≤ 4611686018427387904 then (blkInfo k ws).bind fun ts => some ((t, b) :: ts) else none
theorem blkInfo_mono (k : Nat) : ∀ ws, LeO (blkInfo k ws) (blkInfo (k + 1) ws)
  | [] => LeO.refl _
  | v :: ws => LeO.bind (isa_Target.mono _ _) (fun t => LeO.bind (isa_Ends.mono _ _) (fun b => LeO.ite (LeO.bind (blkInfo_mono k ws) (fun _ => LeO.refl _)) (LeO.none _)))
theorem blkInfo_get {k : Nat} : ∀ {ws : List Int} {ts : List ((Int × Bool) × Bool)}, blkInfo k ws = some ts → ts.length = ws.length ∧ ∀ j : Nat, j < ws.length → isa_Target.f k (rd ws (j : Int)) = some (ts.getD j ((0, false), false)).1 ∧ isa_Ends.f k (rd ws (j : Int)) = some (ts.getD j ((0, false), false)).2 ∧ -4611686018427387904 ≤ (ts.getD j ((0, false), false)).1.1 ∧ (ts.getD j ((0, false), false)).1.1 ≤ 4611686018427387904
  | [], ts, h => by
    obtain rfl := Option.some.inj h
    exact ⟨rfl, fun j hj => by simp at hj⟩
  | v :: ws, ts, h => by
    obtain ⟨t, h1, h2⟩ := Option.bind_eq_some_iff.1 h
    obtain ⟨b, h5, h2⟩ := Option.bind_eq_some_iff.1 h2
    by_cases hc : -4611686018427387904 ≤ t.1 ∧ t.1 ≤ 4611686018427387904
    · rw [if_pos hc] at h2
      obtain ⟨ts', h3, h4⟩ := Option.bind_eq_some_iff.1 h2
      obtain rfl := Option.some.inj h4
      obtain ⟨hl, hg⟩ := blkInfo_get h3
      refine ⟨by simp [hl], fun j hj => ?_⟩
      cases j with
      | zero => exact ⟨by simpa [rd] using h1, by simpa [rd] using h5, by simpa using hc.1, by simpa using hc.2⟩
      | succ j =>
        have := hg j (by simpa using hj)
        simpa [rd] using this
    · rw [if_neg hc] at h2
      cases h2
def bmkAt (ts : List ((Int × Bool) × Bool)) (e : Int) (j : Nat) : List Int := (if (ts.getD j ((0, false), false)).1.2 = true then [(ts.getD j ((0, false), false)).1.1] else []) ++ ((if (ts.getD j ((0, false), false)).2 = true then [(j : Int) + 1] else []) ++ [e, 0])
def blocksTo (L : List Int) (n : Int) : Nat → List S84
  | 0 => []
  | j + 1 => blocksTo L n j ++ [⟨rd L (j : Int), if (j : Int) + 1 < (L.length : Int) then rd L ((j : Int) + 1) else n⟩]
def block_Blocks.f (k : Nat) (a0_0 : List Int) (a0_1 : Int) (a0_2 : List Int) : Option (List S84 × Int) :=
  (image_Check.f k a0_0 a0_1 a0_2).bind fun c => if c.1 = 0 then (if a0_0.length ≤ 16384 ∧ 0 ≤ a0_1 ∧ a0_1 ≤ 16384 then (decs k a0_0).bind fun ts => (blkInfo k a0_0).bind fun is => some (blocksTo (places (seenTo (bmkAt is a0_1) a0_0.length) a0_0.length) (a0_0.length : Int) (places (seenTo (bmkAt is a0_1) a0_0.length) a0_0.length).length, 0) else none) else some ([], c.1)
theorem block_Blocks.mono : ∀ a0 a1 a2 k, LeO (block_Blocks.f k a0 a1 a2) (block_Blocks.f (k + 1) a0 a1 a2) := fun a0 a1 a2 k =>
  LeO.bind (image_Check.mono _ _ _ _) (fun c => LeO.ite (LeO.ite (LeO.bind (decs_mono k _) (fun _ => LeO.bind (blkInfo_mono k _) (fun _ => LeO.refl _))) (LeO.none _)) (LeO.refl _))
set_option maxRecDepth 100000 in
set_option maxHeartbeats 8000000 in
theorem blk_marks (k B : Nat) (A0_0 : Option Addr) (c0_0 : Nat) (l0_0 : List Int) (a0_1 : Int) (v2 : Value) (w : World) (hr0_0 : Kd.C (Kd.int .u32) w A0_0 l0_0.length l0_0) (is : List ((Int × Bool) × Bool)) (his : blkInfo k l0_0 = some is) (hln : l0_0.length ≤ 16384) (he0 : 0 ≤ a0_1) (he1 : a0_1 ≤ 16384)
    (hB : w.heap[B]? = some (.cells #[.slice A0_0 l0_0.length c0_0, .int .i64 a0_1, v2] 25 (0, 0))) : Marks k 99 #[.pointer (some ⟨B, 0, none⟩)] w l0_0 (bmkAt is a0_1) := by
  intro W S b c at_ L t0 t1 t2 t3 t4 hat hbel hb hS hc hdec hn0 hn1
  obtain ⟨hg1, hg2, hg3, hg4⟩ := (blkInfo_get his).2 at_ hat
  have hBl : B < w.heap.size := (Array.getElem?_eq_some_iff.1 hB).1
  have HBL := Aside0.mk hBl
  have hc0 : w.cell? ⟨B, 0, none⟩ = some (.slice A0_0 l0_0.length c0_0) := (cell_of_row _ _ _ _ _ _ hB).trans rfl
  have hc1 : w.cell? ⟨B, 1, none⟩ = some (.int .i64 a0_1) := (cell_of_row _ _ _ _ _ _ hB).trans rfl
  obtain ⟨ad, e, hx⟩ := Kd.at_int hr0_0 (at_ : Int) (by omega) (by omega)
  cases e
  rw [Int.toNat_natCast] at hx
  have hxl := World.block_lt_of_cell? w _ hx
  unfold bmkAt
  generalize is.getD at_ ((0, false), false) = q at hg1 hg2 hg3 hg4 ⊢
  obtain ⟨⟨tg, it⟩, en⟩ := q
  generalize rd l0_0 (at_ : Int) = v at hx hg1 hg2 hdec
  have HS := Aside0.mk hS
  have HL := Aside0.mk hbel
  have HG1 := Aside0.mk hg1
  have HG2 := Aside0.mk hg2
  have C0 := Aside0.mk hc0
  have C1 := Aside0.mk hc1
  have CX := Aside0.mk hx
  have CXL := Aside0.mk hxl
  have HCC := Aside0.mk hc
  have HBB := Aside0.mk hb
  clear hS hbel hg1 hg2 hc0 hc1 hx hxl hB hr0_0 his hdec hc hb hBl
  have hat1 : (at_ : Int) + 1 ≤ 16384 := by omega
  have mL : ∀ x, x ≤ 1048580 → x < maxLen := by intro x hx; have : maxLen = 9223372036854775807 := rfl; omega
  have ML := Aside0.mk mL
  clear mL
  have HL1 : Aside0 (Below w.heap.size w (W.alloc (.cells #[.int .i8 t0, .int .i8 t1, .int .i8 t2, .int .i8 t3, .int .i64 t4] 36))) := ⟨HL.out.alloc HL.out.size _⟩
  have HS1 := Aside0.mk (HS.out.below ((Below.refl W.heap.size W).alloc (Nat.le_refl _) (.cells #[.int .i8 t0, .int .i8 t1, .int .i8 t2, .int .i8 t3, .int .i64 t4] 36)))
  have HK1 : Aside0 (KeptB b W (W.alloc (.cells #[.int .i8 t0, .int .i8 t1, .int .i8 t2, .int .i8 t3, .int .i64 t4] 36))) := ⟨KeptB.of_below ((Below.refl W.heap.size W).alloc (Nat.le_refl _) _)⟩
  have x0 := (HL1.out.cell (p := ⟨B, 0, none⟩) HBL.out).trans C0.out
  have x1 := (HL1.out.cell (p := ⟨B, 1, none⟩) HBL.out).trans C1.out
  have xx := (HL1.out.cell CXL.out).trans CX.out

  cases it with
  | true =>
    cases en with
    | true =>
      go_enter Try.func99, Try.ntmps99
      go_wp2_with (go_at_call 26; refine (isa_Target.calls k v tg true _ HG1.out).mono ?_; rintro e w2 ⟨rfl, hb2⟩; have HL2 := Aside0.mk (HL1.out.trans (hb2.mono HL1.out.size)); have HS2 := Aside0.mk (HS1.out.below hb2); have HK2 := Aside0.mk (HK1.out.trans (KeptB.of_below hb2)); clear hb2 x0 x1 xx; have x0 := (HL2.out.cell (p := ⟨B, 0, none⟩) HBL.out).trans C0.out; have x1 := (HL2.out.cell (p := ⟨B, 1, none⟩) HBL.out).trans C1.out; have xx := (HL2.out.cell CXL.out).trans CX.out)
      refine (gather_see S b c L tg _ HS2.out (by omega) (by omega) (ML.out _ (by have := HCC.out; omega))).mono ?_; rintro e w3 ⟨rfl, hs3, hk3⟩; have HL3 := Aside0.mk (KeptB.below HL2.out hk3 HBB.out HL2.out.size); have HS3 := Aside0.mk hs3; have HK3 := Aside0.mk (HK2.out.trans hk3); clear hs3 hk3 x0 x1 xx; have x0 := (HL3.out.cell (p := ⟨B, 0, none⟩) HBL.out).trans C0.out; have x1 := (HL3.out.cell (p := ⟨B, 1, none⟩) HBL.out).trans C1.out; have xx := (HL3.out.cell CXL.out).trans CX.out
      go_wp2_with (go_at_call 82; refine (isa_Ends.calls k v true _ HG2.out).mono ?_; rintro e w4 ⟨rfl, hb4⟩; have HL4 := Aside0.mk (HL3.out.trans (hb4.mono HL3.out.size)); have HS4 := Aside0.mk (HS3.out.below hb4); have HK4 := Aside0.mk (HK3.out.trans (KeptB.of_below hb4)); clear hb4 x0 x1 xx; have x0 := (HL4.out.cell (p := ⟨B, 0, none⟩) HBL.out).trans C0.out; have x1 := (HL4.out.cell (p := ⟨B, 1, none⟩) HBL.out).trans C1.out; have xx := (HL4.out.cell CXL.out).trans CX.out)
      refine (gather_see S b (c + 1) (tg :: L) ((at_ : Int) + 1) _ HS4.out (by omega) (by omega) (ML.out _ (by have := HCC.out; omega))).mono ?_; rintro e w5 ⟨rfl, hs5, hk5⟩; have HL5 := Aside0.mk (KeptB.below HL4.out hk5 HBB.out HL4.out.size); have HS5 := Aside0.mk hs5; have HK5 := Aside0.mk (HK4.out.trans hk5); clear hs5 hk5 x0 x1 xx; have x0 := (HL5.out.cell (p := ⟨B, 0, none⟩) HBL.out).trans C0.out; have x1 := (HL5.out.cell (p := ⟨B, 1, none⟩) HBL.out).trans C1.out; have xx := (HL5.out.cell CXL.out).trans CX.out
      go_wp2_with (fail)
      refine (gather_see S b (c + 2) (((at_ : Int) + 1) :: (tg :: L)) a0_1 _ HS5.out (by omega) (by omega) (ML.out _ (by have := HCC.out; omega))).mono ?_; rintro e w6 ⟨rfl, hs6, hk6⟩; have HL6 := Aside0.mk (KeptB.below HL5.out hk6 HBB.out HL5.out.size); have HS6 := Aside0.mk hs6; have HK6 := Aside0.mk (HK5.out.trans hk6); clear hs6 hk6 x0 x1 xx; have x0 := (HL6.out.cell (p := ⟨B, 0, none⟩) HBL.out).trans C0.out; have x1 := (HL6.out.cell (p := ⟨B, 1, none⟩) HBL.out).trans C1.out; have xx := (HL6.out.cell CXL.out).trans CX.out
      go_wp2_with (fail)
      refine (gather_see S b (c + 3) (a0_1 :: (((at_ : Int) + 1) :: (tg :: L))) 0 _ HS6.out (by omega) (by omega) (ML.out _ (by have := HCC.out; omega))).mono ?_; rintro e w7 ⟨rfl, hs7, hk7⟩; have HL7 := Aside0.mk (KeptB.below HL6.out hk7 HBB.out HL6.out.size); have HS7 := Aside0.mk hs7; have HK7 := Aside0.mk (HK6.out.trans hk7); clear hs7 hk7 x0 x1 xx; have x0 := (HL7.out.cell (p := ⟨B, 0, none⟩) HBL.out).trans C0.out; have x1 := (HL7.out.cell (p := ⟨B, 1, none⟩) HBL.out).trans C1.out; have xx := (HL7.out.cell CXL.out).trans CX.out
      go_wp2
      go_end0
      refine ⟨rfl, ?_, HK7.out⟩
      simpa using HS7.out
    | false =>
      go_enter Try.func99, Try.ntmps99
      go_wp2_with (go_at_call 26; refine (isa_Target.calls k v tg true _ HG1.out).mono ?_; rintro e w2 ⟨rfl, hb2⟩; have HL2 := Aside0.mk (HL1.out.trans (hb2.mono HL1.out.size)); have HS2 := Aside0.mk (HS1.out.below hb2); have HK2 := Aside0.mk (HK1.out.trans (KeptB.of_below hb2)); clear hb2 x0 x1 xx; have x0 := (HL2.out.cell (p := ⟨B, 0, none⟩) HBL.out).trans C0.out; have x1 := (HL2.out.cell (p := ⟨B, 1, none⟩) HBL.out).trans C1.out; have xx := (HL2.out.cell CXL.out).trans CX.out)
      refine (gather_see S b c L tg _ HS2.out (by omega) (by omega) (ML.out _ (by have := HCC.out; omega))).mono ?_; rintro e w3 ⟨rfl, hs3, hk3⟩; have HL3 := Aside0.mk (KeptB.below HL2.out hk3 HBB.out HL2.out.size); have HS3 := Aside0.mk hs3; have HK3 := Aside0.mk (HK2.out.trans hk3); clear hs3 hk3 x0 x1 xx; have x0 := (HL3.out.cell (p := ⟨B, 0, none⟩) HBL.out).trans C0.out; have x1 := (HL3.out.cell (p := ⟨B, 1, none⟩) HBL.out).trans C1.out; have xx := (HL3.out.cell CXL.out).trans CX.out
      go_wp2_with (go_at_call 82; refine (isa_Ends.calls k v false _ HG2.out).mono ?_; rintro e w4 ⟨rfl, hb4⟩; have HL4 := Aside0.mk (HL3.out.trans (hb4.mono HL3.out.size)); have HS4 := Aside0.mk (HS3.out.below hb4); have HK4 := Aside0.mk (HK3.out.trans (KeptB.of_below hb4)); clear hb4 x0 x1 xx; have x0 := (HL4.out.cell (p := ⟨B, 0, none⟩) HBL.out).trans C0.out; have x1 := (HL4.out.cell (p := ⟨B, 1, none⟩) HBL.out).trans C1.out; have xx := (HL4.out.cell CXL.out).trans CX.out)
      refine (gather_see S b (c + 1) (tg :: L) a0_1 _ HS4.out (by omega) (by omega) (ML.out _ (by have := HCC.out; omega))).mono ?_; rintro e w5 ⟨rfl, hs5, hk5⟩; have HL5 := Aside0.mk (KeptB.below HL4.out hk5 HBB.out HL4.out.size); have HS5 := Aside0.mk hs5; have HK5 := Aside0.mk (HK4.out.trans hk5); clear hs5 hk5 x0 x1 xx; have x0 := (HL5.out.cell (p := ⟨B, 0, none⟩) HBL.out).trans C0.out; have x1 := (HL5.out.cell (p := ⟨B, 1, none⟩) HBL.out).trans C1.out; have xx := (HL5.out.cell CXL.out).trans CX.out
      go_wp2_with (fail)
      refine (gather_see S b (c + 2) (a0_1 :: (tg :: L)) 0 _ HS5.out (by omega) (by omega) (ML.out _ (by have := HCC.out; omega))).mono ?_; rintro e w6 ⟨rfl, hs6, hk6⟩; have HL6 := Aside0.mk (KeptB.below HL5.out hk6 HBB.out HL5.out.size); have HS6 := Aside0.mk hs6; have HK6 := Aside0.mk (HK5.out.trans hk6); clear hs6 hk6 x0 x1 xx; have x0 := (HL6.out.cell (p := ⟨B, 0, none⟩) HBL.out).trans C0.out; have x1 := (HL6.out.cell (p := ⟨B, 1, none⟩) HBL.out).trans C1.out; have xx := (HL6.out.cell CXL.out).trans CX.out
      go_wp2
      go_end0
      refine ⟨rfl, ?_, HK6.out⟩
      simpa using HS6.out
  | false =>
    cases en with
    | true =>
      go_enter Try.func99, Try.ntmps99
      go_wp2_with (first | (go_at_call 26; refine (isa_Target.calls k v tg false _ HG1.out).mono ?_; rintro e w2 ⟨rfl, hb2⟩; have HL2 := Aside0.mk (HL1.out.trans (hb2.mono HL1.out.size)); have HS2 := Aside0.mk (HS1.out.below hb2); have HK2 := Aside0.mk (HK1.out.trans (KeptB.of_below hb2)); clear hb2 x0 x1 xx; have x0 := (HL2.out.cell (p := ⟨B, 0, none⟩) HBL.out).trans C0.out; have x1 := (HL2.out.cell (p := ⟨B, 1, none⟩) HBL.out).trans C1.out; have xx := (HL2.out.cell CXL.out).trans CX.out) | (go_at_call 82; refine (isa_Ends.calls k v true _ HG2.out).mono ?_; rintro e w3 ⟨rfl, hb3⟩; have HL3 := Aside0.mk (HL2.out.trans (hb3.mono HL2.out.size)); have HS3 := Aside0.mk (HS2.out.below hb3); have HK3 := Aside0.mk (HK2.out.trans (KeptB.of_below hb3)); clear hb3 x0 x1 xx; have x0 := (HL3.out.cell (p := ⟨B, 0, none⟩) HBL.out).trans C0.out; have x1 := (HL3.out.cell (p := ⟨B, 1, none⟩) HBL.out).trans C1.out; have xx := (HL3.out.cell CXL.out).trans CX.out))
      refine (gather_see S b c L ((at_ : Int) + 1) _ HS3.out (by omega) (by omega) (ML.out _ (by have := HCC.out; omega))).mono ?_; rintro e w4 ⟨rfl, hs4, hk4⟩; have HL4 := Aside0.mk (KeptB.below HL3.out hk4 HBB.out HL3.out.size); have HS4 := Aside0.mk hs4; have HK4 := Aside0.mk (HK3.out.trans hk4); clear hs4 hk4 x0 x1 xx; have x0 := (HL4.out.cell (p := ⟨B, 0, none⟩) HBL.out).trans C0.out; have x1 := (HL4.out.cell (p := ⟨B, 1, none⟩) HBL.out).trans C1.out; have xx := (HL4.out.cell CXL.out).trans CX.out
      go_wp2_with (fail)
      refine (gather_see S b (c + 1) (((at_ : Int) + 1) :: L) a0_1 _ HS4.out (by omega) (by omega) (ML.out _ (by have := HCC.out; omega))).mono ?_; rintro e w5 ⟨rfl, hs5, hk5⟩; have HL5 := Aside0.mk (KeptB.below HL4.out hk5 HBB.out HL4.out.size); have HS5 := Aside0.mk hs5; have HK5 := Aside0.mk (HK4.out.trans hk5); clear hs5 hk5 x0 x1 xx; have x0 := (HL5.out.cell (p := ⟨B, 0, none⟩) HBL.out).trans C0.out; have x1 := (HL5.out.cell (p := ⟨B, 1, none⟩) HBL.out).trans C1.out; have xx := (HL5.out.cell CXL.out).trans CX.out
      go_wp2_with (fail)
      refine (gather_see S b (c + 2) (a0_1 :: (((at_ : Int) + 1) :: L)) 0 _ HS5.out (by omega) (by omega) (ML.out _ (by have := HCC.out; omega))).mono ?_; rintro e w6 ⟨rfl, hs6, hk6⟩; have HL6 := Aside0.mk (KeptB.below HL5.out hk6 HBB.out HL5.out.size); have HS6 := Aside0.mk hs6; have HK6 := Aside0.mk (HK5.out.trans hk6); clear hs6 hk6 x0 x1 xx; have x0 := (HL6.out.cell (p := ⟨B, 0, none⟩) HBL.out).trans C0.out; have x1 := (HL6.out.cell (p := ⟨B, 1, none⟩) HBL.out).trans C1.out; have xx := (HL6.out.cell CXL.out).trans CX.out
      go_wp2
      go_end0
      refine ⟨rfl, ?_, HK6.out⟩
      simpa using HS6.out
    | false =>
      go_enter Try.func99, Try.ntmps99
      go_wp2_with (first | (go_at_call 26; refine (isa_Target.calls k v tg false _ HG1.out).mono ?_; rintro e w2 ⟨rfl, hb2⟩; have HL2 := Aside0.mk (HL1.out.trans (hb2.mono HL1.out.size)); have HS2 := Aside0.mk (HS1.out.below hb2); have HK2 := Aside0.mk (HK1.out.trans (KeptB.of_below hb2)); clear hb2 x0 x1 xx; have x0 := (HL2.out.cell (p := ⟨B, 0, none⟩) HBL.out).trans C0.out; have x1 := (HL2.out.cell (p := ⟨B, 1, none⟩) HBL.out).trans C1.out; have xx := (HL2.out.cell CXL.out).trans CX.out) | (go_at_call 82; refine (isa_Ends.calls k v false _ HG2.out).mono ?_; rintro e w3 ⟨rfl, hb3⟩; have HL3 := Aside0.mk (HL2.out.trans (hb3.mono HL2.out.size)); have HS3 := Aside0.mk (HS2.out.below hb3); have HK3 := Aside0.mk (HK2.out.trans (KeptB.of_below hb3)); clear hb3 x0 x1 xx; have x0 := (HL3.out.cell (p := ⟨B, 0, none⟩) HBL.out).trans C0.out; have x1 := (HL3.out.cell (p := ⟨B, 1, none⟩) HBL.out).trans C1.out; have xx := (HL3.out.cell CXL.out).trans CX.out))
      refine (gather_see S b c L a0_1 _ HS3.out (by omega) (by omega) (ML.out _ (by have := HCC.out; omega))).mono ?_; rintro e w4 ⟨rfl, hs4, hk4⟩; have HL4 := Aside0.mk (KeptB.below HL3.out hk4 HBB.out HL3.out.size); have HS4 := Aside0.mk hs4; have HK4 := Aside0.mk (HK3.out.trans hk4); clear hs4 hk4 x0 x1 xx; have x0 := (HL4.out.cell (p := ⟨B, 0, none⟩) HBL.out).trans C0.out; have x1 := (HL4.out.cell (p := ⟨B, 1, none⟩) HBL.out).trans C1.out; have xx := (HL4.out.cell CXL.out).trans CX.out
      go_wp2_with (fail)
      refine (gather_see S b (c + 1) (a0_1 :: L) 0 _ HS4.out (by omega) (by omega) (ML.out _ (by have := HCC.out; omega))).mono ?_; rintro e w5 ⟨rfl, hs5, hk5⟩; have HL5 := Aside0.mk (KeptB.below HL4.out hk5 HBB.out HL4.out.size); have HS5 := Aside0.mk hs5; have HK5 := Aside0.mk (HK4.out.trans hk5); clear hs5 hk5 x0 x1 xx; have x0 := (HL5.out.cell (p := ⟨B, 0, none⟩) HBL.out).trans C0.out; have x1 := (HL5.out.cell (p := ⟨B, 1, none⟩) HBL.out).trans C1.out; have xx := (HL5.out.cell CXL.out).trans CX.out
      go_wp2
      go_end0
      refine ⟨rfl, ?_, HK5.out⟩
      simpa using HS5.out

theorem infoBlk : (Try.prog.info? 84).map (fun i => (i.zero, i.size, i.bytes)) = some (some (.agg #[.int .i64 0, .int .i64 0]), 2, 16) := by kernel_rfl
theorem blocksTo_len (L : List Int) (n : Int) : ∀ j, (blocksTo L n j).length = j
  | 0 => rfl
  | j + 1 => by
    have := blocksTo_len L n j
    simp [blocksTo, this]
def BRel (w1 : World) (L : List Int) (n : Int) (i v : Value) (wr : World) : Prop :=
  ∃ j : Nat, i = .int .i64 j ∧ j ≤ L.length ∧ Kd.R k84 84 wr w1.heap.size (fun _ => True) v (blocksTo L n j) ∧ Below w1.heap.size w1 wr
set_option maxRecDepth 100000 in
set_option maxHeartbeats 8000000 in
theorem block_Blocks.calls (k : Nat) (A0_0 : Option Addr) (c0_0 : Nat) (l0_0 : List Int) (a0_1 : Int) (A0_2 : Option Addr) (c0_2 : Nat) (l0_2 : List Int) (r1 : List S84) (r2 : Int) (w : World) (hr0_0 : Kd.C (Kd.int .u32) w A0_0 l0_0.length l0_0) (hc0_0 : l0_0.length ≤ c0_0) (hr0_2 : Kd.C (Kd.int .i64) w A0_2 l0_2.length l0_2) (hc0_2 : l0_2.length ≤ c0_2) (h : block_Blocks.f k l0_0 a0_1 l0_2 = some (r1, r2)) :
    Calls Try.prog 45 #[.agg #[.slice A0_0 l0_0.length c0_0, .int .i64 a0_1, .slice A0_2 l0_2.length c0_2]] w fun e w' => ∃ v0_ : Value, e = .returned (.tuple #[v0_, .int .i64 r2]) ∧ Kd.R k84 84 w' w.heap.size (fun _ => True) v0_ r1 ∧ Below w.heap.size w w' := by
  have hmf : ∀ (fn : Fn) (first cap : Array Value) (w : World), (Instr.makeFunc fn first cap).run Try.prog w = .ok (.func fn first cap) w := fun _ _ _ _ => rfl
  unfold block_Blocks.f at h
  obtain ⟨⟨e1, e2⟩, h0, h⟩ := Option.bind_eq_some_iff.1 h
  have A0 := Aside0.mk h0
  have HR0 := Aside0.mk (Kd.C_alloc hr0_0 (.cells #[.slice A0_0 l0_0.length c0_0, .int .i64 a0_1, .slice A0_2 l0_2.length c0_2] 25))
  have HR2 := Aside0.mk (Kd.C_alloc hr0_2 (.cells #[.slice A0_0 l0_0.length c0_0, .int .i64 a0_1, .slice A0_2 l0_2.length c0_2] 25))
  have HB1 := Aside0.mk ((Below.refl w.heap.size w).alloc (Nat.le_refl _) (.cells #[.slice A0_0 l0_0.length c0_0, .int .i64 a0_1, .slice A0_2 l0_2.length c0_2] 25))
  have HB0 := Aside0.mk (heap_alloc_new w (.cells #[.slice A0_0 l0_0.length c0_0, .int .i64 a0_1, .slice A0_2 l0_2.length c0_2] 25))
  clear h0 hr0_0 hr0_2
  by_cases he : e1 = 0
  · subst he
    rw [if_pos rfl] at h
    by_cases hl : l0_0.length ≤ 16384 ∧ 0 ≤ a0_1 ∧ a0_1 ≤ 16384
    · rw [if_pos hl] at h
      obtain ⟨ts, h1, h2⟩ := Option.bind_eq_some_iff.1 h
      obtain ⟨is, h3, h2⟩ := Option.bind_eq_some_iff.1 h2
      obtain ⟨rfl, rfl⟩ := Prod.mk.inj (Option.some.inj h2)
      have H1 := Aside0.mk h1
      have H3 := Aside0.mk h3
      have HLL := Aside0.mk hl
      have hpl := places_len (seenTo (bmkAt is a0_1) l0_0.length) l0_0.length
      clear h h1 h2 h3
      go_enter Try.func45, Try.ntmps45
      go_wp2_with (go_at_call 98; refine (gather_calls k A0_0 c0_0 l0_0 a0_1 A0_2 c0_2 l0_2 e2 _ _ (bmkAt is a0_1) _ HR0.out hc0_0 HR2.out hc0_2 A0.out (fun j hj => ⟨_, (decs_get H1.out).2 j hj⟩) HLL.out.1 (fun j => by unfold bmkAt; split <;> split <;> simp) (blk_marks k w.heap.size A0_0 c0_0 l0_0 a0_1 _ _ HR0.out is H3.out HLL.out.1 HLL.out.2.1 HLL.out.2.2 HB0.out) (fun _ _ => rfl)).mono ?_; rintro e w1 ⟨v, rfl, hv, hb1⟩; obtain ⟨Av, cv, rfl, hcv, hCv⟩ := Kd.R_reads hv; have HV := Aside0.mk hCv; clear hv hCv)
      have HBW : Aside0 (Below w.heap.size w w1) := ⟨HB1.out.trans (hb1.mono (by simp))⟩
      have HBX := Aside0.mk ((hb1.block w.heap.size (by simp)).trans HB0.out)
      have HPL := Aside0.mk hpl
      clear hb1 hpl HB1 HB0
      generalize hLE : places (seenTo (bmkAt is a0_1) l0_0.length) l0_0.length = L at hcv HV HPL
      have HLE := Aside0.mk hLE
      clear hLE
      have HLN := Aside0.mk HLL.out.1
      have d0 : w1.cell? ⟨w.heap.size, 0, none⟩ = some (.slice A0_0 l0_0.length c0_0) := (cell_of_row _ _ _ _ _ _ HBX.out).trans rfl
      have D0 := Aside0.mk d0
      have D0L := Aside0.mk (World.block_lt_of_cell? w1 _ d0)
      clear d0
      go_loopw [18, 6] (fun i v wr => BRel w1 L (l0_0.length : Int) i v wr) (fun i _ _ => L.length - (intOf i).toNat)
      case atStart => exact ⟨0, rfl, Nat.zero_le _, Kd.R_nil _ _ _ _ _, Below.refl _ _⟩
      case round =>
        obtain ⟨j, rfl, hj, hrow, hbel⟩ := hrel
        have HR := Aside0.mk hrow
        have HL := Aside0.mk hbel
        have HCC := Aside0.mk (Kd.C_below HV.out hbel)
        have x0 := (hbel.cell D0L.out).trans D0.out
        have HLEN := blocksTo_len L (l0_0.length : Int) j
        have HB := Aside0.mk (show ((blocksTo L (l0_0.length : Int) j).length + 1) * 16 ≤ 140737488355328 by have := HPL.out; have := HLN.out; omega)
        clear hrow hbel HLEN
        have hl5 : (L.length : Int) ≤ 16384 := by have := HPL.out; have := HLN.out; omega
        by_cases hlt : j < L.length
        · obtain ⟨ad, e, hx⟩ := Kd.at_int HCC.out (j : Int) (by omega) (by omega)
          cases e
          rw [Int.toNat_natCast] at hx
          by_cases hn : (j : Int) + 1 < (L.length : Int)
          · obtain ⟨ad', e, hy⟩ := Kd.at_int HCC.out ((j : Int) + 1) (by omega) (by omega)
            cases e
            rw [show ((j : Int) + 1).toNat = j + 1 by omega, show ad.add (j + 1) = ⟨ad.block, ad.off + (j + 1), none⟩ by unfold Addr.add; simp] at hy
            have hn2 : decide ((j : Int) + 1 < (L.length : Int)) = true := decide_eq_true hn
            have HT : Aside0 (blocksTo L (l0_0.length : Int) (j + 1) = blocksTo L (l0_0.length : Int) j ++ [⟨rd L (j : Int), rd L ((j : Int) + 1)⟩]) := ⟨by rw [show blocksTo L (l0_0.length : Int) (j + 1) = blocksTo L (l0_0.length : Int) j ++ [⟨rd L (j : Int), if (j : Int) + 1 < (L.length : Int) then rd L ((j : Int) + 1) else (l0_0.length : Int)⟩] from rfl, if_pos hn]⟩
            go_wp2_with (at_builtin; refine Kd.R_append k84 (w0 := w1) w1.heap.size rfl (.tmp 36) (.tmp 40) 74 84 (.agg #[.int .i64 0, .int .i64 0]) 16 rfl Try.underlying74 infoBlk rfl (by decide) (by omega) _ (blocksTo L (l0_0.length : Int) j) ⟨rd L (j : Int), rd L ((j : Int) + 1)⟩ _ _ (fun _ => False) rfl rfl (k84_mkM _ _ _ _) (fun _ h => h.elim) (fun _ _ => trivial) HR.out HL.out HL.out.size HB.out ?_; intro v1 w3 ho hb hg hat)
            exact ⟨⟨j + 1, by simp, by omega, by rw [HT.out]; exact ho, hb⟩, by simp [intOf]; omega⟩
          · have hn2 : decide ((j : Int) + 1 < (L.length : Int)) = false := decide_eq_false hn
            have HT : Aside0 (blocksTo L (l0_0.length : Int) (j + 1) = blocksTo L (l0_0.length : Int) j ++ [⟨rd L (j : Int), (l0_0.length : Int)⟩]) := ⟨by rw [show blocksTo L (l0_0.length : Int) (j + 1) = blocksTo L (l0_0.length : Int) j ++ [⟨rd L (j : Int), if (j : Int) + 1 < (L.length : Int) then rd L ((j : Int) + 1) else (l0_0.length : Int)⟩] from rfl, if_neg hn]⟩
            go_wp2_with (at_builtin; refine Kd.R_append k84 (w0 := w1) w1.heap.size rfl (.tmp 36) (.tmp 40) 74 84 (.agg #[.int .i64 0, .int .i64 0]) 16 rfl Try.underlying74 infoBlk rfl (by decide) (by omega) _ (blocksTo L (l0_0.length : Int) j) ⟨rd L (j : Int), (l0_0.length : Int)⟩ _ _ (fun _ => False) rfl rfl (k84_mkM _ _ _ _) (fun _ h => h.elim) (fun _ _ => trivial) HR.out HL.out HL.out.size HB.out ?_; intro v1 w3 ho hb hg hat)
            exact ⟨⟨j + 1, by simp, by omega, by rw [HT.out]; exact ho, hb⟩, by simp [intOf]; omega⟩
        · obtain rfl : j = L.length := by omega
          go_wp2
          go_ret2
          exact ⟨_, rfl, by rw [HLE.out]; exact Kd.R_lower HR.out (by have := HBW.out.size; omega), HBW.out.trans (HL.out.mono (by have := HBW.out.size; omega))⟩
    · rw [if_neg hl] at h
      cases h
  · rw [if_neg he] at h
    obtain ⟨rfl, rfl⟩ := Prod.mk.inj (Option.some.inj h)
    have HE := Aside0.mk he
    clear h he
    go_enter Try.func45, Try.ntmps45
    go_wp2_with (go_at_call 98; refine (gather_err k A0_0 c0_0 l0_0 a0_1 A0_2 c0_2 l0_2 e1 e2 _ _ _ HR0.out hc0_0 HR2.out hc0_2 A0.out HE.out).mono ?_; rintro e w1 ⟨rfl, hb1⟩)
    refine wp_loop_rounds 1 ?_
    rw [rounds_succ]
    go_wp2
    go_ret2
    exact ⟨_, rfl, Kd.R_nil _ _ _ _ _, HB1.out.trans (hb1.mono (by simp))⟩

end Go.Proofs.Ytfgdjpgdabjpmaa.PEdgeRuns
