-- The comparing functions of the suffix array, walked. Own text.
import Derived.Test.YthkiapcoagjjpaaSuf1
namespace Go.Proofs.Ythkiapcoagjjpaa.Suf
open Go.RowKit Go.Proofs.YthkiapcoagjjpaaW.PrintWords Go.Proofs.YthkiapcoagjjpaaW.PrintLast Go.Proofs.YthkiapcoagjjpaaW.PrintMore
set_option linter.unusedVariables false
set_option linter.unusedSimpArgs false
/-! ### suffix.Of's functions -/
theorem blk_three {W : World} {g : Nat} {a r c : Value} {t : TypeId} (h : W.heap[g]? = some (.cells #[a, r, c] t (0, 0))) : W.cell? ⟨g, 0, none⟩ = some a ∧ W.cell? ⟨g, 1, none⟩ = some r ∧ W.cell? ⟨g, 2, none⟩ = some c := ⟨(blk_cell h 0).trans rfl, (blk_cell h 1).trans rfl, (blk_cell h 2).trans rfl⟩
theorem blk_one {W : World} {g : Nat} {a : Value} {t : TypeId} (h : W.heap[g]? = some (.cells #[a] t (0, 0))) : W.cell? ⟨g, 0, none⟩ = some a := (blk_cell h 0).trans rfl
/-- The comparing function: it counts. -/
def Cnt (W : World) (gs z : Nat) : Prop := ∃ a r : Value, W.heap[gs]? = some (.cells #[a, r, .int .i64 (wrap64 (z : Int))] 42 (0, 0))
/-- The world with the count one greater. -/
def Up (W : World) (gs z : Nat) : World := W.setCell ⟨gs, 2, none⟩ (.int .i64 (wrap64 ((z + 1 : Nat) : Int)))
theorem Cnt.up {W : World} {gs z : Nat} (h : Cnt W gs z) : Cnt (Up W gs z) gs (z + 1) := by
  obtain ⟨a, r, h⟩ := h
  exact ⟨a, r, blk_put h 2 _ rfl⟩
theorem Up.far {W : World} {gs z g : Nat} (h : g ≠ gs) : (Up W gs z).heap[g]? = W.heap[g]? := Below.heap_setCell W ⟨gs, 2, none⟩ _ g h
set_option maxRecDepth 100000 in
set_option maxHeartbeats 4000000 in
theorem cmp1_calls (gs z : Nat) (x y : Int) (W : World) (h : Cnt W gs z) :
    Calls Try.prog 34 #[.int .i64 x, .int .i64 y, .pointer (some ⟨gs, 0, none⟩)] W fun e W' => e = .returned (.int .i64 (cmp3 x y)) ∧ W' = Up W gs z := by
  have hu := Try.underlying42
  obtain ⟨a, r, h⟩ := h
  obtain ⟨h0, h1, h2⟩ := blk_three h
  have hf := blk_frozen h
  clear h
  have hw1 : wrap64 (wrap64 (z : Int) + 1) = wrap64 ((z + 1 : Nat) : Int) := by unfold wrap64; omega
  have hw2 : IntKind.i64.wrap (wrap64 (z : Int) + 1) = wrap64 ((z + 1 : Nat) : Int) := by rw [i64_w]; exact hw1
  unfold Up
  generalize wrap64 ((z + 1 : Nat) : Int) = z1 at hw1 hw2 ⊢
  generalize wrap64 (z : Int) = z0 at *
  by_cases c1 : x < y
  · have HV := Aside0.mk (show cmp3 x y = -1 by unfold cmp3; rw [if_pos c1])
    have d1 : decide (x < y) = true := decide_eq_true c1
    clear c1
    go_enter Try.func34, Try.ntmps34
    go_wp2
    go_ret
    exact ⟨by rw [HV.out]; rfl, rfl⟩
  · have d1 : decide (x < y) = false := decide_eq_false c1
    by_cases c2 : y < x
    · have HV := Aside0.mk (show cmp3 x y = 1 by unfold cmp3; rw [if_neg c1, if_pos c2])
      have d2 : decide (x > y) = true := decide_eq_true c2
      clear c1 c2
      go_enter Try.func34, Try.ntmps34
      go_wp2
      go_ret
      exact ⟨by rw [HV.out]; rfl, rfl⟩
    · obtain rfl : x = y := by omega
      have HV := Aside0.mk (show cmp3 x x = 0 by unfold cmp3; rw [if_neg c1, if_neg c2])
      clear c1 c2 d1
      go_enter Try.func34, Try.ntmps34
      go_wp2
      go_ret
      exact ⟨by rw [HV.out]; rfl, rfl⟩
theorem enters34 (a : Array Value) (W : World) : (callFunc 34 a).run Try.prog W = .ok (.enter 34 a) W := by rfl
/-- Where the comparing function's value stands. -/
def IsCmp (W : World) (gc gs : Nat) : Prop := W.heap[gc]? = some (.cells #[.func (.func 34) #[] #[.pointer (some ⟨gs, 0, none⟩)]] 55 (0, 0))
def IsRow (W : World) (g1 : Nat) (l : List Int) : Prop := ∃ (A : Option Addr) (c : Nat), W.heap[g1]? = some (.cells #[.slice A l.length c] 31 (0, 0)) ∧ l.length ≤ c ∧ Kd.C (Kd.int .i64) W A l.length l
def InR (n : Nat) (x : Int) : Prop := 0 ≤ x ∧ x < (n : Int)
theorem Cnt.drew {W : World} {gs z : Nat} (h : Cnt W gs z) : Cnt W.drew gs z := h
def IsNum (W : World) (g : Nat) (v : Int) : Prop := W.heap[g]? = some (.cells #[.int .i64 v] 3 (0, 0))
def IsBeh (W : World) (gb gst g3 gr : Nat) : Prop := W.heap[gb]? = some (.cells #[.func (.func 39) #[] #[.pointer (some ⟨gst, 0, none⟩), .pointer (some ⟨g3, 0, none⟩), .pointer (some ⟨gr, 0, none⟩)]] 46 (0, 0))
def IsTwo (W : World) (g gc gr gb : Nat) : Prop := W.heap[g]? = some (.cells #[.func (.func 40) #[] #[.pointer (some ⟨gc, 0, none⟩), .pointer (some ⟨gr, 0, none⟩), .pointer (some ⟨gb, 0, none⟩)]] 55 (0, 0))
set_option maxRecDepth 100000 in
set_option maxHeartbeats 4000000 in
theorem cmpL_calls (gs gc g1 z : Nat) (l : List Int) (x y : Int) (W : World) (h : Cnt W gs z) (hc : IsCmp W gc gs) (hl : IsRow W g1 l) (hx : InR l.length x) (hy : InR l.length y) :
    Calls Try.prog 36 #[.int .i64 x, .int .i64 y, .pointer (some ⟨gc, 0, none⟩), .pointer (some ⟨g1, 0, none⟩)] W fun e W' => e = .returned (.int .i64 (cmp3 (keyL l x) (keyL l y))) ∧ W' = Up W.drew gs z := by
  obtain ⟨A, c, k1, k2, k3⟩ := hl
  have c1 := blk_one hc
  have c2 := blk_one k1
  obtain ⟨ad, e, c3⟩ := Kd.at_int k3 x hx.1 hx.2
  obtain ⟨ad', e', c4⟩ := Kd.at_int k3 y hy.1 hy.2
  subst e
  cases e'
  have q1 := hx.1; have q2 := hx.2; have q3 := hy.1; have q4 := hy.2
  have HC := Aside0.mk h;
  have hx2 : rd l x = keyL l x := rfl
  have hy2 : rd l y = keyL l y := rfl
  rw [hx2] at c3
  rw [hy2] at c4
  have HEQ := Aside0.mk (cmp3_eq (keyL l x) (keyL l y))
  clear h hc k1 k2 k3 hx hy hx2 hy2
  generalize keyL l x = kx at *
  generalize keyL l y = ky at *
  go_enter Try.func36, Try.ntmps36
  go_wp2
  go_still_tail 9, (by kernel_rfl)
  go_wp2_with (go_at_call 34; refine (cmp1_calls gs z kx ky _ HC.out.drew).mono ?_; rintro e w2 ⟨rfl, rfl⟩)
  go_ret
  exact ⟨rfl, rfl⟩
set_option maxRecDepth 100000 in
set_option maxHeartbeats 4000000 in
theorem sameL_calls (gs gc g1 z : Nat) (l : List Int) (x y : Int) (W : World) (h : Cnt W gs z) (hc : IsCmp W gc gs) (hl : IsRow W g1 l) (hx : InR l.length x) (hy : InR l.length y) :
    Calls Try.prog 38 #[.int .i64 x, .int .i64 y, .pointer (some ⟨gc, 0, none⟩), .pointer (some ⟨g1, 0, none⟩)] W fun e W' => e = .returned (.bool (decide (keyL l x = keyL l y))) ∧ W' = Up W.drew gs z := by
  obtain ⟨A, c, k1, k2, k3⟩ := hl
  have c1 := blk_one hc
  have c2 := blk_one k1
  obtain ⟨ad, e, c3⟩ := Kd.at_int k3 x hx.1 hx.2
  obtain ⟨ad', e', c4⟩ := Kd.at_int k3 y hy.1 hy.2
  subst e
  cases e'
  have q1 := hx.1; have q2 := hx.2; have q3 := hy.1; have q4 := hy.2
  have HC := Aside0.mk h;
  have hx2 : rd l x = keyL l x := rfl
  have hy2 : rd l y = keyL l y := rfl
  rw [hx2] at c3
  rw [hy2] at c4
  have HEQ := Aside0.mk (cmp3_eq (keyL l x) (keyL l y))
  clear h hc k1 k2 k3 hx hy hx2 hy2
  generalize keyL l x = kx at *
  generalize keyL l y = ky at *
  go_enter Try.func38, Try.ntmps38
  go_wp2
  go_still_tail 9, (by kernel_rfl)
  go_wp2_with (go_at_call 34; refine (cmp1_calls gs z kx ky _ HC.out.drew).mono ?_; rintro e w2 ⟨rfl, rfl⟩)
  go_ret
  exact ⟨by rw [← HEQ.out]; rfl, rfl⟩
set_option maxRecDepth 100000 in
set_option maxHeartbeats 4000000 in
theorem behind_calls (gst g3 gr : Nat) (st n : Nat) (R : List Int) (x : Int) (W : World) (hst : st ≤ 1000000000) (hn : R.length = n) (hn2 : n ≤ 1000000) (h1 : IsNum W gst (st : Int)) (h2 : IsNum W g3 (n : Int)) (h3 : IsRow W gr R) (hx : InR n x) :
    Calls Try.prog 39 #[.int .i64 x, .pointer (some ⟨gst, 0, none⟩), .pointer (some ⟨g3, 0, none⟩), .pointer (some ⟨gr, 0, none⟩)] W fun e W' => e = .returned (.int .i64 (bhd R n st x)) ∧ W' = W := by
  subst hn
  obtain ⟨A, c, k1, k2, k3⟩ := h3
  have c1 := blk_one h1
  have c2 := blk_one h2
  have c3 := blk_one k1
  have q1 := hx.1; have q2 := hx.2
  clear h1 h2 k1 hx
  by_cases c : x + (st : Int) < (R.length : Int)
  · have HV : Aside0 (bhd R R.length st x = rd R (x + (st : Int))) := ⟨by unfold bhd; rw [if_pos c]; rfl⟩
    obtain ⟨ad, e, c4⟩ := Kd.at_int k3 (x + (st : Int)) (by omega) c
    subst e
    have d1 : decide (x + (st : Int) < (R.length : Int)) = true := decide_eq_true c
    have w1 : wrap64 (x + (st : Int)) = x + (st : Int) := by unfold wrap64; omega
    have w2 : IntKind.i64.wrap (x + (st : Int)) = x + (st : Int) := by rw [i64_w]; exact w1
    have q3 : (0 : Int) ≤ x + (st : Int) := by omega
    clear k3
    go_enter Try.func39, Try.ntmps39
    go_wp2
    go_ret
    exact ⟨by rw [HV.out]; rfl, rfl⟩
  · have HV : Aside0 (bhd R R.length st x = -1) := ⟨by unfold bhd; rw [if_neg c]⟩
    have d1 : decide (x + (st : Int) < (R.length : Int)) = false := decide_eq_false c
    have w1 : wrap64 (x + (st : Int)) = x + (st : Int) := by unfold wrap64; omega
    have w2 : IntKind.i64.wrap (x + (st : Int)) = x + (st : Int) := by rw [i64_w]; exact w1
    clear k3 c
    go_enter Try.func39, Try.ntmps39
    go_wp2
    go_ret
    exact ⟨by rw [HV.out]; rfl, rfl⟩
set_option maxRecDepth 100000 in
set_option maxHeartbeats 4000000 in
theorem cmpB_calls (gs gc gb gst g3 gr z : Nat) (st n : Nat) (R : List Int) (x y : Int) (W : World) (h : Cnt W gs z) (hc : IsCmp W gc gs) (hb : IsBeh W gb gst g3 gr) (hst : st ≤ 1000000000) (hn : R.length = n) (hn2 : n ≤ 1000000) (h1 : IsNum W gst (st : Int)) (h2 : IsNum W g3 (n : Int)) (h3 : IsRow W gr R) (hx : InR n x) (hy : InR n y) :
    Calls Try.prog 41 #[.int .i64 x, .int .i64 y, .pointer (some ⟨gc, 0, none⟩), .pointer (some ⟨gb, 0, none⟩)] W fun e W' => e = .returned (.int .i64 (cmp3 (bhd R n st x) (bhd R n st y))) ∧ W' = Up W.drew gs z := by
  have c1 := blk_one hc
  have c2 := blk_one hb
  have b1 := behind_calls gst g3 gr st n R x W.drew hst hn hn2 h1 h2 h3 hx
  have b2 := behind_calls gst g3 gr st n R y W.drew hst hn hn2 h1 h2 h3 hy
  have HC := Aside0.mk h; have B1 := Aside0.mk b1; have B2 := Aside0.mk b2
  clear h hc hb h1 h2 h3 hx hy b1 b2
  generalize bhd R n st x = kx at *
  generalize bhd R n st y = ky at *
  go_enter Try.func41, Try.ntmps41
  go_wp2
  refine wp_region_still_tail 7 (by kernel_rfl) (by kernel_rfl) ?_
  simp only [List.take_succ_cons, List.take_zero, List.drop_succ_cons, List.drop_zero]
  repeat still_step
  still_call B1.out
  repeat still_step
  still_call B2.out
  repeat still_step
  refine wpStill_nil ?_
  go_wp2_with (go_at_call 34; refine (cmp1_calls gs z kx ky _ HC.out.drew).mono ?_; rintro e w2 ⟨rfl, rfl⟩)
  go_ret
  exact ⟨rfl, rfl⟩
/-- The worlds that two leaves. -/
def UpT (W : World) (gs z : Nat) (b : Bool) : World := if b = true then Up (Up W.drew gs z).drew gs (z + 1) else Up W.drew gs z
theorem IsCmp.up {W : World} {gc gs z : Nat} (h : IsCmp W gc gs) (hn : gc ≠ gs) : IsCmp (Up W gs z) gc gs := (Up.far hn).trans h
theorem IsBeh.up {W : World} {gb gst g3 gr gs z : Nat} (h : IsBeh W gb gst g3 gr) (hn : gb ≠ gs) : IsBeh (Up W gs z) gb gst g3 gr := (Up.far hn).trans h
theorem IsNum.up {W : World} {g gs z : Nat} {v : Int} (h : IsNum W g v) (hn : g ≠ gs) : IsNum (Up W gs z) g v := (Up.far hn).trans h
theorem Up.kept (W : World) (gs z : Nat) : Kept W (Up W gs z) (fun k => k = gs) := ⟨by simp [Up], fun i _ hn => Up.far hn⟩
/-- A row that does not stand in the block gs. -/
def IsRowF (W : World) (g : Nat) (l : List Int) (gs : Nat) : Prop := ∃ (A : Option Addr) (c : Nat), W.heap[g]? = some (.cells #[.slice A l.length c] 31 (0, 0)) ∧ l.length ≤ c ∧ Kd.C (Kd.int .i64) W A l.length l ∧ (∀ ad, A = some ad → ad.block ≠ gs) ∧ g ≠ gs
theorem IsRowF.row {W : World} {g gs : Nat} {l : List Int} (h : IsRowF W g l gs) : IsRow W g l := by
  obtain ⟨A, c, h1, h2, h3, _⟩ := h
  exact ⟨A, c, h1, h2, h3⟩
theorem IsRowF.up {W : World} {g gs z : Nat} {l : List Int} (h : IsRowF W g l gs) : IsRowF (Up W gs z) g l gs := by
  obtain ⟨A, c, h1, h2, h3, h4, h5⟩ := h
  exact ⟨A, c, (Up.far h5).trans h1, h2, Kd.C_foot_neS (S := fun k => k = gs) (fun h => h) h3 (fun ad he _ => h4 ad he) _ (Up.kept W gs z), h4, h5⟩
set_option maxRecDepth 100000 in
set_option maxHeartbeats 4000000 in
theorem two_calls (gs gc gb gst g3 gr z : Nat) (st n : Nat) (R : List Int) (x y : Int) (W : World) (h : Cnt W gs z) (hc : IsCmp W gc gs) (hb : IsBeh W gb gst g3 gr) (hst : st ≤ 1000000000) (hn : R.length = n) (hn2 : n ≤ 1000000) (h1 : IsNum W gst (st : Int)) (h2 : IsNum W g3 (n : Int)) (h3 : IsRowF W gr R gs) (hx : InR n x) (hy : InR n y)
    (hne : gc ≠ gs ∧ gb ≠ gs ∧ gst ≠ gs ∧ g3 ≠ gs) :
    Calls Try.prog 40 #[.int .i64 x, .int .i64 y, .pointer (some ⟨gc, 0, none⟩), .pointer (some ⟨gr, 0, none⟩), .pointer (some ⟨gb, 0, none⟩)] W fun e W' => (∃ c : Int, e = .returned (.int .i64 c) ∧ (c == 0) = sm2 R n st x y) ∧ W' = UpT W gs z (decide (keyL R x = keyL R y)) := by
  obtain ⟨n1, n2, n3, n4⟩ := hne
  have b1 := behind_calls gst g3 gr st n R x (Up W.drew gs z).drew hst hn hn2 (h1.up n3) (h2.up n4) (IsRowF.row (W := (Up W.drew gs z).drew) (IsRowF.up (W := W.drew) h3)) hx
  have b2 := behind_calls gst g3 gr st n R y (Up W.drew gs z).drew hst hn hn2 (h1.up n3) (h2.up n4) (IsRowF.row (W := (Up W.drew gs z).drew) (IsRowF.up (W := W.drew) h3)) hy
  obtain ⟨A, c, k1, k2, k3, k4, k5⟩ := h3
  have c1 := blk_one hc
  have c2 := blk_one k1
  have c5 : (Up W.drew gs z).cell? ⟨gc, 0, none⟩ = _ := blk_one (IsCmp.up (W := W.drew) (z := z) hc n1)
  have c6 : (Up W.drew gs z).cell? ⟨gb, 0, none⟩ = _ := blk_one (IsBeh.up (W := W.drew) (z := z) hb n2)
  subst hn
  obtain ⟨ad, e, c3⟩ := Kd.at_int k3 x hx.1 hx.2
  obtain ⟨ad', e', c4⟩ := Kd.at_int k3 y hy.1 hy.2
  subst e
  cases e'
  have q1 := hx.1; have q2 := hx.2; have q3 := hy.1; have q4 := hy.2
  have hx2 : rd R x = keyL R x := rfl
  have hy2 : rd R y = keyL R y := rfl
  rw [hx2] at c3
  rw [hy2] at c4
  have HS2 : Aside0 (sm2 R R.length st x y = decide (keyL R x = keyL R y ∧ bhd R R.length st x = bhd R R.length st y)) := ⟨rfl⟩
  have HC := Aside0.mk h; have B1 := Aside0.mk b1; have B2 := Aside0.mk b2; have HU : Aside0 (Cnt (Up W.drew gs z).drew gs (z + 1)) := ⟨Cnt.up (W := W.drew) h⟩
  clear h hc hb h1 h2 k1 k2 k3 k4 hx hy b1 b2 hx2 hy2
  generalize bhd R R.length st x = bx at *
  generalize bhd R R.length st y = by_ at *
  generalize keyL R x = kx at *
  generalize keyL R y = ky at *
  by_cases hk : kx = ky
  · have HK := Aside0.mk hk
    have HV := Aside0.mk (show cmp3 kx ky = 0 by subst hk; unfold cmp3; rw [if_neg (Int.lt_irrefl _), if_neg (Int.lt_irrefl _)])
    clear hk
    go_enter Try.func40, Try.ntmps40
    go_wp2
    go_still_tail 9, (by kernel_rfl)
    go_wp2_with (go_at_call 34; refine (cmp1_calls gs z kx ky _ HC.out.drew).mono ?_; rw [HV.out]; rintro e w2 ⟨rfl, rfl⟩)
    refine wp_region_still_tail 7 (by kernel_rfl) (by kernel_rfl) ?_
    simp only [List.take_succ_cons, List.take_zero, List.drop_succ_cons, List.drop_zero]
    repeat still_step
    still_call B1.out
    repeat still_step
    still_call B2.out
    repeat still_step
    refine wpStill_nil ?_
    go_wp2_with (go_at_call 34; refine (cmp1_calls gs (z + 1) bx by_ _ HU.out).mono ?_; rintro e w2 ⟨rfl, rfl⟩)
    go_ret
    refine ⟨⟨_, rfl, ?_⟩, ?_⟩
    · rw [cmp3_eq, HS2.out]
      by_cases hq : bx = by_ <;> simp [hq, HK.out]
    · unfold UpT
      rw [if_pos (decide_eq_true HK.out)]
  · have HK := Aside0.mk hk
    have hf : decide (kx = ky) = false := decide_eq_false hk
    have HF := Aside0.mk hf
    have hv := cmp3_eq kx ky
    rw [hf] at hv
    have HVV : Aside0 (∀ c : Int, c = cmp3 kx ky → (c == 0) = false) := ⟨fun c hc => by rw [hc]; exact hv⟩
    clear hk hf hv
    obtain ⟨cv, hcv⟩ : ∃ cv, cv = cmp3 kx ky := ⟨_, rfl⟩
    have hz := HVV.out cv hcv
    have d1 : (cv != 0) = true := by simp only [bne, hz]; rfl
    have HZ := Aside0.mk hz
    have HCV := Aside0.mk hcv
    clear hz hcv
    go_enter Try.func40, Try.ntmps40
    go_wp2
    go_still_tail 9, (by kernel_rfl)
    go_wp2_with (go_at_call 34; refine (cmp1_calls gs z kx ky _ HC.out.drew).mono ?_; rw [← HCV.out]; rintro e w2 ⟨rfl, rfl⟩)
    go_ret
    refine ⟨⟨cv, rfl, ?_⟩, ?_⟩
    · rw [HZ.out, HS2.out]
      exact (decide_eq_false (fun hh => HK.out hh.1)).symm
    · unfold UpT
      rw [HF.out, if_neg (by decide)]
set_option maxRecDepth 100000 in
set_option maxHeartbeats 4000000 in
theorem same2_calls (gs gc gb gst g3 gr g14 z : Nat) (st n : Nat) (R : List Int) (x y : Int) (W : World) (h : Cnt W gs z) (hc : IsCmp W gc gs) (hb : IsBeh W gb gst g3 gr) (ht : IsTwo W g14 gc gr gb) (hst : st ≤ 1000000000) (hn : R.length = n) (hn2 : n ≤ 1000000) (h1 : IsNum W gst (st : Int)) (h2 : IsNum W g3 (n : Int)) (h3 : IsRowF W gr R gs) (hx : InR n x) (hy : InR n y)
    (hne : gc ≠ gs ∧ gb ≠ gs ∧ gst ≠ gs ∧ g3 ≠ gs) :
    Calls Try.prog 42 #[.int .i64 x, .int .i64 y, .pointer (some ⟨g14, 0, none⟩)] W fun e W' => e = .returned (.bool (sm2 R n st x y)) ∧ W' = UpT W gs z (decide (keyL R x = keyL R y)) := by
  have b1 := two_calls gs gc gb gst g3 gr z st n R x y W h hc hb hst hn hn2 h1 h2 h3 hx hy hne
  have c1 := blk_one ht
  have B1 := Aside0.mk b1
  clear h hc hb ht h1 h2 h3 hx hy hne b1
  go_enter Try.func42, Try.ntmps42
  go_wp2_with (go_at_call 40; refine B1.out.mono ?_; rintro e w2 ⟨⟨c, rfl, hcc⟩, rfl⟩)
  go_ret
  exact ⟨by rw [← hcc]; rfl, rfl⟩
/-! ### naming -/
/-- A row of numbers that fills its block. -/
def Arr (W : World) (b : Nat) (A : List Int) : Prop := W.heap[b]? = some (.cells (nums .i64 A).toArray 3 (0, 0))
theorem Arr.cell {W : World} {b : Nat} {A : List Int} (h : Arr W b A) (i : Nat) (hi : i < A.length) : W.cell? ⟨b, i, none⟩ = some (.int .i64 (gt A i)) := by
  rw [blk_cell h]
  simp only [nums, gt, List.getD_eq_getElem?_getD]
  rw [List.getElem?_toArray, List.getElem?_map, List.getElem?_eq_getElem hi]
  rfl
theorem Arr.set {W : World} {b : Nat} {A : List Int} (h : Arr W b A) (i : Nat) (v : Int) : Arr (W.setCell ⟨b, i, none⟩ (.int .i64 v)) b (A.set i v) := by
  refine blk_put h _ _ ?_
  simp [nums, List.map_set]
theorem Arr.kept {W W' : World} {b : Nat} {A : List Int} {S : Nat → Prop} (h : Arr W b A) (hk : Kept W W' S) (hn : ¬ S b) : Arr W' b A := blk_kept h hk hn
/-- A function value that tells whether two entries are one; it writes to the block gs alone. -/
structure Same (F : Nat) (caps : Array Value) (gs r : Nat) (same : Int → Int → Bool) (cst : Int → Int → Nat) (V : Int → Prop) (J : Nat → World → Prop) (va : Value) : Prop where
  enters : ∀ (a : Array Value) (W : World), (callFunc F a).run Try.prog W = .ok (.enter F a) W
  call : ∀ (z : Nat) (W : World) (x y : Int), J z W → V x → V y → Calls Try.prog F (#[.int .i64 x, .int .i64 y] ++ caps) W fun e W' => e = .returned (.bool (same x y)) ∧ J (z + cst x y) W' ∧ Kept W W' (fun k => k = gs)
  set : ∀ (z : Nat) (W : World) (j : Nat) (v : Int), J z W → J z (W.setCell ⟨r, j, none⟩ (.int .i64 v))
  arr : ∀ (z : Nat) (W : World), J z W → W.cell? ⟨gs, 0, none⟩ = some va
theorem nmF_t {same : Int → Int → Bool} {cst : Int → Int → Nat} {A R : List Int} {k a : Nat} {c : Int} {z : Nat} {p x : Int} {xn : Nat} (hp : p = gt A a) (hx : x = gt A (a + 1)) (hxn : x.toNat = xn) (hs : same p x = true) : nmF same cst A (k + 1) (a + 1) R c z = nmF same cst A k (a + 1 + 1) (R.set xn (c - 1)) c (z + cst p x) := by
  subst hp hx hxn
  rw [nmF, if_neg (Nat.succ_ne_zero a), Nat.add_sub_cancel, if_pos hs]
theorem nmF_f {same : Int → Int → Bool} {cst : Int → Int → Nat} {A R : List Int} {k a : Nat} {c : Int} {z : Nat} {p x : Int} {xn : Nat} (hp : p = gt A a) (hx : x = gt A (a + 1)) (hxn : x.toNat = xn) (hs : same p x = false) : nmF same cst A (k + 1) (a + 1) R c z = nmF same cst A k (a + 1 + 1) (R.set xn c) (c + 1) (z + cst p x) := by
  subst hp hx hxn
  rw [nmF, if_neg (Nat.succ_ne_zero a), Nat.add_sub_cancel, if_neg (by rw [hs]; decide)]
theorem nmF_z {same : Int → Int → Bool} {cst : Int → Int → Nat} {A R : List Int} {k : Nat} {c : Int} {z : Nat} : nmF same cst A (k + 1) 0 R c z = nmF same cst A k 1 (R.set (gt A 0).toNat c) (c + 1) z := by
  rw [nmF, if_pos rfl]
set_option maxRecDepth 100000 in
set_option maxHeartbeats 4000000 in
theorem name_calls {F : Nat} {caps : Array Value} {gs r gk gn b : Nat} {same : Int → Int → Bool} {cst : Int → Int → Nat} {J : Nat → World → Prop} {n cb cr : Nat} {v0 v1 : Value} {now : Int}
    (hS : Same F caps gs r same cst (InR n) J (.slice (some ⟨b, 0, none⟩) n cb)) (A R : List Int) (z : Nat) (W : World) (hJ : J z W) (hA : Arr W b A) (hAl : A.length = n) (hAr : ∀ x, x < n → InR n (gt A x)) (hR : Arr W r R) (hRl : R.length = n) (hn : n ≤ 1000000)
    (hk : W.heap[gk]? = some (.cells #[v0, v1] 59 (0, 0))) (hnow : (now = 0 ∧ v1 = .slice (some ⟨r, 0, none⟩) n cr) ∨ (now = 1 ∧ v0 = .slice (some ⟨r, 0, none⟩) n cr)) (hgn : IsNum W gn now)
    (hd : r ≠ gs ∧ b ≠ gs ∧ gk ≠ gs ∧ gn ≠ gs ∧ b ≠ r ∧ gk ≠ r ∧ gn ≠ r) :
    Calls Try.prog 37 #[.func (.func F) #[] caps, .pointer (some ⟨gk, 0, none⟩), .pointer (some ⟨gn, 0, none⟩), .pointer (some ⟨gs, 0, none⟩)] W fun e W' => e = .returned (.int .i64 (nmAll same cst A R z).2.1) ∧ ∃ W1, W' = W1.setCell ⟨gn, 0, none⟩ (.int .i64 (1 - now)) ∧ J (nmAll same cst A R z).2.2 W1 ∧ Arr W1 r (nmAll same cst A R z).1 ∧ Kept W W1 (fun k => k = gs ∨ k = r) := by
  obtain ⟨n1, n2, n3, n4, n5, n6, n7⟩ := hd
  obtain ⟨T, hT⟩ : ∃ T, T = nmAll same cst A R z := ⟨_, rfl⟩
  rw [← hT]
  have HT : Aside0 (nmF same cst A n 0 R 0 z = T) := ⟨by rw [hT]; unfold nmAll; rw [hAl]⟩
  clear hT
  have c0 := hS.arr z W hJ
  have hq : ∃ q : Nat, (1 : Int) - now = (q : Int) ∧ q < 2 ∧ W.cell? ⟨gk, q, none⟩ = some (.slice (some ⟨r, 0, none⟩) n cr) := by
    rcases hnow with ⟨rfl, rfl⟩ | ⟨rfl, rfl⟩
    · exact ⟨1, rfl, by omega, (blk_cell hk 1).trans rfl⟩
    · exact ⟨0, rfl, by omega, (blk_cell hk 0).trans rfl⟩
  obtain ⟨q, hq1, hq2, c1⟩ := hq
  have hnb : 0 ≤ now ∧ now ≤ 1 := by rcases hnow with ⟨rfl, _⟩ | ⟨rfl, _⟩ <;> omega
  have c2 := blk_one hgn
  have f2 := blk_frozen hgn 0
  have hu59 := Try.underlying59
  have hu42 := Try.underlying42
  have w1 : wrap64 (1 - now) = (q : Int) := by unfold wrap64; omega
  have w2 : IntKind.i64.wrap (1 - now) = (q : Int) := by rw [i64_w]; exact w1
  have hq3 : (q : Int) < 2 := by omega
  have HGN := Aside0.mk hgn
  have HK0 := Aside0.mk (Kept.refl W (fun k => k = gs ∨ k = r))
  have HA := Aside0.mk hA; have HRR := Aside0.mk hR; have HJ := Aside0.mk hJ; have HAR := Aside0.mk hAr
  clear hA hR hJ hAr hnow hk hgn
  go_enter Try.func37, Try.ntmps37
  go_wp2
  go_loopg [17, 7] n (fun g v17 v7 wr => ∃ (a z1 : Nat) (c : Int) (R1 : List Int), v17 = .int .i64 a ∧ v7 = .int .i64 c ∧ a + g = n ∧ 0 ≤ c ∧ c ≤ a ∧ R1.length = n ∧ Aside0 (nmF same cst A g a R1 c z1 = T) ∧ Aside0 (J z1 wr) ∧ Aside0 (Arr wr r R1) ∧ Aside0 (Kept W wr (fun k => k = gs ∨ k = r)))
  case atStart => exact ⟨0, z, 0, R, rfl, rfl, by omega, by omega, by omega, hRl, HT, HJ, HRR, HK0⟩
  case round =>
    clear HJ HRR HK0 HT
    obtain ⟨a, z1, c, R1, rfl, rfl, ha, hc0, hca, hRl1, HT, HJ, HRR, HK⟩ := hrel
    have hAw := HA.out.kept HK.out (by rintro (h | h); exact n2 h; exact n5 h)
    cases gk with
    | zero =>
      obtain rfl : a = n := by omega
      have hgw := blk_kept HGN.out HK.out (by rintro (h | h); exact n4 h; exact n7 h)
      have c5 := blk_one hgw
      have f5 := blk_frozen hgw 0
      have hT : (R1, c, z1) = T := HT.out
      clear HT hAw hgw
      go_wp2
      go_ret
      refine ⟨?_, wr, ?_, ?_, ?_, HK.out⟩
      · rw [← hT]; rfl
      · rw [hq1]
      · rw [← hT]; exact HJ.out
      · rw [← hT]; exact HRR.out
    | succ g =>
      have hal : a < n := by omega
      have ca := hAw.cell a (by omega)
      have hxr := HAR.out a hal
      obtain ⟨x, hx⟩ : ∃ x, x = gt A a := ⟨_, rfl⟩
      rw [← hx] at ca hxr
      have HX := Aside0.mk hx
      have hx0 := hxr.1; have hx1 := hxr.2
      have HXR := Aside0.mk hxr
      clear hx hxr
      obtain ⟨xn, hxn⟩ : ∃ xn : Nat, x = (xn : Int) := ⟨x.toNat, by omega⟩
      by_cases c0 : a = 0
      · subst c0
        subst hxn
        have f6 := blk_frozen HRR.out xn
        have c6 : wr.cell? ⟨r, xn, none⟩ = some (.int .i64 (gt R1 xn)) := HRR.out.cell xn (by omega)
        obtain rfl : c = 0 := by omega
        have E := nmF_z (same := same) (cst := cst) (A := A) (R := R1) (k := g) (c := 0) (z := z1)
        rw [← HX.out, Int.toNat_natCast] at E
        have HE := Aside0.mk E
        clear E hAw
        go_wp2
        go_roundg g
        case measure => omega
        case rel => exact ⟨1, z1, 1, R1.set xn 0, rfl, rfl, by omega, by omega, by omega, by rw [List.length_set]; exact hRl1, ⟨by have h9 := HT.out; rw [HE.out] at h9; exact h9⟩, ⟨hS.set _ _ _ _ HJ.out⟩, ⟨HRR.out.set xn 0⟩, ⟨HK.out.setCell (p := ⟨r, xn, none⟩) (.inl (.inr rfl)) _⟩⟩
      · obtain ⟨a', rfl⟩ : ∃ a', a = a' + 1 := ⟨a - 1, by omega⟩
        have cp := hAw.cell a' (by omega)
        have hpr := HAR.out a' (by omega)
        have d1 : (((a' + 1 : Nat) : Int) == 0) = false := by simp; omega
        have d1' : ((a' : Int) + 1 == 0) = false := by simp; omega
        have cgs := hS.arr z1 wr HJ.out
        obtain ⟨p, hp⟩ : ∃ p, p = gt A a' := ⟨_, rfl⟩
        rw [← hp] at cp hpr
        have HP := Aside0.mk hp; have HPR := Aside0.mk hpr
        have w9 : IntKind.i64.wrap (a' : Int) = (a' : Int) := by rw [i64_w]; unfold wrap64; omega
        have b2 : (a' : Int) < (n : Int) := by omega
        subst hxn
        have hu := hS.enters
        clear hp hpr hAw
        go_wp2
        refine (hS.call z1 wr p (xn : Int) HJ.out HPR.out HXR.out).mono ?_
        rintro en w3 ⟨rfl, hJ3, hk3⟩
        have HR3 := Aside0.mk (HRR.out.kept hk3 n1)
        have HJ3 := Aside0.mk hJ3
        have HK3 : Aside0 (Kept W w3 (fun k => k = gs ∨ k = r)) := ⟨HK.out.then_ hk3 (fun k hk => .inl (.inl hk))⟩
        have f6 := blk_frozen HR3.out xn
        have c6 : w3.cell? ⟨r, xn, none⟩ = some (.int .i64 (gt R1 xn)) := HR3.out.cell xn (by omega)
        clear hJ3 hk3 HK HRR HJ cgs cp ca hu w9
        cases hs : same p (xn : Int) with
        | true =>
          have E := nmF_t (k := g) (R := R1) (c := c) (z := z1) (cst := cst) HP.out HX.out (Int.toNat_natCast xn) hs
          have HE := Aside0.mk E
          clear E
          go_wp2
          go_roundg g
          case measure => omega
          case rel => exact ⟨a' + 1 + 1, z1 + cst p (xn : Int), c, R1.set xn (c - 1), (by first | rfl | (congr 1; omega)), rfl, by omega, by omega, by omega, by rw [List.length_set]; exact hRl1, ⟨by have h9 := HT.out; rw [HE.out] at h9; exact h9⟩, ⟨hS.set _ _ _ _ HJ3.out⟩, ⟨HR3.out.set xn (c - 1)⟩, ⟨HK3.out.setCell (p := ⟨r, xn, none⟩) (.inl (.inr rfl)) _⟩⟩
        | false =>
          have E := nmF_f (k := g) (R := R1) (c := c) (z := z1) (cst := cst) HP.out HX.out (Int.toNat_natCast xn) hs
          have HE := Aside0.mk E
          clear E
          go_wp2
          go_roundg g
          case measure => omega
          case rel => exact ⟨a' + 1 + 1, z1 + cst p (xn : Int), c + 1, R1.set xn c, (by first | rfl | (congr 1; omega)), (by first | rfl | (congr 1; omega)), by omega, by omega, by omega, by rw [List.length_set]; exact hRl1, ⟨by have h9 := HT.out; rw [HE.out] at h9; exact h9⟩, ⟨hS.set _ _ _ _ HJ3.out⟩, ⟨by have h9 := HR3.out.set xn c; simpa using h9⟩, ⟨by have h9 := HK3.out.setCell (p := ⟨r, xn, none⟩) (.inl (.inr rfl)) (.int .i64 c); simpa using h9⟩⟩
/-- s, its count: the array stands at b, the ranks' value is u. -/
def CntV (W : World) (gs b n : Nat) (u : Value) (z : Nat) : Prop := W.heap[gs]? = some (.cells #[.slice (some ⟨b, 0, none⟩) n n, u, .int .i64 (wrap64 (z : Int))] 42 (0, 0))
theorem CntV.cnt {W : World} {gs b n z : Nat} {u : Value} (h : CntV W gs b n u z) : Cnt W gs z := ⟨_, _, h⟩
theorem CntV.up {W : World} {gs b n z : Nat} {u : Value} (h : CntV W gs b n u z) : CntV (Up W gs z) gs b n u (z + 1) := blk_put h 2 _ rfl
/-- The state while the functions compare: what stood at Wb stands, but for S and the count. -/
def JJ (W0 Wb : World) (S : Nat → Prop) (gs b n : Nat) (u : Value) (z : Nat) (w : World) : Prop := Kept Wb w (fun k => S k ∨ k = gs) ∧ Below W0.heap.size W0 w ∧ CntV w gs b n u z
theorem Up.keptS {Wb w : World} {S : Nat → Prop} {gs z : Nat} (h : Kept Wb w (fun k => S k ∨ k = gs)) : Kept Wb (Up w gs z) (fun k => S k ∨ k = gs) := h.setCell (p := ⟨gs, 2, none⟩) (.inl (.inr rfl)) _
theorem JJ.up {W0 Wb w : World} {S : Nat → Prop} {gs b n z : Nat} {u : Value} (h : JJ W0 Wb S gs b n u z w) (hg : W0.heap.size ≤ gs) : JJ W0 Wb S gs b n u (z + 1) (Up w gs z) :=
  ⟨Up.keptS h.1, h.2.1.setCell (p := ⟨gs, 2, none⟩) hg _, h.2.2.up⟩
theorem JJ.drew {W0 Wb w : World} {S : Nat → Prop} {gs b n z : Nat} {u : Value} (h : JJ W0 Wb S gs b n u z w) : JJ W0 Wb S gs b n u z w.drew := ⟨h.1.drew, h.2.1.drew, h.2.2⟩
theorem JJ.set {W0 Wb w : World} {S : Nat → Prop} {gs b n z r : Nat} {u : Value} (h : JJ W0 Wb S gs b n u z w) (hr : S r) (hg : W0.heap.size ≤ r) (hn : r ≠ gs) (j : Nat) (v : Int) : JJ W0 Wb S gs b n u z (w.setCell ⟨r, j, none⟩ (.int .i64 v)) :=
  ⟨h.1.setCell (p := ⟨r, j, none⟩) (.inl (.inl hr)) _, h.2.1.setCell (p := ⟨r, j, none⟩) hg _, (Below.heap_setCell w ⟨r, j, none⟩ _ gs (fun e => hn e.symm)).trans h.2.2⟩
/-- What the functions find at Wb. -/
structure Env (W0 Wb : World) (S : Nat → Prop) (gs gc g1 : Nat) (A : Option Addr) (c : Nat) (l : List Int) : Prop where
  row : Wb.heap[g1]? = some (.cells #[.slice A l.length c] 31 (0, 0))
  cap : l.length ≤ c
  lst : Kd.C (Kd.int .i64) W0 A l.length l
  below : Below W0.heap.size W0 Wb
  cmp : IsCmp Wb gc gs
  low : ∀ k, S k ∨ k = gs → W0.heap.size ≤ k
  ngc : ¬ (S gc ∨ gc = gs)
  ng1 : ¬ (S g1 ∨ g1 = gs)
theorem Env.isCmp {W0 Wb w : World} {S : Nat → Prop} {gs gc g1 : Nat} {A : Option Addr} {c : Nat} {l : List Int} (h : Env W0 Wb S gs gc g1 A c l) (hk : Kept Wb w (fun k => S k ∨ k = gs)) : IsCmp w gc gs := blk_kept h.cmp hk h.ngc
theorem Env.isRow {W0 Wb w : World} {S : Nat → Prop} {gs gc g1 : Nat} {A : Option Addr} {c : Nat} {l : List Int} (h : Env W0 Wb S gs gc g1 A c l) (hk : Kept Wb w (fun k => S k ∨ k = gs)) (hb : Below W0.heap.size W0 w) : IsRow w g1 l :=
  ⟨A, c, blk_kept h.row hk h.ng1, h.cap, Kd.C_below h.lst hb⟩
theorem enters36 (a : Array Value) (W : World) : (callFunc 36 a).run Try.prog W = .ok (.enter 36 a) W := by rfl
theorem enters38 (a : Array Value) (W : World) : (callFunc 38 a).run Try.prog W = .ok (.enter 38 a) W := by rfl
theorem enters41 (a : Array Value) (W : World) : (callFunc 41 a).run Try.prog W = .ok (.enter 41 a) W := by rfl
theorem enters42 (a : Array Value) (W : World) : (callFunc 42 a).run Try.prog W = .ok (.enter 42 a) W := by rfl
theorem cmpL_Cmp {W0 Wb : World} {gs gc g1 b : Nat} {A : Option Addr} {c : Nat} {l : List Int} {u : Value} (hE : Env W0 Wb (fun k => k = b) gs gc g1 A c l) (hbs : b ≠ gs) :
    Cmp 36 #[.pointer (some ⟨gc, 0, none⟩), .pointer (some ⟨g1, 0, none⟩)] b (keyL l) (InR l.length) (JJ W0 Wb (fun k => k = b) gs b l.length u) where
  enters := enters36
  call z w x y hJ hx hy := by
    refine (cmpL_calls gs gc g1 z l x y w hJ.2.2.cnt (hE.isCmp hJ.1) (hE.isRow hJ.1 hJ.2.1) hx hy).mono ?_
    rintro e w' ⟨rfl, rfl⟩
    exact ⟨rfl, hJ.drew.up (hE.low gs (.inr rfl)), Up.far (W := w.drew) hbs⟩
  set z w j v hJ := hJ.set rfl (hE.low b (.inl rfl)) hbs j v
  drew z w hJ := hJ.drew
theorem sameL_Same {W0 Wb : World} {gs gc g1 b r : Nat} {A : Option Addr} {c : Nat} {l : List Int} {u : Value} (hE : Env W0 Wb (fun k => k = r) gs gc g1 A c l) (hrs : r ≠ gs) :
    Same 38 #[.pointer (some ⟨gc, 0, none⟩), .pointer (some ⟨g1, 0, none⟩)] gs r (fun i k => decide (keyL l i = keyL l k)) (fun _ _ => 1) (InR l.length) (JJ W0 Wb (fun k => k = r) gs b l.length u) (.slice (some ⟨b, 0, none⟩) l.length l.length) where
  enters := enters38
  call z w x y hJ hx hy := by
    refine (sameL_calls gs gc g1 z l x y w hJ.2.2.cnt (hE.isCmp hJ.1) (hE.isRow hJ.1 hJ.2.1) hx hy).mono ?_
    rintro e w' ⟨rfl, rfl⟩
    exact ⟨rfl, hJ.drew.up (hE.low gs (.inr rfl)), Up.kept w.drew gs z⟩
  set z w j v hJ := hJ.set rfl (hE.low r (.inl rfl)) hrs j v
  arr z w hJ := (blk_three hJ.2.2).1
theorem Arr.row {W : World} {b : Nat} {R : List Int} (h : Arr W b R) (hn : R.length ≤ 1000000) : Kd.C (Kd.int .i64) W (some ⟨b, 0, none⟩) R.length R := by
  refine Kd.C_of_reads (readsInt_of.1 ⟨rfl, by omega, fun _ => ⟨⟨b, 0, none⟩, rfl, fun j hj => ?_⟩⟩)
  have e : (⟨b, 0, none⟩ : Addr).add j = ⟨b, j, none⟩ := by unfold Addr.add; split <;> simp_all
  rw [e, h.cell j hj]
  rfl
theorem Arr.owned {W : World} {b base : Nat} {R : List Int} {ok : Nat → Prop} (h : Arr W b R) (hn : R.length ≤ 1000000) (hb : base ≤ b) (hok : ok b) : Kd.R (Kd.int .i64) 3 W base ok (.slice (some ⟨b, 0, none⟩) R.length R.length) R := by
  refine Kd.R_of_own ⟨by simp [encs], .inr ⟨b, R.length, (nums .i64 R).toArray, rfl, hb, h, ?_⟩⟩ (fun k hk => ?_)
  · refine ⟨Nat.le_refl _, ?_, ?_, ?_⟩
    · have : maxLen = 9223372036854775807 := rfl
      omega
    · simp [nums]
    · rw [Nat.mul_one, List.take_of_length_le (by simp [nums])]
      rfl
  · have : b = k := by simpa [Value.ownBlock] using hk
    rw [← this]; exact hok
/-- What the functions of a doubling find at Wb. -/
structure Env2 (W0 Wb : World) (S : Nat → Prop) (gs gc gb gst g3 gr rb g14 : Nat) (R : List Int) (n st : Nat) : Prop where
  cmp : IsCmp Wb gc gs
  beh : IsBeh Wb gb gst g3 gr
  two : IsTwo Wb g14 gc gr gb
  nst : IsNum Wb gst (st : Int)
  num : IsNum Wb g3 (n : Int)
  row : Wb.heap[gr]? = some (.cells #[.slice (some ⟨rb, 0, none⟩) n n] 31 (0, 0))
  arr : Arr Wb rb R
  len : R.length = n
  st9 : st ≤ 1000000000
  n6 : n ≤ 1000000
  below : Below W0.heap.size W0 Wb
  low : ∀ k, S k ∨ k = gs → W0.heap.size ≤ k
  ngc : ¬ (S gc ∨ gc = gs)
  ngb : ¬ (S gb ∨ gb = gs)
  ngst : ¬ (S gst ∨ gst = gs)
  ng3 : ¬ (S g3 ∨ g3 = gs)
  ngr : ¬ (S gr ∨ gr = gs)
  nrb : ¬ (S rb ∨ rb = gs)
  n14 : ¬ (S g14 ∨ g14 = gs)
section
variable {W0 Wb w : World} {S : Nat → Prop} {gs gc gb gst g3 gr rb g14 n st b : Nat} {R : List Int} {u : Value}
theorem Env2.isRow (h : Env2 W0 Wb S gs gc gb gst g3 gr rb g14 R n st) (hk : Kept Wb w (fun k => S k ∨ k = gs)) : IsRowF w gr R gs := by
  have ha := h.arr.kept hk h.nrb
  have hl := h.len
  have h6 := h.n6
  refine ⟨some ⟨rb, 0, none⟩, n, ?_, by omega, ha.row (by omega), fun ad e => ?_, fun e => h.ngr (.inr e)⟩
  · rw [hl]; exact blk_kept h.row hk h.ngr
  · cases e
    exact fun e => h.nrb (.inr e)
theorem cmpB_Cmp (hE : Env2 W0 Wb (fun k => k = b) gs gc gb gst g3 gr rb g14 R n st) (hbs : b ≠ gs) :
    Cmp 41 #[.pointer (some ⟨gc, 0, none⟩), .pointer (some ⟨gb, 0, none⟩)] b (bhd R n st) (InR n) (JJ W0 Wb (fun k => k = b) gs b n u) where
  enters := enters41
  call z w x y hJ hx hy := by
    refine (cmpB_calls gs gc gb gst g3 gr z st n R x y w hJ.2.2.cnt (blk_kept hE.cmp hJ.1 hE.ngc) (blk_kept hE.beh hJ.1 hE.ngb) hE.st9 hE.len hE.n6 (blk_kept hE.nst hJ.1 hE.ngst) (blk_kept hE.num hJ.1 hE.ng3) (hE.isRow hJ.1).row hx hy).mono ?_
    rintro e w' ⟨rfl, rfl⟩
    exact ⟨rfl, hJ.drew.up (hE.low gs (.inr rfl)), Up.far (W := w.drew) hbs⟩
  set z w j v hJ := hJ.set rfl (hE.low b (.inl rfl)) hbs j v
  drew z w hJ := hJ.drew
theorem same2_Same {r : Nat} (hE : Env2 W0 Wb (fun k => k = r) gs gc gb gst g3 gr rb g14 R n st) (hrs : r ≠ gs) :
    Same 42 #[.pointer (some ⟨g14, 0, none⟩)] gs r (sm2 R n st) (cs2 R) (InR n) (JJ W0 Wb (fun k => k = r) gs b n u) (.slice (some ⟨b, 0, none⟩) n n) where
  enters := enters42
  call z w x y hJ hx hy := by
    refine (same2_calls gs gc gb gst g3 gr g14 z st n R x y w hJ.2.2.cnt (blk_kept hE.cmp hJ.1 hE.ngc) (blk_kept hE.beh hJ.1 hE.ngb) (blk_kept hE.two hJ.1 hE.n14) hE.st9 hE.len hE.n6 (blk_kept hE.nst hJ.1 hE.ngst) (blk_kept hE.num hJ.1 hE.ng3) (hE.isRow hJ.1) hx hy ⟨fun e => hE.ngc (.inr e), fun e => hE.ngb (.inr e), fun e => hE.ngst (.inr e), fun e => hE.ng3 (.inr e)⟩).mono ?_
    rintro e w' ⟨rfl, rfl⟩
    have hlow := hE.low gs (.inr rfl)
    refine ⟨rfl, ?_, ?_⟩
    · unfold UpT cs2
      have hk : (gt R x.toNat = gt R y.toNat) = (keyL R x = keyL R y) := rfl
      simp only [hk]
      by_cases c : keyL R x = keyL R y
      · rw [if_pos c, if_pos (decide_eq_true c)]
        exact (hJ.drew.up hlow).drew.up hlow
      · rw [if_neg c, if_neg (by simp [c])]
        exact hJ.drew.up hlow
    · unfold UpT
      have k1 : Kept w (Up w.drew gs z) (fun k => k = gs) := Up.kept w.drew gs z
      have k2 : Kept (Up w.drew gs z) (Up (Up w.drew gs z).drew gs (z + 1)) (fun k => k = gs) := Up.kept (Up w.drew gs z).drew gs (z + 1)
      split
      · exact k1.then_ k2 (fun k hk => .inl hk)
      · exact k1
  set z w j v hJ := hJ.set rfl (hE.low r (.inl rfl)) hrs j v
  arr z w hJ := (blk_three hJ.2.2).1
end
theorem spl_whole {D d : List Int} (h : d.length = D.length) : spl D 0 (0 + d.length) d = d := by
  unfold spl
  rw [Nat.zero_add, h]
  simp
theorem Arr.dd {W : World} {b : Nat} {A : List Int} (h : Arr W b A) : DD W b A 0 A := ⟨by omega, by rw [spl_whole rfl]; exact h⟩
theorem DD.arr0 {W : World} {b : Nat} {D d : List Int} (h : DD W b D 0 d) (hl : d.length = D.length) : Arr W b d := by
  have := h.2
  rw [spl_whole hl] at this
  exact this
theorem allV_iota (n : Nat) : AllV (InR n) (iota n) := fun i hi => by
  rw [iota_len] at hi
  rw [gt_iota n i hi]
  exact ⟨by omega, by omega⟩
theorem alloc3_1 (w : World) (o1 o2 o3 : Obj) : (((w.alloc o1).alloc o2).alloc o3).drew.heap[w.heap.size]? = some o1 := blk_drew (blk_alloc (blk_alloc (blk_new w o1) o2) o3)
theorem alloc3_2 (w : World) (o1 o2 o3 : Obj) : (((w.alloc o1).alloc o2).alloc o3).drew.heap[w.heap.size + 1]? = some o2 := by
  have h := blk_drew (blk_alloc (blk_new (w.alloc o1) o2) o3)
  have s1 : (w.alloc o1).heap.size = w.heap.size + 1 := by simp
  rwa [s1] at h
theorem alloc3_3 (w : World) (o1 o2 o3 : Obj) : (((w.alloc o1).alloc o2).alloc o3).drew.heap[w.heap.size + 1 + 1]? = some o3 := by
  have h := blk_drew (blk_new ((w.alloc o1).alloc o2) o3)
  have s1 : ((w.alloc o1).alloc o2).heap.size = w.heap.size + 1 + 1 := by simp
  rwa [s1] at h
theorem alloc3_b (w : World) (o1 o2 o3 : Obj) : Below w.heap.size w (((w.alloc o1).alloc o2).alloc o3).drew := ((((Below.refl _ w).alloc (Nat.le_refl _) o1).alloc (by simp) o2).alloc (by simp; omega) o3).drew
/-- The state of the doubling. -/
structure DI (W w : World) (g1 g2 g3 gs gc gk gn b r0 r1 : Nat) (A : Option Addr) (c n : Nat) (A1 R1 O1 : List Int) (rR rO : Nat) (now : Int) (z1 : Nat) : Prop where
  rowl : w.heap[g1]? = some (.cells #[.slice A n c] 31 (0, 0))
  num : IsNum w g3 (n : Int)
  cmp : IsCmp w gc gs
  rks : w.heap[gk]? = some (.cells #[.slice (some ⟨r0, 0, none⟩) n n, .slice (some ⟨r1, 0, none⟩) n n] 59 (0, 0))
  nw : IsNum w gn now
  arr : Arr w b A1
  aR : Arr w rR R1
  aO : Arr w rO O1
  cnt : CntV w gs b n (.slice none 0 0) z1
  bel : Below W.heap.size W w
  all : AllV (InR n) A1
  l1 : A1.length = n
  l2 : R1.length = n
  l3 : O1.length = n
  sd : (now = 0 ∧ rR = r0 ∧ rO = r1) ∨ (now = 1 ∧ rR = r1 ∧ rO = r0)
  sz : gn < w.heap.size
  res : w.heap[g2]? = some (.cells #[.slice none 0 0, .slice none 0 0, .int .i64 0] 42 (0, 0))
theorem DI.alloc {W w : World} {g1 g2 g3 gs gc gk gn b r0 r1 : Nat} {A : Option Addr} {c n : Nat} {A1 R1 O1 : List Int} {rR rO : Nat} {now : Int} {z1 : Nat} (h : DI W w g1 g2 g3 gs gc gk gn b r0 r1 A c n A1 R1 O1 rR rO now z1) (o : Obj) : DI W (w.alloc o) g1 g2 g3 gs gc gk gn b r0 r1 A c n A1 R1 O1 rR rO now z1 :=
  ⟨blk_alloc h.rowl o, blk_alloc h.num o, blk_alloc h.cmp o, blk_alloc h.rks o, blk_alloc h.nw o, blk_alloc h.arr o, blk_alloc h.aR o, blk_alloc h.aO o, blk_alloc h.cnt o, h.bel.alloc h.bel.size o, h.all, h.l1, h.l2, h.l3, h.sd, by have := h.sz; simp; omega, blk_alloc h.res o⟩
/-- Another cell is written. -/
theorem DI.far {W w : World} {g1 g2 g3 gs gc gk gn b r0 r1 : Nat} {A : Option Addr} {c n : Nat} {A1 R1 O1 : List Int} {rR rO : Nat} {now : Int} {z1 : Nat} (h : DI W w g1 g2 g3 gs gc gk gn b r0 r1 A c n A1 R1 O1 rR rO now z1) {p : Addr} (hg1 : g1 ≠ p.block) (hg2 : g2 ≠ p.block) (hg3 : g3 ≠ p.block) (hgs : gs ≠ p.block) (hgc : gc ≠ p.block) (hgk : gk ≠ p.block) (hgn : gn ≠ p.block) (hb : b ≠ p.block) (hR : rR ≠ p.block) (hO : rO ≠ p.block) (hl : W.heap.size ≤ p.block) (u : Value) :
    DI W (w.setCell p u) g1 g2 g3 gs gc gk gn b r0 r1 A c n A1 R1 O1 rR rO now z1 :=
  ⟨blk_far h.rowl hg1 u, blk_far h.num hg3 u, blk_far h.cmp hgc u, blk_far h.rks hgk u, blk_far h.nw hgn u, blk_far h.arr hb u, blk_far h.aR hR u, blk_far h.aO hO u, blk_far h.cnt hgs u, h.bel.setCell hl u, h.all, h.l1, h.l2, h.l3, h.sd, by have := h.sz; simpa [World.setCell] using this, blk_far h.res hg2 u⟩
/-- The doublings, but for an empty list. -/
def dbT (n k st : Nat) (A R O : List Int) (c : Int) (z : Nat) : Option (List Int × Nat) := if n = 0 then some (A, z) else dbF n k st A R O c z
theorem ofF_parts {l r1 r2 : List Int} {z : Nat} (h : ofF l = some (r1, r2, z)) : dbT l.length l.length 1 (stab (keyL l) (iota l.length)).1 (nmAll (fun i k => decide (keyL l i = keyL l k)) (fun _ _ => 1) (stab (keyL l) (iota l.length)).1 (List.replicate l.length 0) (stab (keyL l) (iota l.length)).2).1 (List.replicate l.length 0) (nmAll (fun i k => decide (keyL l i = keyL l k)) (fun _ _ => 1) (stab (keyL l) (iota l.length)).1 (List.replicate l.length 0) (stab (keyL l) (iota l.length)).2).2.1 (nmAll (fun i k => decide (keyL l i = keyL l k)) (fun _ _ => 1) (stab (keyL l) (iota l.length)).1 (List.replicate l.length 0) (stab (keyL l) (iota l.length)).2).2.2 = some (r1, z) ∧ r2 = rkF r1 l.length 0 (List.replicate l.length 0) := by
  unfold ofF at h
  dsimp only at h
  by_cases hn : l.length = 0
  · rw [if_pos hn] at h
    obtain ⟨e1, e2⟩ := Prod.mk.inj (Option.some.inj h)
    obtain ⟨e2, e3⟩ := Prod.mk.inj e2
    obtain rfl : l = [] := List.length_eq_zero_iff.1 hn
    subst e1 e2 e3
    exact ⟨rfl, rfl⟩
  · rw [if_neg hn] at h
    obtain ⟨q, h1, h2⟩ := Option.bind_eq_some_iff.1 h
    obtain ⟨e1, e2⟩ := Prod.mk.inj (Option.some.inj h2)
    obtain ⟨e2, e3⟩ := Prod.mk.inj e2
    subst e1 e2 e3
    unfold dbT
    rw [if_neg hn]
    exact ⟨h1, rfl⟩
theorem lay3 (W : World) (o1 o2 o3 : Obj) : (((W.alloc o1).alloc o2).alloc o3).heap.size = W.heap.size + 3 ∧ (((W.alloc o1).alloc o2).alloc o3).heap[W.heap.size]? = some o1 ∧ (((W.alloc o1).alloc o2).alloc o3).heap[W.heap.size + 1]? = some o2 ∧ (((W.alloc o1).alloc o2).alloc o3).heap[W.heap.size + 1 + 1]? = some o3 := by
  have s1 : (W.alloc o1).heap.size = W.heap.size + 1 := by simp
  have s2 : ((W.alloc o1).alloc o2).heap.size = W.heap.size + 1 + 1 := by simp
  refine ⟨by simp, blk_alloc (blk_alloc (blk_new W o1) o2) o3, ?_, ?_⟩
  · have := blk_alloc (blk_new (W.alloc o1) o2) o3
    rwa [s1] at this
  · have := blk_new ((W.alloc o1).alloc o2) o3
    rwa [s2] at this
theorem dbT_zero {n k st : Nat} {A R O ra : List Int} {c : Int} {z zz : Nat} (h : dbT n k st A R O c z = some (ra, zz)) (hn : n = 0) : A = ra ∧ z = zz := by
  unfold dbT at h
  rw [if_pos hn] at h
  exact Prod.mk.inj (Option.some.inj h)
theorem dbT_end {n k st : Nat} {A R O ra : List Int} {c : Int} {z zz : Nat} (h : dbT n k st A R O c z = some (ra, zz)) (hn : ¬ n = 0) (hc : c = (n : Int)) : A = ra ∧ z = zz := by
  unfold dbT at h
  rw [if_neg hn] at h
  cases k with
  | zero => cases h
  | succ k =>
    rw [dbF, if_pos hc] at h
    exact Prod.mk.inj (Option.some.inj h)
theorem dbT_step {n k st : Nat} {A R O ra : List Int} {c : Int} {z zz : Nat} (h : dbT n k st A R O c z = some (ra, zz)) (hn : ¬ n = 0) (hc : ¬ c = (n : Int)) : ∃ k', k = k' + 1 ∧ st ≤ 1000000 ∧ ∀ r m, r = rwF R (bhd R n st) (n + 1) 0 A z → m = nmAll (sm2 R n st) (cs2 R) r.1 O r.2 → dbT n k' (2 * st) r.1 m.1 R m.2.1 m.2.2 = some (ra, zz) := by
  unfold dbT at h
  rw [if_neg hn] at h
  cases k with
  | zero => cases h
  | succ k =>
    rw [dbF, if_neg hc] at h
    by_cases hs : 1000000 < st
    · rw [if_pos hs] at h; cases h
    · rw [if_neg hs] at h
      refine ⟨k, rfl, by omega, fun r m hr hm => ?_⟩
      subst hr hm
      unfold dbT
      rw [if_neg hn]
      exact h
theorem spl_cut {A : List Int} {a b : Nat} (hab : a ≤ b) (hb : b ≤ A.length) : spl A a (a + (cutL A a b).length) (cutL A a b) = A := by
  rw [cutL_len hb]
  have e : a + (b - a) = b := by omega
  rw [e]
  have hl := spl_len (A := A) (x := cutL A a b) hab hb (cutL_len hb)
  refine List.ext_getElem hl fun i h1 h2 => ?_
  have e1 := gt_spl (A := A) (x := cutL A a b) hab hb (cutL_len hb) i
  have e3 : gt (spl A a b (cutL A a b)) i = (spl A a b (cutL A a b))[i] := by simp [gt, List.getD_eq_getElem?_getD, h1]
  have e4 : gt A i = A[i] := by simp [gt, List.getD_eq_getElem?_getD, h2]
  rw [← e3, ← e4, e1]
  by_cases c1 : i < a
  · rw [if_pos c1]
  · rw [if_neg c1]
    by_cases c2 : i < b
    · rw [if_pos c2, gt_cutL (by omega)]
      congr 1; omega
    · rw [if_neg c2]
theorem Arr.cutDD {W : World} {b : Nat} {A : List Int} (h : Arr W b A) {x y : Nat} (hxy : x ≤ y) (hy : y ≤ A.length) : DD W b A x (cutL A x y) :=
  ⟨by rw [cutL_len hy]; omega, by rw [spl_cut hxy hy]; exact h⟩
theorem allV_cut {V : Int → Prop} {A : List Int} (h : AllV V A) {x y : Nat} (hxy : x ≤ y) (hy : y ≤ A.length) : AllV V (cutL A x y) := fun i hi => by
  rw [cutL_len hy] at hi
  rw [gt_cutL hi]
  exact h _ (by omega)
theorem allV_spl {V : Int → Prop} {A d : List Int} (h : AllV V A) (hd : AllV V d) {x y : Nat} (hxy : x ≤ y) (hy : y ≤ A.length) (hl : d.length = y - x) : AllV V (spl A x y d) := fun i hi => by
  rw [spl_len hxy hy hl] at hi
  rw [gt_spl hxy hy hl]
  split
  · exact h i hi
  · split
    · exact hd _ (by omega)
    · exact h i hi
theorem DD.spl {W : World} {b : Nat} {A d : List Int} {x y : Nat} (h : DD W b A x d) (hxy : x ≤ y) (hl : d.length = y - x) : Arr W b (spl A x y d) := by
  have h2 := h.2
  have e : x + d.length = y := by omega
  rw [e] at h2
  exact h2
theorem rwF_step {R A : List Int} {key : Int → Int} {g fr z te : Nat} (hf : fr < A.length) (ht : te = rEnd R A fr A.length (fr + 1)) : rwF R key (g + 1) fr A z = rwF R key g te (spl A fr te (stab key (cutL A fr te)).1) (z + (stab key (cutL A fr te)).2 + (te - fr)) := by
  rw [rwF, if_pos hf, ← ht]
theorem rwF_end {R A : List Int} {key : Int → Int} {g fr z : Nat} (hf : ¬ fr < A.length) : rwF R key g fr A z = (A, z) := by
  cases g with
  | zero => rfl
  | succ g => rw [rwF, if_neg hf]
theorem wrap_add (q t fr : Nat) (h : fr ≤ t) : wrap64 (wrap64 (q : Int) + ((t : Int) - (fr : Int))) = wrap64 ((q + (t - fr) : Nat) : Int) := by
  unfold wrap64
  omega
theorem wrap_dbl (st : Nat) (h : st ≤ 1000000) : wrap64 ((st : Int) * 2) = ((2 * st : Nat) : Int) := by unfold wrap64; omega
/-- The state behind one more doubling. -/
theorem DI.next {W w3 wr W1 : World} {g2 g3 gs gc gk gn b r0 r1 nw gst g12 g13 g14 : Nat} {A : Option Addr} {c n : Nat} {A1 R1 O1 A2 m1 : List Int} {rR rO : Nat} {z1 z2 : Nat}
    (h3 : DI W w3 W.heap.size g2 g3 gs gc gk gn b r0 r1 A c n A1 R1 O1 rR rO (nw : Int) z1) (hk : Kept w3 wr (fun k => k = b ∨ k = gs)) (hK : Kept wr W1 (fun k => k = gs ∨ k = rO)) (hA : Arr wr b A2) (hall : AllV (InR n) A2) (hl : A2.length = n) (hR : Arr W1 rO m1) (hml : m1.length = n)
    (hJ : JJ W wr (fun k => k = rO) gs b n (.slice none 0 0) z2 W1) (hnw : nw < 2)
    (o : g2 = W.heap.size + 1 ∧ g3 = g2 + 1 ∧ b = g3 + 1 ∧ gs = b + 1 ∧ gs < gc ∧ gc < gk ∧ rR ≠ rO ∧ gc < rR ∧ gc < rO ∧ rR < gn ∧ rO < gn ∧ rR ≠ gk ∧ rO ≠ gk ∧ gk < gn ∧ gn < gst ∧ gst < g12 ∧ g12 + 1 = g13 ∧ g13 + 1 = g14) :
    DI W (W1.setCell ⟨gn, 0, none⟩ (.int .i64 (1 - (nw : Int)))) W.heap.size g2 g3 gs gc gk gn b r0 r1 A c n A2 m1 R1 rO rR ((1 - nw : Nat) : Int) z2 := by
  have e1 : ((1 - nw : Nat) : Int) = 1 - (nw : Int) := by omega
  rw [e1]
  have hsz : gn < (W1.setCell ⟨gn, 0, none⟩ (.int .i64 (1 - (nw : Int)))).heap.size := by
    have := h3.sz; have := hk.1; have := hK.1
    have : (W1.setCell ⟨gn, 0, none⟩ (.int .i64 (1 - (nw : Int)))).heap.size = W1.heap.size := by simp [World.setCell]
    omega
  have hsd := h3.sd
  refine ⟨blk_far (blk_kept (blk_kept h3.rowl hk (by omega)) hK (by omega)) (by show W.heap.size ≠ gn; omega) _, blk_far (blk_kept (blk_kept h3.num hk (by omega)) hK (by omega)) (by show g3 ≠ gn; omega) _, blk_far (blk_kept (blk_kept h3.cmp hk (by omega)) hK (by omega)) (by show gc ≠ gn; omega) _, blk_far (blk_kept (blk_kept h3.rks hk (by omega)) hK (by omega)) (by show gk ≠ gn; omega) _,
    blk_put (blk_kept (blk_kept h3.nw hk (by omega)) hK (by omega)) 0 _ rfl, blk_far (blk_kept hA hK (by omega)) (by show b ≠ gn; omega) _, blk_far hR (by show rO ≠ gn; omega) _, blk_far (blk_kept (blk_kept h3.aR hk (by omega)) hK (by omega)) (by show rR ≠ gn; omega) _, blk_far hJ.2.2 (by show gs ≠ gn; omega) _, hJ.2.1.setCell (by show W.heap.size ≤ gn; omega) _, hall, hl, hml, h3.l2, ?_, hsz, blk_far (blk_kept (blk_kept h3.res hk (by omega)) hK (by omega)) (by show g2 ≠ gn; omega) _⟩
  rcases hsd with ⟨h0, h1, h2⟩ | ⟨h0, h1, h2⟩
  · exact .inr ⟨by omega, h2, h1⟩
  · exact .inl ⟨by omega, h2, h1⟩
theorem num_next {W1 : World} {gn st nw : Nat} (hst : st ≤ 1000000) : IsNum ((W1.setCell ⟨gn, 0, none⟩ (.int .i64 (1 - (nw : Int)))).alloc (.cells #[.int .i64 (wrap64 ((st : Int) * 2))] 3)) W1.heap.size ((2 * st : Nat) : Int) := by
  rw [wrap_dbl st hst]
  have h9 := blk_new (W1.setCell ⟨gn, 0, none⟩ (.int .i64 (1 - (nw : Int)))) (.cells #[.int .i64 ((2 * st : Nat) : Int)] 3)
  rwa [show (W1.setCell ⟨gn, 0, none⟩ (.int .i64 (1 - (nw : Int)))).heap.size = W1.heap.size by simp [World.setCell]] at h9
end Go.Proofs.Ythkiapcoagjjpaa.Suf
