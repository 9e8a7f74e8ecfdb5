-- Written for this claim by a program of this session (wip/tools/pp.py, over the kit's print).
import Derived.Test.YtfgdjpgdabjpmaaDoorPImageReadsx0
import Derived.Test.YtfgdjpgdabjpmaaDoorPImageReadsx1
import Derived.Test.YtfgdjpgdabjpmaaDoorPImageReadsx3
import Derived.Test.YtfgdjpgdabjpmaaDoorPImageReadsx5
import Derived.Test.YtfgdjpgdabjpmaaDoorPImageReadsx6
import Derived.Test.YtfgdjpgdabjpmaaDoorPImageReadsx10
import Derived.Test.YtfgdjpgdabjpmaaDoorPImageReadsx11
import Derived.Test.YtfgdjpgdabjpmaaDoorPImageReadsx12
namespace Go.Proofs.YtfgdjpgdabjpmaaDoor.PImageReads
open Go.RowKit Go.Proofs.YtfgdjpgdabjpmaaDoorW.PrintWords Go.Proofs.YtfgdjpgdabjpmaaDoorW.PrintLast Go.Proofs.YtfgdjpgdabjpmaaDoorW.PrintMore
attribute [local go_sem] max2_int min2_int max_two min_two max_three min_three max_four min_four   -- for this text's walks alone
set_option linter.unusedVariables false
set_option linter.unusedSimpArgs false

/-! ### pleatref07_Read: function 31, by hand -/
/-- The words that are taken: while there are some more, and nothing is wrong. -/
def ref_words : Nat → List Int → Int → Int → List Int → Int → Int → Int → Option (List Int × Int × Int × Int)
  | 0, _, _, _, _, _, _, _ => none
  | k + 1, l, n, i, x, at_, bad, pl => if i < n ∧ bad = 0 then (if x.length < 1000000 then (pleatref07_Taker_Four.f k l at_ bad pl).bind fun v => ref_words k l n (i + 1) (x ++ [v.1]) v.2.1 v.2.2.1 v.2.2.2 else none) else some (x, at_, bad, pl)
def ref_longs : Nat → List Int → Int → Int → List Int → Int → Int → Int → Option (List Int × Int × Int × Int)
  | 0, _, _, _, _, _, _, _ => none
  | k + 1, l, n, i, x, at_, bad, pl => if i < n ∧ bad = 0 then (if x.length < 1000000 then (pleatref07_Taker_Eight.f k l at_ bad pl).bind fun v => ref_longs k l n (i + 1) (x ++ [v.1]) v.2.1 v.2.2.1 v.2.2.2 else none) else some (x, at_, bad, pl)
def pleatref07_Read.f (k : Nat) (l : List Int) : Option (List Int × Int × List Int × Int × Int) :=
  (pleatref07_Taker_Begin.f k l 0 0 0 ⟨#[80, 76, 73, 49]⟩).bind fun s => (pleatref07_Taker_Count.f k l s.1 s.2.1 s.2.2 16384).bind fun c => if 9223372036854775800 < c.1 then none else
  (ref_words k l c.1 0 [] c.2.1 c.2.2.1 c.2.2.2).bind fun t => (pleatref07_Taker_Four.f k l t.2.1 t.2.2.1 t.2.2.2).bind fun e => (pleatref07_Taker_Count.f k l e.2.1 e.2.2.1 e.2.2.2 4096).bind fun m => if 9223372036854775800 < m.1 then none else
  (ref_longs k l m.1 0 [] m.2.1 m.2.2.1 m.2.2.2).bind fun u => (pleatref07_Taker_End.f k l u.2.1 u.2.2.1 u.2.2.2).bind fun z =>
  if z.2.1 = 0 then (pleatref07_Check.f k t.1 (wrap64 e.1) u.1).bind fun q => if q.1 = 0 then some (t.1, wrap64 e.1, u.1, 0, 0) else some ([], 0, [], q.1, q.2) else some ([], 0, [], z.2.1, z.2.2)
theorem infoRf2 : (Tryd.prog.info? 2).map (fun i => (i.zero, i.size, i.bytes)) = some (some (.int .i64 0), 1, 8) := by kernel_rfl
theorem infoRf26 : (Tryd.prog.info? 26).map (fun i => (i.zero, i.size, i.bytes)) = some (some (.int .u32 0), 1, 4) := by kernel_rfl
/-- The memory of the document's reader: its taker (block g), its result, the image in the making (block xb) and that one's lists. -/
structure RR (w : World) (l : List Int) (g xb : Nat) (at_ bad pl : Int) (v0 : Value) (t0 : List Int) (en : Int) (v2 : Value) (t2 : List Int) (wr : World) : Prop where
  below : Below w.heap.size w wr
  tk : IsS109 w wr g l at_ bad pl
  res : wr.heap[w.heap.size]? = some (.cells #[.slice none 0 0, .int .i64 0, .slice none 0 0] 25 (0, 0))
  box : wr.heap[xb]? = some (.cells #[v0, .int .i64 en, v2] 25 (0, 0))
  texts : Kd.R (Kd.int .u32) 26 wr w.heap.size (fun _ => True) v0 t0
  mems : Kd.R (Kd.int .i64) 2 wr w.heap.size (fun _ => True) v2 t2
  xge : w.heap.size < xb
theorem rr_put {α : Type} {d : Kd α} {e base g j : Nat} {ok : Nat → Prop} {w : World} {v u : Value} {xs : List α} {cs : Array Value} {t : TypeId} (h : Kd.R d e w base ok v xs) (hb : w.heap[g]? = some (.cells cs t (0, 0))) (hne : ∀ q, q ∈ e :: d.E → q ≠ t) : Kd.R d e (w.setCell ⟨g, j, none⟩ u) base ok v xs :=
  Kd.R_mono (Kd.R_far (p := ⟨g, j, none⟩) (Kd.R_types h hb hne) (fun _ hk => hk.2) u) (fun _ hk => hk.1)
theorem RR.step {w : World} {l : List Int} {g xb : Nat} {at_ bad pl en : Int} {v0 v2 : Value} {t0 t2 : List Int} {wr w' : World} (h : RR w l g xb at_ bad pl v0 t0 en v2 t2 wr) (hb : Below wr.heap.size wr w') : RR w l g xb at_ bad pl v0 t0 en v2 t2 w' :=
  ⟨below_then h.below h.below.size hb, h.tk.below hb, blk_below h.res hb, blk_below h.box hb, Kd.R_below h.texts hb, Kd.R_below h.mems hb, h.xge⟩
theorem RR.call {w : World} {l : List Int} {g xb : Nat} {at_ bad pl en a2 b2 p2 : Int} {v0 v2 : Value} {t0 t2 : List Int} {wr w' : World} (h : RR w l g xb at_ bad pl v0 t0 en v2 t2 wr) (hi : IsS109 w w' g l a2 b2 p2) (hb : Below w.heap.size w w') (hk : KeepBut wr w' g none) : RR w l g xb a2 b2 p2 v0 t0 en v2 t2 w' :=
  ⟨hb, hi, hk.blk h.res (fun e => h.tk.ne_blk h.res (by decide) e.symm) (by simp), hk.blk h.box (fun e => h.tk.ne_blk h.box (by decide) e.symm) (by simp),
    Kd.R_mono (Kd.R_keep (h.tk.apart h.texts (by decide)) hk (fun _ hk => hk.2)) (fun _ h => h.1), Kd.R_mono (Kd.R_keep (h.tk.apart h.mems (by decide)) hk (fun _ hk => hk.2)) (fun _ h => h.1), h.xge⟩
theorem RR.text {w : World} {l : List Int} {g xb : Nat} {at_ bad pl en : Int} {v0 v1 v2 : Value} {t0 t1 t2 : List Int} {wr w' : World} (h : RR w l g xb at_ bad pl v0 t0 en v2 t2 wr) (ho : Kd.R (Kd.int .u32) 26 w' w.heap.size (fun _ => True) v1 t1) (hb : Below w.heap.size w w') (hg : wr.grownBy w' v0.ownBlock) : RR w l g xb at_ bad pl v1 t1 en v2 t2 (w'.setCell ⟨xb, 0, none⟩ v1) := by
  have hbx := blk_grown h.box hg (Kd.R_ne h.texts h.box (by decide))
  have htk := h.tk.grown hg (h.tk.own_ne h.texts (by decide))
  obtain ⟨i1, o1⟩ := Kd.R_own h.texts
  obtain ⟨i2, o2⟩ := Kd.R_own h.mems
  have hm : Kd.R (Kd.int .i64) 2 w' w.heap.size (fun _ => True) v2 t2 := by
    refine Kd.R_mono (Kd.R_grown (Kd.R_mono (ok' := fun k => some k ≠ v0.ownBlock) (Kd.R_bound h.mems) fun k hk e => ?_) hg fun _ hk => hk) fun _ _ => trivial
    obtain ⟨_, _, _, q, hq, cs, hc⟩ := hk
    obtain ⟨c1, q1⟩ := own_typed o1 k e.symm
    rw [q1] at hc
    injection hc with hc
    injection hc with _ hc
    rcases List.mem_cons.1 hq with rfl | hq
    · exact absurd hc (by decide)
    · cases hq
  exact ⟨below_set hb (Nat.le_of_lt h.xge), htk.far (htk.ne_blk hbx (by decide)) _, blk_far (blk_grown h.res hg (Kd.R_ne h.texts h.res (by decide))) (Nat.ne_of_lt h.xge) _, blk_put hbx 0 v1 rfl, rr_put ho hbx (by decide), rr_put hm hbx (by decide), h.xge⟩
theorem RR.mem {w : World} {l : List Int} {g xb : Nat} {at_ bad pl en : Int} {v0 v1 v2 : Value} {t0 t1 t2 : List Int} {wr w' : World} (h : RR w l g xb at_ bad pl v0 t0 en v2 t2 wr) (ho : Kd.R (Kd.int .i64) 2 w' w.heap.size (fun _ => True) v1 t1) (hb : Below w.heap.size w w') (hg : wr.grownBy w' v2.ownBlock) : RR w l g xb at_ bad pl v0 t0 en v1 t1 (w'.setCell ⟨xb, 2, none⟩ v1) := by
  have hbx := blk_grown h.box hg (Kd.R_ne h.mems h.box (by decide))
  have htk := h.tk.grown hg (h.tk.own_ne h.mems (by decide))
  obtain ⟨i1, o1⟩ := Kd.R_own h.mems
  have hm : Kd.R (Kd.int .u32) 26 w' w.heap.size (fun _ => True) v0 t0 := by
    refine Kd.R_mono (Kd.R_grown (Kd.R_mono (ok' := fun k => some k ≠ v2.ownBlock) (Kd.R_bound h.texts) fun k hk e => ?_) hg fun _ hk => hk) fun _ _ => trivial
    obtain ⟨_, _, _, q, hq, cs, hc⟩ := hk
    obtain ⟨c1, q1⟩ := own_typed o1 k e.symm
    rw [q1] at hc
    injection hc with hc
    injection hc with _ hc
    rcases List.mem_cons.1 hq with rfl | hq
    · exact absurd hc (by decide)
    · cases hq
  exact ⟨below_set hb (Nat.le_of_lt h.xge), htk.far (htk.ne_blk hbx (by decide)) _, blk_far (blk_grown h.res hg (Kd.R_ne h.mems h.res (by decide))) (Nat.ne_of_lt h.xge) _, blk_put hbx 2 v1 rfl, rr_put hm hbx (by decide), rr_put ho hbx (by decide), h.xge⟩
theorem RR.entry {w : World} {l : List Int} {g xb : Nat} {at_ bad pl en : Int} {v0 v2 : Value} {t0 t2 : List Int} {wr : World} (h : RR w l g xb at_ bad pl v0 t0 en v2 t2 wr) (e2 : Int) : RR w l g xb at_ bad pl v0 t0 e2 v2 t2 (wr.setCell ⟨xb, 1, none⟩ (.int .i64 e2)) :=
  ⟨below_set h.below (Nat.le_of_lt h.xge), h.tk.far (h.tk.ne_blk h.box (by decide)) _, blk_far h.res (Nat.ne_of_lt h.xge) _, blk_put h.box 1 _ rfl, rr_put h.texts h.box (by decide), rr_put h.mems h.box (by decide), h.xge⟩
theorem rr_reads {α : Type} {d : Kd α} {e base c : Nat} {ok : Nat → Prop} {w : World} {A : Option Addr} {xs : List α} (h : Kd.R d e w base ok (.slice A xs.length c) xs) : xs.length ≤ c ∧ Kd.C d w A xs.length xs := by
  obtain ⟨A', c', e', h1, h2⟩ := Kd.R_reads h
  injection e' with e1 e2 e3
  subst e1; subst e3
  exact ⟨h1, h2⟩
def RefPost (w : World) (r : List Int × Int × List Int × Int × Int) (e : Ending) (w' : World) : Prop := ∃ v0_ v2_ : Value, e = .returned (.tuple #[.agg #[v0_, .int .i64 r.2.1, v2_], .int .i64 r.2.2.2.1, .int .i64 r.2.2.2.2]) ∧ Kd.R (Kd.int .u32) 26 w' w.heap.size (fun _ => True) v0_ r.1 ∧ Kd.R (Kd.int .i64) 2 w' w.heap.size (fun _ => True) v2_ r.2.2.1 ∧ Below w.heap.size w w'
theorem refpost {w w' : World} {r : List Int × Int × List Int × Int × Int} {e : Ending} {v0 v2 : Value} (he : e = .returned (.tuple #[.agg #[v0, .int .i64 r.2.1, v2], .int .i64 r.2.2.2.1, .int .i64 r.2.2.2.2])) (h1 : Kd.R (Kd.int .u32) 26 w' w.heap.size (fun _ => True) v0 r.1) (h2 : Kd.R (Kd.int .i64) 2 w' w.heap.size (fun _ => True) v2 r.2.2.1) (h3 : Below w.heap.size w w') : RefPost w r e w' := ⟨v0, v2, he, h1, h2, h3⟩
set_option maxHeartbeats 32000000 in
set_option maxRecDepth 100000 in
theorem pleatref07_Read.walk (k : Nat) (A0 : Option Addr) (c0 : Nat) (l0 : List Int) (r : List Int × Int × List Int × Int × Int) (w : World) (hr0 : Kd.C (Kd.int .u8) w A0 l0.length l0) (hc0 : l0.length ≤ c0) (h : pleatref07_Read.f k l0 = some r) :
    Calls Tryd.prog 31 #[.slice A0 l0.length c0] w fun e w' => RefPost w r e w' := by
  have hu := Tryd.underlying25
  have hu2 := Tryd.underlying109
  unfold pleatref07_Read.f at h
  obtain ⟨⟨s1, s2, s3⟩, hs, h1⟩ := Option.bind_eq_some_iff.1 h
  clear h
  obtain ⟨⟨n1, a1, b1, p1⟩, hc, h2⟩ := Option.bind_eq_some_iff.1 h1
  clear h1
  dsimp only at hc h2
  by_cases hn1 : 9223372036854775800 < n1
  · rw [if_pos hn1] at h2; cases h2
  rw [if_neg hn1] at h2
  obtain ⟨⟨xt, a2, b2, p2⟩, ht, h3⟩ := Option.bind_eq_some_iff.1 h2
  clear h2
  dsimp only at h3
  obtain ⟨⟨en, a3, b3, p3⟩, he, h4⟩ := Option.bind_eq_some_iff.1 h3
  clear h3
  dsimp only at h4
  obtain ⟨⟨n2, a4, b4, p4⟩, hm, h5⟩ := Option.bind_eq_some_iff.1 h4
  clear h4
  dsimp only at h5
  by_cases hn2 : 9223372036854775800 < n2
  · rw [if_pos hn2] at h5; cases h5
  rw [if_neg hn2] at h5
  obtain ⟨⟨xm, a5, b5, p5⟩, hl, h6⟩ := Option.bind_eq_some_iff.1 h5
  clear h5
  dsimp only at h6
  obtain ⟨⟨a6, b6, p6⟩, hz, h7⟩ := Option.bind_eq_some_iff.1 h6
  clear h6
  dsimp only at h7
  have HS := Lib.hid hs; have HCN := Lib.hid hc; have HT := Lib.hid ht; have HE := Lib.hid he; have HM := Lib.hid hm; have HLG := Lib.hid hl; have HZ := Lib.hid hz; have HF := Lib.hid h7
  have HR := Aside0.mk hr0; have HC := Aside0.mk hc0; have HN1 := Lib.hid hn1; have HN2 := Lib.hid hn2
  clear hs hc ht he hm hl hz h7 hr0 hc0 hn1 hn2
  have tok1 : True := trivial
  have tok2 : True := trivial
  have HB := Aside0.mk (below_alloc (below_alloc (Below.refl w.heap.size w) (.cells #[.slice none 0 0, .int .i64 0, .slice none 0 0] 25)) (.cells #[.slice A0 l0.length c0, .int .i64 0, .int .i64 0, .int .i64 0] 109))
  have BR := Aside0.mk (blk_alloc (blk_new w (.cells #[.slice none 0 0, .int .i64 0, .slice none 0 0] 25)) (.cells #[.slice A0 l0.length c0, .int .i64 0, .int .i64 0, .int .i64 0] 109))
  have HI := Aside0.mk (IsS109.new w (w.alloc (.cells #[.slice none 0 0, .int .i64 0, .slice none 0 0] 25)) A0 c0 l0 0 0 0 (below_alloc (Below.refl _ _) _) HR.out HC.out)
  have hwz : (w.alloc (.cells #[.slice none 0 0, .int .i64 0, .slice none 0 0] 25)).heap.size = w.heap.size + 1 := by simp
  rw [hwz] at HI
  clear hwz
  go_enter Tryd.func31, Tryd.ntmps31
  go_wp2_with (first | (go_at_call 74; refine (pleatref07_Taker_Begin.calls k (w.heap.size + 1) l0 0 0 0 _ _ _ _ w _ HI.out HB.out HS.out).mono ?_; rintro e w1 ⟨rfl, hi, hb, hk⟩; have hne := hi.ne_blk (hk.blk BR.out (by omega) (by simp)) (by decide); have X := Aside0.mk (RR.mk (v0 := .slice none 0 0) (t0 := []) (en := 0) (v2 := .slice none 0 0) (t2 := []) (xb := w1.heap.size) (below_alloc hb (.cells #[.slice none 0 0, .int .i64 0, .slice none 0 0] 25)) (hi.alloc (.cells #[.slice none 0 0, .int .i64 0, .slice none 0 0] 25)) (blk_alloc (hk.blk BR.out (by omega) (by simp)) (.cells #[.slice none 0 0, .int .i64 0, .slice none 0 0] 25)) (blk_new w1 (.cells #[.slice none 0 0, .int .i64 0, .slice none 0 0] 25)) (Kd.R_nil _ _ _ _ _) (Kd.R_nil _ _ _ _ _) (blk_lt (hk.blk BR.out (by omega) (by simp)))); clear HI HB BR hi hb hk hne; (try clear hcx hfx ht2 ht3); have hcx := blk_cell X.out.box; have hfx := blk_frozen X.out.box; obtain ⟨A_, c_, hT_, _, _⟩ := X.out.tk; have ht2 := cellS109_2 hT_; have ht3 := cellS109_3 hT_; clear hT_) | (go_at_call 75; have _ := tok1; refine (pleatref07_Taker_Count.calls k _ l0 _ _ _ 16384 _ _ _ _ w _ X.out.tk X.out.below HCN.out).mono ?_; rintro e w' ⟨rfl, hi, hb, hk⟩; clear tok1; replace X := Aside0.mk (X.out.call hi hb hk); clear hi hb hk; (try clear hcx hfx ht2 ht3); have hcx := blk_cell X.out.box; have hfx := blk_frozen X.out.box; obtain ⟨A_, c_, hT_, _, _⟩ := X.out.tk; have ht2 := cellS109_2 hT_; have ht3 := cellS109_3 hT_; clear hT_))
  generalize w1.heap.size = xb at X hcx hfx ⊢
  go_loopw [8] (fun v8 wr => ∃ (i : Nat) (x : List Int) (v0 : Value) (at_ bad pl : Int) (q : Nat), v8 = .int .i64 i ∧ Aside0 ((i : Int) ≤ n1 ∨ i = 0) ∧ Aside0 (ref_words q l0 n1 i x at_ bad pl = some (xt, a2, b2, p2)) ∧ Aside0 (RR w l0 (w.heap.size + 1) xb at_ bad pl v0 x 0 (.slice none 0 0) [] wr)) (fun v8 _ => (n1 - intOf v8).toNat)
  case atStart => exact ⟨0, [], _, _, _, _, _, rfl, ⟨.inr rfl⟩, ⟨HT.out⟩, X⟩
  case round =>
    clear X hcx hfx ht2 ht3 HT
    obtain ⟨i, x, v0, at_, bad, pl, q, rfl, hin, HW, X⟩ := hrel
    rcases q with _ | q
    · exact absurd HW.out (by simp [ref_words])
    have hw := HW.out
    unfold ref_words at hw
    (try clear hcx hfx ht2 ht3); have hcx := blk_cell X.out.box; have hfx := blk_frozen X.out.box; obtain ⟨A_, c_, hT_, _, _⟩ := X.out.tk; have ht2 := cellS109_2 hT_; have ht3 := cellS109_3 hT_; clear hT_
    by_cases hc : (i : Int) < n1 ∧ bad = 0
    · rw [if_pos hc] at hw
      obtain ⟨hlt, rfl⟩ := hc
      by_cases hxl : x.length < 1000000
      · rw [if_pos hxl] at hw
        obtain ⟨⟨z0, z1, z2, z3⟩, hv, hw2⟩ := Option.bind_eq_some_iff.1 hw
        have HV := Lib.hid hv
        clear HW hw hv
        have HW := Aside0.mk (show ref_words q l0 n1 ((i + 1 : Nat) : Int) (x ++ [z0]) z1 z2 z3 = some (xt, a2, b2, p2) from hw2)
        have HXL := Lib.hid hxl; have HLT := Lib.hid hlt
        have Hwi := Lib.hid (show wrap64 ((i : Int) + 1) = ((i + 1 : Nat) : Int) from by have := HN1.out; unfold wrap64; omega)
        clear hw2 hxl
        have d1 : decide ((i : Int) < n1) = true := decide_eq_true hlt
        go_wp2
        clear hcx hfx ht2 ht3
        refine wp_only ?_
        refine start_ (n := 8) (S := fun w' => w'.cell? ⟨xb, 0, none⟩ = some v0) (ds := [5, 6, 7]) #[false, false, false, false, false, false, false, false] (by kernel_rfl) rfl rfl ((blk_cell X.out.box 0).trans rfl) (fun hHeld => ?_)
        replace X := Aside0.mk (X.out.step (below_drew (Below.refl _ _)))
        generalize wr.drew = wd at X hHeld ⊢
        refine zPu 0 ?_
        refine zTa 1 hHeld ?_
        refine zPu 2 ?_
        refine zOn 3 (fun K hK => ?_)
        refine zCl 76 #[.pointer (some ⟨w.heap.size + 1, 0, none⟩)] ?_
        refine (pleatref07_Taker_Four.calls q (w.heap.size + 1) l0 _ _ _ _ _ _ _ w _ X.out.tk X.out.below HV.out).mono ?_
        rintro e w3 ⟨rfl, hi, hb, hk⟩
        replace X := Aside0.mk (X.out.call hi hb hk)
        clear hi hb hk
        refine ⟨_, rfl, hK.out _ _ ((blk_cell X.out.box 0).trans rfl) (fun hHeld2 => ?_)⟩
        clear hK K hHeld
        refine zNo ?_
        refine zOn 4 (fun K hK => ?_)
        refine zEv (W := w3) (v := .slice (some ⟨w3.heap.size, 0, none⟩) 1 1) (w1 := w3.alloc (.cells #[.int .u32 z0] 26)) ?_
        refine hK.out _ _ ((blk_cell (blk_alloc X.out.box _) 0).trans rfl) (fun hHeld3 => ?_)
        clear hK K hHeld2 hHeld3
        refine zNo ?_
        refine zLa 5 (fun K hK => ?_)
        refine Kd.R_append_step (Kd.int .u32) (w0 := w) w.heap.size rfl (.tmp 33) (.tmp 36) 22 26 (.int .u32 0) 4 rfl Tryd.underlying22 infoRf26 rfl (by decide) (by omega) v0 x z0 [.int .u32 z0] (fun _ => True) (fun _ => False) rfl rfl rfl (fun _ hk => hk.elim) (fun _ _ => trivial) X.out.texts X.out.below X.out.below.size (by have := HXL.out; omega) ?_
        intro v1 w4 ho hb hg hat
        obtain ⟨Ao, co, eo⟩ := Kd.R_slice ho; subst eo
        have X2 := Aside0.mk (X.out.text ho hb hg)
        have hbx := Aside0.mk (blk_grown X.out.box hg (Kd.R_ne X.out.texts X.out.box (by decide)))
        clear ho hb hg hat X
        refine hK.out _ _ ?_
        clear hK K
        refine zNo ?_
        refine zPu 6 ?_
        refine zLa 7 (fun K hK => ?_)
        have hc3 := blk_cell hbx.out; have hf3 := blk_frozen hbx.out
        refine zSt (w1 := w4.setCell ⟨xb, 0, none⟩ (.slice Ao (x ++ [z0]).length co)) ?_
        refine hK.out _ _ ?_
        clear hK K hc3 hf3 hbx
        refine zDo ⟨rfl, ?_⟩
        have hxl2 : (x ++ [z0]).length = x.length + 1 := by simp
        rw [hxl2] at X2
        clear hxl2
        go_wp2
        go_roundw
        (try rw [Hwi.out])
        case rel => exact ⟨i + 1, _, _, _, _, _, _, by first | rfl | go_num | rw [Hwi.out], ⟨by have := HLT.out; omega⟩, HW, X2⟩
        case measure => have := HLT.out; (try rw [Hwi.out]); simp [intOf]; omega

      · rw [if_neg hxl] at hw; cases hw
    · rw [if_neg hc] at hw
      clear HW
      obtain ⟨rfl, rfl, rfl, rfl⟩ : x = xt ∧ at_ = a2 ∧ bad = b2 ∧ pl = p2 := by
        have := Option.some.inj hw
        simp only [Prod.mk.injEq] at this
        exact this
      clear hw
      by_cases hlt : (i : Int) < n1
      all_goals
        first | (have d1 : decide ((i : Int) < n1) = true := decide_eq_true hlt; have d2 : (bad == 0) = false := (by simpa using fun hh => hc ⟨hlt, hh⟩)) | (have d1 : decide ((i : Int) < n1) = false := decide_eq_false hlt)
        clear hc hlt hin
        go_wp2_with (first | (go_at_call 76; refine (pleatref07_Taker_Four.calls k (w.heap.size + 1) l0 _ _ _ _ _ _ _ w _ X.out.tk X.out.below HE.out).mono ?_; rintro e w' ⟨rfl, hi, hb, hk⟩; replace X := Aside0.mk (X.out.call hi hb hk); clear hi hb hk; (try clear hcx hfx ht2 ht3); have hcx := blk_cell X.out.box; have hfx := blk_frozen X.out.box; obtain ⟨A_, c_, hT_, _, _⟩ := X.out.tk; have ht2 := cellS109_2 hT_; have ht3 := cellS109_3 hT_; clear hT_; replace X := Aside0.mk (X.out.entry (wrap64 en))) | (go_at_call 75; refine (pleatref07_Taker_Count.calls k (w.heap.size + 1) l0 _ _ _ 4096 _ _ _ _ w _ X.out.tk X.out.below HM.out).mono ?_; rintro e w' ⟨rfl, hi, hb, hk⟩; replace X := Aside0.mk (X.out.call hi hb hk); clear hi hb hk; (try clear hcx hfx ht2 ht3); have hcx := blk_cell X.out.box; have hfx := blk_frozen X.out.box; obtain ⟨A_, c_, hT_, _, _⟩ := X.out.tk; have ht2 := cellS109_2 hT_; have ht3 := cellS109_3 hT_; clear hT_))
        skip
        go_loopw [10] (fun v8 wr => ∃ (j : Nat) (y : List Int) (u2 : Value) (at5 bad5 pl5 : Int) (q : Nat), v8 = .int .i64 j ∧ Aside0 ((j : Int) ≤ n2 ∨ j = 0) ∧ Aside0 (ref_longs q l0 n2 j y at5 bad5 pl5 = some (xm, a5, b5, p5)) ∧ Aside0 (RR w l0 (w.heap.size + 1) xb at5 bad5 pl5 v0 x (wrap64 en) u2 y wr)) (fun v8 _ => (n2 - intOf v8).toNat)
        case atStart => exact ⟨0, [], _, _, _, _, _, rfl, ⟨.inr rfl⟩, ⟨HLG.out⟩, X⟩
        case round =>
          clear X hcx hfx ht2 ht3 HLG
          obtain ⟨j, y, u2, at5, bad5, pl5, q, rfl, hin, HW, X⟩ := hrel
          rcases q with _ | q
          · exact absurd HW.out (by simp [ref_longs])
          have hw := HW.out
          unfold ref_longs at hw
          (try clear hcx hfx ht2 ht3); have hcx := blk_cell X.out.box; have hfx := blk_frozen X.out.box; obtain ⟨A_, c_, hT_, _, _⟩ := X.out.tk; have ht2 := cellS109_2 hT_; have ht3 := cellS109_3 hT_; clear hT_
          by_cases hc : (j : Int) < n2 ∧ bad5 = 0
          · rw [if_pos hc] at hw
            obtain ⟨hlt, rfl⟩ := hc
            by_cases hxl : y.length < 1000000
            · rw [if_pos hxl] at hw
              obtain ⟨⟨z0, z1, z2, z3⟩, hv, hw2⟩ := Option.bind_eq_some_iff.1 hw
              have HV := Lib.hid hv
              clear HW hw hv
              have HW := Aside0.mk (show ref_longs q l0 n2 ((j + 1 : Nat) : Int) (y ++ [z0]) z1 z2 z3 = some (xm, a5, b5, p5) from hw2)
              have HXL := Lib.hid hxl; have HLT := Lib.hid hlt
              have Hwi := Lib.hid (show wrap64 ((j : Int) + 1) = ((j + 1 : Nat) : Int) from by have := HN2.out; unfold wrap64; omega)
              clear hw2 hxl
              have d1 : decide ((j : Int) < n2) = true := decide_eq_true hlt
              go_wp2
              clear hcx hfx ht2 ht3
              refine wp_only ?_
              refine start_ (n := 8) (S := fun w' => w'.cell? ⟨xb, 2, none⟩ = some u2) (ds := [5, 6, 7]) #[false, false, false, false, false, false, false, false] (by kernel_rfl) rfl rfl ((blk_cell X.out.box 2).trans rfl) (fun hHeld => ?_)
              replace X := Aside0.mk (X.out.step (below_drew (Below.refl _ _)))
              generalize wr.drew = wd at X hHeld ⊢
              refine zPu 0 ?_
              refine zTa 1 hHeld ?_
              refine zPu 2 ?_
              refine zOn 3 (fun K hK => ?_)
              refine zCl 77 #[.pointer (some ⟨w.heap.size + 1, 0, none⟩)] ?_
              refine (pleatref07_Taker_Eight.calls q (w.heap.size + 1) l0 _ _ _ _ _ _ _ w _ X.out.tk X.out.below HV.out).mono ?_
              rintro e w3 ⟨rfl, hi, hb, hk⟩
              replace X := Aside0.mk (X.out.call hi hb hk)
              clear hi hb hk
              refine ⟨_, rfl, hK.out _ _ ((blk_cell X.out.box 2).trans rfl) (fun hHeld2 => ?_)⟩
              clear hK K hHeld
              refine zNo ?_
              refine zOn 4 (fun K hK => ?_)
              refine zEv (W := w3) (v := .slice (some ⟨w3.heap.size, 0, none⟩) 1 1) (w1 := w3.alloc (.cells #[.int .i64 z0] 2)) ?_
              refine hK.out _ _ ((blk_cell (blk_alloc X.out.box _) 2).trans rfl) (fun hHeld3 => ?_)
              clear hK K hHeld2 hHeld3
              refine zNo ?_
              refine zLa 5 (fun K hK => ?_)
              refine Kd.R_append_step (Kd.int .i64) (w0 := w) w.heap.size rfl (.tmp 58) (.tmp 61) 23 2 (.int .i64 0) 8 rfl Tryd.underlying23 infoRf2 rfl (by decide) (by omega) u2 y z0 [.int .i64 z0] (fun _ => True) (fun _ => False) rfl rfl rfl (fun _ hk => hk.elim) (fun _ _ => trivial) X.out.mems X.out.below X.out.below.size (by have := HXL.out; omega) ?_
              intro v1 w4 ho hb hg hat
              obtain ⟨Ao, co, eo⟩ := Kd.R_slice ho; subst eo
              have X2 := Aside0.mk (X.out.mem ho hb hg)
              have hbx := Aside0.mk (blk_grown X.out.box hg (Kd.R_ne X.out.mems X.out.box (by decide)))
              clear ho hb hg hat X
              refine hK.out _ _ ?_
              clear hK K
              refine zNo ?_
              refine zPu 6 ?_
              refine zLa 7 (fun K hK => ?_)
              have hc3 := blk_cell hbx.out; have hf3 := blk_frozen hbx.out
              refine zSt (w1 := w4.setCell ⟨xb, 2, none⟩ (.slice Ao (y ++ [z0]).length co)) ?_
              refine hK.out _ _ ?_
              clear hK K hc3 hf3 hbx
              refine zDo ⟨rfl, ?_⟩
              have hxl2 : (y ++ [z0]).length = y.length + 1 := by simp
              rw [hxl2] at X2
              clear hxl2
              go_wp2
              go_roundw
              (try rw [Hwi.out])
              case rel => exact ⟨j + 1, _, _, _, _, _, _, by first | rfl | go_num | rw [Hwi.out], ⟨by have := HLT.out; omega⟩, HW, X2⟩
              case measure => have := HLT.out; (try rw [Hwi.out]); simp [intOf]; omega
        
            · rw [if_neg hxl] at hw; cases hw
          · rw [if_neg hc] at hw
            clear HW
            obtain ⟨rfl, rfl, rfl, rfl⟩ : y = xm ∧ at5 = a5 ∧ bad5 = b5 ∧ pl5 = p5 := by
              have := Option.some.inj hw
              simp only [Prod.mk.injEq] at this
              exact this
            clear hw
            by_cases hlt : (j : Int) < n2
            all_goals
              first | (have d1 : decide ((j : Int) < n2) = true := decide_eq_true hlt; have d2 : (bad5 == 0) = false := (by simpa using fun hh => hc ⟨hlt, hh⟩)) | (have d1 : decide ((j : Int) < n2) = false := decide_eq_false hlt)
              clear hc hlt hin
              obtain ⟨Av, cv, ev⟩ := Kd.R_slice X.out.texts; subst ev
              obtain ⟨Au, cu, eu⟩ := Kd.R_slice X.out.mems; subst eu
              have h7 := HF.out
              clear HF
              by_cases hb6 : b6 = 0
              · rw [if_pos hb6] at h7
                obtain ⟨⟨q1, q2⟩, hq, h8⟩ := Option.bind_eq_some_iff.1 h7
                have HQ := Lib.hid hq
                clear h7 hq
                subst hb6
                dsimp only at h8
                by_cases hq1 : q1 = 0
                · rw [if_pos hq1] at h8
                  have HRR := Lib.hid (Option.some.inj h8).symm
                  subst hq1
                  clear h8
                  go_wp2_with (first | (go_at_call 78; refine (pleatref07_Taker_End.calls k (w.heap.size + 1) l0 _ _ _ a6 _ p6 w _ X.out.tk X.out.below HZ.out).mono ?_; rintro e w' ⟨rfl, hi, hb, hk⟩; replace X := Aside0.mk (X.out.call hi hb hk); clear hi hb hk; (try clear hcx hfx ht2 ht3); have hcx := blk_cell X.out.box; have hfx := blk_frozen X.out.box; obtain ⟨A_, c_, hT_, _, _⟩ := X.out.tk; have ht2 := cellS109_2 hT_; have ht3 := cellS109_3 hT_; clear hT_; have hcr := blk_cell X.out.res; have hfr := blk_frozen X.out.res) | (go_at_call 24; refine (pleatref07_Check.calls k _ _ x (wrap64 en) _ _ y _ _ _ (rr_reads X.out.texts).2 (rr_reads X.out.texts).1 (rr_reads X.out.mems).2 (rr_reads X.out.mems).1 HQ.out).mono ?_; rintro e w' ⟨rfl, hb⟩; replace X := Aside0.mk (X.out.step hb); clear hb hcr hfr; (try clear hcx hfx ht2 ht3); have hcx := blk_cell X.out.box; have hfx := blk_frozen X.out.box; obtain ⟨A_, c_, hT_, _, _⟩ := X.out.tk; have ht2 := cellS109_2 hT_; have ht3 := cellS109_3 hT_; clear hT_; have hcr := blk_cell X.out.res; have hfr := blk_frozen X.out.res))
                  have hr := HRR.out
                  subst hr
                  have hy : ∀ (j : Nat) (u : Value) (W : World) (cs : Array Value), W.heap[w.heap.size]? = some (.cells cs 25 (0, 0)) → (W.setCell ⟨w.heap.size, j, none⟩ u).heap[w.heap.size]? = some (.cells (cs.setIfInBounds j u) 25 (0, 0)) := fun j u W cs h => blk_put h j u rfl
                  refine bodyPost_ret (results_ctt rfl _ _ w.heap.size 25 #[.slice Av x.length cv, .int .i64 (wrap64 en), .slice Au y.length cu] (0, 0) _ rfl (blk_put (blk_put (blk_put X.out.res 0 _ rfl) 1 _ rfl) 2 _ rfl) hu rfl (by kernel_rfl)) rfl (refpost (v0 := .slice Av x.length cv) (v2 := .slice Au y.length cu) rfl (rr_put (rr_put (rr_put X.out.texts X.out.res (by decide)) (hy _ _ _ _ X.out.res) (by decide)) (hy _ _ _ _ (hy _ _ _ _ X.out.res)) (by decide)) (rr_put (rr_put (rr_put X.out.mems X.out.res (by decide)) (hy _ _ _ _ X.out.res) (by decide)) (hy _ _ _ _ (hy _ _ _ _ X.out.res)) (by decide)) (below_set (below_set (below_set X.out.below (Nat.le_refl _)) (Nat.le_refl _)) (Nat.le_refl _)))
                · rw [if_neg hq1] at h8
                  have HRR := Lib.hid (Option.some.inj h8).symm
                  have e1 : (q1 != 0) = true := by simpa using hq1
                  clear h8 hq1
                  go_wp2_with (first | (go_at_call 78; refine (pleatref07_Taker_End.calls k (w.heap.size + 1) l0 _ _ _ a6 _ p6 w _ X.out.tk X.out.below HZ.out).mono ?_; rintro e w' ⟨rfl, hi, hb, hk⟩; replace X := Aside0.mk (X.out.call hi hb hk); clear hi hb hk; (try clear hcx hfx ht2 ht3); have hcx := blk_cell X.out.box; have hfx := blk_frozen X.out.box; obtain ⟨A_, c_, hT_, _, _⟩ := X.out.tk; have ht2 := cellS109_2 hT_; have ht3 := cellS109_3 hT_; clear hT_; have hcr := blk_cell X.out.res; have hfr := blk_frozen X.out.res) | (go_at_call 24; refine (pleatref07_Check.calls k _ _ x (wrap64 en) _ _ y _ _ _ (rr_reads X.out.texts).2 (rr_reads X.out.texts).1 (rr_reads X.out.mems).2 (rr_reads X.out.mems).1 HQ.out).mono ?_; rintro e w' ⟨rfl, hb⟩; replace X := Aside0.mk (X.out.step hb); clear hb hcr hfr; (try clear hcx hfx ht2 ht3); have hcx := blk_cell X.out.box; have hfx := blk_frozen X.out.box; obtain ⟨A_, c_, hT_, _, _⟩ := X.out.tk; have ht2 := cellS109_2 hT_; have ht3 := cellS109_3 hT_; clear hT_; have hcr := blk_cell X.out.res; have hfr := blk_frozen X.out.res))
                  have hr := HRR.out
                  subst hr
                  refine bodyPost_ret (results_ctt rfl _ _ w.heap.size 25 #[.slice none 0 0, .int .i64 0, .slice none 0 0] (0, 0) _ rfl ((blk_put (blk_put (blk_put X.out.res 0 _ rfl) 1 _ rfl) 2 _ rfl)) hu rfl (by kernel_rfl)) rfl (refpost (v0 := .slice none 0 0) (v2 := .slice none 0 0) rfl (Kd.R_nil _ _ _ _ _) (Kd.R_nil _ _ _ _ _) ((below_set (below_set (below_set X.out.below (Nat.le_refl _)) (Nat.le_refl _)) (Nat.le_refl _))))
              · rw [if_neg hb6] at h7
                have HRR := Lib.hid (Option.some.inj h7).symm
                have e1 : (b6 != 0) = true := by simpa using hb6
                clear h7 hb6
                go_wp2_with (first | (go_at_call 78; refine (pleatref07_Taker_End.calls k (w.heap.size + 1) l0 _ _ _ a6 _ p6 w _ X.out.tk X.out.below HZ.out).mono ?_; rintro e w' ⟨rfl, hi, hb, hk⟩; replace X := Aside0.mk (X.out.call hi hb hk); clear hi hb hk; (try clear hcx hfx ht2 ht3); have hcx := blk_cell X.out.box; have hfx := blk_frozen X.out.box; obtain ⟨A_, c_, hT_, _, _⟩ := X.out.tk; have ht2 := cellS109_2 hT_; have ht3 := cellS109_3 hT_; clear hT_; have hcr := blk_cell X.out.res; have hfr := blk_frozen X.out.res))
                go_region
                go_wp2
                have hr := HRR.out
                subst hr
                refine bodyPost_ret (results_ctt rfl _ _ w.heap.size 25 #[.slice none 0 0, .int .i64 0, .slice none 0 0] (0, 0) _ rfl (blk_drew (blk_put (blk_put (blk_put X.out.res 0 _ rfl) 1 _ rfl) 2 _ rfl)) hu rfl (by kernel_rfl)) rfl (refpost (v0 := .slice none 0 0) (v2 := .slice none 0 0) rfl (Kd.R_nil _ _ _ _ _) (Kd.R_nil _ _ _ _ _) (below_drew (below_set (below_set (below_set X.out.below (Nat.le_refl _)) (Nat.le_refl _)) (Nat.le_refl _))))

theorem ref_words_mono : ∀ k l n i x a b p, LeO (ref_words k l n i x a b p) (ref_words (k + 1) l n i x a b p)
  | 0, _, _, _, _, _, _, _ => fun r h => by simp [ref_words] at h
  | k + 1, l, n, i, x, a, b, p => by
    unfold ref_words
    exact LeO.ite (LeO.ite (LeO.bind (pleatref07_Taker_Four.mono _ _ _ _ k) fun v => ref_words_mono k _ _ _ _ _ _ _) (LeO.refl _)) (LeO.refl _)
theorem ref_longs_mono : ∀ k l n i x a b p, LeO (ref_longs k l n i x a b p) (ref_longs (k + 1) l n i x a b p)
  | 0, _, _, _, _, _, _, _ => fun r h => by simp [ref_longs] at h
  | k + 1, l, n, i, x, a, b, p => by
    unfold ref_longs
    exact LeO.ite (LeO.ite (LeO.bind (pleatref07_Taker_Eight.mono _ _ _ _ k) fun v => ref_longs_mono k _ _ _ _ _ _ _) (LeO.refl _)) (LeO.refl _)
theorem pleatref07_Read.mono : ∀ a0 k, LeO (pleatref07_Read.f k a0) (pleatref07_Read.f (k + 1) a0) := fun l k =>
  LeO.bind (pleatref07_Taker_Begin.mono _ _ _ _ _ k) fun s => LeO.bind (pleatref07_Taker_Count.mono _ _ _ _ _ k) fun c => LeO.ite (LeO.refl _) (LeO.bind (ref_words_mono k _ _ _ _ _ _ _) fun t => LeO.bind (pleatref07_Taker_Four.mono _ _ _ _ k) fun e => LeO.bind (pleatref07_Taker_Count.mono _ _ _ _ _ k) fun m => LeO.ite (LeO.refl _) (LeO.bind (ref_longs_mono k _ _ _ _ _ _ _) fun u => LeO.bind (pleatref07_Taker_End.mono _ _ _ _ k) fun z => LeO.ite (LeO.bind (pleatref07_Check.mono _ _ _ k) fun q => LeO.refl _) (LeO.refl _)))
theorem pleatref07_Read.calls (k : Nat) (A0 : Option Addr) (c0 : Nat) (l0 : List Int) (r1 : List Int) (r2 : Int) (r3 : List Int) (r4 r5 : Int) (w : World) (hr0 : Kd.C (Kd.int .u8) w A0 l0.length l0) (hc0 : l0.length ≤ c0) (h : pleatref07_Read.f k l0 = some (r1, r2, r3, r4, r5)) :
    Calls Tryd.prog 31 #[.slice A0 l0.length c0] w fun e w' => ∃ v0_ v2_ : Value, e = .returned (.tuple #[.agg #[v0_, .int .i64 r2, v2_], .int .i64 r4, .int .i64 r5]) ∧ Kd.R (Kd.int .u32) 26 w' w.heap.size (fun _ => True) v0_ r1 ∧ Kd.R (Kd.int .i64) 2 w' w.heap.size (fun _ => True) v2_ r3 ∧ Below w.heap.size w w' :=
  pleatref07_Read.walk k A0 c0 l0 (r1, r2, r3, r4, r5) w hr0 hc0 h

/-! ### pleatlaw07_ImageReads: function 5, by hand -/
section
open Go.Proofs.YtfgdjpgdabjpmaaDoor.Bag
def pleatlaw07_ImageReads.f (k : Nat) (l0 : List Int) : Option Bool :=
  if 262144 < l0.length then pleatlaw07_lives.f k else
  (image_Read.f k l0).bind fun x => (pleatref07_Read.f k l0).bind fun v => (pleatref00_EqImage.f k x.1 x.2.1 x.2.2.1 v.1 v.2.1 v.2.2.1).bind fun p => (image_Sum.f k l0).bind fun s => (pleatref07_Sum.f k l0).bind fun t => (pleatref00_EqBytes.f k l0 l0).bind fun q =>
  if x.2.2.2.1 = v.2.2.2.1 ∧ x.2.2.2.2 = v.2.2.2.2 ∧ p = true ∧ s = t ∧ q = true ∧ x.1.length ≤ 1000000 ∧ x.2.2.1.length ≤ 1000000 then pleatlaw07_lives.f k else none
set_option maxHeartbeats 8000000 in
set_option maxRecDepth 100000 in
theorem pleatlaw07_ImageReads.calls (k : Nat) (A0 : Option Addr) (c0 : Nat) (l0 : List Int) (r : Bool) (w : World) (hr0 : Kd.C (Kd.int .u8) w A0 l0.length l0) (hc0 : l0.length ≤ c0) (h : pleatlaw07_ImageReads.f k l0 = some r) :
    Calls Tryd.prog 5 #[.slice A0 l0.length c0] w fun e w' => e = .returned (.bool r) ∧ Below w.heap.size w w' := by
  have hu := Tryd.underlying25
  have hu2 := Tryd.underlying59
  have HC0 := Aside0.mk hr0; have HL0 := Aside0.mk hc0
  unfold pleatlaw07_ImageReads.f at h
  have HB := Aside0.mk (Below.refl w.heap.size w)
  clear hr0 hc0
  by_cases hv : 262144 < l0.length
  · rw [if_pos hv] at h
    have HH := Lib.hid h
    have d1 : decide ((262144 : Int) < (l0.length : Int)) = true := decide_eq_true (by omega)
    clear h hv
    go_enter Tryd.func5, Tryd.ntmps5
    go_wp2_with (go_at_call 22; refine (pleatlaw07_lives.calls k _ _ HH.out).mono ?_; rintro e w1 ⟨rfl, hb⟩; replace HB := Aside0.mk (below_then HB.out HB.out.size hb); clear hb)
    go_ret
    exact ⟨rfl, HB.out⟩
  · rw [if_neg hv] at h
    obtain ⟨x, hx, h1⟩ := Option.bind_eq_some_iff.1 h
    clear h
    obtain ⟨v, hrv, h2⟩ := Option.bind_eq_some_iff.1 h1
    clear h1
    obtain ⟨p, hp, h3⟩ := Option.bind_eq_some_iff.1 h2
    clear h2
    obtain ⟨s, hs, h4⟩ := Option.bind_eq_some_iff.1 h3
    clear h3
    obtain ⟨t, ht, h5⟩ := Option.bind_eq_some_iff.1 h4
    clear h4
    obtain ⟨q, hq, h6⟩ := Option.bind_eq_some_iff.1 h5
    clear h5
    by_cases hg : x.2.2.2.1 = v.2.2.2.1 ∧ x.2.2.2.2 = v.2.2.2.2 ∧ p = true ∧ s = t ∧ q = true ∧ x.1.length ≤ 1000000 ∧ x.2.2.1.length ≤ 1000000
    · rw [if_pos hg] at h6
      obtain ⟨x0, x1, x2, x3, x4⟩ := x
      obtain ⟨v0, v1, v2, v3, v4⟩ := v
      obtain ⟨hg1, hg2, rfl, rfl, rfl, hg3, hg4⟩ := hg
      dsimp only at hg1 hg2 hg3 hg4 hp
      subst hg1; subst hg2
      have HH := Lib.hid h6; have HX := Lib.hid hx; have HV := Lib.hid hrv; have HP := Lib.hid hp; have HS1 := Lib.hid hs; have HS2 := Lib.hid ht; have HQ := Lib.hid hq; have HN3 := Lib.hid (And.intro hg3 hg4)
      have HN := Lib.hid (show l0.length ≤ 1000000 from by omega)
      have d1 : decide ((262144 : Int) < (l0.length : Int)) = false := decide_eq_false (by omega)
      clear h6 hx hrv hp hs ht hq hg3 hg4 hv
      have e1 : (x3 != x3) = false := by simp
      have e2 : (x4 != x4) = false := by simp
      have e3 : (s != s) = false := by simp
      have tok0 : True := trivial
      have tok1 : True := trivial
      have tok2 : True := trivial
      have tok3 : True := trivial
      have tok4 : True := trivial
      have tok5 : True := trivial
      have tok6 : True := trivial
      have tok7 : True := trivial
      have tok8 : True := trivial
      have tok9 : True := trivial
      have tka0 : True := trivial
      have tka1 : True := trivial
      go_enter Tryd.func5, Tryd.ntmps5
      go_wp2_with (first | (go_at_call 29; have _ := tok0; refine (wideBytes_made _ _ l0 _ (Kd.C_below HC0.out HB.out) HL0.out HN.out).mono ?_; rintro e w1 ⟨g, rfl, hgl, hg, hb⟩; clear tok0; replace HB := Aside0.mk (below_then HB.out HB.out.size hb); have BG := Aside0.mk (hg); have HT := Aside0.mk (Todo.nil w w1); clear hg hgl; clear hb) | (go_at_call 30; have _ := tok1; refine (image_Read.calls k _ _ l0 x0 x1 x2 x3 x4 _ (wide_reads HN.out BG.out) (Nat.le_add_right _ _) HX.out).mono ?_; rintro e w1 ⟨v0_, v2_, rfl, hR0, hR2, hb⟩; clear tok1; obtain ⟨Aa0, ca0, rfl, hlb0, hC0⟩ := Kd.R_reads hR0; obtain ⟨Aa2, ca2, rfl, hlb2, hC2⟩ := Kd.R_reads hR2; obtain ⟨ys, hO⟩ := Kd.R_own hR0; obtain ⟨zs, hO2⟩ := Kd.R_own hR2; replace HT := Aside0.mk (HT.out.snoc2 (j := 5) (j2 := 4) HB.out.size hb HN3.out.1 hO HN3.out.2 hO2 (by decide)); have Ca0 := Aside0.mk hC0; have Ca2 := Aside0.mk hC2; have La0 := Aside0.mk hlb0; have La2 := Aside0.mk hlb2; clear hC0 hC2 hO hO2 hR0 hR2 hlb0 hlb2; replace BG := Aside0.mk (blk_below BG.out hb); replace HB := Aside0.mk (below_then HB.out HB.out.size hb); clear hb; have hb2 := below_alloc (Below.refl w1.heap.size w1) (.cells #[.slice Aa0 x0.length ca0, .int .i64 x1, .slice Aa2 x2.length ca2] 25); replace BG := Aside0.mk (blk_below BG.out hb2); replace HT := Aside0.mk (HT.out.next hb2); replace Ca0 := Aside0.mk (Kd.C_below Ca0.out hb2); replace Ca2 := Aside0.mk (Kd.C_below Ca2.out hb2); replace HB := Aside0.mk (below_then HB.out HB.out.size hb2); have BIa := Aside0.mk (blk_new w1 (.cells #[.slice Aa0 x0.length ca0, .int .i64 x1, .slice Aa2 x2.length ca2] 25)); clear hb2; (try clear hc_BIa hf_BIa); have hc_BIa := blk_cell BIa.out; have hf_BIa := blk_frozen BIa.out) | (go_at_call 30; have _ := tok2; refine (image_Read.calls k _ _ l0 x0 x1 x2 x3 x4 _ (wide_reads HN.out BG.out) (Nat.le_add_right _ _) HX.out).mono ?_; rintro e w1 ⟨v0_, v2_, rfl, hR0, hR2, hb⟩; clear tok2; obtain ⟨Ab0, cb0, rfl, hlb0, hC0⟩ := Kd.R_reads hR0; obtain ⟨Ab2, cb2, rfl, hlb2, hC2⟩ := Kd.R_reads hR2; obtain ⟨ys, hO⟩ := Kd.R_own hR0; obtain ⟨zs, hO2⟩ := Kd.R_own hR2; replace HT := Aside0.mk (HT.out.snoc2 (j := 5) (j2 := 4) HB.out.size hb HN3.out.1 hO HN3.out.2 hO2 (by decide)); have Cb0 := Aside0.mk hC0; have Cb2 := Aside0.mk hC2; have Lb0 := Aside0.mk hlb0; have Lb2 := Aside0.mk hlb2; clear hC0 hC2 hO hO2 hR0 hR2 hlb0 hlb2; replace BG := Aside0.mk (blk_below BG.out hb); replace Ca0 := Aside0.mk (Kd.C_below Ca0.out hb); replace Ca2 := Aside0.mk (Kd.C_below Ca2.out hb); replace BIa := Aside0.mk (blk_below BIa.out hb); replace HB := Aside0.mk (below_then HB.out HB.out.size hb); clear hb; (try clear hc_BIa hf_BIa); have hc_BIa := blk_cell BIa.out; have hf_BIa := blk_frozen BIa.out; have hb2 := below_alloc (Below.refl w1.heap.size w1) (.cells #[.slice Ab0 x0.length cb0, .int .i64 x1, .slice Ab2 x2.length cb2] 25); replace BG := Aside0.mk (blk_below BG.out hb2); replace Ca0 := Aside0.mk (Kd.C_below Ca0.out hb2); replace Ca2 := Aside0.mk (Kd.C_below Ca2.out hb2); replace BIa := Aside0.mk (blk_below BIa.out hb2); replace HT := Aside0.mk (HT.out.next hb2); replace Cb0 := Aside0.mk (Kd.C_below Cb0.out hb2); replace Cb2 := Aside0.mk (Kd.C_below Cb2.out hb2); replace HB := Aside0.mk (below_then HB.out HB.out.size hb2); have BIb := Aside0.mk (blk_new w1 (.cells #[.slice Ab0 x0.length cb0, .int .i64 x1, .slice Ab2 x2.length cb2] 25)); clear hb2; (try clear hc_BIa hf_BIa); (try clear hc_BIb hf_BIb); have hc_BIa := blk_cell BIa.out; have hf_BIa := blk_frozen BIa.out; have hc_BIb := blk_cell BIb.out; have hf_BIb := blk_frozen BIb.out) | (go_at_call 31; have _ := tok3; refine (pleatref07_Read.calls k _ _ l0 v0 v1 v2 x3 x4 _ (Kd.C_below HC0.out HB.out) HL0.out HV.out).mono ?_; rintro e w1 ⟨v0_, v2_, rfl, hR0, hR2, hb⟩; clear tok3; obtain ⟨Av0, cv0, rfl, hlb0, hC0⟩ := Kd.R_reads hR0; obtain ⟨Av2, cv2, rfl, hlb2, hC2⟩ := Kd.R_reads hR2; have Cv0 := Aside0.mk hC0; have Cv2 := Aside0.mk hC2; have Lv0 := Aside0.mk hlb0; have Lv2 := Aside0.mk hlb2; clear hC0 hC2 hR0 hR2 hlb0 hlb2; replace BG := Aside0.mk (blk_below BG.out hb); replace Ca0 := Aside0.mk (Kd.C_below Ca0.out hb); replace Ca2 := Aside0.mk (Kd.C_below Ca2.out hb); replace BIa := Aside0.mk (blk_below BIa.out hb); replace HT := Aside0.mk (HT.out.next hb); replace Cb0 := Aside0.mk (Kd.C_below Cb0.out hb); replace Cb2 := Aside0.mk (Kd.C_below Cb2.out hb); replace BIb := Aside0.mk (blk_below BIb.out hb); replace HB := Aside0.mk (below_then HB.out HB.out.size hb); clear hb; (try clear hc_BIa hf_BIa); (try clear hc_BIb hf_BIb); have hc_BIa := blk_cell BIa.out; have hf_BIa := blk_frozen BIa.out; have hc_BIb := blk_cell BIb.out; have hf_BIb := blk_frozen BIb.out; have hb2 := below_alloc (Below.refl w1.heap.size w1) (.cells #[.slice Av0 v0.length cv0, .int .i64 v1, .slice Av2 v2.length cv2] 25); replace BG := Aside0.mk (blk_below BG.out hb2); replace Ca0 := Aside0.mk (Kd.C_below Ca0.out hb2); replace Ca2 := Aside0.mk (Kd.C_below Ca2.out hb2); replace BIa := Aside0.mk (blk_below BIa.out hb2); replace HT := Aside0.mk (HT.out.next hb2); replace Cb0 := Aside0.mk (Kd.C_below Cb0.out hb2); replace Cb2 := Aside0.mk (Kd.C_below Cb2.out hb2); replace BIb := Aside0.mk (blk_below BIb.out hb2); replace Cv0 := Aside0.mk (Kd.C_below Cv0.out hb2); replace Cv2 := Aside0.mk (Kd.C_below Cv2.out hb2); replace HB := Aside0.mk (below_then HB.out HB.out.size hb2); have BIv := Aside0.mk (blk_new w1 (.cells #[.slice Av0 v0.length cv0, .int .i64 v1, .slice Av2 v2.length cv2] 25)); clear hb2; (try clear hc_BIa hf_BIa); (try clear hc_BIb hf_BIb); (try clear hc_BIv hf_BIv); have hc_BIa := blk_cell BIa.out; have hf_BIa := blk_frozen BIa.out; have hc_BIb := blk_cell BIb.out; have hf_BIb := blk_frozen BIb.out; have hc_BIv := blk_cell BIv.out; have hf_BIv := blk_frozen BIv.out) | (go_at_call 16; have _ := tok4; refine (pleatref00_EqImage.calls k _ _ x0 x1 _ _ x2 _ _ v0 v1 _ _ v2 true _ Ca0.out La0.out Ca2.out La2.out Cv0.out Lv0.out Cv2.out Lv2.out HP.out).mono ?_; rintro e w1 ⟨rfl, hb⟩; clear tok4; replace BG := Aside0.mk (blk_below BG.out hb); replace Ca0 := Aside0.mk (Kd.C_below Ca0.out hb); replace Ca2 := Aside0.mk (Kd.C_below Ca2.out hb); replace BIa := Aside0.mk (blk_below BIa.out hb); replace HT := Aside0.mk (HT.out.next hb); replace Cb0 := Aside0.mk (Kd.C_below Cb0.out hb); replace Cb2 := Aside0.mk (Kd.C_below Cb2.out hb); replace BIb := Aside0.mk (blk_below BIb.out hb); replace Cv0 := Aside0.mk (Kd.C_below Cv0.out hb); replace Cv2 := Aside0.mk (Kd.C_below Cv2.out hb); replace BIv := Aside0.mk (blk_below BIv.out hb); replace HB := Aside0.mk (below_then HB.out HB.out.size hb); clear hb; (try clear hc_BIa hf_BIa); (try clear hc_BIb hf_BIb); (try clear hc_BIv hf_BIv); have hc_BIa := blk_cell BIa.out; have hf_BIa := blk_frozen BIa.out; have hc_BIb := blk_cell BIb.out; have hf_BIb := blk_frozen BIb.out; have hc_BIv := blk_cell BIv.out; have hf_BIv := blk_frozen BIv.out) | (go_at_call 16; have _ := tok5; refine (pleatref00_EqImage.calls k _ _ x0 x1 _ _ x2 _ _ v0 v1 _ _ v2 true _ Cb0.out Lb0.out Cb2.out Lb2.out Cv0.out Lv0.out Cv2.out Lv2.out HP.out).mono ?_; rintro e w1 ⟨rfl, hb⟩; clear tok5; replace BG := Aside0.mk (blk_below BG.out hb); replace Ca0 := Aside0.mk (Kd.C_below Ca0.out hb); replace Ca2 := Aside0.mk (Kd.C_below Ca2.out hb); replace BIa := Aside0.mk (blk_below BIa.out hb); replace HT := Aside0.mk (HT.out.next hb); replace Cb0 := Aside0.mk (Kd.C_below Cb0.out hb); replace Cb2 := Aside0.mk (Kd.C_below Cb2.out hb); replace BIb := Aside0.mk (blk_below BIb.out hb); replace Cv0 := Aside0.mk (Kd.C_below Cv0.out hb); replace Cv2 := Aside0.mk (Kd.C_below Cv2.out hb); replace BIv := Aside0.mk (blk_below BIv.out hb); replace HB := Aside0.mk (below_then HB.out HB.out.size hb); clear hb; (try clear hc_BIa hf_BIa); (try clear hc_BIb hf_BIb); (try clear hc_BIv hf_BIv); have hc_BIa := blk_cell BIa.out; have hf_BIa := blk_frozen BIa.out; have hc_BIb := blk_cell BIb.out; have hf_BIb := blk_frozen BIb.out; have hc_BIv := blk_cell BIv.out; have hf_BIv := blk_frozen BIv.out) | (go_at_call 32; have _ := tok6; refine (image_Sum.calls k _ _ l0 _ _ (wide_reads HN.out BG.out) (Nat.le_add_right _ _) HS1.out).mono ?_; rintro e w1 ⟨rfl, hd⟩; have hb := hd.below; clear hd; clear tok6; replace BG := Aside0.mk (blk_below BG.out hb); replace Ca0 := Aside0.mk (Kd.C_below Ca0.out hb); replace Ca2 := Aside0.mk (Kd.C_below Ca2.out hb); replace BIa := Aside0.mk (blk_below BIa.out hb); replace HT := Aside0.mk (HT.out.next hb); replace Cb0 := Aside0.mk (Kd.C_below Cb0.out hb); replace Cb2 := Aside0.mk (Kd.C_below Cb2.out hb); replace BIb := Aside0.mk (blk_below BIb.out hb); replace Cv0 := Aside0.mk (Kd.C_below Cv0.out hb); replace Cv2 := Aside0.mk (Kd.C_below Cv2.out hb); replace BIv := Aside0.mk (blk_below BIv.out hb); replace HB := Aside0.mk (below_then HB.out HB.out.size hb); clear hb; (try clear hc_BIa hf_BIa); (try clear hc_BIb hf_BIb); (try clear hc_BIv hf_BIv); have hc_BIa := blk_cell BIa.out; have hf_BIa := blk_frozen BIa.out; have hc_BIb := blk_cell BIb.out; have hf_BIb := blk_frozen BIb.out; have hc_BIv := blk_cell BIv.out; have hf_BIv := blk_frozen BIv.out) | (go_at_call 33; have _ := tok7; refine (pleatref07_Sum.calls k _ _ l0 _ _ (Kd.C_below HC0.out HB.out) HL0.out HS2.out).mono ?_; rintro e w1 ⟨rfl, hd⟩; have hb := hd.below; clear hd; clear tok7; replace BG := Aside0.mk (blk_below BG.out hb); replace Ca0 := Aside0.mk (Kd.C_below Ca0.out hb); replace Ca2 := Aside0.mk (Kd.C_below Ca2.out hb); replace BIa := Aside0.mk (blk_below BIa.out hb); replace HT := Aside0.mk (HT.out.next hb); replace Cb0 := Aside0.mk (Kd.C_below Cb0.out hb); replace Cb2 := Aside0.mk (Kd.C_below Cb2.out hb); replace BIb := Aside0.mk (blk_below BIb.out hb); replace Cv0 := Aside0.mk (Kd.C_below Cv0.out hb); replace Cv2 := Aside0.mk (Kd.C_below Cv2.out hb); replace BIv := Aside0.mk (blk_below BIv.out hb); replace HB := Aside0.mk (below_then HB.out HB.out.size hb); clear hb; (try clear hc_BIa hf_BIa); (try clear hc_BIb hf_BIb); (try clear hc_BIv hf_BIv); have hc_BIa := blk_cell BIa.out; have hf_BIa := blk_frozen BIa.out; have hc_BIb := blk_cell BIb.out; have hf_BIb := blk_frozen BIb.out; have hc_BIv := blk_cell BIv.out; have hf_BIv := blk_frozen BIv.out) | (go_at_call 27; have _ := tok8; refine (pleatref00_EqBytes.calls k _ _ l0 _ _ l0 true _ (wide_reads HN.out BG.out) (Nat.le_add_right _ _) (Kd.C_below HC0.out HB.out) HL0.out HQ.out).mono ?_; rintro e w1 ⟨rfl, hd⟩; have hb := hd.below; clear hd; clear tok8; replace BG := Aside0.mk (blk_below BG.out hb); replace Ca0 := Aside0.mk (Kd.C_below Ca0.out hb); replace Ca2 := Aside0.mk (Kd.C_below Ca2.out hb); replace BIa := Aside0.mk (blk_below BIa.out hb); replace HT := Aside0.mk (HT.out.next hb); replace Cb0 := Aside0.mk (Kd.C_below Cb0.out hb); replace Cb2 := Aside0.mk (Kd.C_below Cb2.out hb); replace BIb := Aside0.mk (blk_below BIb.out hb); replace Cv0 := Aside0.mk (Kd.C_below Cv0.out hb); replace Cv2 := Aside0.mk (Kd.C_below Cv2.out hb); replace BIv := Aside0.mk (blk_below BIv.out hb); replace HB := Aside0.mk (below_then HB.out HB.out.size hb); clear hb; (try clear hc_BIa hf_BIa); (try clear hc_BIb hf_BIb); (try clear hc_BIv hf_BIv); have hc_BIa := blk_cell BIa.out; have hf_BIa := blk_frozen BIa.out; have hc_BIb := blk_cell BIb.out; have hf_BIb := blk_frozen BIb.out; have hc_BIv := blk_cell BIv.out; have hf_BIv := blk_frozen BIv.out) | (go_at_call 34; have _ := tok9; refine (spareBytes_true _ l0.length _ _ BG.out HN.out (fun i h1 h2 => wcs_mark _ _ _ _ h1 h2)).mono ?_; rintro e w1 ⟨rfl, hw⟩; clear tok9; subst hw; have hb := Below.refl w1.heap.size w1; replace BG := Aside0.mk (blk_below BG.out hb); replace Ca0 := Aside0.mk (Kd.C_below Ca0.out hb); replace Ca2 := Aside0.mk (Kd.C_below Ca2.out hb); replace BIa := Aside0.mk (blk_below BIa.out hb); replace HT := Aside0.mk (HT.out.next hb); replace Cb0 := Aside0.mk (Kd.C_below Cb0.out hb); replace Cb2 := Aside0.mk (Kd.C_below Cb2.out hb); replace BIb := Aside0.mk (blk_below BIb.out hb); replace Cv0 := Aside0.mk (Kd.C_below Cv0.out hb); replace Cv2 := Aside0.mk (Kd.C_below Cv2.out hb); replace BIv := Aside0.mk (blk_below BIv.out hb); replace HB := Aside0.mk (below_then HB.out HB.out.size hb); clear hb; (try clear hc_BIa hf_BIa); (try clear hc_BIb hf_BIb); (try clear hc_BIv hf_BIv); have hc_BIa := blk_cell BIa.out; have hf_BIa := blk_frozen BIa.out; have hc_BIb := blk_cell BIb.out; have hf_BIb := blk_frozen BIb.out; have hc_BIv := blk_cell BIv.out; have hf_BIv := blk_frozen BIv.out; have HS := Aside0.mk (BagS.start (K := [(_, (.cells #[.slice Aa0 x0.length ca0, .int .i64 x1, .slice Aa2 x2.length ca2] 25)), (_, (.cells #[.slice Ab0 x0.length cb0, .int .i64 x1, .slice Ab2 x2.length cb2] 25))]) HB.out HT.out (fun p hp => (box_two BIa.out BIb.out hp)) (fun x hx p hp => (todo_box HT.out BIa.out BIb.out rfl hx hp)) #[.slice none 0 0, .slice none 0 0, .slice none 0 0, .slice none 0 0, .slice none 0 0, .slice none 0 0, .slice none 0 0, .slice none 0 0, .slice none 0 0, .slice none 0 0, .slice none 0 0, .slice none 0 0, .slice none 0 0, .slice none 0 0, .slice none 0 0, .slice none 0 0, .slice none 0 0] rfl (fun j hj => (by (repeat (rcases j with _ | j; first | rfl)); omega))); clear HT Ca0 Ca2 Cb0 Cb2 Cv0 Cv2 BG BIv HB; (try clear hc_BIa hf_BIa hc_BIb hf_BIb hc_BIv hf_BIv); clear BIa BIb; have hc_BIa := blk_cell (HS.out.blk 0 rfl); have hf_BIa := blk_frozen (HS.out.blk 0 rfl); have hc_BIb := blk_cell (HS.out.blk 1 rfl); have hf_BIb := blk_frozen (HS.out.blk 1 rfl)) | (go_at_call 35; have _ := tka0; refine (bagS_AddImage (w0 := w) HS.out (by omega)).mono ?_; rintro e w1 ⟨rfl, hs⟩; clear tka0 HS; have HS := Aside0.mk hs; clear hs hc_BIa hf_BIa hc_BIb hf_BIb; have hc_BIa := blk_cell (HS.out.blk 0 rfl); have hf_BIa := blk_frozen (HS.out.blk 0 rfl); have hc_BIb := blk_cell (HS.out.blk 1 rfl); have hf_BIb := blk_frozen (HS.out.blk 1 rfl)) | (go_at_call 35; have _ := tka1; refine (bagS_AddImage (w0 := w) HS.out (by omega)).mono ?_; rintro e w1 ⟨rfl, hs⟩; clear tka1 HS; have HS := Aside0.mk hs; clear hs hc_BIa hf_BIa hc_BIb hf_BIb; have hc_BIa := blk_cell (HS.out.blk 0 rfl); have hf_BIa := blk_frozen (HS.out.blk 0 rfl); have hc_BIb := blk_cell (HS.out.blk 1 rfl); have hf_BIb := blk_frozen (HS.out.blk 1 rfl)) | (go_at_call 20; refine (bagS_Apart (w0 := w) HS.out).mono ?_; rintro e w1 ⟨rfl, hb, _⟩; have HB := Aside0.mk hb; clear hb HS hc_BIa hf_BIa hc_BIb hf_BIb) | (go_at_call 22; refine (pleatlaw07_lives.calls k _ _ HH.out).mono ?_; rintro e w1 ⟨rfl, hb⟩; replace HB := Aside0.mk (below_then HB.out HB.out.size hb); clear hb))
      go_ret
      exact ⟨rfl, HB.out⟩
    · rw [if_neg hg] at h6; cases h6
end

end Go.Proofs.YtfgdjpgdabjpmaaDoor.PImageReads
