-- The bag of lists: what is added, and that all lie apart. Own text.
import Derived.Test.YtfgdjpgdabjpmaaDoorBagN
import Derived.Test.YtfgdjpgdabjpmaaDoorBagSWords
import Derived.Test.YtfgdjpgdabjpmaaDoorBagSLongs
namespace Go.Proofs.YtfgdjpgdabjpmaaDoor.Bag
open Go.RowKit Go.Proofs.YtfgdjpgdabjpmaaDoorW.PrintWords Go.Proofs.YtfgdjpgdabjpmaaDoorW.PrintLast Go.Proofs.YtfgdjpgdabjpmaaDoorW.PrintMore
set_option linter.unusedVariables false
set_option linter.unusedSimpArgs false
theorem Own.via {ow ow' : Nat → Nat} {K : Nat} {e : TypeId} {sz : Nat} {w w' : World} {v : Value} {n : Nat} {xs : List Value} (h : Own ow K e sz w v n xs) (hb : ∀ b, v.ownBlock = some b → w'.heap[b]? = w.heap[b]? ∧ ow' b = ow b) : Own ow' K e sz w' v n xs := by
  obtain ⟨h1, h2⟩ := h
  refine ⟨⟨h1.1, ?_⟩, fun b hv => by rw [(hb b hv).2]; exact h2 b hv⟩
  rcases h1.2 with q | ⟨g, cap, cur, hv, hg, hh, r⟩
  · exact .inl q
  · exact .inr ⟨g, cap, cur, hv, hg, ((hb g (by rw [hv]; rfl)).1).trans hh, r⟩
theorem Stp.setCell {ow : Nat → Nat} {K : Nat} (w : World) (g i : Nat) (u : Value) (hg : ow g = K) : Stp ow ow K w (w.setCell ⟨g, i, none⟩ u) :=
  ⟨⟨some g, ⟨rfl, rfl, rfl, by simp, fun k _ hne => Below.heap_setCell w ⟨g, i, none⟩ u k (fun e => hne (by rw [e]))⟩, fun b hb _ => by injection hb with hb; rw [← hb]; exact hg⟩, fun _ _ => rfl⟩
/-- The type of the lists of a kind, and of their elements. -/
def bagT (j : Nat) : Nat := if j = 5 then 22 else if j = 4 then 23 else 0
def bagE (j : Nat) : Nat := if j = 5 then 26 else if j = 4 then 2 else 0
/-- A bag, its rows of lists and its lists, each with a block of its own; from the kind lo on. -/
structure BagW (ow : Nat → Nat) (gb : Nat) (L : Nat → List (Value × Nat)) (lo : Nat) (w : World) : Prop where
  blk : ∃ cells, w.heap[gb]? = some (.cells cells 59 (0, 0)) ∧ cells.size = 17 ∧ ∀ j, lo ≤ j → j < 17 → ∃ v, cells[j]? = some v ∧ (L j = [] → v = .slice none 0 0) ∧ Own ow (2 + j) (bagT j) 1 w v (L j).length ((L j).map Prod.fst)
  lab : ow gb = 1
  items : ∀ j, lo ≤ j → j < 17 → ∀ k (x : Value × Nat), (L j)[k]? = some x → x.2 ≤ 1000000 ∧ ∃ xs, Own ow (20 + 17 * k + j) (bagE j) 1 w x.1 x.2 xs
  few : ∀ j, (L j).length ≤ 300
def bagPut (L : Nat → List (Value × Nat)) (j : Nat) (x : Value × Nat) : Nat → List (Value × Nat) := fun i => if i = j then L j ++ [x] else L i
def owPut (ow : Nat → Nat) (v : Value) (K : Nat) : Nat → Nat := fun b => if v.ownBlock = some b then K else ow b
theorem BagW.add {ow ow1 : Nat → Nat} {gb : Nat} {L : Nat → List (Value × Nat)} {w w1 : World} (h : BagW ow gb L 0 w) {j : Nat} (hj : j < 17) {x : Value × Nat} {xs : List Value} (hx : w.ownsRow 0 (bagE j) 1 x.1 x.2 xs) (hn : x.2 ≤ 1000000) (hf : ∀ b, x.1.ownBlock = some b → ow b = 0) (hl : (L j).length < 300)
    (s : Stp ow ow1 (2 + j) w w1) {v' : Value} (hv : Own ow1 (2 + j) (bagT j) 1 w1 v' ((L j).length + 1) ((L j).map Prod.fst ++ [x.1])) :
    BagW (owPut ow1 x.1 (20 + 17 * (L j).length + j)) gb (bagPut L j x) 0 (w1.setCell ⟨gb, j, none⟩ v') := by
  obtain ⟨cells, hc1, hc2, hc3⟩ := h.blk
  obtain ⟨hb1, hb2⟩ := s.blk hc1 h.lab (by omega)
  have hx0 : ∀ b, x.1.ownBlock = some b → ow1 b = 0 := fun b hb => by rw [s.lab b (hx.lt b hb).2]; exact hf b hb
  have s2 : Stp ow1 ow1 1 w1 (w1.setCell ⟨gb, j, none⟩ v') := Stp.setCell w1 gb j v' hb2
  have lift : ∀ {K e sz n v ys}, Own ow1 K e sz w1 v n ys → K ≠ 1 → K ≠ 0 → Own (owPut ow1 x.1 (20 + 17 * (L j).length + j)) K e sz (w1.setCell ⟨gb, j, none⟩ v') v n ys := by
    intro K e sz n v ys ho h1 h0
    have ho2 := ho.far s2 h1
    refine ho2.via fun b hb => ⟨rfl, ?_⟩
    unfold owPut
    rw [if_neg]
    intro hh
    have := ho.2 b hb
    rw [hx0 b hh] at this
    exact h0 this.symm
  have far : ∀ {K e sz n v ys}, Own ow K e sz w v n ys → K ≠ 2 + j → K ≠ 1 → K ≠ 0 → Own (owPut ow1 x.1 (20 + 17 * (L j).length + j)) K e sz (w1.setCell ⟨gb, j, none⟩ v') v n ys := fun ho h1 h2 h0 => lift (ho.far s h1) h2 h0
  refine ⟨⟨cells.setIfInBounds j v', blk_put hb1 j v' rfl, by simpa using hc2, fun i _ hi => ?_⟩, ?_, fun i _ hi k y hy => ?_, fun i => ?_⟩
  · by_cases e : i = j
    · subst e
      refine ⟨v', by simp [Array.getElem?_setIfInBounds_self, hc2, hi], fun h => by simp [bagPut] at h, ?_⟩
      have := lift hv (by omega) (by omega)
      simpa [bagPut] using this
    · obtain ⟨v, q1, q2, q3⟩ := hc3 i (Nat.zero_le _) hi
      refine ⟨v, by rw [Array.getElem?_setIfInBounds_ne (fun hh => e hh.symm)]; exact q1, by simpa [bagPut, e] using q2, ?_⟩
      have := far q3 (by omega) (by omega) (by omega)
      simpa [bagPut, e] using this
  · unfold owPut
    rw [if_neg]
    · exact hb2
    · intro hh
      have := hx0 gb hh
      omega
  · by_cases e : i = j
    · subst e
      simp only [bagPut, if_true] at hy
      by_cases hk : k < (L i).length
      · rw [List.getElem?_append_left hk] at hy
        obtain ⟨q1, ys, q2⟩ := h.items i (Nat.zero_le _) hi k y hy
        exact ⟨q1, ys, far q2 (by omega) (by omega) (by omega)⟩
      · have hk2 : k = (L i).length := by
          have := (List.getElem?_eq_some_iff.1 hy).1
          simp at this; omega
        subst hk2
        rw [List.getElem?_append_right (Nat.le_refl _)] at hy
        simp at hy
        subst hy
        refine ⟨hn, xs, ?_⟩
        have h1 : Own ow 0 (bagE i) 1 w x.1 x.2 xs := ⟨hx, hf⟩
        have h2 := (h1.far s (by omega)).far s2 (by omega)
        exact ⟨h2.1, fun b hb => by simp [owPut, hb]⟩
    · simp only [bagPut, e, if_false] at hy
      obtain ⟨q1, ys, q2⟩ := h.items i (Nat.zero_le _) hi k y hy
      exact ⟨q1, ys, far q2 (by omega) (by omega) (by omega)⟩
  · unfold bagPut
    split
    · simp; omega
    · exact h.few i
/-- Blocks that the bag does not own stand. -/
def BagKeep (ow : Nat → Nat) (w w' : World) : Prop := Keep (fun b => ow b = 0) w w'
theorem BagW.nil (w : World) (ow : Nat → Nat) (cells : Array Value) (hc : cells.size = 17) (hcs : ∀ j, j < 17 → cells[j]? = some (.slice none 0 0)) (gb : Nat) (hg : w.heap[gb]? = some (.cells cells 59 (0, 0))) : BagW (fun b => if b = gb then 1 else 0) gb (fun _ => []) 0 w :=
  ⟨⟨cells, hg, hc, fun j _ hj => ⟨_, hcs j hj, fun _ => rfl, World.ownsRow_nil _ _ _ _, fun b hb => by simp [Value.ownBlock] at hb⟩⟩, by simp, fun j _ _ k x hx => by simp at hx, fun j => by simp⟩
theorem keep_add {ow ow1 : Nat → Nat} {gb j i : Nat} {w w1 : World} {u : Value} (s : Stp ow ow1 (2 + j) w w1) (hg : ow gb = 1) : BagKeep ow w (w1.setCell ⟨gb, i, none⟩ u) := by
  obtain ⟨r, hr, hl⟩ := s.row
  refine Keep.set (Keep.grown (Keep.refl _ _) hr fun b hb h0 hh => ?_) gb i u fun b _ h0 hh => ?_
  · have := hl b hh.symm hb; omega
  · rw [hh] at h0; omega
theorem lab_add {ow ow1 : Nat → Nat} {K L : Nat} {w w1 : World} {v : Value} (s : Stp ow ow1 L w w1) : ∀ b, b < w.heap.size → v.ownBlock ≠ some b → owPut ow1 v K b = ow b := fun b hb hv => by
  unfold owPut
  rw [if_neg hv]; exact s.lab b hb
set_option maxHeartbeats 4000000 in
set_option maxRecDepth 100000 in
theorem bag_AddWords (ow : Nat → Nat) (gb : Nat) (L : Nat → List (Value × Nat)) (A : Option Addr) (n c : Nat) (w : World) (h : BagW ow gb L 0 w) (hx : ∃ xs, w.ownsRow 0 26 1 (.slice A n c) n xs) (hn : n ≤ 1000000) (hf : ∀ b, (Value.slice A n c).ownBlock = some b → ow b = 0) (hl : (L 5).length < 300) :
    Calls Tryd.prog 79 #[.pointer (some ⟨gb, 0, none⟩), .slice A n c] w fun e w' => e = .returned (.tuple #[]) ∧ ∃ ow', BagW ow' gb (bagPut L 5 (.slice A n c, n)) 0 w' ∧ BagKeep ow w w' ∧ ∀ b, b < w.heap.size → (Value.slice A n c).ownBlock ≠ some b → ow' b = ow b := by
  have hu := Tryd.underlying59
  obtain ⟨xs, hx⟩ := hx
  obtain ⟨cells, hc1, hc2, hc3⟩ := h.blk
  obtain ⟨v, hv1, _, hv3⟩ := hc3 5 (by omega) (by omega)
  obtain ⟨Ar, cr, rfl, hcr⟩ := own_form hv3.1
  obtain ⟨m, hm⟩ : ∃ m : Nat, m = (L 5).length := ⟨_, rfl⟩
  have hcg := (blk_cell hc1 5).trans hv1
  have hfg := blk_frozen hc1 5
  rw [← hm] at hl hv3 hcg hcr
  have hl1 : decide ((m : Int) < 300) = true := decide_eq_true (by omega)
  have hby : (m + 1) * 24 ≤ 140737488355328 := by omega
  have HV := Aside0.mk hv3; have HH := Aside0.mk h; have HX := Aside0.mk hx; have HF := Lib.hid hf; have HM := Lib.hid hm; have HC1 := Aside0.mk hc1
  clear hv3 h hx hf hm hc3 hc1
  go_enter Tryd.func79, Tryd.ntmps79
  go_wp2_with (at_builtin; refine keep_many rfl _ _ 46 22 (.slice none 0 0) 1 24 rfl Tryd.underlying46 infoB22 rfl (by decide) (.slice Ar m cr) m _ [.slice A n c] rfl (by simp [Value.oneCell']) rfl rfl ow (2 + 5) HV.out (by decide) hby ?_; intro ow1 g1 cap1 w1 hs1 ho1 hr1; obtain ⟨hq, _⟩ := hs1.blk HC1.out HH.out.lab (by omega); have hcg1 := (blk_cell hq 5).trans hv1; have hfg1 := blk_frozen hq 5; clear hr1 hcg hfg; have HS := Aside0.mk hs1; have HO := Aside0.mk ho1; clear hs1 ho1 hq)
  go_end0
  have hm := HM.out; subst hm
  exact ⟨rfl, _, HH.out.add (j := 5) (x := (.slice A n c, n)) (by omega) HX.out hn HF.out hl HS.out HO.out, keep_add HS.out HH.out.lab, lab_add HS.out⟩
set_option maxHeartbeats 4000000 in
set_option maxRecDepth 100000 in
theorem bag_AddLongs (ow : Nat → Nat) (gb : Nat) (L : Nat → List (Value × Nat)) (A : Option Addr) (n c : Nat) (w : World) (h : BagW ow gb L 0 w) (hx : ∃ xs, w.ownsRow 0 2 1 (.slice A n c) n xs) (hn : n ≤ 1000000) (hf : ∀ b, (Value.slice A n c).ownBlock = some b → ow b = 0) (hl : (L 4).length < 300) :
    Calls Tryd.prog 80 #[.pointer (some ⟨gb, 0, none⟩), .slice A n c] w fun e w' => e = .returned (.tuple #[]) ∧ ∃ ow', BagW ow' gb (bagPut L 4 (.slice A n c, n)) 0 w' ∧ BagKeep ow w w' ∧ ∀ b, b < w.heap.size → (Value.slice A n c).ownBlock ≠ some b → ow' b = ow b := by
  have hu := Tryd.underlying59
  obtain ⟨xs, hx⟩ := hx
  obtain ⟨cells, hc1, hc2, hc3⟩ := h.blk
  obtain ⟨v, hv1, _, hv3⟩ := hc3 4 (by omega) (by omega)
  obtain ⟨Ar, cr, rfl, hcr⟩ := own_form hv3.1
  obtain ⟨m, hm⟩ : ∃ m : Nat, m = (L 4).length := ⟨_, rfl⟩
  have hcg := (blk_cell hc1 4).trans hv1
  have hfg := blk_frozen hc1 4
  rw [← hm] at hl hv3 hcg hcr
  have hl1 : decide ((m : Int) < 300) = true := decide_eq_true (by omega)
  have hby : (m + 1) * 24 ≤ 140737488355328 := by omega
  have HV := Aside0.mk hv3; have HH := Aside0.mk h; have HX := Aside0.mk hx; have HF := Lib.hid hf; have HM := Lib.hid hm; have HC1 := Aside0.mk hc1
  clear hv3 h hx hf hm hc3 hc1
  go_enter Tryd.func80, Tryd.ntmps80
  go_wp2_with (at_builtin; refine keep_many rfl _ _ 45 23 (.slice none 0 0) 1 24 rfl Tryd.underlying45 infoB23 rfl (by decide) (.slice Ar m cr) m _ [.slice A n c] rfl (by simp [Value.oneCell']) rfl rfl ow (2 + 4) HV.out (by decide) hby ?_; intro ow1 g1 cap1 w1 hs1 ho1 hr1; obtain ⟨hq, _⟩ := hs1.blk HC1.out HH.out.lab (by omega); have hcg1 := (blk_cell hq 4).trans hv1; have hfg1 := blk_frozen hq 4; clear hr1 hcg hfg; have HS := Aside0.mk hs1; have HO := Aside0.mk ho1; clear hs1 ho1 hq)
  go_end0
  have hm := HM.out; subst hm
  exact ⟨rfl, _, HH.out.add (j := 4) (x := (.slice A n c, n)) (by omega) HX.out hn HF.out hl HS.out HO.out, keep_add HS.out HH.out.lab, lab_add HS.out⟩
/-- A block that is none of a bag's lists. -/
def bagFree (L : Nat → List (Value × Nat)) (b : Nat) : Prop := ∀ j, j < 17 → ∀ x ∈ L j, x.1.ownBlock ≠ some b
/-- The bag while it is looked at: from the kind lo on as it was; blocks of w0 that are none of its lists stand. -/
def BagF (w0 : World) (ow : Nat → Nat) (gb : Nat) (L : Nat → List (Value × Nat)) (lo : Nat) (w : World) : Prop :=
  BagW ow gb L lo w ∧ Keep (bagFree L) w0 w
theorem BagF.start {ow : Nat → Nat} {gb : Nat} {L : Nat → List (Value × Nat)} {w : World} (h : BagW ow gb L 0 w) : BagF w ow gb L 0 w := ⟨h, Keep.refl _ _⟩
theorem BagW.up {ow : Nat → Nat} {gb : Nat} {L : Nat → List (Value × Nat)} {lo : Nat} {w : World} (h : BagW ow gb L lo w) : BagW ow gb L (lo + 1) w := by
  obtain ⟨⟨cells, h1, h2, h3⟩, h4, h5, h6⟩ := h
  exact ⟨⟨cells, h1, h2, fun j hj => h3 j (by omega)⟩, h4, fun j hj => h5 j (by omega), h6⟩
theorem BagF.up {w0 : World} {ow : Nat → Nat} {gb : Nat} {L : Nat → List (Value × Nat)} {lo : Nat} {w : World} (h : BagF w0 ow gb L lo w) : BagF w0 ow gb L (lo + 1) w := ⟨h.1.up, h.2⟩
theorem BagF.none_ {w0 : World} {ow : Nat → Nat} {gb : Nat} {L : Nat → List (Value × Nat)} {lo : Nat} {w : World} (h : BagF w0 ow gb L lo w) (hlo : lo < 17) (hz : L lo = []) : w.cell? ⟨gb, lo, none⟩ = some (.slice none 0 0) := by
  obtain ⟨cells, h1, h2, h3⟩ := h.1.blk
  obtain ⟨v, q1, q2, _⟩ := h3 lo (Nat.le_refl _) hlo
  rw [q2 hz] at q1
  exact (blk_cell h1 lo).trans q1
/-- The lists of one kind of a bag. -/
theorem BagF.some_ {w0 : World} {ow : Nat → Nat} {gb : Nat} {L : Nat → List (Value × Nat)} {lo : Nat} {w : World} (h : BagF w0 ow gb L lo w) (hlo : lo < 17) (hz : L lo ≠ []) :
    ∃ rg m rc vs ns cs, BagAt (bagE lo) gb lo rg m rc vs ns cs w ∧ (∀ j k, j < m → k < m → j ≠ k → ∀ b, (vs k).ownBlock = some b → (vs j).ownBlock ≠ some b) ∧ gb ≠ rg ∧ (∀ k, k < m → (vs k).ownBlock ≠ some gb) ∧ (∀ k, k < m → (vs k).ownBlock ≠ some rg) ∧ m ≤ 300 ∧ (∀ k, k < m → ns k ≤ 1000000) ∧
      ∀ w', FrmV vs m w w' → BagF w0 ow gb L (lo + 1) w' := by
  obtain ⟨⟨⟨cells, h1, h2, h3⟩, hl, hi, hf⟩, hs⟩ := h
  obtain ⟨v, q1, _, q3⟩ := h3 lo (Nat.le_refl _) hlo
  have hpos : 0 < (L lo).length := List.length_pos_iff.2 hz
  rcases q3.1.2 with ⟨_, q⟩ | ⟨rg, rc, cur, hv, _, hrg, hnc, _, hcs, htake⟩
  · omega
  have hrl : ow rg = 2 + lo := q3.2 rg (by rw [hv]; rfl)
  have hget : ∀ k, k < (L lo).length → (L lo)[k]? = some ((L lo)[k]?.getD (.slice none 0 0, 0)) := fun k hk => by rw [List.getElem?_eq_getElem hk]; rfl
  obtain ⟨cs, hcs⟩ := Classical.axiomOfChoice (r := fun (k : Nat) (xs : List Value) => k < (L lo).length → Own ow (20 + 17 * k + lo) (bagE lo) 1 w ((L lo)[k]?.getD (.slice none 0 0, 0)).1 ((L lo)[k]?.getD (.slice none 0 0, 0)).2 xs)
    (fun k => by
      by_cases hk : k < (L lo).length
      · obtain ⟨_, xs, hxs⟩ := hi lo (Nat.le_refl _) hlo k _ (hget k hk)
        exact ⟨xs, fun _ => hxs⟩
      · exact ⟨[], fun hh => absurd hh hk⟩)
  have hlab : ∀ k, k < (L lo).length → ∀ b, (((L lo)[k]?.getD (.slice none 0 0, 0)).1).ownBlock = some b → ow b = 20 + 17 * k + lo := fun k hk b hb => (hcs k hk).2 b hb
  refine ⟨rg, (L lo).length, rc, fun k => ((L lo)[k]?.getD (.slice none 0 0, 0)).1, fun k => ((L lo)[k]?.getD (.slice none 0 0, 0)).2, cs, ⟨⟨cells, _, h1, by rw [q1, hv]⟩, ⟨cur, _, hrg, fun k hk => ?_⟩, fun k hk => (hcs k hk).1⟩, fun j k hj hk hjk b hb hb2 => ?_, fun hh => ?_, fun k hk hh => ?_, fun k hk hh => ?_, hf lo, fun k hk => (hi lo (Nat.le_refl _) hlo k _ (hget k hk)).1, fun w' hw => ?_⟩
  · have e1 : (cur.toList.take ((L lo).length * 1))[k]? = ((L lo).map Prod.fst)[k]? := by rw [htake]
    rw [List.getElem?_take, if_pos (by omega), List.getElem?_map, hget k hk] at e1
    simpa using e1
  · have := hlab j hj b hb2; have := hlab k hk b hb; omega
  · rw [hh] at hl; omega
  · have := hlab k hk gb hh; omega
  · have := hlab k hk rg hh; omega
  · have hlt : ∀ {K e sz n ys} {u : Value}, Own ow K e sz w u n ys → (∀ k, k < (L lo).length → K ≠ 20 + 17 * k + lo) → Own ow K e sz w' u n ys := by
      intro K e sz n ys u ho hne
      refine ho.via fun b hb => ⟨hw.block b (ho.1.lt b hb).2 fun k hk hh => ?_, rfl⟩
      exact hne k hk ((ho.2 b hb).symm.trans (hlab k hk b hh))
    have hgl := (Array.getElem?_eq_some_iff.1 h1).1
    refine ⟨⟨⟨cells, (hw.block gb hgl fun k hk hh => by have := hlab k hk gb hh; omega).trans h1, h2, fun j hj hj2 => ?_⟩, hl, fun j hj hj2 k x hx => ?_, hf⟩, hs.trans hw fun b hb hne k hk hh => hne lo hlo _ (List.mem_of_getElem? (hget k hk)) hh⟩
    · obtain ⟨u, r1, r2, r3⟩ := h3 j (by omega) hj2
      exact ⟨u, r1, r2, hlt r3 fun k hk => by omega⟩
    · obtain ⟨r1, xs, r2⟩ := hi j (by omega) hj2 k x hx
      exact ⟨r1, xs, hlt r2 fun k hk => by omega⟩
theorem bag_apartBytes {w0 : World} {ow : Nat → Nat} {gb : Nat} {L : Nat → List (Value × Nat)} {w : World} (h : BagF w0 ow gb L 0 w) (hz : L 0 = []) : Calls Tryd.prog 47 #[.pointer (some ⟨gb, 0, none⟩)] w fun e w' => e = .returned (.bool true) ∧ BagF w0 ow gb L 1 w' := by
  refine (bagNone_apartBytes gb w (h.none_ (by omega) hz)).mono ?_
  rintro e w' ⟨rfl, rfl⟩
  exact ⟨rfl, h.up⟩
theorem bag_apartInts {w0 : World} {ow : Nat → Nat} {gb : Nat} {L : Nat → List (Value × Nat)} {w : World} (h : BagF w0 ow gb L 1 w) (hz : L 1 = []) : Calls Tryd.prog 48 #[.pointer (some ⟨gb, 0, none⟩)] w fun e w' => e = .returned (.bool true) ∧ BagF w0 ow gb L 2 w' := by
  refine (bagNone_apartInts gb w (h.none_ (by omega) hz)).mono ?_
  rintro e w' ⟨rfl, rfl⟩
  exact ⟨rfl, h.up⟩
theorem bag_apartBools {w0 : World} {ow : Nat → Nat} {gb : Nat} {L : Nat → List (Value × Nat)} {w : World} (h : BagF w0 ow gb L 2 w) (hz : L 2 = []) : Calls Tryd.prog 49 #[.pointer (some ⟨gb, 0, none⟩)] w fun e w' => e = .returned (.bool true) ∧ BagF w0 ow gb L 3 w' := by
  refine (bagNone_apartBools gb w (h.none_ (by omega) hz)).mono ?_
  rintro e w' ⟨rfl, rfl⟩
  exact ⟨rfl, h.up⟩
theorem bag_apartTexts {w0 : World} {ow : Nat → Nat} {gb : Nat} {L : Nat → List (Value × Nat)} {w : World} (h : BagF w0 ow gb L 3 w) (hz : L 3 = []) : Calls Tryd.prog 50 #[.pointer (some ⟨gb, 0, none⟩)] w fun e w' => e = .returned (.bool true) ∧ BagF w0 ow gb L 4 w' := by
  refine (bagNone_apartTexts gb w (h.none_ (by omega) hz)).mono ?_
  rintro e w' ⟨rfl, rfl⟩
  exact ⟨rfl, h.up⟩
theorem bag_apartLongs {w0 : World} {ow : Nat → Nat} {gb : Nat} {L : Nat → List (Value × Nat)} {w : World} (h : BagF w0 ow gb L 4 w) : Calls Tryd.prog 51 #[.pointer (some ⟨gb, 0, none⟩)] w fun e w' => e = .returned (.bool true) ∧ BagF w0 ow gb L 5 w' := by
  by_cases hz : L 4 = []
  · refine (bagNone_apartLongs gb w (h.none_ (by omega) hz)).mono ?_
    rintro e w' ⟨rfl, rfl⟩
    exact ⟨rfl, h.up⟩
  · obtain ⟨rg, m, rc, vs, ns, cs, h1, h2, h3, h4, h5, h6, h7, h8⟩ := h.some_ (by omega) hz
    refine (bagSome_apartLongs gb rg m rc vs ns cs w h1 h2 h3 h4 h5 h6 h7).mono ?_
    rintro e w' ⟨rfl, hw⟩
    exact ⟨rfl, h8 w' hw⟩
theorem bag_apartWords {w0 : World} {ow : Nat → Nat} {gb : Nat} {L : Nat → List (Value × Nat)} {w : World} (h : BagF w0 ow gb L 5 w) : Calls Tryd.prog 52 #[.pointer (some ⟨gb, 0, none⟩)] w fun e w' => e = .returned (.bool true) ∧ BagF w0 ow gb L 6 w' := by
  by_cases hz : L 5 = []
  · refine (bagNone_apartWords gb w (h.none_ (by omega) hz)).mono ?_
    rintro e w' ⟨rfl, rfl⟩
    exact ⟨rfl, h.up⟩
  · obtain ⟨rg, m, rc, vs, ns, cs, h1, h2, h3, h4, h5, h6, h7, h8⟩ := h.some_ (by omega) hz
    refine (bagSome_apartWords gb rg m rc vs ns cs w h1 h2 h3 h4 h5 h6 h7).mono ?_
    rintro e w' ⟨rfl, hw⟩
    exact ⟨rfl, h8 w' hw⟩
theorem bag_apartRow {w0 : World} {ow : Nat → Nat} {gb : Nat} {L : Nat → List (Value × Nat)} {w : World} (h : BagF w0 ow gb L 6 w) (hz : L 6 = []) : Calls Tryd.prog 53 #[.pointer (some ⟨gb, 0, none⟩)] w fun e w' => e = .returned (.bool true) ∧ BagF w0 ow gb L 7 w' := by
  refine (bagNone_apartRow gb w (h.none_ (by omega) hz)).mono ?_
  rintro e w' ⟨rfl, rfl⟩
  exact ⟨rfl, h.up⟩
theorem bag_apartIns {w0 : World} {ow : Nat → Nat} {gb : Nat} {L : Nat → List (Value × Nat)} {w : World} (h : BagF w0 ow gb L 7 w) (hz : L 7 = []) : Calls Tryd.prog 54 #[.pointer (some ⟨gb, 0, none⟩)] w fun e w' => e = .returned (.bool true) ∧ BagF w0 ow gb L 8 w' := by
  refine (bagNone_apartIns gb w (h.none_ (by omega) hz)).mono ?_
  rintro e w' ⟨rfl, rfl⟩
  exact ⟨rfl, h.up⟩
theorem bag_apartSymbols {w0 : World} {ow : Nat → Nat} {gb : Nat} {L : Nat → List (Value × Nat)} {w : World} (h : BagF w0 ow gb L 8 w) (hz : L 8 = []) : Calls Tryd.prog 55 #[.pointer (some ⟨gb, 0, none⟩)] w fun e w' => e = .returned (.bool true) ∧ BagF w0 ow gb L 9 w' := by
  refine (bagNone_apartSymbols gb w (h.none_ (by omega) hz)).mono ?_
  rintro e w' ⟨rfl, rfl⟩
  exact ⟨rfl, h.up⟩
theorem bag_apartRelocs {w0 : World} {ow : Nat → Nat} {gb : Nat} {L : Nat → List (Value × Nat)} {w : World} (h : BagF w0 ow gb L 9 w) (hz : L 9 = []) : Calls Tryd.prog 56 #[.pointer (some ⟨gb, 0, none⟩)] w fun e w' => e = .returned (.bool true) ∧ BagF w0 ow gb L 10 w' := by
  refine (bagNone_apartRelocs gb w (h.none_ (by omega) hz)).mono ?_
  rintro e w' ⟨rfl, rfl⟩
  exact ⟨rfl, h.up⟩
theorem bag_apartPorts {w0 : World} {ow : Nat → Nat} {gb : Nat} {L : Nat → List (Value × Nat)} {w : World} (h : BagF w0 ow gb L 10 w) (hz : L 10 = []) : Calls Tryd.prog 57 #[.pointer (some ⟨gb, 0, none⟩)] w fun e w' => e = .returned (.bool true) ∧ BagF w0 ow gb L 11 w' := by
  refine (bagNone_apartPorts gb w (h.none_ (by omega) hz)).mono ?_
  rintro e w' ⟨rfl, rfl⟩
  exact ⟨rfl, h.up⟩
theorem bag_apartBlocks {w0 : World} {ow : Nat → Nat} {gb : Nat} {L : Nat → List (Value × Nat)} {w : World} (h : BagF w0 ow gb L 11 w) (hz : L 11 = []) : Calls Tryd.prog 58 #[.pointer (some ⟨gb, 0, none⟩)] w fun e w' => e = .returned (.bool true) ∧ BagF w0 ow gb L 12 w' := by
  refine (bagNone_apartBlocks gb w (h.none_ (by omega) hz)).mono ?_
  rintro e w' ⟨rfl, rfl⟩
  exact ⟨rfl, h.up⟩
theorem bag_apartSpots {w0 : World} {ow : Nat → Nat} {gb : Nat} {L : Nat → List (Value × Nat)} {w : World} (h : BagF w0 ow gb L 12 w) (hz : L 12 = []) : Calls Tryd.prog 59 #[.pointer (some ⟨gb, 0, none⟩)] w fun e w' => e = .returned (.bool true) ∧ BagF w0 ow gb L 13 w' := by
  refine (bagNone_apartSpots gb w (h.none_ (by omega) hz)).mono ?_
  rintro e w' ⟨rfl, rfl⟩
  exact ⟨rfl, h.up⟩
theorem bag_apartRows {w0 : World} {ow : Nat → Nat} {gb : Nat} {L : Nat → List (Value × Nat)} {w : World} (h : BagF w0 ow gb L 13 w) (hz : L 13 = []) : Calls Tryd.prog 60 #[.pointer (some ⟨gb, 0, none⟩)] w fun e w' => e = .returned (.bool true) ∧ BagF w0 ow gb L 14 w' := by
  refine (bagNone_apartRows gb w (h.none_ (by omega) hz)).mono ?_
  rintro e w' ⟨rfl, rfl⟩
  exact ⟨rfl, h.up⟩
theorem bag_apartRepeats {w0 : World} {ow : Nat → Nat} {gb : Nat} {L : Nat → List (Value × Nat)} {w : World} (h : BagF w0 ow gb L 14 w) (hz : L 14 = []) : Calls Tryd.prog 61 #[.pointer (some ⟨gb, 0, none⟩)] w fun e w' => e = .returned (.bool true) ∧ BagF w0 ow gb L 15 w' := by
  refine (bagNone_apartRepeats gb w (h.none_ (by omega) hz)).mono ?_
  rintro e w' ⟨rfl, rfl⟩
  exact ⟨rfl, h.up⟩
theorem bag_apartFolds {w0 : World} {ow : Nat → Nat} {gb : Nat} {L : Nat → List (Value × Nat)} {w : World} (h : BagF w0 ow gb L 15 w) (hz : L 15 = []) : Calls Tryd.prog 62 #[.pointer (some ⟨gb, 0, none⟩)] w fun e w' => e = .returned (.bool true) ∧ BagF w0 ow gb L 16 w' := by
  refine (bagNone_apartFolds gb w (h.none_ (by omega) hz)).mono ?_
  rintro e w' ⟨rfl, rfl⟩
  exact ⟨rfl, h.up⟩
theorem bag_apartObjects {w0 : World} {ow : Nat → Nat} {gb : Nat} {L : Nat → List (Value × Nat)} {w : World} (h : BagF w0 ow gb L 16 w) (hz : L 16 = []) : Calls Tryd.prog 63 #[.pointer (some ⟨gb, 0, none⟩)] w fun e w' => e = .returned (.bool true) ∧ BagF w0 ow gb L 17 w' := by
  refine (bagNone_apartObjects gb w (h.none_ (by omega) hz)).mono ?_
  rintro e w' ⟨rfl, rfl⟩
  exact ⟨rfl, h.up⟩
/-- The kinds whose lists may be in a bag that is looked at. -/
def bagKinds (j : Nat) : Bool := j == 5 || j == 4
set_option maxHeartbeats 4000000 in
set_option maxRecDepth 100000 in
theorem bag_Apart (ow : Nat → Nat) (gb : Nat) (L : Nat → List (Value × Nat)) (w : World) (h : BagW ow gb L 0 w) (hz0 : ∀ j, bagKinds j = false → L j = []) :
    Calls Tryd.prog 20 #[.pointer (some ⟨gb, 0, none⟩)] w fun e w' => e = .returned (.bool true) ∧ Keep (bagFree L) w w' := by
  have hz := Aside0.mk hz0
  have HB := Aside0.mk (BagF.start h)
  clear h hz0
  go_enter Tryd.func20, Tryd.ntmps20
  go_wp2_with (first | (go_at_call 47; refine (bag_apartBytes HB.out (hz.out 0 (by decide))).mono ?_; rintro e w' ⟨rfl, hB⟩; clear HB; have HB := Aside0.mk hB; clear hB) | (go_at_call 48; refine (bag_apartInts HB.out (hz.out 1 (by decide))).mono ?_; rintro e w' ⟨rfl, hB⟩; clear HB; have HB := Aside0.mk hB; clear hB) | (go_at_call 49; refine (bag_apartBools HB.out (hz.out 2 (by decide))).mono ?_; rintro e w' ⟨rfl, hB⟩; clear HB; have HB := Aside0.mk hB; clear hB) | (go_at_call 50; refine (bag_apartTexts HB.out (hz.out 3 (by decide))).mono ?_; rintro e w' ⟨rfl, hB⟩; clear HB; have HB := Aside0.mk hB; clear hB) | (go_at_call 51; refine (bag_apartLongs HB.out).mono ?_; rintro e w' ⟨rfl, hB⟩; clear HB; have HB := Aside0.mk hB; clear hB) | (go_at_call 52; refine (bag_apartWords HB.out).mono ?_; rintro e w' ⟨rfl, hB⟩; clear HB; have HB := Aside0.mk hB; clear hB) | (go_at_call 53; refine (bag_apartRow HB.out (hz.out 6 (by decide))).mono ?_; rintro e w' ⟨rfl, hB⟩; clear HB; have HB := Aside0.mk hB; clear hB) | (go_at_call 54; refine (bag_apartIns HB.out (hz.out 7 (by decide))).mono ?_; rintro e w' ⟨rfl, hB⟩; clear HB; have HB := Aside0.mk hB; clear hB) | (go_at_call 55; refine (bag_apartSymbols HB.out (hz.out 8 (by decide))).mono ?_; rintro e w' ⟨rfl, hB⟩; clear HB; have HB := Aside0.mk hB; clear hB) | (go_at_call 56; refine (bag_apartRelocs HB.out (hz.out 9 (by decide))).mono ?_; rintro e w' ⟨rfl, hB⟩; clear HB; have HB := Aside0.mk hB; clear hB) | (go_at_call 57; refine (bag_apartPorts HB.out (hz.out 10 (by decide))).mono ?_; rintro e w' ⟨rfl, hB⟩; clear HB; have HB := Aside0.mk hB; clear hB) | (go_at_call 58; refine (bag_apartBlocks HB.out (hz.out 11 (by decide))).mono ?_; rintro e w' ⟨rfl, hB⟩; clear HB; have HB := Aside0.mk hB; clear hB) | (go_at_call 59; refine (bag_apartSpots HB.out (hz.out 12 (by decide))).mono ?_; rintro e w' ⟨rfl, hB⟩; clear HB; have HB := Aside0.mk hB; clear hB) | (go_at_call 60; refine (bag_apartRows HB.out (hz.out 13 (by decide))).mono ?_; rintro e w' ⟨rfl, hB⟩; clear HB; have HB := Aside0.mk hB; clear hB) | (go_at_call 61; refine (bag_apartRepeats HB.out (hz.out 14 (by decide))).mono ?_; rintro e w' ⟨rfl, hB⟩; clear HB; have HB := Aside0.mk hB; clear hB) | (go_at_call 62; refine (bag_apartFolds HB.out (hz.out 15 (by decide))).mono ?_; rintro e w' ⟨rfl, hB⟩; clear HB; have HB := Aside0.mk hB; clear hB) | (go_at_call 63; refine (bag_apartObjects HB.out (hz.out 16 (by decide))).mono ?_; rintro e w' ⟨rfl, hB⟩; clear HB; have HB := Aside0.mk hB; clear hB))
  go_ret
  exact ⟨rfl, HB.out.2⟩
/-- Lists that a call has made, each with a block of its own. -/
structure Todo (w0 w : World) (T : List (Nat × Value × Nat)) : Prop where
  each : ∀ x ∈ T, x.2.2 ≤ 1000000 ∧ (∃ ys, w.ownsRow 0 (bagE x.1) 1 x.2.1 x.2.2 ys) ∧ ∀ b, x.2.1.ownBlock = some b → w0.heap.size ≤ b
  apart : T.Pairwise fun x y => ∀ b, x.2.1.ownBlock = some b → y.2.1.ownBlock ≠ some b
theorem Todo.nil (w0 w : World) : Todo w0 w [] := ⟨fun x hx => (by cases hx), List.Pairwise.nil⟩
theorem Todo.lt {w0 w : World} {T : List (Nat × Value × Nat)} (h : Todo w0 w T) {x : Nat × Value × Nat} (hx : x ∈ T) {b : Nat} (hb : x.2.1.ownBlock = some b) : b < w.heap.size := by
  obtain ⟨_, ⟨ys, hy⟩, _⟩ := h.each x hx
  exact (hy.lt b hb).2
theorem Todo.keep {w0 w w1 : World} {T : List (Nat × Value × Nat)} (h : Todo w0 w T) (hk : ∀ x ∈ T, ∀ b, x.2.1.ownBlock = some b → w1.heap[b]? = w.heap[b]?) : Todo w0 w1 T :=
  ⟨fun x hx => by
    obtain ⟨h1, ⟨ys, hy⟩, h3⟩ := h.each x hx
    exact ⟨h1, ⟨ys, own_move hy (hk x hx)⟩, h3⟩, h.apart⟩
theorem Todo.next {w0 w w1 : World} {T : List (Nat × Value × Nat)} (h : Todo w0 w T) (hb : Below w.heap.size w w1) : Todo w0 w1 T := h.keep fun _ hx b hv => hb.block b (h.lt hx hv)
theorem Todo.snoc {w0 W w1 : World} {T : List (Nat × Value × Nat)} (h : Todo w0 W T) (hw : w0.heap.size ≤ W.heap.size) (hb : Below W.heap.size W w1) {j n : Nat} {v : Value} (hn : n ≤ 1000000) {ys : List Value} (ho : w1.ownsRow W.heap.size (bagE j) 1 v n ys) : Todo w0 w1 (T ++ [(j, v, n)]) := by
  refine ⟨fun x hx => ?_, ?_⟩
  · rcases List.mem_append.1 hx with hx | hx
    · exact (h.next hb).each x hx
    · obtain rfl := List.mem_singleton.1 hx
      exact ⟨hn, ⟨ys, own_weaken ho (Nat.zero_le _)⟩, fun b hv => Nat.le_trans hw (ho.lt b hv).1⟩
  · rw [List.pairwise_append]
    refine ⟨h.apart, List.pairwise_singleton _ _, fun x hx y hy b hv hv2 => ?_⟩
    obtain rfl := List.mem_singleton.1 hy
    have := h.lt hx hv
    have := (ho.lt b hv2).1
    omega
/-- A bag in the making: what is still to be added, and blocks that are to stand. -/
def BagS (w0 : World) (gb c : Nat) (T : List (Nat × Value × Nat)) (K : List (Nat × Obj)) (w : World) : Prop :=
  ∃ ow L, BagW ow gb L 0 w ∧ Below w0.heap.size w0 w ∧ (∀ b, b < w0.heap.size → ow b = 0) ∧ (∀ j x, x ∈ L j → ∀ b, x.1.ownBlock = some b → w0.heap.size ≤ b) ∧ (∀ j, (L j).length ≤ c) ∧ (∀ j, bagKinds j = false → L j = []) ∧
    Todo w0 w T ∧ (∀ x ∈ T, ∀ b, x.2.1.ownBlock = some b → ow b = 0) ∧ (∀ p ∈ K, w.heap[p.1]? = some p.2 ∧ ow p.1 = 0) ∧ ∀ x ∈ T, ∀ p ∈ K, x.2.1.ownBlock ≠ some p.1
theorem BagS.start {w0 w : World} {T : List (Nat × Value × Nat)} {K : List (Nat × Obj)} (hb : Below w0.heap.size w0 w) (hT : Todo w0 w T) (hK : ∀ p ∈ K, w.heap[p.1]? = some p.2) (hTK : ∀ x ∈ T, ∀ p ∈ K, x.2.1.ownBlock ≠ some p.1) (cells : Array Value) (hc : cells.size = 17) (hcs : ∀ j, j < 17 → cells[j]? = some (.slice none 0 0)) :
    BagS w0 w.heap.size 0 T K (w.alloc (.cells cells 59)) := by
  have hal : Below w.heap.size w (w.alloc (.cells cells 59)) := below_alloc (Below.refl _ _) _
  refine ⟨_, _, BagW.nil _ (fun _ => 0) cells hc hcs w.heap.size (blk_new w _), below_alloc hb _, fun b hb2 => ?_, fun j x hx => (by cases hx), fun j => Nat.zero_le _, fun j _ => rfl, hT.next hal, fun x hx b hv => ?_, fun p hp => ⟨blk_alloc (hK p hp) _, ?_⟩, hTK⟩
  · have := hb.size
    exact if_neg (by omega)
  · have := hT.lt hx hv
    exact if_neg (by omega)
  · have := blk_lt (hK p hp)
    exact if_neg (by omega)
theorem BagS.add {w0 w w1 : World} {gb c j : Nat} {v : Value} {n : Nat} {T : List (Nat × Value × Nat)} {K : List (Nat × Obj)} {ow ow' : Nat → Nat} {L : Nat → List (Value × Nat)} (hj : bagKinds j = true)
    (h2 : Below w0.heap.size w0 w) (h3 : ∀ b, b < w0.heap.size → ow b = 0) (h4 : ∀ j x, x ∈ L j → ∀ b, x.1.ownBlock = some b → w0.heap.size ≤ b) (h5 : ∀ j, (L j).length ≤ c) (h6 : ∀ j, bagKinds j = false → L j = []) (h7 : Todo w0 w ((j, v, n) :: T)) (h8 : ∀ x ∈ (j, v, n) :: T, ∀ b, x.2.1.ownBlock = some b → ow b = 0) (h9 : ∀ p ∈ K, w.heap[p.1]? = some p.2 ∧ ow p.1 = 0) (h10 : ∀ x ∈ (j, v, n) :: T, ∀ p ∈ K, x.2.1.ownBlock ≠ some p.1)
    (k1 : BagW ow' gb (bagPut L j (v, n)) 0 w1) (k2 : BagKeep ow w w1) (k3 : ∀ b, b < w.heap.size → v.ownBlock ≠ some b → ow' b = ow b) : BagS w0 gb (c + 1) T K w1 := by
  have hlt : ∀ b, b < w0.heap.size → b < w.heap.size := fun b hb => Nat.lt_of_lt_of_le hb h2.size
  have hv0 : ∀ b, v.ownBlock = some b → w0.heap.size ≤ b := (h7.each _ List.mem_cons_self).2.2
  have hap := List.pairwise_cons.1 h7.apart
  have hT : Todo w0 w T := ⟨fun x hx => h7.each x (List.mem_cons_of_mem _ hx), hap.2⟩
  have hB : Below w0.heap.size w w1 := k2.below h2.size h3
  refine ⟨ow', _, k1, ⟨hB.os.trans h2.os, hB.tape.trans h2.tape, hB.output.trans h2.output, Nat.le_trans h2.size hB.size, fun b hb => (hB.block b hb).trans (h2.block b hb)⟩, fun b hb => ?_, fun i x hx => ?_, fun i => ?_, fun i hi => ?_, ?_, fun x hx b hb => ?_, fun p hp => ?_, fun x hx => h10 x (List.mem_cons_of_mem _ hx)⟩
  · rw [k3 b (hlt b hb) fun hh => by have := hv0 b hh; omega]; exact h3 b hb
  · unfold bagPut at hx
    split at hx
    · rcases List.mem_append.1 hx with hx | hx
      · exact h4 j x hx
      · obtain rfl := List.mem_singleton.1 hx
        exact hv0
    · exact h4 i x hx
  · unfold bagPut
    split
    · simp; exact h5 j
    · exact Nat.le_succ_of_le (h5 i)
  · unfold bagPut
    rw [if_neg (fun hh => by rw [hh, hj] at hi; cases hi)]
    exact h6 i hi
  · exact hT.keep fun x hx b hb => k2.block b (hT.lt hx hb) (h8 x (List.mem_cons_of_mem _ hx) b hb)
  · rw [k3 b (hT.lt hx hb) fun hh => hap.1 x hx b hh hb]
    exact h8 x (List.mem_cons_of_mem _ hx) b hb
  · obtain ⟨q1, q2⟩ := h9 p hp
    refine ⟨(k2.block p.1 (blk_lt q1) q2).trans q1, ?_⟩
    rw [k3 p.1 (blk_lt q1) (h10 _ List.mem_cons_self p hp)]
    exact q2
theorem bagS_Apart {w0 w : World} {gb c : Nat} {K : List (Nat × Obj)} (h : BagS w0 gb c [] K w) : Calls Tryd.prog 20 #[.pointer (some ⟨gb, 0, none⟩)] w fun e w' => e = .returned (.bool true) ∧ Below w0.heap.size w0 w' ∧ ∀ p ∈ K, w'.heap[p.1]? = some p.2 := by
  obtain ⟨ow, L, h1, h2, h3, h4, h5, h6, h7, h8, h9, h10⟩ := h
  refine (bag_Apart ow gb L w h1 h6).mono ?_
  rintro e w' ⟨rfl, hk⟩
  have hB : Below w0.heap.size w w' := hk.below h2.size fun b hb j _ x hx hh => by have := h4 j x hx b hh; omega
  refine ⟨rfl, ⟨hB.os.trans h2.os, hB.tape.trans h2.tape, hB.output.trans h2.output, Nat.le_trans h2.size hB.size, fun b hb => (hB.block b hb).trans (h2.block b hb)⟩, fun p hp => ?_⟩
  obtain ⟨q1, q2⟩ := h9 p hp
  refine (hk.block p.1 (blk_lt q1) fun j hj x hx hh => ?_).trans q1
  obtain ⟨i, hi⟩ := List.mem_iff_getElem?.1 hx
  obtain ⟨_, ys, hy⟩ := h1.items j (Nat.zero_le _) hj i x hi
  have := hy.2 _ hh
  omega
theorem bagS_AddWords {w0 w : World} {gb c n cp : Nat} {A : Option Addr} {T : List (Nat × Value × Nat)} {K : List (Nat × Obj)} (h : BagS w0 gb c ((5, .slice A n cp, n) :: T) K w) (hc : c < 300) : Calls Tryd.prog 79 #[.pointer (some ⟨gb, 0, none⟩), .slice A n cp] w fun e w' => e = .returned (.tuple #[]) ∧ BagS w0 gb (c + 1) T K w' := by
  obtain ⟨ow, L, h1, h2, h3, h4, h5, h6, h7, h8, h9, h10⟩ := h
  obtain ⟨q1, q2, _⟩ := h7.each _ List.mem_cons_self
  refine (bag_AddWords ow gb L A n cp w h1 q2 q1 (h8 _ List.mem_cons_self) (Nat.lt_of_le_of_lt (h5 5) hc)).mono ?_
  rintro e w' ⟨rfl, ow', k1, k2, k3⟩
  exact ⟨rfl, BagS.add rfl h2 h3 h4 h5 h6 h7 h8 h9 h10 k1 k2 k3⟩
theorem bagS_AddLongs {w0 w : World} {gb c n cp : Nat} {A : Option Addr} {T : List (Nat × Value × Nat)} {K : List (Nat × Obj)} (h : BagS w0 gb c ((4, .slice A n cp, n) :: T) K w) (hc : c < 300) : Calls Tryd.prog 80 #[.pointer (some ⟨gb, 0, none⟩), .slice A n cp] w fun e w' => e = .returned (.tuple #[]) ∧ BagS w0 gb (c + 1) T K w' := by
  obtain ⟨ow, L, h1, h2, h3, h4, h5, h6, h7, h8, h9, h10⟩ := h
  obtain ⟨q1, q2, _⟩ := h7.each _ List.mem_cons_self
  refine (bag_AddLongs ow gb L A n cp w h1 q2 q1 (h8 _ List.mem_cons_self) (Nat.lt_of_le_of_lt (h5 4) hc)).mono ?_
  rintro e w' ⟨rfl, ow', k1, k2, k3⟩
  exact ⟨rfl, BagS.add rfl h2 h3 h4 h5 h6 h7 h8 h9 h10 k1 k2 k3⟩
end Go.Proofs.YtfgdjpgdabjpmaaDoor.Bag
