-- The bag of lists: who owns which block, appends that keep, the state of its looking. Own text.
import Derived.Below
import Derived.Deep.AppendLies
import Derived.Deep.DeepAppendRoom
import Derived.Laws.Append
import Derived.Laws.AppendOwn
import Derived.WalkKit
import Derived.KernelRfl
import Derived.Lib.Hide
import Derived.IntWalk
import Derived.Deep.LoopGhost
import Derived.StillTailTactics
import Derived.Outline
import Derived.Laws.MakeOwn
import Derived.Laws.OwnMore
import Derived.OwnWalk
import Derived.WalkLawsBesides
import Derived.WalkSpells
import Derived.Test.YthkiapcoagjjpaaProg
import Derived.Test.YthkiapcoagjjpaaWWords
import Derived.Test.YthkiapcoagjjpaaWLast
import Derived.Test.YthkiapcoagjjpaaWMore
import Derived.Test.YthkiapcoagjjpaaZip
namespace Go.Proofs.Ythkiapcoagjjpaa.Bag
open Go.RowKit Go.Proofs.YthkiapcoagjjpaaW.PrintWords Go.Proofs.YthkiapcoagjjpaaW.PrintLast Go.Proofs.YthkiapcoagjjpaaW.PrintMore
set_option linter.unusedVariables false
set_option linter.unusedSimpArgs false
theorem append_keep {P : Program} {w : World} (t ty : TypeId) (base : Nat) (e : TypeId) (i : TypeInfo) (z : Value) (size bytes : Nat) (ht : P.underlying t = some (.slice e)) (hi : P.info? e = some i) (hz : i.zero = some z)
    (hsize : i.size = size) (hby : i.bytes = bytes) (hzs : z.cells.size = size) (hsz : 0 < size)
    (v : Value) (n : Nat) (xs : List Value) (hown : w.ownsRow base e size v n xs)
    (ad : Addr) (m c : Nat) (news : List Value) (hl : news.length = m * size) (hnews : ∀ j u, news[j]? = some u → w.cell? (ad.add j) = some u) (h1 : ∀ u ∈ news, u.oneCell' = true)
    (hm : 0 < m) (h63 : n + m ≤ maxLen) (hbytes : (n + m) * bytes ≤ 140737488355328) (hbase : base ≤ w.heap.size) :
    ∃ g cap w', (Builtin.append_ #[t, t] ty #[v, .slice (some ad) m c]).run P w = .ok (.slice (some ⟨g, 0, none⟩) (n + m) cap) w' ∧
      w'.ownsRow base e size (.slice (some ⟨g, 0, none⟩) (n + m) cap) (n + m) (xs ++ news) ∧ w.grownBy w' v.ownBlock ∧ (v = .slice (some ⟨g, 0, none⟩) n cap ∨ (g = w.heap.size ∧ w.grownBy w' none)) ∧ g < w'.heap.size := by
  obtain ⟨g, cap, w', hr, h2, h3, h4, h5⟩ := run_append_lies (P := P) w t ty base e i z size bytes ht hi hz hsize hby hzs hsz v n xs hown ad m c news hl hnews h1 hm h63 hbytes hbase _ rfl
  refine ⟨g, cap, w', hr, h2, h3, ?_, h5⟩
  have h0 := hown
  rcases h0.2 with ⟨rfl, _⟩ | ⟨b, cp, cur, rfl, hbg, hg, hnc, hcm, hcs, htake⟩
  · rcases h4 with h4 | h4
    · cases h4
    · exact .inr ⟨h4, h3⟩
  · by_cases hroom : n + m ≤ cp
    · obtain ⟨w2, hr2, _⟩ := run_append_own_spare (P := P) w base t ty e i size ht hi hsize b n cp xs hown ad m c news hl hnews h1 hroom
      have he := hr.symm.trans hr2
      injection he with he1 he2
      injection he1 with he3 he6 he7
      injection he3 with he4
      injection he4 with he5
      subst he5; subst he7
      exact .inl rfl
    · have holds : ∀ j u, xs[j]? = some u → w.cell? ((⟨b, 0, none⟩ : Addr).add j) = some u := hown.cells (g := b) rfl
      have hr2 := run_append_grow (P := P) w t ty e i z ht hi hz ⟨b, 0, none⟩ n cp xs (by rw [hsize]; exact hown.1) holds ad m c news (by rw [hsize]; exact hl) hnews (by omega) (by have : maxLen = 9223372036854775807 := rfl; omega) (growslice_fits (by omega) (by rw [hby]; exact hbytes))
      have he := hr.symm.trans hr2
      injection he with he1 he2
      injection he1 with he3 he6 he7
      injection he3 with he4
      injection he4 with he5
      subst he2
      exact .inr ⟨he5, ⟨rfl, rfl, rfl, by simp, fun k hk _ => heap_alloc_old w.drew _ hk⟩⟩
def mks (mk : Nat → List Value) (n : Nat) : List Value := (List.range n).flatMap mk
theorem mks_succ (mk : Nat → List Value) (n : Nat) : mks mk (n + 1) = mks mk n ++ mk n := by simp [mks, List.range_succ]
theorem mks_len {mk : Nat → List Value} {sz : Nat} (h : ∀ i, (mk i).length = sz) (n : Nat) : (mks mk n).length = n * sz := by
  induction n with
  | zero => simp [mks]
  | succ n ih => rw [mks_succ, List.length_append, ih, h, Nat.succ_mul]
theorem mks_take {mk : Nat → List Value} {sz : Nat} (h : ∀ i, (mk i).length = sz) {a n : Nat} (hn : a ≤ n) : (mks mk n).take (a * sz) = mks mk a := by
  induction n with
  | zero => obtain rfl : a = 0 := by omega
            simp [mks]
  | succ n ih =>
    by_cases e : a = n + 1
    · subst e; rw [← mks_len h, List.take_length]
    · rw [mks_succ, List.take_append_of_le_length (by rw [mks_len h]; exact Nat.mul_le_mul_right _ (by omega))]
      exact ih (by omega)
/-- A slice of the family L that owns its cells. -/
def Own (ow : Nat → Nat) (L : Nat) (e : TypeId) (sz : Nat) (w : World) (v : Value) (n : Nat) (xs : List Value) : Prop := w.ownsRow 0 e sz v n xs ∧ ∀ b, v.ownBlock = some b → ow b = L
/-- A step of the world that writes to blocks of the family L alone. -/
structure Stp (ow ow' : Nat → Nat) (L : Nat) (w w' : World) : Prop where
  row : ∃ r, w.grownBy w' r ∧ ∀ b, r = some b → b < w.heap.size → ow b = L
  lab : ∀ b, b < w.heap.size → ow' b = ow b
theorem Own.far {ow ow' : Nat → Nat} {K L : Nat} {e : TypeId} {sz : Nat} {w w' : World} {v : Value} {n : Nat} {xs : List Value} (h : Own ow K e sz w v n xs) (s : Stp ow ow' L w w') (hne : K ≠ L) : Own ow' K e sz w' v n xs := by
  obtain ⟨h1, h2⟩ := h
  obtain ⟨r, hg, hr⟩ := s.row
  refine ⟨h1.kept hg ?_, fun b hb => ?_⟩
  · rcases hv : v.ownBlock with _ | b
    · exact .inl rfl
    · right; intro hh
      exact hne ((h2 b hv).symm.trans (hr b hh.symm (h1.lt b hv).2))
  · rw [s.lab b (h1.lt b hb).2]; exact h2 b hb
theorem Stp.blk {ow ow' : Nat → Nat} {K L : Nat} {w w' : World} (s : Stp ow ow' L w w') {g : Nat} {o : Obj} (hb : w.heap[g]? = some o) (hl : ow g = K) (hne : K ≠ L) : w'.heap[g]? = some o ∧ ow' g = K := by
  have hlt := (Array.getElem?_eq_some_iff.1 hb).1
  obtain ⟨r, hg, hr⟩ := s.row
  exact ⟨(hg.block g hlt (fun hh => hne (hl.symm.trans (hr g hh.symm hlt)))).trans hb, (s.lab g hlt).trans hl⟩
theorem Stp.cell {ow ow' : Nat → Nat} {K L : Nat} {w w' : World} (s : Stp ow ow' L w w') {g o : Nat} {v : Value} (hb : w.cell? ⟨g, o, none⟩ = some v) (hl : ow g = K) (hne : K ≠ L) : w'.cell? ⟨g, o, none⟩ = some v := by
  have hlt := World.block_lt_of_cell? w ⟨g, o, none⟩ hb
  obtain ⟨r, hg, hr⟩ := s.row
  exact (World.cell?_of_block (hg.block g hlt (fun hh => hne (hl.symm.trans (hr g hh.symm hlt))))).trans hb
/-- An append of one element to a list of the family L. -/
theorem app_step {ow : Nat → Nat} {L : Nat} {e : TypeId} {sz : Nat} {W w' : World} {v : Value} {n g cap : Nat} {xs news : List Value} {T : Obj} (h : Own ow L e sz W v n xs)
    (hown : w'.ownsRow 0 e sz (.slice (some ⟨g, 0, none⟩) (n + 1) cap) (n + 1) (xs ++ news)) (hg : (W.alloc T).grownBy w' v.ownBlock) (hat : v = .slice (some ⟨g, 0, none⟩) n cap ∨ (W.heap.size < g ∧ (W.alloc T).grownBy w' none)) :
    ∃ ow', Stp ow ow' L W w' ∧ Own ow' L e sz w' (.slice (some ⟨g, 0, none⟩) (n + 1) cap) (n + 1) (xs ++ news) ∧ ∀ v2 n2 xs2, n2 ≤ n → xs2 = xs.take (n2 * sz) → Own ow L e sz W v2 n2 xs2 → Own ow' L e sz w' v2 n2 xs2 := by
  have hgg : W.grownBy w' v.ownBlock := by
    refine ⟨hg.os, hg.tape, hg.output, Nat.le_trans (by simp) hg.size, fun k hk hne => ?_⟩
    rw [hg.block k (by simp; omega) hne, heap_alloc_old W T hk]
  have hlab : ∀ b, b < W.heap.size → (if b = g then L else ow b) = ow b := by
    intro b hb
    by_cases hbg : b = g
    · rw [if_pos hbg]
      rcases hat with rfl | ⟨hh, _⟩
      · rw [hbg]; exact (h.2 g rfl).symm
      · omega
    · rw [if_neg hbg]
  have hs : Stp ow (fun b => if b = g then L else ow b) L W w' := ⟨⟨_, hgg, fun b hb _ => h.2 b hb⟩, hlab⟩
  refine ⟨fun b => if b = g then L else ow b, hs, ⟨hown, fun b hb => ?_⟩, fun v2 n2 xs2 hn2 hx2 h2 => ?_⟩
  · have : g = b := by simpa [Value.ownBlock] using hb
    simp [this]
  · refine ⟨⟨h2.1.1, ?_⟩, fun b hb => ?_⟩
    · rcases h2.1.2 with q | ⟨b, cp, cur, hv, hb, hbb, hr⟩
      · exact .inl q
      · refine .inr ⟨b, cp, ?_⟩
        rcases hat with rfl | ⟨hlt, hg2⟩
        · by_cases hbg : b = g
          · subst hbg
            rcases h.1.2 with ⟨hv2, _⟩ | ⟨b2, cp2, cur2, hv2, _, hbb2, hr2⟩
            · cases hv2
            · injection hv2 with e1 e2 e3
              injection e1 with e4
              injection e4 with e5
              subst e5; subst e3
              have hcur : cur = cur2 := by have := hbb.symm.trans hbb2; simpa using this
              subst hcur
              rcases hown.2 with ⟨hv3, _⟩ | ⟨b3, cp3, cur3, hv3, hb3, hbb3, hr3⟩
              · cases hv3
              · injection hv3 with e1 e2 e3
                injection e1 with e4
                injection e4 with e5
                subst e5; subst e3
                have q1 := hr.2.2.1; have q2 := hr2.2.2.1; have q3 := hr3.2.2.1
                refine ⟨cur3, hv, hb, hbb3, hr.1, hr.2.1, by omega, ?_⟩
                have hxl : xs.length = n * sz := h.1.1
                have q4 := hr3.2.2.2
                have hle : n2 * sz ≤ (n + 1) * sz := Nat.mul_le_mul_right _ (by omega)
                have q5 : cur3.toList.take (n2 * sz) = (cur3.toList.take ((n + 1) * sz)).take (n2 * sz) := by rw [List.take_take, Nat.min_eq_left hle]
                rw [q5, q4, hx2, List.take_append_of_le_length (by rw [hxl]; exact Nat.mul_le_mul_right _ hn2)]
          · refine ⟨cur, hv, hb, ?_, hr⟩
            rw [hgg.block b (Array.getElem?_eq_some_iff.1 hbb).1 (by simpa [Value.ownBlock] using hbg)]
            exact hbb
        · refine ⟨cur, hv, hb, ?_, hr⟩
          have hl := (Array.getElem?_eq_some_iff.1 hbb).1
          rw [hg2.block b (by simp; omega) (by simp), heap_alloc_old W T hl]
          exact hbb
    · show (if b = g then L else ow b) = L
      rw [hlab b (h2.1.lt b hb).2]; exact h2.2 b hb
theorem keep_many {P : Program} {W : World} {ops : Array Oper} {rest : List Oper} {o : Oper} {a : Act} {Q : Exit → Act → World → Prop} (hgd : o.guard = none) (s x : Operand) (t e : TypeId) (z : Value) (sz bytes : Nat)
    (ho : o.op = .call { callee := .builtin .append, args := #[s, x], argTypes := #[t, t] }) (ht : P.underlying t = some (.slice e)) (hinfo : (P.info? e).map (fun i => (i.zero, i.size, i.bytes)) = some (some z, sz, bytes)) (hz1 : z.cells.size = sz) (hsz : 0 < sz)
    (v : Value) (n : Nat) (xs news : List Value) (hnl : news.length = sz) (hp : ∀ u ∈ news, u.oneCell' = true) (hs : a.eval s = v) (hx : a.eval x = .slice (some ⟨W.heap.size, 0, none⟩) 1 1) (ow : Nat → Nat) (L : Nat) (hown : Own ow L e sz W v n xs) (hb0 : 0 < bytes) (hl : (n + 1) * bytes ≤ 140737488355328)
    (h : ∀ ow' g cap w', Stp ow ow' L W w' → Own ow' L e sz w' (.slice (some ⟨g, 0, none⟩) (n + 1) cap) (n + 1) (xs ++ news) → (∀ v2 n2 xs2, n2 ≤ n → xs2 = xs.take (n2 * sz) → Own ow L e sz W v2 n2 xs2 → Own ow' L e sz w' v2 n2 xs2) → wpList P ops Q rest (a.put o.dst (.slice (some ⟨g, 0, none⟩) (n + 1) cap)) w') :
    wpList P ops Q (o :: rest) a (W.alloc (.cells news.toArray e)) := by
  obtain ⟨i, hi, hz, hsi, hby⟩ : ∃ i, P.info? e = some i ∧ i.zero = some z ∧ i.size = sz ∧ i.bytes = bytes := by
    cases hh : P.info? e with
    | none => rw [hh] at hinfo; cases hinfo
    | some i => rw [hh] at hinfo; simp at hinfo; exact ⟨i, rfl, hinfo.1, hinfo.2.1, hinfo.2.2⟩
  have hm1 : (n + 1) ≤ maxLen := by
    have : maxLen = 9223372036854775807 := rfl
    have := Nat.le_trans (Nat.le_mul_of_pos_right (n + 1) hb0) hl
    omega
  refine wpList_plain hgd fun K hK => ?_
  have hcells : ∀ j u, news[j]? = some u → (W.alloc (.cells news.toArray e)).cell? ((⟨W.heap.size, 0, none⟩ : Addr).add j) = some u := by
    intro j u hu
    have hadd : (⟨W.heap.size, 0, none⟩ : Addr).add j = ⟨W.heap.size, j, none⟩ := by unfold Addr.add; split <;> simp_all
    rw [hadd, cell_of_row _ W.heap.size j news.toArray e (0, 0) (heap_alloc_new W _)]
    simpa using hu
  obtain ⟨g, cap, w', hr, h2, h3, h4, h5⟩ := append_keep (P := P) (w := W.alloc (.cells news.toArray e)) t o.type 0 e i z sz bytes ht hi hz hsi hby hz1 hsz v n xs (hown.1.alloc _) ⟨W.heap.size, 0, none⟩ 1 1 news (by rw [hnl]; omega) hcells hp (by omega) hm1 hl (by simp)
  obtain ⟨ow', q1, q2, q3⟩ := app_step (T := .cells news.toArray e) hown h2 h3 (h4.imp id fun h => ⟨by have := h.1; simp at this; omega, h.2⟩)
  unfold Oper.wp execOp
  simp only [ho, resolve, invoke, builtin, Sem.run_bind, Sem.run_pure, Result.andThen_ok, List.map_toArray, List.map_cons, List.map_nil, hs, hx, hr]
  exact hK _ _ (h ow' g cap w' q1 q2 q3)
/-- Blocks of which P speaks stand; no file, tape or output was touched. -/
structure Keep (P : Nat → Prop) (w w' : World) : Prop where
  os : w'.os = w.os
  tape : w'.tape = w.tape
  output : w'.output = w.output
  size : w.heap.size ≤ w'.heap.size
  block : ∀ b, b < w.heap.size → P b → w'.heap[b]? = w.heap[b]?
theorem Keep.refl (P : Nat → Prop) (w : World) : Keep P w w := ⟨rfl, rfl, rfl, Nat.le_refl _, fun _ _ _ => rfl⟩
theorem Keep.trans {P Q : Nat → Prop} {w w1 w2 : World} (h : Keep P w w1) (k : Keep Q w1 w2) (hpq : ∀ b, b < w.heap.size → P b → Q b) : Keep P w w2 :=
  ⟨k.os.trans h.os, k.tape.trans h.tape, k.output.trans h.output, Nat.le_trans h.size k.size, fun b hb hp => (k.block b (Nat.lt_of_lt_of_le hb h.size) (hpq b hb hp)).trans (h.block b hb hp)⟩
theorem Keep.grown {P : Nat → Prop} {w w1 w2 : World} (h : Keep P w w1) {r : Option Nat} (hg : w1.grownBy w2 r) (hr : ∀ b, b < w.heap.size → P b → some b ≠ r) : Keep P w w2 :=
  ⟨hg.os.trans h.os, hg.tape.trans h.tape, hg.output.trans h.output, Nat.le_trans h.size hg.size, fun b hb hp => (hg.block b (Nat.lt_of_lt_of_le hb h.size) (hr b hb hp)).trans (h.block b hb hp)⟩
theorem Keep.set {P : Nat → Prop} {w w1 : World} (h : Keep P w w1) (g i : Nat) (u : Value) (hg : ∀ b, b < w.heap.size → P b → b ≠ g) : Keep P w (w1.setCell ⟨g, i, none⟩ u) :=
  ⟨h.os, h.tape, h.output, by simpa using h.size, fun b hb hp => (Below.heap_setCell w1 ⟨g, i, none⟩ u b (hg b hb hp)).trans (h.block b hb hp)⟩
theorem Keep.below {P : Nat → Prop} {w w1 : World} (h : Keep P w w1) {B : Nat} (hB : B ≤ w.heap.size) (hP : ∀ b, b < B → P b) : Below B w w1 := ⟨h.os, h.tape, h.output, h.size, fun b hb => h.block b (Nat.lt_of_lt_of_le hb hB) (hP b hb)⟩
/-- Blocks that were, and are none of the lists, stand. -/
def FrmV (vs : Nat → Value) (m : Nat) (w w' : World) : Prop := Keep (fun b => ∀ k, k < m → (vs k).ownBlock ≠ some b) w w'
theorem FrmV.refl (vs : Nat → Value) (m : Nat) (w : World) : FrmV vs m w w := Keep.refl _ _
theorem FrmV.drew {vs : Nat → Value} {m : Nat} {w w' : World} (h : FrmV vs m w w') : FrmV vs m w w'.drew := ⟨h.os, h.tape, h.output, h.size, h.block⟩
theorem FrmV.set {vs : Nat → Value} {m : Nat} {w w' : World} (h : FrmV vs m w w') {k n cap g : Nat} (hk : k < m) (hv : vs k = .slice (some ⟨g, 0, none⟩) n cap) (i : Nat) (u : Value) : FrmV vs m w (w'.setCell ⟨g, i, none⟩ u) :=
  Keep.set h g i u fun b _ hne hh => hne k hk (by rw [hv, hh]; rfl)
def LabV (vs : Nat → Value) (m : Nat) (ow : Nat → Nat) (w : World) : Prop := ∀ b, b < w.heap.size → 3 ≤ ow b → ∃ k, k < m ∧ (vs k).ownBlock = some b
theorem frm_step {vs : Nat → Value} {m : Nat} {ow ow' : Nat → Nat} {L : Nat} {w0 w w' : World} (h : FrmV vs m w0 w ∧ LabV vs m ow w0) (s : Stp ow ow' L w w') (hL : 3 ≤ L) : FrmV vs m w0 w' ∧ LabV vs m ow' w0 := by
  obtain ⟨h1, h3⟩ := h
  obtain ⟨r, hg, hr⟩ := s.row
  refine ⟨Keep.grown h1 hg fun b hb hne hh => ?_, fun b hb h => h3 b hb (by rw [← s.lab b (Nat.lt_of_lt_of_le hb h1.size)]; exact h)⟩
  obtain ⟨k, hk, hv⟩ := h3 b hb (by rw [hr b hh.symm (Nat.lt_of_lt_of_le hb h1.size)]; exact hL)
  exact hne k hk hv
/-- The state of the bag's looking: k1 lists gone on with by one, k2 by many. -/
structure ApS (e E : TypeId) (sz : Nat) (mk : Nat → Nat → List Value) (gb jf rg m rc : Nat) (vs : Nat → Value) (ns : Nat → Nat) (k1 k2 : Nat) (one more : Value) (os ms : Nat → Value) (ow : Nat → Nat) (w0 w : World) : Prop where
  bag : w.cell? ⟨gb, jf, none⟩ = some (.slice (some ⟨rg, 0, none⟩) m rc) ∧ ow gb = 1
  row : ∀ k, k < m → w.cell? ⟨rg, k, none⟩ = some (vs k) ∧ ow rg = 2
  own : ∀ k, k < m → Own ow (5 + k) e sz w (vs k) (ns k) (mks (mk k) (ns k))
  one : Own ow 3 E 1 w one k1 ((List.range k1).map os)
  more : Own ow 4 E 1 w more k2 ((List.range k2).map ms)
  ones : ∀ k, k < k1 → Own ow (5 + k) e sz w (os k) (ns k + 1) (mks (mk k) (ns k + 1))
  mores : ∀ k, k < k2 → Own ow (5 + k) e sz w (ms k) (ns k + 70) (mks (mk k) (ns k + 70))
  frm : FrmV vs m w0 w ∧ LabV vs m ow w0
theorem ApS.app {e E : TypeId} {sz : Nat} {mk : Nat → Nat → List Value} {gb jf rg m rc : Nat} {vs : Nat → Value} {ns : Nat → Nat} {k1 k2 : Nat} {one more : Value} {os ms : Nat → Value} {ow : Nat → Nat} {w0 w : World} (h : ApS e E sz mk gb jf rg m rc vs ns k1 k2 one more os ms ow w0 w) (hmk : ∀ k i, (mk k i).length = sz)
    {ow' : Nat → Nat} {w' : World} {k i : Nat} (s : Stp ow ow' (5 + k) w w') (hr : ∀ v2 n2 xs2, n2 ≤ i → xs2 = (mks (mk k) i).take (n2 * sz) → Own ow (5 + k) e sz w v2 n2 xs2 → Own ow' (5 + k) e sz w' v2 n2 xs2)
    (hk : k2 ≤ k) (hi : ns k ≤ i) (h1 : k1 = k ∨ (k1 = k + 1 ∧ ns k + 1 ≤ i)) : ApS e E sz mk gb jf rg m rc vs ns k1 k2 one more os ms ow' w0 w' := by
  refine ⟨⟨s.cell h.bag.1 h.bag.2 (by omega), ?_⟩, fun j hj => ?_, fun j hj => ?_, h.one.far s (by omega), h.more.far s (by omega), fun j hj => ?_, fun j hj => ?_, frm_step h.frm s (by omega)⟩
  · rw [s.lab gb (World.block_lt_of_cell? w ⟨gb, jf, none⟩ h.bag.1)]; exact h.bag.2
  · have q := h.row j hj
    exact ⟨s.cell q.1 q.2 (by omega), by rw [s.lab rg (World.block_lt_of_cell? w ⟨rg, j, none⟩ q.1)]; exact q.2⟩
  · by_cases e : j = k
    · subst e; exact hr _ _ _ hi (mks_take (hmk j) hi).symm (h.own j hj)
    · exact (h.own j hj).far s (by omega)
  · by_cases e : j = k
    · subst e; exact hr _ _ _ (by omega) (mks_take (hmk j) (by omega)).symm (h.ones j hj)
    · exact (h.ones j hj).far s (by omega)
  · exact (h.mores j hj).far s (by omega)
theorem range_put (f : Nat → Value) (n : Nat) (v : Value) : (List.range (n + 1)).map (fun j => if j = n then v else f j) = (List.range n).map f ++ [v] := by
  rw [List.range_succ, List.map_append]
  congr 1
  · apply List.map_congr_left
    intro j hj
    have := List.mem_range.1 hj
    simp only [show ¬ j = n from by omega, if_false]
  · simp
theorem ApS.one_ {e E : TypeId} {sz : Nat} {mk : Nat → Nat → List Value} {gb jf rg m rc : Nat} {vs : Nat → Value} {ns : Nat → Nat} {k1 k2 : Nat} {one more : Value} {os ms : Nat → Value} {ow : Nat → Nat} {w0 w : World} (h : ApS e E sz mk gb jf rg m rc vs ns k1 k2 one more os ms ow w0 w)
    {ow' : Nat → Nat} {w' : World} {one' l : Value} (s : Stp ow ow' 3 w w') (h1 : Own ow' 3 E 1 w' one' (k1 + 1) ((List.range k1).map os ++ [l])) (hl : Own ow' (5 + k1) e sz w' l (ns k1 + 1) (mks (mk k1) (ns k1 + 1))) : ApS e E sz mk gb jf rg m rc vs ns (k1 + 1) k2 one' more (fun j => if j = k1 then l else os j) ms ow' w0 w' := by
  refine ⟨⟨s.cell h.bag.1 h.bag.2 (by omega), ?_⟩, fun j hj => ?_, fun j hj => (h.own j hj).far s (by omega), by rw [range_put]; exact h1, h.more.far s (by omega), fun j hj => ?_, fun j hj => (h.mores j hj).far s (by omega), frm_step h.frm s (by omega)⟩
  · rw [s.lab gb (World.block_lt_of_cell? w ⟨gb, jf, none⟩ h.bag.1)]; exact h.bag.2
  · have q := h.row j hj
    exact ⟨s.cell q.1 q.2 (by omega), by rw [s.lab rg (World.block_lt_of_cell? w ⟨rg, j, none⟩ q.1)]; exact q.2⟩
  · by_cases e : j = k1
    · subst e; simp only [if_true]; exact hl
    · simp only [e, if_false]; exact (h.ones j (by omega)).far s (by omega)
theorem ApS.more_ {e E : TypeId} {sz : Nat} {mk : Nat → Nat → List Value} {gb jf rg m rc : Nat} {vs : Nat → Value} {ns : Nat → Nat} {k1 k2 : Nat} {one more : Value} {os ms : Nat → Value} {ow : Nat → Nat} {w0 w : World} (h : ApS e E sz mk gb jf rg m rc vs ns k1 k2 one more os ms ow w0 w)
    {ow' : Nat → Nat} {w' : World} {more' l : Value} (s : Stp ow ow' 4 w w') (h1 : Own ow' 4 E 1 w' more' (k2 + 1) ((List.range k2).map ms ++ [l])) (hl : Own ow' (5 + k2) e sz w' l (ns k2 + 70) (mks (mk k2) (ns k2 + 70))) : ApS e E sz mk gb jf rg m rc vs ns k1 (k2 + 1) one more' os (fun j => if j = k2 then l else ms j) ow' w0 w' := by
  refine ⟨⟨s.cell h.bag.1 h.bag.2 (by omega), ?_⟩, fun j hj => ?_, fun j hj => (h.own j hj).far s (by omega), h.one.far s (by omega), by rw [range_put]; exact h1, fun j hj => (h.ones j hj).far s (by omega), fun j hj => ?_, frm_step h.frm s (by omega)⟩
  · rw [s.lab gb (World.block_lt_of_cell? w ⟨gb, jf, none⟩ h.bag.1)]; exact h.bag.2
  · have q := h.row j hj
    exact ⟨s.cell q.1 q.2 (by omega), by rw [s.lab rg (World.block_lt_of_cell? w ⟨rg, j, none⟩ q.1)]; exact q.2⟩
  · by_cases e : j = k2
    · subst e; simp only [if_true]; exact hl
    · simp only [e, if_false]; exact (h.mores j (by omega)).far s (by omega)
/-- The bag: its cell of the kind, and the row of the lists that lie in it. -/
structure BagAt (e : TypeId) (gb jf rg m rc : Nat) (vs : Nat → Value) (ns : Nat → Nat) (cs : Nat → List Value) (w : World) : Prop where
  bag : ∃ bc t, w.heap[gb]? = some (.cells bc t (0, 0)) ∧ bc[jf]? = some (.slice (some ⟨rg, 0, none⟩) m rc)
  row : ∃ rs t, w.heap[rg]? = some (.cells rs t (0, 0)) ∧ ∀ k, k < m → rs[k]? = some (vs k)
  own : ∀ k, k < m → w.ownsRow 0 e 1 (vs k) (ns k) (cs k)
theorem BagAt.cell {e : TypeId} {gb jf rg m rc : Nat} {vs : Nat → Value} {ns : Nat → Nat} {cs : Nat → List Value} {w : World} (h : BagAt e gb jf rg m rc vs ns cs w) : w.cell? ⟨gb, jf, none⟩ = some (.slice (some ⟨rg, 0, none⟩) m rc) := by
  obtain ⟨bc, t, h1, h2⟩ := h.bag
  exact (blk_cell h1 jf).trans h2
theorem BagAt.at_ {e : TypeId} {gb jf rg m rc : Nat} {vs : Nat → Value} {ns : Nat → Nat} {cs : Nat → List Value} {w : World} (h : BagAt e gb jf rg m rc vs ns cs w) (k : Nat) (hk : k < m) : w.cell? ⟨rg, k, none⟩ = some (vs k) := by
  obtain ⟨bc, t, h1, h2⟩ := h.row
  exact (blk_cell h1 k).trans (h2 k hk)
/-- Behind a growth that leaves all its blocks alone. -/
theorem BagAt.grown {e : TypeId} {gb jf rg m rc : Nat} {vs : Nat → Value} {ns : Nat → Nat} {cs : Nat → List Value} {w w' : World} {r : Option Nat} (h : BagAt e gb jf rg m rc vs ns cs w) (hg : w.grownBy w' r) (h1 : r ≠ some gb) (h2 : r ≠ some rg) (h3 : ∀ k, k < m → ∀ b, (vs k).ownBlock = some b → r ≠ some b) : BagAt e gb jf rg m rc vs ns cs w' := by
  refine ⟨?_, ?_, fun k hk => ?_⟩
  · obtain ⟨bc, t, q1, q2⟩ := h.bag
    exact ⟨bc, t, blk_grown q1 hg (fun hh => h1 hh.symm), q2⟩
  · obtain ⟨bc, t, q1, q2⟩ := h.row
    exact ⟨bc, t, blk_grown q1 hg (fun hh => h2 hh.symm), q2⟩
  · obtain ⟨q1, q2⟩ := h.own k hk
    refine ⟨q1, ?_⟩
    rcases q2 with q | ⟨b, cp, cur, q, hb, hbb, hr⟩
    · exact .inl q
    · exact .inr ⟨b, cp, cur, q, hb, blk_grown hbb hg (fun hh => h3 k hk b (by rw [q]; rfl) hh.symm), hr⟩
theorem BagAt.set {e : TypeId} {gb jf rg m rc : Nat} {vs : Nat → Value} {ns : Nat → Nat} {cs : Nat → List Value} {w : World} (h : BagAt e gb jf rg m rc vs ns cs w) {k i g cap : Nat} (hk : k < m) (hi : i < ns k) (hv : vs k = .slice (some ⟨g, 0, none⟩) (ns k) cap)
    (hgb : g ≠ gb) (hrg : g ≠ rg) (hd : ∀ j, j < m → j ≠ k → (vs j).ownBlock ≠ some g) (u : Value) :
    BagAt e gb jf rg m rc vs ns (fun j => if j = k then (cs k).set i u else cs j) (w.setCell ⟨g, i, none⟩ u) := by
  refine ⟨?_, ?_, fun j hj => ?_⟩
  · obtain ⟨bc, t, q1, q2⟩ := h.bag
    exact ⟨bc, t, blk_far q1 (fun hh => hgb hh.symm) u, q2⟩
  · obtain ⟨bc, t, q1, q2⟩ := h.row
    exact ⟨bc, t, blk_far q1 (fun hh => hrg hh.symm) u, q2⟩
  by_cases e : j = k
  · subst e
    rw [if_pos rfl]
    obtain ⟨h1, h2⟩ := h.own j hj
    refine ⟨by rw [List.length_set]; exact h1, ?_⟩
    rcases h2 with ⟨q, _⟩ | ⟨b, cp, cur, q, hb, hbb, hr⟩
    · rw [hv] at q; cases q
    · have q2 := q
      rw [hv] at q2
      injection q2 with e1 e2 e3
      injection e1 with e4
      injection e4 with e5
      subst e5; subst e3
      refine .inr ⟨_, _, cur.setIfInBounds i u, q, hb, blk_put hbb i u rfl, hr.1, hr.2.1, by simpa using hr.2.2.1, ?_⟩
      rw [Array.toList_setIfInBounds, List.take_set, hr.2.2.2]
  · rw [if_neg e]
    obtain ⟨h1, h2⟩ := h.own j hj
    refine ⟨h1, ?_⟩
    rcases h2 with q | ⟨b, cp, cur, q, hb, hbb, hr⟩
    · exact .inl q
    · have hbg : b ≠ g := fun hh => hd j hj e (by rw [q, hh]; rfl)
      exact .inr ⟨b, cp, cur, q, hb, blk_far hbb hbg u, hr⟩
def mkB (k i : Nat) : Int := (31 * (k : Int) + 7 * (i : Int) + 3) % 256
theorem wrapB (k i : Nat) (hk : k ≤ 300) (hi : i ≤ 1000100) : wrap64 (wrap64 (31 * (k : Int) + wrap64 (7 * (i : Int))) + 3) % 256 = mkB k i := by
  have h1 : wrap64 (7 * (i : Int)) = 7 * (i : Int) := by unfold wrap64; omega
  have h2 : wrap64 (31 * (k : Int) + 7 * (i : Int)) = 31 * (k : Int) + 7 * (i : Int) := by unfold wrap64; omega
  have h3 : wrap64 (31 * (k : Int) + 7 * (i : Int) + 3) = 31 * (k : Int) + 7 * (i : Int) + 3 := by unfold wrap64; omega
  rw [h1, h2, h3]; rfl
theorem wrapS (i : Nat) (hi : i ≤ 1000100) : wrap64 ((i : Int) + 1) = ((i + 1 : Nat) : Int) := by unfold wrap64; omega
theorem lt_len {i n a b : Nat} (h : a = b * 1) (hb : n = b) (hi : i < n) : i < a := by omega
def mksB (k n : Nat) : List Value := (List.range n).map fun i => .int .u8 (mkB k i)
theorem own_form {w : World} {e : TypeId} {v : Value} {n : Nat} {xs : List Value} (h : w.ownsRow 0 e 1 v n xs) : ∃ A c, v = .slice A n c ∧ n ≤ c := by
  rcases h.2 with ⟨rfl, rfl⟩ | ⟨b, cp, cur, rfl, _, _, hr, _⟩
  · exact ⟨_, _, rfl, Nat.le_refl _⟩
  · exact ⟨_, _, rfl, hr⟩
def mkI (k i : Nat) : Int := 1048576 * (k : Int) + (i : Int) + 1
theorem num_at (k i : Nat) (hk : k ≤ 300) (hi : i ≤ 1000100) (w : World) : Calls Try.prog 31 #[.int .i64 (k : Int), .int .i64 (i : Int)] w fun e w' => e = .returned (.int .i64 (mkI k i)) ∧ w' = w := by
  have h1 : wrap64 (1048576 * (k : Int)) = 1048576 * (k : Int) := by unfold wrap64; omega
  have h2 : wrap64 (1048576 * (k : Int) + (i : Int)) = 1048576 * (k : Int) + (i : Int) := by unfold wrap64; omega
  have h3 : wrap64 (1048576 * (k : Int) + (i : Int) + 1) = mkI k i := by unfold wrap64 mkI; omega
  have H1 := Lib.hid h1; have H2 := Lib.hid h2; have H3 := Lib.hid h3
  clear h1 h2 h3 hk hi
  go_enter Try.func31, Try.ntmps31
  go_wp2
  rw [H1.out, H2.out, H3.out]
  go_ret
  exact ⟨rfl, rfl⟩
theorem BagAt.drew {e : TypeId} {gb jf rg m rc : Nat} {vs : Nat → Value} {ns : Nat → Nat} {cs : Nat → List Value} {w : World} (h : BagAt e gb jf rg m rc vs ns cs w) : BagAt e gb jf rg m rc vs ns cs w.drew :=
  h.grown (r := none) ⟨rfl, rfl, rfl, Nat.le_refl _, fun k hk _ => rfl⟩ (by simp) (by simp) (fun _ _ _ _ => by simp)
theorem mks_one (f : Nat → Value) (n : Nat) : mks (fun i => [f i]) n = (List.range n).map f := by
  induction n with
  | zero => rfl
  | succ n ih => rw [mks_succ, ih, List.range_succ, List.map_append]; rfl
/-- Filled with the marks, the bag is at the start of its looking. -/
theorem BagAt.start {e E : TypeId} {gb jf rg m rc : Nat} {vs : Nat → Value} {ns : Nat → Nat} {cs : Nat → List Value} {w0 w : World} (hf : FrmV vs m w0 w) (h : BagAt e gb jf rg m rc vs ns cs w) (hd : ∀ j k, j < m → k < m → j ≠ k → ∀ b, (vs k).ownBlock = some b → (vs j).ownBlock ≠ some b)
    (hgb : ∀ k, k < m → (vs k).ownBlock ≠ some gb) (hrg : ∀ k, k < m → (vs k).ownBlock ≠ some rg) (hne : gb ≠ rg) {mk : Nat → Nat → List Value} (hcs : ∀ j, j < m → cs j = mks (mk j) (ns j)) :
    ∃ ow, ApS e E 1 mk gb jf rg m rc vs ns 0 0 (.slice none 0 0) (.slice none 0 0) (fun _ => .slice none 0 0) (fun _ => .slice none 0 0) ow w0 w := by
  classical
  refine ⟨fun b => if b = gb then 1 else if b = rg then 2 else if hh : ∃ k, k < m ∧ (vs k).ownBlock = some b then 5 + hh.choose else 0, ⟨h.cell, by simp⟩, fun k hk => ⟨h.at_ k hk, by simp [hne.symm]⟩, fun k hk => ⟨by rw [← hcs k hk]; exact h.own k hk, fun b hb => ?_⟩, ⟨World.ownsRow_nil _ _ _ _, fun b hb => by simp [Value.ownBlock] at hb⟩, ⟨World.ownsRow_nil _ _ _ _, fun b hb => by simp [Value.ownBlock] at hb⟩, fun k hk => by omega, fun k hk => by omega, hf, fun b hb h3 => ?_⟩
  rotate_left
  · dsimp only at h3
    by_cases e1 : b = gb
    · rw [if_pos e1] at h3; omega
    · rw [if_neg e1] at h3
      by_cases e2 : b = rg
      · rw [if_pos e2] at h3; omega
      · rw [if_neg e2] at h3
        by_cases e3 : ∃ k, k < m ∧ (vs k).ownBlock = some b
        · exact e3
        · rw [dif_neg e3] at h3; omega
  have h1 : b ≠ gb := fun hh => hgb k hk (by rw [hb, hh])
  have h2 : b ≠ rg := fun hh => hrg k hk (by rw [hb, hh])
  have h3 : ∃ k, k < m ∧ (vs k).ownBlock = some b := ⟨k, hk, hb⟩
  simp only [h1, h2, if_false, dif_pos h3]
  have h4 := h3.choose_spec
  by_cases e : h3.choose = k
  · rw [e]
  · exact absurd h4.2 (hd _ _ h4.1 hk e b hb)
theorem mks_get (f : Nat → Value) {n j : Nat} (h : j < n) : (mks (fun i => [f i]) n)[j]? = some (f j) := by rw [mks_one]; simp [h]
theorem ms_lt {a b : Nat} (h : a < b) : b - (intOf (.int .i64 ((a : Int) + 1))).toNat < b - (intOf (.int .i64 (a : Int))).toNat := by simp [intOf]; omega
theorem rest_of {p q : Prop} {a b : Nat} (h : (p ∧ a = b) ∨ q) (hne : a ≠ b) : q := h.resolve_left fun hh => hne hh.2
theorem Own.at_ {ow : Nat → Nat} {L : Nat} {e : TypeId} {sz : Nat} {w : World} {v : Value} {n : Nat} {xs : List Value} (h : Own ow L e sz w v n xs) (hn : 0 < n) : ∃ g c, v = .slice (some ⟨g, 0, none⟩) n c ∧ n ≤ c ∧ ∀ (j : Nat) (u : Value), xs[j]? = some u → w.cell? ⟨g, j, none⟩ = some u := by
  rcases h.1.2 with ⟨_, q⟩ | ⟨g, cp, cur, hv, hb, hbb, hr, _, _, ht⟩
  · omega
  · refine ⟨g, cp, hv, hr, fun j u hu => ?_⟩
    rw [cell_of_row w g j cur e (0, 0) hbb]
    rw [← ht, List.getElem?_take] at hu
    split at hu
    · simpa using hu
    · cases hu
theorem app_next {e E : TypeId} {sz : Nat} {mk : Nat → Nat → List Value} {gb jf rg m rc : Nat} {vs : Nat → Value} {ns : Nat → Nat} {k1 k2 : Nat} {one more : Value} {os ms : Nat → Value} {ow : Nat → Nat} {w0 w : World} (h : ApS e E sz mk gb jf rg m rc vs ns k1 k2 one more os ms ow w0 w) {v l : Value} {i : Nat} (_ : Own ow (5 + k2) e sz w v i (mks (mk k2) i)) (hmk : ∀ k i, (mk k i).length = sz)
    {ow' : Nat → Nat} {w' : World} (s : Stp ow ow' (5 + k2) w w') (ho : Own ow' (5 + k2) e sz w' l (i + 1) (mks (mk k2) i ++ mk k2 i)) (hr : ∀ v2 n2 xs2, n2 ≤ i → xs2 = (mks (mk k2) i).take (n2 * sz) → Own ow (5 + k2) e sz w v2 n2 xs2 → Own ow' (5 + k2) e sz w' v2 n2 xs2)
    (hi : ns k2 ≤ i) (h1 : (k1 = k2 ∧ i = ns k2) ∨ (k1 = k2 + 1 ∧ ns k2 + 1 ≤ i)) : ApS e E sz mk gb jf rg m rc vs ns k1 k2 one more os ms ow' w0 w' ∧ Own ow' (5 + k2) e sz w' l (i + 1) (mks (mk k2) (i + 1)) :=
  ⟨h.app hmk s hr (Nat.le_refl _) hi (by omega), by rw [mks_succ]; exact ho⟩
theorem one_next {e E : TypeId} {sz : Nat} {mk : Nat → Nat → List Value} {gb jf rg m rc : Nat} {vs : Nat → Value} {ns : Nat → Nat} {k k1 : Nat} {one more : Value} {os ms : Nat → Value} {ow : Nat → Nat} {w0 w : World} (h : ApS e E sz mk gb jf rg m rc vs ns k1 k one more os ms ow w0 w) {l : Value} {i : Nat} (hl : Own ow (5 + k) e sz w l (i + 1) (mks (mk k) (i + 1))) (hk : k1 = k) (hi : i = ns k)
    {ow' : Nat → Nat} {w' : World} {one' : Value} (s : Stp ow ow' 3 w w') (ho : Own ow' 3 E 1 w' one' (k1 + 1) ((List.range k1).map os ++ [l])) : ApS e E sz mk gb jf rg m rc vs ns (k1 + 1) k one' more (fun j => if j = k1 then l else os j) ms ow' w0 w' ∧ Own ow' (5 + k) e sz w' l (i + 1) (mks (mk k) (i + 1)) := by
  have h2 := hl.far s (by omega)
  refine ⟨h.one_ s ho ?_, h2⟩
  rw [hk, ← hi]; exact h2
theorem more_next {e E : TypeId} {sz : Nat} {mk : Nat → Nat → List Value} {gb jf rg m rc : Nat} {vs : Nat → Value} {ns : Nat → Nat} {k k1 : Nat} {one more : Value} {os ms : Nat → Value} {ow : Nat → Nat} {w0 w : World} (h : ApS e E sz mk gb jf rg m rc vs ns k1 k one more os ms ow w0 w) {l : Value} {i : Nat} (hl : Own ow (5 + k) e sz w l i (mks (mk k) i)) (hi : i = ns k + 70)
    {ow' : Nat → Nat} {w' : World} {more' : Value} (s : Stp ow ow' 4 w w') (ho : Own ow' 4 E 1 w' more' (k + 1) ((List.range k).map ms ++ [l])) : ApS e E sz mk gb jf rg m rc vs ns k1 (k + 1) one more' os (fun j => if j = k then l else ms j) ow' w0 w' :=
  h.more_ s ho (by rw [← hi]; exact hl.far s (by omega))
/-- What a law's walk knows of its world: nothing elder was touched, and some blocks. -/
structure LawW (w0 : World) (L : List (Nat × Obj)) (w : World) : Prop where
  below : Below w0.heap.size w0 w
  blks : ∀ p ∈ L, w.heap[p.1]? = some p.2
theorem LawW.start (w : World) : LawW w [] w := ⟨Below.refl _ _, fun p hp => by cases hp⟩
theorem LawW.next {w0 w w1 : World} {L : List (Nat × Obj)} (h : LawW w0 L w) (hb : Below w.heap.size w w1) : LawW w0 L w1 :=
  ⟨below_then h.below h.below.size hb, fun p hp => blk_below (h.blks p hp) hb⟩
theorem LawW.alloc {w0 w : World} {L : List (Nat × Obj)} (h : LawW w0 L w) (o : Obj) : LawW w0 ((w.heap.size, o) :: L) (w.alloc o) :=
  ⟨below_alloc h.below o, fun p hp => by
    rcases List.mem_cons.1 hp with rfl | hp
    · exact blk_new w o
    · exact blk_alloc (h.blks p hp) o⟩
theorem LawW.add {w0 w : World} {L : List (Nat × Obj)} (h : LawW w0 L w) {g : Nat} {o : Obj} (hg : w.heap[g]? = some o) : LawW w0 ((g, o) :: L) w :=
  ⟨h.below, fun p hp => by
    rcases List.mem_cons.1 hp with rfl | hp
    · exact hg
    · exact h.blks p hp⟩
theorem LawW.at_ {w0 w : World} {L : List (Nat × Obj)} (h : LawW w0 L w) (i : Nat) {g : Nat} {o : Obj} (hi : L[i]? = some (g, o)) : w.heap[g]? = some o := h.blks _ (List.mem_of_getElem? hi)
theorem LawW.drewN {w0 w : World} {L : List (Nat × Obj)} (h : LawW w0 L w) (n : Nat) : LawW w0 L (w.drewN n) := ⟨pw_below_drewN h.below n, h.blks⟩
end Go.Proofs.Ythkiapcoagjjpaa.Bag
