-- Stable sorting and suffixes, as lists; the first of the sort's functions, walked. Own text.
import Derived.Below
import Derived.Deep.AppendLies
import Derived.Deep.DeepAppendRoom
import Derived.Laws.Append
import Derived.Laws.AppendOwn
import Derived.WalkKit
import Derived.KernelRfl
import Derived.Lib.Hide
import Derived.IntWalk
import Derived.Deep.LoopGhost
import Derived.StillTailTactics
import Derived.Outline
import Derived.Laws.MakeOwn
import Derived.Laws.OwnMore
import Derived.OwnWalk
import Derived.WalkLawsBesides
import Derived.WalkSpells
import Derived.RegionTactic
import Derived.BigRegion
import Derived.BigQuiet
import Derived.Deep.DeepCutAuto
import Derived.Deep.Draws
import Derived.Maps.AppendAt
import Derived.Laws.BytesArg
import Derived.Deep.OwnRows
import Derived.Tactics
import Derived.Lib.ConvBytes
import Derived.Laws.Slices
import Derived.RowKit3
import Derived.Deep.QuietTactic
import Derived.WideLaws
import Derived.Deep.CutBlock
import Derived.Deep.RegionHeld3
import Derived.Laws.Rows
import Derived.Lib.AppendStr
import Derived.ArgAppend
import Derived.Laws.IdiomCopy
import Derived.OrdersHeld
import Derived.Laws.BitsLemmas
import Derived.RowKit
import Derived.LoopN
import Derived.Laws.CopyOwn
import Derived.Laws.Tables
import Derived.Maps.OwnOps
import Derived.Maps.OwnSet
import Derived.Lib.SliceRun
import Derived.Laws.EntriesVeiled
import Derived.Maps.OwnRows
import Derived.Test.YthkiapcoagjjpaaProg
import Derived.Test.YthkiapcoagjjpaaWWords
import Derived.Test.YthkiapcoagjjpaaWLast
import Derived.Test.YthkiapcoagjjpaaWMore
import Derived.Test.YthkiapcoagjjpaaWAt
import Derived.Test.YthkiapcoagjjpaaZip
namespace Go.Proofs.Ythkiapcoagjjpaa.Suf
open Go.RowKit Go.Proofs.YthkiapcoagjjpaaW.PrintWords Go.Proofs.YthkiapcoagjjpaaW.PrintLast Go.Proofs.YthkiapcoagjjpaaW.PrintMore
set_option linter.unusedVariables false
set_option linter.unusedSimpArgs false
/-! ### the stable sort, as lists: places are moved by their keys; the second number counts comparisons -/
def gt (d : List Int) (i : Nat) : Int := d.getD i 0
def swp (d : List Int) (i j : Nat) : List Int := (d.set i (gt d j)).set j (gt d i)
/-- The inner loop of an insertion: from j downwards. -/
def insIn (key : Int → Int) (a : Nat) : Nat → List Int → List Int × Nat
  | 0, d => (d, 0)
  | j + 1, d => if a < j + 1 then (if key (gt d (j + 1)) < key (gt d j) then ((insIn key a j (swp d (j + 1) j)).1, (insIn key a j (swp d (j + 1) j)).2 + 1) else (d, 1)) else (d, 0)
/-- k rounds of the outer loop, the next one at i. -/
def insOut (key : Int → Int) (a : Nat) : Nat → Nat → List Int → List Int × Nat
  | 0, _, d => (d, 0)
  | k + 1, i, d => ((insOut key a k (i + 1) (insIn key a i d).1).1, (insIn key a i d).2 + (insOut key a k (i + 1) (insIn key a i d).1).2)
def insSort (key : Int → Int) (a b : Nat) (d : List Int) : List Int × Nat := insOut key a (b - (a + 1)) (a + 1) d
/-- A search by halves. -/
def bsr (p : Nat → Bool) : Nat → Nat → Nat → Nat × Nat
  | 0, i, _ => (i, 0)
  | k + 1, i, j => if i < j then (if p ((i + j) / 2) = true then ((bsr p k ((i + j) / 2 + 1) j).1, (bsr p k ((i + j) / 2 + 1) j).2 + 1) else ((bsr p k i ((i + j) / 2)).1, (bsr p k i ((i + j) / 2)).2 + 1)) else (i, 0)
def upF : Nat → Nat → List Int → List Int
  | 0, _, d => d
  | n + 1, k, d => upF n (k + 1) (swp d k (k + 1))
def dnF : Nat → Nat → List Int → List Int
  | 0, _, d => d
  | n + 1, k, d => dnF n (k - 1) (swp d k (k - 1))
def srF : Nat → Nat → Nat → List Int → List Int
  | 0, _, _, d => d
  | n + 1, a, b, d => srF n (a + 1) (b + 1) (swp d a b)
def rtF : Nat → Nat → Nat → Nat → List Int → List Int
  | 0, _, _, _, d => d
  | k + 1, m, i, j, d => if i = j then srF i (m - i) m d else if j < i then rtF k m (i - j) j (srF j (m - i) m d) else rtF k m i (j - i) (srF i (m - i) (m + j - i) d)
def sFst (a m b : Nat) : Nat := if (a + b) / 2 < m then (a + b) / 2 + m - b else a
def sLst (a m b : Nat) : Nat := if (a + b) / 2 < m then (a + b) / 2 else m
/-- Where the merging parts. -/
def sCut (key : Int → Int) (a m b : Nat) (d : List Int) : Nat × Nat := bsr (fun c => decide (¬ key (gt d ((a + b) / 2 + m - 1 - c)) < key (gt d c))) (sLst a m b - sFst a m b) (sFst a m b) (sLst a m b)
/-- The turning between the two parts. -/
def symR (mid m s : Nat) (d : List Int) : List Int := if s < m ∧ m < mid + m - s then rtF (mid + m - s - s) m (m - s) (mid + m - s - m) d else d
def symM (key : Int → Int) : Nat → Nat → Nat → Nat → List Int → List Int × Nat
  | 0, _, _, _, d => (d, 0)
  | k + 1, a, m, b, d =>
    if m - a = 1 then (upF ((bsr (fun h => decide (key (gt d h) < key (gt d a))) (b - m) m b).1 - 1 - a) a d, (bsr (fun h => decide (key (gt d h) < key (gt d a))) (b - m) m b).2)
    else if b - m = 1 then (dnF (m - (bsr (fun h => decide (¬ key (gt d m) < key (gt d h))) (m - a) a m).1) m d, (bsr (fun h => decide (¬ key (gt d m) < key (gt d h))) (m - a) a m).2)
    else
      let r := sCut key a m b d
      let mid := (a + b) / 2
      let e := mid + m - r.1
      let q1 := if a < r.1 ∧ r.1 < mid then symM key k a r.1 mid (symR mid m r.1 d) else (symR mid m r.1 d, 0)
      let q2 := if mid < e ∧ e < b then symM key k mid e b q1.1 else (q1.1, 0)
      (q2.1, r.2 + q1.2 + q2.2)
/-- The first blocks, each sorted by insertion. -/
def blkF (key : Int → Int) : Nat → Nat → Nat → List Int → List Int × Nat
  | 0, _, _, d => (d, 0)
  | k + 1, a, n, d => if a + 20 ≤ n then ((blkF key k (a + 20) n (insSort key a (a + 20) d).1).1, (insSort key a (a + 20) d).2 + (blkF key k (a + 20) n (insSort key a (a + 20) d).1).2) else insSort key a n d
/-- One pass of merging. -/
def mgF (key : Int → Int) (z : Nat) : Nat → Nat → Nat → List Int → List Int × Nat
  | 0, _, _, d => (d, 0)
  | k + 1, a, n, d => if a + 2 * z ≤ n then ((mgF key z k (a + 2 * z) n (symM key (2 * z) a (a + z) (a + 2 * z) d).1).1, (symM key (2 * z) a (a + z) (a + 2 * z) d).2 + (mgF key z k (a + 2 * z) n (symM key (2 * z) a (a + z) (a + 2 * z) d).1).2)
    else if a + z < n then symM key (n - a) a (a + z) n d else (d, 0)
def lvF (key : Int → Int) (n : Nat) : Nat → Nat → List Int → List Int × Nat
  | 0, _, d => (d, 0)
  | k + 1, z, d => if z < n then ((lvF key n k (2 * z) (mgF key z (n + 1) 0 n d).1).1, (mgF key z (n + 1) 0 n d).2 + (lvF key n k (2 * z) (mgF key z (n + 1) 0 n d).1).2) else (d, 0)
def stab (key : Int → Int) (d : List Int) : List Int × Nat :=
  ((lvF key d.length d.length 20 (blkF key (d.length + 1) 0 d.length d).1).1, (blkF key (d.length + 1) 0 d.length d).2 + (lvF key d.length d.length 20 (blkF key (d.length + 1) 0 d.length d).1).2)
/-! ### the stable sort sorts, and how often it compares -/
/-- The same entries, moved inside [a, b). -/
structure Mv (a b : Nat) (d d' : List Int) : Prop where
  len : d'.length = d.length
  ex : ∃ f g : Nat → Nat, (∀ x, g (f x) = x) ∧ (∀ x, f (g x) = x) ∧ (∀ x, x < a ∨ b ≤ x → f x = x) ∧ ∀ x, gt d' x = gt d (f x)
theorem Mv.refl (a b : Nat) (d : List Int) : Mv a b d d := ⟨rfl, id, id, fun _ => rfl, fun _ => rfl, fun _ _ => rfl, fun _ => rfl⟩
theorem Mv.trans {a b : Nat} {d d' d'' : List Int} (h : Mv a b d d') (h' : Mv a b d' d'') : Mv a b d d'' := by
  obtain ⟨l, f, g, h1, h2, h3, h4⟩ := h
  obtain ⟨l', f', g', h1', h2', h3', h4'⟩ := h'
  exact ⟨l'.trans l, fun x => f (f' x), fun x => g' (g x), fun x => by simp only [h1, h1'], fun x => by simp only [h2', h2], fun x hx => by simp only [h3' x hx, h3 x hx], fun x => by rw [h4', h4]⟩
theorem Mv.mono {a b a' b' : Nat} {d d' : List Int} (h : Mv a b d d') (ha : a' ≤ a) (hb : b ≤ b') : Mv a' b' d d' := by
  obtain ⟨l, f, g, h1, h2, h3, h4⟩ := h
  exact ⟨l, f, g, h1, h2, fun x hx => h3 x (by omega), h4⟩
theorem Mv.out {a b : Nat} {d d' : List Int} (h : Mv a b d d') {x : Nat} (hx : x < a ∨ b ≤ x) : gt d' x = gt d x := by
  obtain ⟨l, f, g, h1, h2, h3, h4⟩ := h
  rw [h4, h3 x hx]
theorem Mv.inn {a b : Nat} {d d' : List Int} (h : Mv a b d d') {x : Nat} (hx : a ≤ x) (hx2 : x < b) : ∃ y, a ≤ y ∧ y < b ∧ gt d' x = gt d y := by
  obtain ⟨l, f, g, h1, h2, h3, h4⟩ := h
  refine ⟨f x, ?_, ?_, h4 x⟩
  · refine Nat.not_lt.1 fun hh => ?_
    have e := h3 (f x) (.inl hh)
    have e2 : f x = x := by have := congrArg g e; rwa [h1, h1] at this
    omega
  · refine Nat.not_le.1 fun hh => ?_
    have e := h3 (f x) (.inr hh)
    have e2 : f x = x := by have := congrArg g e; rwa [h1, h1] at this
    omega
theorem gt_set (d : List Int) (i x : Nat) (v : Int) (h : i < d.length) : gt (d.set i v) x = if x = i then v else gt d x := by
  unfold gt
  rw [List.getD_eq_getElem?_getD, List.getD_eq_getElem?_getD]
  by_cases e : x = i
  · subst e; rw [List.getElem?_set_self h, if_pos rfl]; rfl
  · rw [List.getElem?_set_ne (fun hh => e hh.symm), if_neg e]
theorem gt_swp (d : List Int) (i j x : Nat) (hi : i < d.length) (hj : j < d.length) : gt (swp d i j) x = if x = j then gt d i else if x = i then gt d j else gt d x := by
  unfold swp
  rw [gt_set _ _ _ _ (by simpa using hj), gt_set _ _ _ _ hi]
theorem swp_len (d : List Int) (i j : Nat) : (swp d i j).length = d.length := by simp [swp]
def tp (i j x : Nat) : Nat := if x = j then i else if x = i then j else x
theorem tp_tp (i j x : Nat) : tp i j (tp i j x) = x := by
  unfold tp
  by_cases h1 : x = j
  · rw [if_pos h1]
    by_cases h2 : i = j
    · rw [if_pos h2]; omega
    · rw [if_neg h2, if_pos rfl]; exact h1.symm
  · rw [if_neg h1]
    by_cases h2 : x = i
    · rw [if_pos h2, if_pos rfl]; exact h2.symm
    · rw [if_neg h2, if_neg h1, if_neg h2]
theorem Mv.swp {a b : Nat} {d : List Int} {i j : Nat} (hi : a ≤ i ∧ i < b) (hj : a ≤ j ∧ j < b) (hb : b ≤ d.length) : Mv a b d (swp d i j) := by
  refine ⟨swp_len _ _ _, tp i j, tp i j, tp_tp i j, tp_tp i j, fun x hx => ?_, fun x => ?_⟩
  · unfold tp
    rw [if_neg (by omega), if_neg (by omega)]
  · rw [gt_swp _ _ _ _ (by omega) (by omega)]
    unfold tp
    split
    · rfl
    · split <;> rfl
def Srt (key : Int → Int) (a b : Nat) (d : List Int) : Prop := ∀ x y, a ≤ x → x < y → y < b → key (gt d x) ≤ key (gt d y)
/-! insertion -/
theorem insIn_ok (key : Int → Int) (a e : Nat) : ∀ (j : Nat) (d : List Int), a ≤ j → j < e → e ≤ d.length → (∀ x y, a ≤ x → x < y → y < e → y ≠ j → key (gt d x) ≤ key (gt d y)) →
    Srt key a e (insIn key a j d).1 ∧ Mv a e d (insIn key a j d).1 ∧ (insIn key a j d).2 ≤ j - a
  | 0, d, ha, he, hl, h => by
    refine ⟨fun x y h1 h2 h3 => h x y h1 h2 h3 (by omega), Mv.refl _ _ _, Nat.zero_le _⟩
  | j + 1, d, ha, he, hl, h => by
    unfold insIn
    by_cases h1 : a < j + 1
    · rw [if_pos h1]
      by_cases h2 : key (gt d (j + 1)) < key (gt d j)
      · rw [if_pos h2]
        have g1 : gt (swp d (j + 1) j) j = gt d (j + 1) := by rw [gt_swp _ _ _ _ (by omega) (by omega), if_pos rfl]
        have g2 : gt (swp d (j + 1) j) (j + 1) = gt d j := by rw [gt_swp _ _ _ _ (by omega) (by omega), if_neg (by omega), if_pos rfl]
        have g3 : ∀ x, x ≠ j → x ≠ j + 1 → gt (swp d (j + 1) j) x = gt d x := fun x h1 h2 => by rw [gt_swp _ _ _ _ (by omega) (by omega), if_neg h1, if_neg h2]
        obtain ⟨q1, q2, q3⟩ := insIn_ok key a e j (swp d (j + 1) j) (by omega) (by omega) (by rw [swp_len]; exact hl) (fun x y h3 h4 h5 h6 => by
          by_cases e1 : y = j + 1
          · rw [e1, g2]
            by_cases e2 : x = j
            · rw [e2, g1]; omega
            · rw [g3 x e2 (by omega)]
              exact h x j h3 (by omega) (by omega) (by omega)
          · rw [g3 y h6 e1]
            by_cases e2 : x = j
            · rw [e2, g1]
              exact h (j + 1) y (by omega) (by omega) h5 e1
            · by_cases e3 : x = j + 1
              · rw [e3, g2]
                exact h j y (by omega) (by omega) h5 e1
              · rw [g3 x e2 e3]
                exact h x y h3 h4 h5 e1)
        refine ⟨q1, (Mv.swp (by omega) (by omega) hl).trans q2, ?_⟩
        show (insIn key a j (swp d (j + 1) j)).2 + 1 ≤ _
        omega
      · rw [if_neg h2]
        refine ⟨fun x y h3 h4 h5 => ?_, Mv.refl _ _ _, by show 1 ≤ _; omega⟩
        by_cases e1 : y = j + 1
        · subst e1
          by_cases e2 : x = j
          · rw [e2]; show key (gt d j) ≤ key (gt d (j + 1)); omega
          · have := h x j h3 (by omega) (by omega) (by omega)
            show key (gt d x) ≤ key (gt d (j + 1))
            omega
        · exact h x y h3 h4 h5 e1
    · rw [if_neg h1]
      exact ⟨fun x y h3 h4 h5 => h x y h3 h4 h5 (by omega), Mv.refl _ _ _, Nat.zero_le _⟩
theorem Srt.mono {key : Int → Int} {a b a' b' : Nat} {d : List Int} (h : Srt key a b d) (ha : a ≤ a') (hb : b' ≤ b) : Srt key a' b' d := fun x y h1 h2 h3 => h x y (by omega) h2 (by omega)
/-- Comparisons of an insertion sort of so many. -/
def tri : Nat → Nat → Nat
  | 0, _ => 0
  | k + 1, i => i + tri k (i + 1)
theorem insOut_ok (key : Int → Int) (a : Nat) : ∀ (k i : Nat) (d : List Int), a ≤ i → i + k ≤ d.length → Srt key a i d →
    Srt key a (i + k) (insOut key a k i d).1 ∧ Mv a (i + k) d (insOut key a k i d).1 ∧ (insOut key a k i d).2 ≤ tri k (i - a)
  | 0, i, d, ha, hl, h => ⟨h, Mv.refl _ _ _, Nat.le_refl _⟩
  | k + 1, i, d, ha, hl, h => by
    obtain ⟨p1, p2, p3⟩ := insIn_ok key a (i + 1) i d ha (by omega) (by omega) (fun x y h1 h2 h3 h4 => h x y h1 h2 (by omega))
    obtain ⟨q1, q2, q3⟩ := insOut_ok key a k (i + 1) (insIn key a i d).1 (by omega) (by rw [p2.len]; omega) p1
    unfold insOut
    have e1 : i + 1 + k = i + (k + 1) := by omega
    rw [e1] at q1 q2
    refine ⟨q1, (p2.mono (Nat.le_refl _) (by omega)).trans q2, ?_⟩
    show (insIn key a i d).2 + _ ≤ (i - a) + tri k (i - a + 1)
    have e2 : i + 1 - a = i - a + 1 := by omega
    rw [e2] at q3
    omega
theorem tri_le : ∀ (k i z : Nat), i + k ≤ z → tri k i ≤ k * z
  | 0, _, _, _ => by simp [tri]
  | k + 1, i, z, h => by
    have := tri_le k (i + 1) z (by omega)
    unfold tri
    rw [Nat.succ_mul]
    omega
theorem tri_two : ∀ (k i : Nat), 2 * tri k i = k * (2 * i + k) - k
  | 0, _ => by simp [tri]
  | k + 1, i => by
    have ih := tri_two k (i + 1)
    unfold tri
    rw [Nat.mul_add, ih]
    have e1 : k * (2 * (i + 1) + k) = k * (2 * i + k) + 2 * k := by
      have : 2 * (i + 1) + k = (2 * i + k) + 2 := by omega
      rw [this, Nat.mul_add]; omega
    have e2 : (k + 1) * (2 * i + (k + 1)) = k * (2 * i + k) + k + (2 * i + k + 1) := by
      have : 2 * i + (k + 1) = (2 * i + k) + 1 := by omega
      rw [this, Nat.succ_mul, Nat.mul_add]; omega
    rw [e1, e2]
    have e3 : k ≤ k * (2 * i + k) + 2 * k := by omega
    omega
/-- So many comparisons sort at most twenty. -/
theorem insSort_ok (key : Int → Int) {a b : Nat} {d : List Int} (hb : b ≤ d.length) (h20 : b ≤ a + 20) : Srt key a b (insSort key a b d).1 ∧ Mv a b d (insSort key a b d).1 ∧ (insSort key a b d).2 ≤ 10 * (b - a) := by
  unfold insSort
  by_cases h : a + 1 ≤ b
  · obtain ⟨q1, q2, q3⟩ := insOut_ok key a (b - (a + 1)) (a + 1) d (by omega) (by omega) (fun x y h1 h2 h3 => by omega)
    have e : a + 1 + (b - (a + 1)) = b := by omega
    rw [e] at q1 q2
    refine ⟨q1, q2, ?_⟩
    have e2 : a + 1 - a = 1 := by omega
    rw [e2] at q3
    have h2 := tri_two (b - (a + 1)) 1
    obtain ⟨z, hz⟩ : ∃ z, z = b - (a + 1) := ⟨_, rfl⟩
    rw [← hz] at q3 h2 ⊢
    have h3 : z * (2 * 1 + z) ≤ z * 21 := Nat.mul_le_mul_left _ (by omega)
    omega
  · have e : b - (a + 1) = 0 := by omega
    rw [e]
    exact ⟨fun x y h1 h2 h3 => by omega, Mv.refl _ _ _, Nat.zero_le _⟩
/-! halves -/
def bits (n : Nat) : Nat := if h : n = 0 then 0 else bits (n / 2) + 1
decreasing_by omega
theorem bits_zero : bits 0 = 0 := by rw [bits, dif_pos rfl]
theorem bits_pos {n : Nat} (h : 0 < n) : bits n = bits (n / 2) + 1 := by rw [bits, dif_neg (by omega)]
theorem bits_mono : ∀ (b a : Nat), a ≤ b → bits a ≤ bits b := fun b => by
  induction b using Nat.strongRecOn with
  | _ b ih =>
    intro a hab
    by_cases h : a = 0
    · subst h; rw [bits_zero]; exact Nat.zero_le _
    · rw [bits_pos (n := a) (by omega), bits_pos (n := b) (by omega)]
      have := ih (b / 2) (by omega) (a / 2) (by omega)
      omega
theorem bits_le : ∀ n, bits n ≤ n := fun n => by
  induction n using Nat.strongRecOn with
  | _ n ih =>
    by_cases h : n = 0
    · subst h; rw [bits_zero]; exact Nat.le_refl _
    · rw [bits_pos (by omega)]
      have := ih (n / 2) (by omega)
      omega
theorem bsr_t {p : Nat → Bool} {k i j h : Nat} (hij : i < j) (e : h = (i + j) / 2) (hp : p h = true) : bsr p (k + 1) i j = ((bsr p k (h + 1) j).1, (bsr p k (h + 1) j).2 + 1) := by
  subst e
  rw [bsr, if_pos hij, if_pos hp]
theorem bsr_f {p : Nat → Bool} {k i j h : Nat} (hij : i < j) (e : h = (i + j) / 2) (hp : p h = false) : bsr p (k + 1) i j = ((bsr p k i h).1, (bsr p k i h).2 + 1) := by
  subst e
  rw [bsr, if_pos hij, if_neg (by rw [hp]; decide)]
theorem bsr_ok (p : Nat → Bool) : ∀ (k i j : Nat), i ≤ j → j - i ≤ k → (∀ x y, i ≤ x → x < y → y < j → p y = true → p x = true) →
    i ≤ (bsr p k i j).1 ∧ (bsr p k i j).1 ≤ j ∧ (∀ c, i ≤ c → c < (bsr p k i j).1 → p c = true) ∧ (∀ c, (bsr p k i j).1 ≤ c → c < j → p c = false) ∧ (bsr p k i j).2 ≤ bits (j - i)
  | 0, i, j, h, hk, hm => by
    unfold bsr
    exact ⟨Nat.le_refl _, h, fun c h1 h2 => by dsimp only at h2; omega, fun c h1 h2 => by dsimp only at h1; omega, Nat.zero_le _⟩
  | k + 1, i, j, h, hk, hm => by
    unfold bsr
    by_cases h1 : i < j
    · rw [if_pos h1]
      have hb := bits_pos (n := j - i) (by omega)
      by_cases h2 : p ((i + j) / 2) = true
      · rw [if_pos h2]
        obtain ⟨q1, q2, q3, q4, q5⟩ := bsr_ok p k ((i + j) / 2 + 1) j (by omega) (by omega) (fun x y a b c => hm x y (by omega) b c)
        refine ⟨by dsimp only; omega, q2, fun c a b => ?_, q4, ?_⟩
        · by_cases e : c = (i + j) / 2
          · rw [e]; exact h2
          · by_cases e2 : (i + j) / 2 + 1 ≤ c
            · exact q3 c e2 b
            · exact hm c ((i + j) / 2) a (by omega) (by omega) h2
        · dsimp only
          have := bits_mono ((j - i) / 2) (j - ((i + j) / 2 + 1)) (by omega)
          omega
      · rw [if_neg h2]
        obtain ⟨q1, q2, q3, q4, q5⟩ := bsr_ok p k i ((i + j) / 2) (by omega) (by omega) (fun x y a b c => hm x y (by omega) b (by omega))
        refine ⟨q1, by dsimp only; omega, q3, fun c a b => ?_, ?_⟩
        · by_cases e2 : c < (i + j) / 2
          · exact q4 c a e2
          · cases hc : p c
            · rfl
            · by_cases e : c = (i + j) / 2
              · rw [e] at hc; exact absurd hc h2
              · exact absurd (hm ((i + j) / 2) c (by omega) (by omega) b hc) h2
        · dsimp only
          have e : (i + j) / 2 - i = (j - i) / 2 := by omega
          rw [e] at q5
          omega
    · rw [if_neg h1]
      exact ⟨Nat.le_refl _, h, fun c h1 h2 => by dsimp only at h2; omega, fun c h1 h2 => by dsimp only at h1; omega, Nat.zero_le _⟩
/-! shifts and turnings -/
theorem upF_ok : ∀ (n k : Nat) (d : List Int), k + n < d.length → Mv k (k + n + 1) d (upF n k d) ∧ ∀ x, gt (upF n k d) x = if k ≤ x ∧ x < k + n then gt d (x + 1) else if x = k + n then gt d k else gt d x
  | 0, k, d, h => ⟨Mv.refl _ _ _, fun x => by
    show gt d x = _
    rw [if_neg (by omega)]
    split
    · rename_i e; rw [e]; rfl
    · rfl⟩
  | n + 1, k, d, h => by
    obtain ⟨q1, q2⟩ := upF_ok n (k + 1) (swp d k (k + 1)) (by rw [swp_len]; omega)
    refine ⟨(Mv.swp (by omega) (by omega) (by omega)).trans (q1.mono (by omega) (by omega)), fun x => ?_⟩
    show gt (upF n (k + 1) (swp d k (k + 1))) x = _
    rw [q2]
    have hg := fun x => gt_swp d k (k + 1) x (by omega) (by omega)
    rw [hg, hg, hg]
    by_cases c1 : k + 1 ≤ x ∧ x < k + 1 + n
    · rw [if_pos c1, if_neg (by omega), if_neg (by omega), if_pos (by omega)]
    · rw [if_neg c1]
      by_cases c2 : x = k + 1 + n
      · rw [if_pos c2, if_pos rfl, if_neg (by omega), if_pos (by omega)]
      · rw [if_neg c2]
        by_cases c3 : x = k + 1
        · omega
        · rw [if_neg c3]
          by_cases c4 : x = k
          · rw [if_pos c4, if_pos (by omega), c4]
          · rw [if_neg c4, if_neg (by omega), if_neg (by omega)]
theorem dnF_ok : ∀ (n k : Nat) (d : List Int), n ≤ k → k < d.length → Mv (k - n) (k + 1) d (dnF n k d) ∧ ∀ x, gt (dnF n k d) x = if x = k - n then gt d k else if k - n < x ∧ x ≤ k then gt d (x - 1) else gt d x
  | 0, k, d, h, hl => ⟨Mv.refl _ _ _, fun x => by
    show gt d x = _
    split
    · rename_i e; rw [e]; rfl
    · rw [if_neg (by omega)]⟩
  | n + 1, k, d, h, hl => by
    obtain ⟨q1, q2⟩ := dnF_ok n (k - 1) (swp d k (k - 1)) (by omega) (by rw [swp_len]; omega)
    refine ⟨(Mv.swp (by omega) (by omega) (by omega)).trans (q1.mono (by omega) (by omega)), fun x => ?_⟩
    show gt (dnF n (k - 1) (swp d k (k - 1))) x = _
    rw [q2]
    have hg := fun x => gt_swp d k (k - 1) x (by omega) (by omega)
    rw [hg, hg, hg]
    repeat' split
    all_goals first | rfl | (congr 1; omega) | (exfalso; omega) | (subst_vars; rfl) | skip
theorem srF_ok : ∀ (n a b : Nat) (d : List Int), a + n ≤ b → b + n ≤ d.length → Mv a (b + n) d (srF n a b d) ∧ ∀ x, gt (srF n a b d) x = if a ≤ x ∧ x < a + n then gt d (x + (b - a)) else if b ≤ x ∧ x < b + n then gt d (x - (b - a)) else gt d x
  | 0, a, b, d, h, hl => ⟨Mv.refl _ _ _, fun x => by
    show gt d x = _
    rw [if_neg (by omega), if_neg (by omega)]⟩
  | n + 1, a, b, d, h, hl => by
    obtain ⟨q1, q2⟩ := srF_ok n (a + 1) (b + 1) (swp d a b) (by omega) (by rw [swp_len]; omega)
    refine ⟨(Mv.swp (by omega) (by omega) (by omega)).trans (q1.mono (by omega) (by omega)), fun x => ?_⟩
    show gt (srF n (a + 1) (b + 1) (swp d a b)) x = _
    rw [q2]
    have hg := fun x => gt_swp d a b x (by omega) (by omega)
    rw [hg, hg, hg]
    by_cases c1 : a + 1 ≤ x ∧ x < a + 1 + n
    · rw [if_pos c1, if_neg (by omega), if_neg (by omega), if_pos (by omega)]
      congr 1; omega
    · rw [if_neg c1]
      by_cases c2 : b + 1 ≤ x ∧ x < b + 1 + n
      · rw [if_pos c2, if_neg (by omega), if_neg (by omega), if_neg (by omega), if_pos (by omega)]
        congr 1; omega
      · rw [if_neg c2]
        by_cases c3 : x = b
        · rw [if_pos c3, if_neg (by omega), if_pos (by omega)]
          congr 1; omega
        · rw [if_neg c3]
          by_cases c4 : x = a
          · rw [if_pos c4, if_pos (by omega)]
            congr 1; omega
          · rw [if_neg c4, if_neg (by omega), if_neg (by omega)]
theorem rtF_ok : ∀ (k m i j : Nat) (d : List Int), 0 < i → 0 < j → i ≤ m → m + j ≤ d.length → i + j ≤ k → Mv (m - i) (m + j) d (rtF k m i j d) ∧
    ∀ x, gt (rtF k m i j d) x = if x < m - i then gt d x else if x < m - i + j then gt d (x + i) else if x < m + j then gt d (x - j) else gt d x
  | 0, m, i, j, d, hi, hj, him, hl, hk => by omega
  | k + 1, m, i, j, d, hi, hj, him, hl, hk => by
    unfold rtF
    by_cases c1 : i = j
    · subst c1
      rw [if_pos rfl]
      obtain ⟨q1, q2⟩ := srF_ok i (m - i) m d (by omega) (by omega)
      refine ⟨q1, fun x => ?_⟩
      rw [q2]
      by_cases b1 : x < m - i
      · rw [if_neg (by omega), if_neg (by omega), if_pos b1]
      · rw [if_neg b1]
        by_cases b2 : x < m - i + i
        · rw [if_pos (by omega), if_pos b2]; congr 1; omega
        · rw [if_neg (by omega), if_neg b2]
          by_cases b3 : x < m + i
          · rw [if_pos (by omega), if_pos b3]; congr 1; omega
          · rw [if_neg (by omega), if_neg b3]
    · rw [if_neg c1]
      by_cases c2 : j < i
      · rw [if_pos c2]
        obtain ⟨p1, p2⟩ := srF_ok j (m - i) m d (by omega) (by omega)
        obtain ⟨q1, q2⟩ := rtF_ok k m (i - j) j (srF j (m - i) m d) (by omega) hj (by omega) (by rw [p1.len]; omega) (by omega)
        refine ⟨p1.trans (q1.mono (by omega) (by omega)), fun x => ?_⟩
        rw [q2, p2, p2, p2]
        repeat' split
        all_goals first | rfl | (congr 1; omega) | (exfalso; omega)
      · rw [if_neg c2]
        obtain ⟨p1, p2⟩ := srF_ok i (m - i) (m + j - i) d (by omega) (by omega)
        have e9 : m + j - i + i = m + j := by omega
        rw [e9] at p1 p2
        obtain ⟨q1, q2⟩ := rtF_ok k m i (j - i) (srF i (m - i) (m + j - i) d) hi (by omega) (by omega) (by rw [p1.len]; omega) (by omega)
        refine ⟨p1.trans (q1.mono (by omega) (by omega)), fun x => ?_⟩
        rw [q2, p2, p2, p2]
        repeat' split
        all_goals first | rfl | (congr 1; omega) | (exfalso; omega)
/-! merging -/
theorem symR_ok {a m b : Nat} {d : List Int} {s : Nat} (ham : a < m) (hmb : m < b) (hb : b ≤ d.length) (hs1 : a ≤ s) (hs2 : s ≤ m) (hs3 : s ≤ (a + b) / 2) (hs4 : (a + b) / 2 + m ≤ b + s) :
    Mv a b d (symR ((a + b) / 2) m s d) ∧ ∀ x, gt (symR ((a + b) / 2) m s d) x = if x < s then gt d x else if x < (a + b) / 2 then gt d (x + (m - s)) else if x < (a + b) / 2 + m - s then gt d (x - ((a + b) / 2 - s)) else gt d x := by
  generalize (a + b) / 2 = mid at *
  unfold symR
  by_cases h : s < m ∧ m < mid + m - s
  · rw [if_pos h]
    obtain ⟨q1, q2⟩ := rtF_ok (mid + m - s - s) m (m - s) (mid + m - s - m) d (by omega) (by omega) (by omega) (by omega) (by omega)
    refine ⟨q1.mono (by omega) (by omega), fun x => ?_⟩
    rw [q2]
    repeat' split
    all_goals first | rfl | (congr 1; omega) | (exfalso; omega)
  · rw [if_neg h]
    refine ⟨Mv.refl _ _ _, fun x => ?_⟩
    repeat' split
    all_goals first | rfl | (congr 1; omega) | (exfalso; omega)
theorem sCut_ok (key : Int → Int) {a m b : Nat} {d : List Int} (ham : a < m) (hmb : m < b) (h1 : Srt key a m d) (h2 : Srt key m b d) :
    a ≤ (sCut key a m b d).1 ∧ (sCut key a m b d).1 ≤ m ∧ (sCut key a m b d).1 ≤ (a + b) / 2 ∧ (a + b) / 2 + m ≤ b + (sCut key a m b d).1 ∧ (sCut key a m b d).2 ≤ bits ((b - a) / 2) ∧
      (∀ c, a ≤ c → c < (sCut key a m b d).1 → (a + b) / 2 + m - 1 - c < b → key (gt d c) ≤ key (gt d ((a + b) / 2 + m - 1 - c))) ∧
      (∀ c, (sCut key a m b d).1 ≤ c → c < m → c < (a + b) / 2 → key (gt d ((a + b) / 2 + m - 1 - c)) < key (gt d c)) := by
  obtain ⟨st, hst⟩ : ∃ st, st = sFst a m b := ⟨_, rfl⟩
  obtain ⟨r, hr⟩ : ∃ r, r = sLst a m b := ⟨_, rfl⟩
  have e : (sCut key a m b d) = bsr (fun c => decide (¬ key (gt d ((a + b) / 2 + m - 1 - c)) < key (gt d c))) (r - st) st r := by rw [hst, hr]; rfl
  rw [e]
  have hb1 : a ≤ st ∧ st ≤ r ∧ r ≤ m ∧ r ≤ (a + b) / 2 ∧ (a + b) / 2 + m ≤ b + st ∧ r - st ≤ (b - a) / 2 ∧ (∀ c, c < m → c < (a + b) / 2 → c < r) ∧ (∀ c, a ≤ c → (a + b) / 2 + m - 1 - c < b → st ≤ c) := by
    unfold sFst at hst
    unfold sLst at hr
    by_cases hm : (a + b) / 2 < m
    · rw [if_pos hm] at hst hr
      exact ⟨by omega, by omega, by omega, by omega, by omega, by omega, fun c _ _ => by omega, fun c _ _ => by omega⟩
    · rw [if_neg hm] at hst hr
      exact ⟨by omega, by omega, by omega, by omega, by omega, by omega, fun c _ _ => by omega, fun c _ _ => by omega⟩
  clear e hst hr
  obtain ⟨b1, b2, b3, b4, b5, b6, b7, b8⟩ := hb1
  generalize (a + b) / 2 = mid at *
  obtain ⟨q1, q2, q3, q4, q5⟩ := bsr_ok (fun c => decide (¬ key (gt d (mid + m - 1 - c)) < key (gt d c))) (r - st) st r b2 (Nat.le_refl _) (fun x y c1 c2 c3 h => by
    have h := of_decide_eq_true h
    refine decide_eq_true ?_
    have l1 : key (gt d x) ≤ key (gt d y) := h1 x y (by omega) c2 (by omega)
    have l2 : key (gt d (mid + m - 1 - y)) ≤ key (gt d (mid + m - 1 - x)) := h2 _ _ (by omega) (by omega) (by omega)
    omega)
  refine ⟨by omega, by omega, by omega, by omega, Nat.le_trans q5 (bits_mono _ _ b6), fun c c1 c2 c3 => ?_, fun c c1 c2 c3 => ?_⟩
  · have := of_decide_eq_true (q3 c (b8 c c1 c3) c2)
    omega
  · have := of_decide_eq_false (q4 c c1 (b7 c c2 c3))
    exact Classical.not_not.1 this
theorem bits_two {n : Nat} (h : 0 < n) : bits n + 1 ≤ 2 * n := by have := bits_le n; omega
theorem symM_ok (key : Int → Int) : ∀ (k a m b : Nat) (d : List Int), a < m → m < b → b ≤ d.length → b - a ≤ k → Srt key a m d → Srt key m b d →
    Srt key a b (symM key k a m b d).1 ∧ Mv a b d (symM key k a m b d).1 ∧ (symM key k a m b d).2 + bits (b - a) + 1 ≤ 2 * (b - a)
  | 0, a, m, b, d, ham, hmb, hb, hk, h1, h2 => by omega
  | k + 1, a, m, b, d, ham, hmb, hb, hk, h1, h2 => by
    unfold symM
    by_cases c1 : m - a = 1
    · rw [if_pos c1]
      obtain rfl : m = a + 1 := by omega
      obtain ⟨q1, q2, q3, q4, q5⟩ := bsr_ok (fun h => decide (key (gt d h) < key (gt d a))) (b - (a + 1)) (a + 1) b (by omega) (by omega) (fun x y c1 c2 c3 h => by
        have h := of_decide_eq_true h
        have := h2 x y c1 c2 c3
        exact decide_eq_true (by omega))
      generalize bsr (fun h => decide (key (gt d h) < key (gt d a))) (b - (a + 1)) (a + 1) b = r at *
      obtain ⟨s, n⟩ := r
      dsimp only at *
      obtain ⟨p1, p2⟩ := upF_ok (s - 1 - a) a d (by omega)
      refine ⟨fun x y g1 g2 g3 => ?_, p1.mono (Nat.le_refl _) (by omega), ?_⟩
      · rw [p2, p2]
        by_cases e1 : y < s - 1
        · rw [if_pos (by omega), if_pos (by omega)]
          exact h2 (x + 1) (y + 1) (by omega) (by omega) (by omega)
        · by_cases e2 : y = s - 1
          · rw [if_pos (by omega), if_neg (by omega), if_pos (by omega)]
            have := of_decide_eq_true (q3 (x + 1) (by omega) (by omega))
            omega
          · have hy : gt d y = (if a ≤ y ∧ y < a + (s - 1 - a) then gt d (y + 1) else if y = a + (s - 1 - a) then gt d a else gt d y) := by rw [if_neg (by omega), if_neg (by omega)]
            rw [← hy]
            by_cases e3 : x < s - 1
            · rw [if_pos (by omega)]
              by_cases e4 : x + 1 < y
              · exact h2 (x + 1) y (by omega) e4 g3
              · omega
            · by_cases e4 : x = s - 1
              · rw [if_neg (by omega), if_pos (by omega)]
                have := of_decide_eq_false (q4 y (by omega) g3)
                omega
              · rw [if_neg (by omega), if_neg (by omega)]
                exact h2 x y (by omega) g2 g3
      · have l1 := bits_le (b - a)
        have l2 := bits_le (b - (a + 1))
        omega
    · rw [if_neg c1]
      by_cases c2 : b - m = 1
      · rw [if_pos c2]
        obtain rfl : b = m + 1 := by omega
        obtain ⟨q1, q2, q3, q4, q5⟩ := bsr_ok (fun h => decide (¬ key (gt d m) < key (gt d h))) (m - a) a m (by omega) (by omega) (fun x y c1 c2 c3 h => by
          have h := of_decide_eq_true h
          have := h1 x y c1 c2 c3
          exact decide_eq_true (by omega))
        generalize bsr (fun h => decide (¬ key (gt d m) < key (gt d h))) (m - a) a m = r at *
        obtain ⟨s, n⟩ := r
        dsimp only at *
        obtain ⟨p1, p2⟩ := dnF_ok (m - s) m d (by omega) (by omega)
        have e0 : m - (m - s) = s := by omega
        rw [e0] at p1 p2
        refine ⟨fun x y g1 g2 g3 => ?_, p1.mono (by omega) (by omega), ?_⟩
        · rw [p2, p2]
          by_cases e1 : y < s
          · rw [if_neg (by omega), if_neg (by omega), if_neg (by omega), if_neg (by omega)]
            exact h1 x y g1 g2 (by omega)
          · by_cases e2 : y = s
            · rw [if_neg (by omega), if_neg (by omega), if_pos e2]
              have := of_decide_eq_true (q3 x g1 (by omega))
              omega
            · have hy : gt d (y - 1) = (if y = s then gt d m else if s < y ∧ y ≤ m then gt d (y - 1) else gt d y) := by rw [if_neg e2, if_pos (by omega)]
              rw [← hy]
              by_cases e3 : x = s
              · rw [if_pos e3]
                have := of_decide_eq_false (q4 (y - 1) (by omega) (by omega))
                omega
              · rw [if_neg e3]
                by_cases e4 : s < x ∧ x ≤ m
                · rw [if_pos e4]
                  exact h1 (x - 1) (y - 1) (by omega) (by omega) (by omega)
                · rw [if_neg e4]
                  by_cases e5 : x < y - 1
                  · exact h1 x (y - 1) g1 e5 (by omega)
                  · have e6 : x = y - 1 := by omega
                    rw [e6]; exact Int.le_refl _
        · have l1 := bits_le (m + 1 - a)
          have l2 := bits_le (m - a)
          omega
      · rw [if_neg c2]
        obtain ⟨s1, s2, s3, s4, s5, s6, s7⟩ := sCut_ok key ham hmb h1 h2
        dsimp only
        generalize sCut key a m b d = r at *
        obtain ⟨s, n⟩ := r
        dsimp only at *
        obtain ⟨r1, r2⟩ := symR_ok ham hmb hb s1 s2 s3 s4
        generalize symR ((a + b) / 2) m s d = d1 at *
        have hN : (a + b) / 2 - a = (b - a) / 2 := by omega
        have hmid1 : a < (a + b) / 2 := by omega
        have hmid2 : (a + b) / 2 < b := by omega
        have hbits := bits_pos (n := b - a) (by omega)
        have hbits2 := bits_mono (b - (a + b) / 2) ((b - a) / 2) (by omega)
        rw [← hN] at hbits hbits2 s5
        generalize (a + b) / 2 = mid at *
        have v1 : ∀ x, x < s → gt d1 x = gt d x := fun x h => by rw [r2, if_pos h]
        have v2 : ∀ x, s ≤ x → x < mid → gt d1 x = gt d (x + (m - s)) := fun x h h' => by rw [r2, if_neg (by omega), if_pos h']
        have v3 : ∀ x, mid ≤ x → x < mid + m - s → gt d1 x = gt d (x - (mid - s)) := fun x h h' => by rw [r2, if_neg (by omega), if_neg (by omega), if_pos h']
        have v4 : ∀ x, mid + m - s ≤ x → gt d1 x = gt d x := fun x h => by rw [r2, if_neg (by omega), if_neg (by omega), if_neg (by omega)]
        have t1 : Srt key a s d1 := fun x y g1 g2 g3 => by rw [v1 x (by omega), v1 y g3]; exact h1 x y g1 g2 (by omega)
        have t2 : Srt key s mid d1 := fun x y g1 g2 g3 => by rw [v2 x g1 (by omega), v2 y (by omega) g3]; exact h2 _ _ (by omega) (by omega) (by omega)
        have t3 : Srt key mid (mid + m - s) d1 := fun x y g1 g2 g3 => by rw [v3 x g1 (by omega), v3 y (by omega) g3]; exact h1 _ _ (by omega) (by omega) (by omega)
        have t4 : Srt key (mid + m - s) b d1 := fun x y g1 g2 g3 => by rw [v4 x g1, v4 y (by omega)]; exact h2 x y (by omega) g2 g3
        have le1 : ∀ x y, a ≤ x → x ≤ y → y < m → key (gt d x) ≤ key (gt d y) := fun x y g1 g2 g3 => by
          by_cases e : x = y
          · rw [e]; exact Int.le_refl _
          · exact h1 x y g1 (by omega) g3
        have le2 : ∀ x y, m ≤ x → x ≤ y → y < b → key (gt d x) ≤ key (gt d y) := fun x y g1 g2 g3 => by
          by_cases e : x = y
          · rw [e]; exact Int.le_refl _
          · exact h2 x y g1 (by omega) g3
        have cross : ∀ x y, a ≤ x → x < mid → mid ≤ y → y < b → key (gt d1 x) ≤ key (gt d1 y) := fun x y g1 g2 g3 g4 => by
          by_cases e1 : x < s
          · rw [v1 x e1]
            have l1 : key (gt d x) ≤ key (gt d (s - 1)) := le1 x (s - 1) g1 (by omega) (by omega)
            by_cases e2 : y < mid + m - s
            · rw [v3 y g3 e2]
              exact le1 _ _ g1 (by omega) (by omega)
            · rw [v4 y (by omega)]
              have l2 := s6 (s - 1) (by omega) (by omega) (by omega)
              have l3 : key (gt d (mid + m - 1 - (s - 1))) ≤ key (gt d y) := le2 _ _ (by omega) (by omega) g4
              omega
          · rw [v2 x (by omega) g2]
            have l1 : key (gt d (x + (m - s))) ≤ key (gt d (mid + m - 1 - s)) := le2 _ _ (by omega) (by omega) (by omega)
            by_cases e2 : y < mid + m - s
            · rw [v3 y g3 e2]
              have l2 := s7 s (Nat.le_refl _) (by omega) (by omega)
              have l3 : key (gt d s) ≤ key (gt d (y - (mid - s))) := le1 _ _ s1 (by omega) (by omega)
              omega
            · rw [v4 y (by omega)]
              exact le2 _ _ (by omega) (by omega) g4
        obtain ⟨q1, hq1⟩ : ∃ q1, q1 = (if a < s ∧ s < mid then symM key k a s mid d1 else (d1, 0)) := ⟨_, rfl⟩
        have u1 : Srt key a mid q1.1 ∧ Mv a mid d1 q1.1 ∧ q1.2 + bits (mid - a) + 1 ≤ 2 * (mid - a) := by
          rw [hq1]
          by_cases e : a < s ∧ s < mid
          · rw [if_pos e]
            exact symM_ok key k a s mid d1 e.1 e.2 (by rw [r1.len]; omega) (by omega) t1 t2
          · rw [if_neg e]
            refine ⟨fun x y g1 g2 g3 => ?_, Mv.refl _ _ _, by have := bits_two (n := mid - a) (by omega); dsimp only; omega⟩
            by_cases e2 : a < s
            · exact t1 x y g1 g2 (by omega)
            · exact t2 x y (by omega) g2 g3
        rw [← hq1]
        clear hq1
        obtain ⟨w1, w2, w3⟩ := u1
        have t3' : Srt key mid (mid + m - s) q1.1 := fun x y g1 g2 g3 => by rw [w2.out (.inr g1), w2.out (.inr (by omega))]; exact t3 x y g1 g2 g3
        have t4' : Srt key (mid + m - s) b q1.1 := fun x y g1 g2 g3 => by rw [w2.out (.inr (by omega)), w2.out (.inr (by omega))]; exact t4 x y g1 g2 g3
        obtain ⟨q2, hq2⟩ : ∃ q2, q2 = (if mid < mid + m - s ∧ mid + m - s < b then symM key k mid (mid + m - s) b q1.1 else (q1.1, 0)) := ⟨_, rfl⟩
        have u2 : Srt key mid b q2.1 ∧ Mv mid b q1.1 q2.1 ∧ q2.2 + bits (b - mid) + 1 ≤ 2 * (b - mid) := by
          rw [hq2]
          by_cases e : mid < mid + m - s ∧ mid + m - s < b
          · rw [if_pos e]
            exact symM_ok key k mid (mid + m - s) b q1.1 e.1 e.2 (by rw [w2.len, r1.len]; omega) (by omega) t3' t4'
          · rw [if_neg e]
            refine ⟨fun x y g1 g2 g3 => ?_, Mv.refl _ _ _, by have := bits_two (n := b - mid) (by omega); dsimp only; omega⟩
            by_cases e2 : mid < mid + m - s
            · exact t3' x y g1 g2 (by omega)
            · exact t4' x y (by omega) g2 g3
        rw [← hq2]
        clear hq2
        obtain ⟨z1, z2, z3⟩ := u2
        refine ⟨fun x y g1 g2 g3 => ?_, (r1.trans (w2.mono (Nat.le_refl _) (by omega))).trans (z2.mono (by omega) (Nat.le_refl _)), by omega⟩
        by_cases e1 : y < mid
        · rw [z2.out (.inl e1), z2.out (.inl (by omega))]
          exact w1 x y g1 g2 e1
        · by_cases e2 : mid ≤ x
          · exact z1 x y e2 g2 g3
          · rw [z2.out (.inl (by omega))]
            obtain ⟨x', i1, i2, i3⟩ := w2.inn g1 (by omega)
            obtain ⟨y', j1, j2, j3⟩ := z2.inn (x := y) (by omega) g3
            rw [i3, j3, w2.out (.inr j1)]
            exact cross x' y' i1 i2 j1 j2
/-! the whole -/
theorem Srt.ge {key : Int → Int} {a b : Nat} {d : List Int} (h : b ≤ a + 1) : Srt key a b d := fun x y h1 h2 h3 => by omega
theorem Srt.out {key : Int → Int} {a b a' b' : Nat} {d d' : List Int} (h : Srt key a b d) (hm : Mv a' b' d d') (ho : b ≤ a' ∨ b' ≤ a) : Srt key a b d' := fun x y h1 h2 h3 => by
  rw [hm.out (by omega), hm.out (by omega)]
  exact h x y h1 h2 h3
theorem blkF_ok (key : Int → Int) (n : Nat) : ∀ (k s : Nat) (d : List Int), n = d.length → s * 20 ≤ n → n < s * 20 + k * 20 →
    (∀ q, s ≤ q → Srt key (q * 20) (min (q * 20 + 20) n) (blkF key k (s * 20) n d).1) ∧ Mv (s * 20) n d (blkF key k (s * 20) n d).1 ∧ (blkF key k (s * 20) n d).2 ≤ 10 * (n - s * 20)
  | 0, s, d, hn, hs, hk => by omega
  | k + 1, s, d, hn, hs, hk => by
    unfold blkF
    by_cases h : s * 20 + 20 ≤ n
    · rw [if_pos h]
      obtain ⟨p1, p2, p3⟩ := insSort_ok key (a := s * 20) (b := s * 20 + 20) (d := d) (by omega) (by omega)
      have e : s * 20 + 20 = (s + 1) * 20 := by omega
      obtain ⟨q1, q2, q3⟩ := blkF_ok key n k (s + 1) (insSort key (s * 20) (s * 20 + 20) d).1 (by rw [p2.len]; exact hn) (by omega) (by omega)
      rw [← e] at q1 q2 q3
      refine ⟨fun q hq => ?_, (p2.mono (by omega) (by omega)).trans (q2.mono (by omega) (by omega)), ?_⟩
      · by_cases e2 : q = s
        · subst e2
          have : min (q * 20 + 20) n = q * 20 + 20 := by omega
          rw [this]
          exact p1.out q2 (.inl (by omega))
        · exact q1 q (by omega)
      · dsimp only
        omega
    · rw [if_neg h]
      obtain ⟨p1, p2, p3⟩ := insSort_ok key (a := s * 20) (b := n) (d := d) (by omega) (by omega)
      refine ⟨fun q hq => ?_, p2, p3⟩
      by_cases e2 : q = s
      · subst e2
        have : min (q * 20 + 20) n = n := by omega
        rw [this]
        exact p1
      · exact Srt.ge (by omega)
theorem mgF_ok (key : Int → Int) (z n : Nat) (hz : 0 < z) : ∀ (k s : Nat) (d : List Int), n = d.length → n < s * (2 * z) + k * (2 * z) →
    (∀ q, 2 * s ≤ q → Srt key (q * z) (min (q * z + z) n) d) →
    (∀ q, s ≤ q → Srt key (q * (2 * z)) (min (q * (2 * z) + 2 * z) n) (mgF key z k (s * (2 * z)) n d).1) ∧ Mv (s * (2 * z)) n d (mgF key z k (s * (2 * z)) n d).1 ∧ (mgF key z k (s * (2 * z)) n d).2 ≤ 2 * (n - s * (2 * z))
  | 0, s, d, hn, hk, hS => by
    refine ⟨fun q hq => Srt.ge ?_, Mv.refl _ _ _, Nat.zero_le _⟩
    have := Nat.mul_le_mul_right (2 * z) hq
    omega
  | k + 1, s, d, hn, hk, hS => by
    have e0 : (2 * s) * z = s * (2 * z) := by rw [Nat.mul_comm 2 s, Nat.mul_assoc]
    have e1 : (2 * s + 1) * z = s * (2 * z) + z := by rw [Nat.succ_mul, e0]
    have e2 : (s + 1) * (2 * z) = s * (2 * z) + 2 * z := Nat.succ_mul _ _
    have e3 : (k + 1) * (2 * z) = k * (2 * z) + 2 * z := Nat.succ_mul _ _
    have big : ∀ q, s + 1 ≤ q → s * (2 * z) + 2 * z ≤ q * (2 * z) := fun q hq => by rw [← e2]; exact Nat.mul_le_mul_right _ hq
    have s0 := hS (2 * s) (Nat.le_refl _)
    have s1 := hS (2 * s + 1) (by omega)
    rw [e0] at s0
    rw [e1] at s1
    unfold mgF
    by_cases h : s * (2 * z) + 2 * z ≤ n
    · rw [if_pos h]
      have m0 : min (s * (2 * z) + z) n = s * (2 * z) + z := by omega
      have m1 : min (s * (2 * z) + z + z) n = s * (2 * z) + 2 * z := by omega
      rw [m0] at s0
      rw [m1] at s1
      obtain ⟨p1, p2, p3⟩ := symM_ok key (2 * z) (s * (2 * z)) (s * (2 * z) + z) (s * (2 * z) + 2 * z) d (by omega) (by omega) (by omega) (by omega) s0 s1
      generalize symM key (2 * z) (s * (2 * z)) (s * (2 * z) + z) (s * (2 * z) + 2 * z) d = r at *
      obtain ⟨q1, q2, q3⟩ := mgF_ok key z n hz k (s + 1) r.1 (by rw [p2.len]; exact hn) (by omega) (fun q hq => by
        have hq2 : s * (2 * z) + 2 * z ≤ q * z := by
          have := Nat.mul_le_mul_right z hq
          have e4 : 2 * (s + 1) * z = s * (2 * z) + 2 * z := by rw [Nat.mul_comm 2 (s + 1), Nat.mul_assoc, e2]
          omega
        exact (hS q (by omega)).out p2 (.inr hq2))
      rw [e2] at q1 q2 q3
      refine ⟨fun q hq => ?_, (p2.mono (Nat.le_refl _) h).trans (q2.mono (by omega) (Nat.le_refl _)), by dsimp only; omega⟩
      by_cases e : q = s
      · subst e
        have : min (q * (2 * z) + 2 * z) n = q * (2 * z) + 2 * z := by omega
        rw [this]
        exact p1.out q2 (.inl (Nat.le_refl _))
      · exact q1 q (by omega)
    · rw [if_neg h]
      have mn : min (s * (2 * z) + 2 * z) n = n := by omega
      by_cases h2 : s * (2 * z) + z < n
      · rw [if_pos h2]
        have m0 : min (s * (2 * z) + z) n = s * (2 * z) + z := by omega
        have m1 : min (s * (2 * z) + z + z) n = n := by omega
        rw [m0] at s0
        rw [m1] at s1
        obtain ⟨p1, p2, p3⟩ := symM_ok key (n - s * (2 * z)) (s * (2 * z)) (s * (2 * z) + z) n d (by omega) h2 (by omega) (by omega) s0 s1
        refine ⟨fun q hq => ?_, p2, by omega⟩
        by_cases e : q = s
        · subst e
          rw [mn]
          exact p1
        · have := big q (by omega)
          exact Srt.ge (by omega)
      · rw [if_neg h2]
        refine ⟨fun q hq => ?_, Mv.refl _ _ _, Nat.zero_le _⟩
        by_cases e : q = s
        · subst e
          have m0 : min (q * (2 * z) + z) n = n := by omega
          rw [mn]
          rw [m0] at s0
          exact s0
        · have := big q (by omega)
          exact Srt.ge (by omega)
theorem lvF_ok (key : Int → Int) (n : Nat) : ∀ (k z : Nat) (d : List Int), n = d.length → 0 < z → n ≤ z + k → (∀ q, Srt key (q * z) (min (q * z + z) n) d) →
    Srt key 0 n (lvF key n k z d).1 ∧ Mv 0 n d (lvF key n k z d).1 ∧ (lvF key n k z d).2 ≤ 2 * n * bits ((n - 1) / z)
  | 0, z, d, hn, hz, hk, hS => by
    have h0 := hS 0
    have : min (0 * z + z) n = n := by omega
    rw [this, Nat.zero_mul] at h0
    exact ⟨h0, Mv.refl _ _ _, Nat.zero_le _⟩
  | k + 1, z, d, hn, hz, hk, hS => by
    unfold lvF
    by_cases h : z < n
    · rw [if_pos h]
      have hp : n < 0 * (2 * z) + (n + 1) * (2 * z) := by
        have := Nat.le_mul_of_pos_right (n + 1) (m := 2 * z) (by omega)
        omega
      obtain ⟨p1, p2, p3⟩ := mgF_ok key z n hz (n + 1) 0 d hn hp (fun q _ => hS q)
      rw [Nat.zero_mul] at p1 p2 p3
      generalize mgF key z (n + 1) 0 n d = r at *
      obtain ⟨q1, q2, q3⟩ := lvF_ok key n k (2 * z) r.1 (by rw [p2.len]; exact hn) (by omega) (by omega) (fun q => p1 q (Nat.zero_le _))
      refine ⟨q1, p2.trans q2, ?_⟩
      have hb : bits ((n - 1) / z) = bits ((n - 1) / (2 * z)) + 1 := by
        rw [bits_pos (Nat.div_pos (by omega) hz), Nat.div_div_eq_div_mul, Nat.mul_comm z 2]
      rw [hb, Nat.mul_succ]
      dsimp only
      omega
    · rw [if_neg h]
      have h0 := hS 0
      have : min (0 * z + z) n = n := by omega
      rw [this, Nat.zero_mul] at h0
      exact ⟨h0, Mv.refl _ _ _, Nat.zero_le _⟩
theorem stab_ok (key : Int → Int) (d : List Int) : Srt key 0 d.length (stab key d).1 ∧ Mv 0 d.length d (stab key d).1 ∧ (stab key d).2 ≤ 10 * d.length + 2 * d.length * bits d.length := by
  unfold stab
  obtain ⟨n, hn⟩ : ∃ n, n = d.length := ⟨_, rfl⟩
  rw [← hn]
  obtain ⟨p1, p2, p3⟩ := blkF_ok key n (n + 1) 0 d hn (by omega) (by omega)
  rw [Nat.zero_mul] at p1 p2 p3
  generalize blkF key (n + 1) 0 n d = r at *
  obtain ⟨q1, q2, q3⟩ := lvF_ok key n n 20 r.1 (by rw [p2.len]; exact hn) (by omega) (by omega) (fun q => p1 q (Nat.zero_le _))
  refine ⟨q1, p2.trans q2, ?_⟩
  have hb := bits_mono n ((n - 1) / 20) (by omega)
  have := Nat.mul_le_mul_left (2 * n) hb
  dsimp only
  omega
/-! lengths -/
theorem upF_len : ∀ (n k : Nat) (d : List Int), (upF n k d).length = d.length
  | 0, k, d => rfl
  | n + 1, k, d => (upF_len n (k + 1) (swp d k (k + 1))).trans (swp_len _ _ _)
theorem dnF_len : ∀ (n k : Nat) (d : List Int), (dnF n k d).length = d.length
  | 0, k, d => rfl
  | n + 1, k, d => (dnF_len n (k - 1) (swp d k (k - 1))).trans (swp_len _ _ _)
theorem srF_len : ∀ (n a b : Nat) (d : List Int), (srF n a b d).length = d.length
  | 0, a, b, d => rfl
  | n + 1, a, b, d => (srF_len n (a + 1) (b + 1) (swp d a b)).trans (swp_len _ _ _)
theorem rtF_len : ∀ (k m i j : Nat) (d : List Int), (rtF k m i j d).length = d.length
  | 0, m, i, j, d => rfl
  | k + 1, m, i, j, d => by
    unfold rtF
    split
    · exact srF_len _ _ _ _
    · split
      · exact (rtF_len k m (i - j) j _).trans (srF_len _ _ _ _)
      · exact (rtF_len k m i (j - i) _).trans (srF_len _ _ _ _)
theorem symR_len (mid m s : Nat) (d : List Int) : (symR mid m s d).length = d.length := by
  unfold symR
  split
  · exact rtF_len _ _ _ _ _
  · rfl
theorem symM_len (key : Int → Int) : ∀ (k a m t : Nat) (d : List Int), (symM key k a m t d).1.length = d.length
  | 0, a, m, t, d => rfl
  | k + 1, a, m, t, d => by
    unfold symM
    split
    · exact upF_len _ _ _
    · split
      · exact dnF_len _ _ _
      · have h1 : ∀ (s : Nat), (if a < s ∧ s < (a + t) / 2 then symM key k a s ((a + t) / 2) (symR ((a + t) / 2) m s d) else (symR ((a + t) / 2) m s d, 0)).1.length = d.length := fun s => by
          split
          · exact (symM_len key k _ _ _ _).trans (symR_len _ _ _ _)
          · exact symR_len _ _ _ _
        dsimp only
        split
        · exact (symM_len key k _ _ _ _).trans (h1 _)
        · exact h1 _
theorem insIn_len (key : Int → Int) (a : Nat) : ∀ (j : Nat) (d : List Int), (insIn key a j d).1.length = d.length
  | 0, d => rfl
  | j + 1, d => by
    unfold insIn
    split
    · split
      · exact (insIn_len key a j _).trans (swp_len _ _ _)
      · rfl
    · rfl
theorem insOut_len (key : Int → Int) (a : Nat) : ∀ (k i : Nat) (d : List Int), (insOut key a k i d).1.length = d.length
  | 0, i, d => rfl
  | k + 1, i, d => (insOut_len key a k (i + 1) _).trans (insIn_len key a i d)
theorem insSort_len (key : Int → Int) (a b : Nat) (d : List Int) : (insSort key a b d).1.length = d.length := insOut_len key a _ _ d
theorem blkF_len (key : Int → Int) : ∀ (k a n : Nat) (d : List Int), (blkF key k a n d).1.length = d.length
  | 0, a, n, d => rfl
  | k + 1, a, n, d => by
    unfold blkF
    split
    · exact (blkF_len key k _ _ _).trans (insSort_len _ _ _ _)
    · exact insSort_len _ _ _ _
theorem mgF_len (key : Int → Int) (z : Nat) : ∀ (k a n : Nat) (d : List Int), (mgF key z k a n d).1.length = d.length
  | 0, a, n, d => rfl
  | k + 1, a, n, d => by
    unfold mgF
    split
    · exact (mgF_len key z k _ _ _).trans (symM_len _ _ _ _ _ _)
    · split
      · exact symM_len _ _ _ _ _ _
      · rfl
theorem lvF_len (key : Int → Int) (n : Nat) : ∀ (k z : Nat) (d : List Int), (lvF key n k z d).1.length = d.length
  | 0, z, d => rfl
  | k + 1, z, d => by
    unfold lvF
    split
    · exact (lvF_len key n k _ _).trans (mgF_len _ _ _ _ _ _)
    · rfl
theorem stab_len (key : Int → Int) (d : List Int) : (stab key d).1.length = d.length := (lvF_len _ _ _ _ _).trans (blkF_len _ _ _ _ _)
def symQ (key : Int → Int) (k a m t : Nat) (d : List Int) : List Int × Nat := if a < m ∧ m < t then symM key k a m t d else (d, 0)
theorem symQ_len (key : Int → Int) (k a m t : Nat) (d : List Int) : (symQ key k a m t d).1.length = d.length := by
  unfold symQ
  split
  · exact symM_len _ _ _ _ _ _
  · rfl
theorem symM_left_eq {key : Int → Int} {k a m t : Nat} {d : List Int} (c1 : m - a = 1) {r : Nat × Nat} (hr : r = bsr (fun h => decide (key (gt d h) < key (gt d a))) (t - m) m t) : symM key (k + 1) a m t d = (upF (r.1 - 1 - a) a d, r.2) := by
  rw [symM, if_pos c1, hr]
theorem symM_right_eq {key : Int → Int} {k a m t : Nat} {d : List Int} (c1 : ¬ m - a = 1) (c2 : t - m = 1) {r : Nat × Nat} (hr : r = bsr (fun h => decide (¬ key (gt d m) < key (gt d h))) (m - a) a m) : symM key (k + 1) a m t d = (dnF (m - r.1) m d, r.2) := by
  rw [symM, if_neg c1, if_pos c2, hr]
theorem symM_mid_eq {key : Int → Int} {k a m t : Nat} {d : List Int} (c1 : ¬ m - a = 1) (c2 : ¬ t - m = 1) {r : Nat × Nat} (hr : r = sCut key a m t d) {mid : Nat} (hm : mid = (a + t) / 2) :
    symM key (k + 1) a m t d = ((symQ key k mid (mid + m - r.1) t (symQ key k a r.1 mid (symR mid m r.1 d)).1).1, r.2 + (symQ key k a r.1 mid (symR mid m r.1 d)).2 + (symQ key k mid (mid + m - r.1) t (symQ key k a r.1 mid (symR mid m r.1 d)).1).2) := by
  rw [symM, if_neg c1, if_neg c2, hr, hm]
  rfl
/-! ### the suffix array, as lists -/
/-- Ranks by the order at hand: k places are left, the next one is at; the ranks, how many, comparisons. -/
def nmF (same : Int → Int → Bool) (cst : Int → Int → Nat) (A : List Int) : Nat → Nat → List Int → Int → Nat → List Int × Int × Nat
  | 0, _, R, c, z => (R, c, z)
  | k + 1, at_, R, c, z => if at_ = 0 then nmF same cst A k (at_ + 1) (R.set (gt A at_).toNat c) (c + 1) z
    else if same (gt A (at_ - 1)) (gt A at_) = true then nmF same cst A k (at_ + 1) (R.set (gt A at_).toNat (c - 1)) c (z + cst (gt A (at_ - 1)) (gt A at_))
    else nmF same cst A k (at_ + 1) (R.set (gt A at_).toNat c) (c + 1) (z + cst (gt A (at_ - 1)) (gt A at_))
def nmAll (same : Int → Int → Bool) (cst : Int → Int → Nat) (A : List Int) (R : List Int) (z : Nat) : List Int × Int × Nat := nmF same cst A A.length 0 R 0 z
/-- The end of the row that begins at fr. -/
def rEnd (R A : List Int) (fr : Nat) : Nat → Nat → Nat
  | 0, t => t
  | k + 1, t => if t < A.length ∧ gt R (gt A t).toNat = gt R (gt A fr).toNat then rEnd R A fr k (t + 1) else t
def spl (A : List Int) (a b : Nat) (x : List Int) : List Int := A.take a ++ x ++ A.drop b
def cutL (A : List Int) (a b : Nat) : List Int := (A.drop a).take (b - a)
/-- Each row of one rank is ordered by what follows. -/
def rwF (R : List Int) (key : Int → Int) : Nat → Nat → List Int → Nat → List Int × Nat
  | 0, _, A, z => (A, z)
  | k + 1, fr, A, z => if fr < A.length then
      rwF R key k (rEnd R A fr A.length (fr + 1)) (spl A fr (rEnd R A fr A.length (fr + 1)) (stab key (cutL A fr (rEnd R A fr A.length (fr + 1)))).1) (z + (stab key (cutL A fr (rEnd R A fr A.length (fr + 1)))).2 + (rEnd R A fr A.length (fr + 1) - fr))
    else (A, z)
def bhd (R : List Int) (n st : Nat) (i : Int) : Int := if i + (st : Int) < (n : Int) then gt R (i + st).toNat else -1
def sm2 (R : List Int) (n st : Nat) (i k : Int) : Bool := decide (gt R i.toNat = gt R k.toNat ∧ bhd R n st i = bhd R n st k)
def cs2 (R : List Int) (i k : Int) : Nat := if gt R i.toNat = gt R k.toNat then 2 else 1
/-- So many doublings at most: the array, the comparisons. R: the ranks at hand, O: the others. -/
def dbF (n : Nat) : Nat → Nat → List Int → List Int → List Int → Int → Nat → Option (List Int × Nat)
  | 0, _, _, _, _, _, _ => none
  | k + 1, st, A, R, O, c, z => if c = (n : Int) then some (A, z) else if 1000000 < st then none else
      let r := rwF R (bhd R n st) (n + 1) 0 A z
      let m := nmAll (sm2 R n st) (cs2 R) r.1 O r.2
      dbF n k (2 * st) r.1 m.1 R m.2.1 m.2.2
def rkF (A : List Int) : Nat → Nat → List Int → List Int
  | 0, _, R => R
  | k + 1, at_, R => rkF A k (at_ + 1) (R.set (gt A at_).toNat (at_ : Int))
def iota (n : Nat) : List Int := (List.range n).map fun x : Nat => (x : Int)
def keyL (l : List Int) (i : Int) : Int := gt l i.toNat
def ofF (l : List Int) : Option (List Int × List Int × Nat) :=
  let n := l.length
  let s := stab (keyL l) (iota n)
  let m := nmAll (fun i k => decide (keyL l i = keyL l k)) (fun _ _ => 1) s.1 (List.replicate n 0) s.2
  if n = 0 then some ([], [], 0) else
  (dbF n n 1 s.1 m.1 (List.replicate n 0) m.2.1 m.2.2).bind fun q => some (q.1, rkF q.1 n 0 (List.replicate n 0), q.2)
/-! ### suffixes in order -/
/-- What stands at a place; behind the end the least of all. -/
def ev (l : List Int) (M : Int) (x : Nat) : Int := if x < l.length then gt l x else M
def eqk (l : List Int) (M : Int) (k i j : Nat) : Prop := ∀ u, u < k → ev l M (i + u) = ev l M (j + u)
def ltk (l : List Int) (M : Int) (k i j : Nat) : Prop := ∃ t, t < k ∧ (∀ u, u < t → ev l M (i + u) = ev l M (j + u)) ∧ ev l M (i + t) < ev l M (j + t)
section
variable {l : List Int} {M : Int}
theorem eqk.symm {k i j : Nat} (h : eqk l M k i j) : eqk l M k j i := fun u hu => (h u hu).symm
theorem ltk_tri : ∀ (k i j : Nat), ltk l M k i j ∨ eqk l M k i j ∨ ltk l M k j i
  | 0, i, j => .inr (.inl fun u hu => by omega)
  | k + 1, i, j => by
    rcases ltk_tri k i j with ⟨t, h1, h2, h3⟩ | h | ⟨t, h1, h2, h3⟩
    · exact .inl ⟨t, by omega, h2, h3⟩
    · rcases Int.lt_trichotomy (ev l M (i + k)) (ev l M (j + k)) with e | e | e
      · exact .inl ⟨k, by omega, h, e⟩
      · refine .inr (.inl fun u hu => ?_)
        by_cases e2 : u = k
        · rw [e2]; exact e
        · exact h u (by omega)
      · exact .inr (.inr ⟨k, by omega, h.symm, e⟩)
    · exact .inr (.inr ⟨t, by omega, h2, h3⟩)
theorem ltk.ne {k i j : Nat} (h : ltk l M k i j) : ¬ eqk l M k i j := fun he => by
  obtain ⟨t, h1, h2, h3⟩ := h
  have := he t h1
  omega
theorem ltk.trans {k i j m : Nat} (h : ltk l M k i j) (h' : ltk l M k j m) : ltk l M k i m := by
  obtain ⟨t, h1, h2, h3⟩ := h
  obtain ⟨t', h1', h2', h3'⟩ := h'
  rcases Nat.lt_trichotomy t t' with e | e | e
  · exact ⟨t, h1, fun u hu => (h2 u hu).trans (h2' u (by omega)), by rw [← h2' t e]; exact h3⟩
  · subst e
    exact ⟨t, h1, fun u hu => (h2 u hu).trans (h2' u hu), by omega⟩
  · exact ⟨t', h1', fun u hu => (h2 u (by omega)).trans (h2' u hu), by rw [h2 t' e]; exact h3'⟩
theorem ltk.eq {k i j m : Nat} (h : ltk l M k i j) (h' : eqk l M k j m) : ltk l M k i m := by
  obtain ⟨t, h1, h2, h3⟩ := h
  exact ⟨t, h1, fun u hu => (h2 u hu).trans (h' u (by omega)), by rw [← h' t h1]; exact h3⟩
theorem eqk.lt {k i j m : Nat} (h : eqk l M k i j) (h' : ltk l M k j m) : ltk l M k i m := by
  obtain ⟨t, h1, h2, h3⟩ := h'
  exact ⟨t, h1, fun u hu => (h u (by omega)).trans (h2 u hu), by rw [h t h1]; exact h3⟩
theorem eqk.trans {k i j m : Nat} (h : eqk l M k i j) (h' : eqk l M k j m) : eqk l M k i m := fun u hu => (h u hu).trans (h' u hu)
theorem ltk.asym {k i j : Nat} (h : ltk l M k i j) : ¬ ltk l M k j i := fun h' => (h.trans h').ne (fun _ _ => rfl)
theorem ltk_two {a b i j : Nat} : ltk l M (a + b) i j ↔ ltk l M a i j ∨ (eqk l M a i j ∧ ltk l M b (i + a) (j + a)) := by
  constructor
  · rintro ⟨t, h1, h2, h3⟩
    by_cases e : t < a
    · exact .inl ⟨t, e, h2, h3⟩
    · refine .inr ⟨fun u hu => h2 u (by omega), t - a, by omega, fun u hu => ?_, ?_⟩
      · have := h2 (a + u) (by omega)
        rw [← Nat.add_assoc, ← Nat.add_assoc] at this
        exact this
      · have e1 : i + a + (t - a) = i + t := by omega
        have e2 : j + a + (t - a) = j + t := by omega
        rw [e1, e2]; exact h3
  · rintro (⟨t, h1, h2, h3⟩ | ⟨h, t, h1, h2, h3⟩)
    · exact ⟨t, by omega, h2, h3⟩
    · refine ⟨a + t, by omega, fun u hu => ?_, by rw [← Nat.add_assoc, ← Nat.add_assoc]; exact h3⟩
      by_cases e : u < a
      · exact h u e
      · have := h2 (u - a) (by omega)
        have e1 : i + a + (u - a) = i + u := by omega
        have e2 : j + a + (u - a) = j + u := by omega
        rw [e1, e2] at this
        exact this
theorem eqk_two {a b i j : Nat} : eqk l M (a + b) i j ↔ eqk l M a i j ∧ eqk l M b (i + a) (j + a) := by
  constructor
  · intro h
    refine ⟨fun u hu => h u (by omega), fun u hu => ?_⟩
    have := h (a + u) (by omega)
    rw [← Nat.add_assoc, ← Nat.add_assoc] at this
    exact this
  · rintro ⟨h, h'⟩ u hu
    by_cases e : u < a
    · exact h u e
    · have := h' (u - a) (by omega)
      have e1 : i + a + (u - a) = i + u := by omega
      have e2 : j + a + (u - a) = j + u := by omega
      rw [e1, e2] at this
      exact this
/-- Each place once. -/
def Pm (n : Nat) (A : List Int) : Prop := A.length = n ∧ ∃ f g : Nat → Nat, ∀ x, x < n → f x < n ∧ g x < n ∧ g (f x) = x ∧ f (g x) = x ∧ gt A x = (f x : Int)
theorem gt_iota (n x : Nat) (h : x < n) : gt (iota n) x = (x : Int) := by
  unfold gt iota
  rw [List.getD_eq_getElem?_getD, List.getElem?_map, List.getElem?_range h]
  rfl
theorem iota_len (n : Nat) : (iota n).length = n := by simp [iota]
theorem Pm.mv {n : Nat} {A A' : List Int} (h : Pm n A) (hm : Mv 0 n A A') : Pm n A' := by
  obtain ⟨hl, f, g, hf⟩ := h
  obtain ⟨l, p, q, h1, h2, h3, h4⟩ := hm
  have hp : ∀ x, x < n → p x < n := fun x hx => Nat.not_le.1 fun hh => by
    have e := h3 (p x) (.inr hh)
    have e2 : p x = x := by have := congrArg q e; rwa [h1, h1] at this
    omega
  have hq : ∀ x, x < n → q x < n := fun x hx => Nat.not_le.1 fun hh => by
    have e := h3 (q x) (.inr hh)
    rw [h2] at e
    omega
  refine ⟨l.trans hl, fun x => f (p x), fun x => q (g x), fun x hx => ⟨(hf (p x) (hp x hx)).1, hq _ (hf x hx).2.1, ?_, ?_, ?_⟩⟩
  · dsimp only
    rw [(hf (p x) (hp x hx)).2.2.1, h1]
  · dsimp only
    rw [h2, (hf x hx).2.2.2.1]
  · rw [h4, (hf (p x) (hp x hx)).2.2.2.2]
theorem Pm_iota (n : Nat) : Pm n (iota n) := ⟨iota_len n, id, id, fun x hx => ⟨hx, hx, rfl, rfl, gt_iota n x hx⟩⟩
theorem Pm.lt {n : Nat} {A : List Int} (h : Pm n A) {x : Nat} (hx : x < n) : (gt A x).toNat < n := by
  obtain ⟨hl, f, g, hf⟩ := h
  rw [(hf x hx).2.2.2.2, Int.toNat_natCast]; exact (hf x hx).1
theorem Pm.nn {n : Nat} {A : List Int} (h : Pm n A) {x : Nat} (hx : x < n) : gt A x = ((gt A x).toNat : Int) := by
  obtain ⟨hl, f, g, hf⟩ := h
  rw [(hf x hx).2.2.2.2, Int.toNat_natCast]
theorem Pm.inj {n : Nat} {A : List Int} (h : Pm n A) {x y : Nat} (hx : x < n) (hy : y < n) (e : (gt A x).toNat = (gt A y).toNat) : x = y := by
  obtain ⟨hl, f, g, hf⟩ := h
  rw [(hf x hx).2.2.2.2, (hf y hy).2.2.2.2, Int.toNat_natCast, Int.toNat_natCast] at e
  rw [← (hf x hx).2.2.1, e, (hf y hy).2.2.1]
theorem Pm.sur {n : Nat} {A : List Int} (h : Pm n A) {v : Nat} (hv : v < n) : ∃ x, x < n ∧ (gt A x).toNat = v := by
  obtain ⟨hl, f, g, hf⟩ := h
  refine ⟨g v, (hf v hv).2.1, ?_⟩
  rw [(hf (g v) (hf v hv).2.1).2.2.2.2, Int.toNat_natCast, (hf v hv).2.2.2.1]
/-! ranks -/
def chg (same : Int → Int → Bool) (A : List Int) : Nat → Nat
  | 0 => 0
  | t + 1 => chg same A t + (if same (gt A t) (gt A (t + 1)) = true then 0 else 1)
theorem nmF_ok (same : Int → Int → Bool) (cst : Int → Int → Nat) (A : List Int) (n mx : Nat) (hA : Pm n A) (hc : ∀ i k, 1 ≤ cst i k ∧ cst i k ≤ mx) : ∀ (k a : Nat) (R : List Int) (c : Int) (z : Nat), a + k = n → R.length = n →
    (a = 0 → c = 0) → (0 < a → c = (chg same A (a - 1) : Int) + 1) → (∀ x, x < a → gt R (gt A x).toNat = (chg same A x : Int)) →
    (nmF same cst A k a R c z).1.length = n ∧ (∀ x, x < n → gt (nmF same cst A k a R c z).1 (gt A x).toNat = (chg same A x : Int)) ∧ (0 < n → (nmF same cst A k a R c z).2.1 = (chg same A (n - 1) : Int) + 1) ∧
      z + (k - (if a = 0 then 1 else 0)) ≤ (nmF same cst A k a R c z).2.2 ∧ (nmF same cst A k a R c z).2.2 ≤ z + mx * k
  | 0, a, R, c, z, h, hR, h0, h1, h2 => by
    unfold nmF
    obtain rfl : a = n := by omega
    exact ⟨hR, h2, h1, by dsimp only; omega, by dsimp only; omega⟩
  | k + 1, a, R, c, z, h, hR, h0, h1, h2 => by
    have ha : a < n := by omega
    have hlt := hA.lt ha
    have hset : ∀ (v : Int) x, x < n → gt (R.set (gt A a).toNat v) (gt A x).toNat = if x = a then v else gt R (gt A x).toNat := fun v x hx => by
      rw [gt_set _ _ _ _ (by omega)]
      by_cases e : x = a
      · rw [if_pos e, if_pos (by rw [e])]
      · rw [if_neg e, if_neg (fun hh => e (hA.inj hx ha hh))]
    unfold nmF
    by_cases c0 : a = 0
    · rw [if_pos c0]
      subst c0
      obtain ⟨q1, q2, q3, q4, q5⟩ := nmF_ok same cst A n mx hA hc k (0 + 1) (R.set (gt A 0).toNat c) (c + 1) z (by omega) (by simpa using hR) (fun hh => by omega) (fun _ => by
        show c + 1 = (chg same A 0 : Int) + 1
        rw [h0 rfl]; rfl) (fun x hx => by
        obtain rfl : x = 0 := by omega
        rw [hset _ 0 ha, if_pos rfl, h0 rfl]; rfl)
      refine ⟨q1, q2, q3, ?_, ?_⟩
      · rw [if_neg (by omega)] at q4
        rw [if_pos rfl]
        omega
      · have : mx * (k + 1) = mx * k + mx := Nat.mul_succ _ _
        omega
    · rw [if_neg c0]
      have hcz := hc (gt A (a - 1)) (gt A a)
      have hmx : mx * (k + 1) = mx * k + mx := Nat.mul_succ _ _
      have hch : chg same A a = chg same A (a - 1) + (if same (gt A (a - 1)) (gt A a) = true then 0 else 1) := by
        obtain ⟨a', rfl⟩ : ∃ a', a = a' + 1 := ⟨a - 1, by omega⟩
        rfl
      have h1' := h1 (by omega)
      by_cases c1 : same (gt A (a - 1)) (gt A a) = true
      · rw [if_pos c1]
        rw [if_pos c1] at hch
        obtain ⟨q1, q2, q3, q4, q5⟩ := nmF_ok same cst A n mx hA hc k (a + 1) (R.set (gt A a).toNat (c - 1)) c (z + cst (gt A (a - 1)) (gt A a)) (by omega) (by simpa using hR) (fun hh => by omega) (fun _ => by
          show c = (chg same A a : Int) + 1
          rw [hch]; omega) (fun x hx => by
          rw [hset _ x (by omega)]
          by_cases e : x = a
          · rw [if_pos e, e, hch]; omega
          · rw [if_neg e]; exact h2 x (by omega))
        rw [if_neg (by omega)] at q4
        rw [if_neg c0]
        exact ⟨q1, q2, q3, by omega, by omega⟩
      · rw [if_neg c1]
        rw [if_neg c1] at hch
        obtain ⟨q1, q2, q3, q4, q5⟩ := nmF_ok same cst A n mx hA hc k (a + 1) (R.set (gt A a).toNat c) (c + 1) (z + cst (gt A (a - 1)) (gt A a)) (by omega) (by simpa using hR) (fun hh => by omega) (fun _ => by
          show c + 1 = (chg same A a : Int) + 1
          rw [hch]; omega) (fun x hx => by
          rw [hset _ x (by omega)]
          by_cases e : x = a
          · rw [if_pos e, e, hch]; omega
          · rw [if_neg e]; exact h2 x (by omega))
        rw [if_neg (by omega)] at q4
        rw [if_neg c0]
        exact ⟨q1, q2, q3, by omega, by omega⟩
theorem nmF_len (same : Int → Int → Bool) (cst : Int → Int → Nat) (A : List Int) : ∀ (k a : Nat) (R : List Int) (c : Int) (z : Nat), (nmF same cst A k a R c z).1.length = R.length
  | 0, a, R, c, z => rfl
  | k + 1, a, R, c, z => by
    unfold nmF
    split
    · rw [nmF_len same cst A k]; simp
    · split
      · rw [nmF_len same cst A k]; simp
      · rw [nmF_len same cst A k]; simp
/-- In the order of beginnings of the length k. -/
def Ar (l : List Int) (M : Int) (A : List Int) (k : Nat) : Prop := Pm l.length A ∧ ∀ x y, x < y → y < l.length → ¬ ltk l M k (gt A y).toNat (gt A x).toNat
def Rk (l : List Int) (M : Int) (R : List Int) (k : Nat) : Prop := R.length = l.length ∧ (∀ i, i < l.length → 0 ≤ gt R i) ∧ ∀ i j, i < l.length → j < l.length → (gt R i < gt R j ↔ ltk l M k i j)
theorem chg_le (same : Int → Int → Bool) (A : List Int) : ∀ t, chg same A t ≤ t
  | 0 => Nat.le_refl _
  | t + 1 => by
    have := chg_le same A t
    unfold chg
    split <;> omega
theorem chg_up (same : Int → Int → Bool) (A : List Int) (t : Nat) : ∀ d, chg same A (t + d) ≤ chg same A t + d
  | 0 => Nat.le_refl _
  | d + 1 => by
    have := chg_up same A t d
    have hch : chg same A (t + (d + 1)) = chg same A (t + d) + (if same (gt A (t + d)) (gt A (t + d + 1)) = true then 0 else 1) := rfl
    rw [hch]
    split <;> omega
theorem chg_lt {same : Int → Int → Bool} {A : List Int} {k : Nat} (hA : Ar l M A k) (hs : ∀ x y, x < l.length → y < l.length → (same (gt A x) (gt A y) = true ↔ eqk l M k (gt A x).toNat (gt A y).toNat)) (x : Nat) :
    ∀ d, x + d < l.length → (chg same A x < chg same A (x + d) ∧ ltk l M k (gt A x).toNat (gt A (x + d)).toNat) ∨ (chg same A x = chg same A (x + d) ∧ eqk l M k (gt A x).toNat (gt A (x + d)).toNat)
  | 0, h => .inr ⟨rfl, fun _ _ => rfl⟩
  | d + 1, h => by
    have ih := chg_lt hA hs x d (by omega)
    have e1 : x + (d + 1) = x + d + 1 := rfl
    have hch : chg same A (x + d + 1) = chg same A (x + d) + (if same (gt A (x + d)) (gt A (x + d + 1)) = true then 0 else 1) := rfl
    rw [e1]
    by_cases c1 : same (gt A (x + d)) (gt A (x + d + 1)) = true
    · rw [if_pos c1, Nat.add_zero] at hch
      have he := (hs (x + d) (x + d + 1) (by omega) (by omega)).1 c1
      rw [hch]
      exact ih.imp (fun h => ⟨h.1, h.2.eq he⟩) (fun h => ⟨h.1, h.2.trans he⟩)
    · rw [if_neg c1] at hch
      have hl : ltk l M k (gt A (x + d)).toNat (gt A (x + d + 1)).toNat := by
        rcases ltk_tri (l := l) (M := M) k (gt A (x + d)).toNat (gt A (x + d + 1)).toNat with h1 | h1 | h1
        · exact h1
        · exact absurd ((hs (x + d) (x + d + 1) (by omega) (by omega)).2 h1) c1
        · exact absurd h1 (hA.2 (x + d) (x + d + 1) (by omega) (by omega))
      rw [hch]
      refine .inl ⟨?_, ih.elim (fun h => h.2.trans hl) (fun h => h.2.lt hl)⟩
      rcases ih with h | h <;> omega
theorem rank_of {same : Int → Int → Bool} {A R : List Int} {k : Nat} (hA : Ar l M A k) (hs : ∀ x y, x < l.length → y < l.length → (same (gt A x) (gt A y) = true ↔ eqk l M k (gt A x).toNat (gt A y).toNat)) (hR : R.length = l.length)
    (hx : ∀ x, x < l.length → gt R (gt A x).toNat = (chg same A x : Int)) : Rk l M R k := by
  refine ⟨hR, fun i hi => ?_, fun i j hi hj => ?_⟩
  · obtain ⟨x, h1, h2⟩ := hA.1.sur hi
    rw [← h2, hx x h1]; omega
  · obtain ⟨x, h1, h2⟩ := hA.1.sur hi
    obtain ⟨y, h3, h4⟩ := hA.1.sur hj
    rw [← h2, ← h4, hx x h1, hx y h3]
    rcases Nat.le_total x y with h | h
    · obtain ⟨d, rfl⟩ : ∃ d, y = x + d := ⟨y - x, by omega⟩
      rcases chg_lt hA hs x d h3 with ⟨a, b⟩ | ⟨a, b⟩
      · exact ⟨fun _ => b, fun _ => by omega⟩
      · exact ⟨fun hh => by omega, fun hh => absurd b hh.ne⟩
    · obtain ⟨d, rfl⟩ : ∃ d, x = y + d := ⟨x - y, by omega⟩
      rcases chg_lt hA hs y d h1 with ⟨a, b⟩ | ⟨a, b⟩
      · exact ⟨fun hh => by omega, fun hh => absurd b hh.asym⟩
      · exact ⟨fun hh => by omega, fun hh => absurd b.symm hh.ne⟩
theorem Rk.eq_iff {R : List Int} {k i j : Nat} (h : Rk l M R k) (hi : i < l.length) (hj : j < l.length) : gt R i = gt R j ↔ eqk l M k i j := by
  have h1 := h.2.2 i j hi hj
  have h2 := h.2.2 j i hj hi
  constructor
  · intro e
    rcases ltk_tri (l := l) (M := M) k i j with h3 | h3 | h3
    · have := h1.2 h3; omega
    · exact h3
    · have := h2.2 h3; omega
  · intro e
    rcases Int.lt_trichotomy (gt R i) (gt R j) with h3 | h3 | h3
    · exact absurd e (h1.1 h3).ne
    · exact h3
    · exact absurd e.symm (h2.1 h3).ne
/-- All stand strictly in order. -/
def Strict (l : List Int) (M : Int) (A : List Int) (k : Nat) : Prop := ∀ x y, x < y → y < l.length → ltk l M k (gt A x).toNat (gt A y).toNat
theorem strict_iff {same : Int → Int → Bool} {A : List Int} {k : Nat} (hn : 0 < l.length) (hA : Ar l M A k) (hs : ∀ x y, x < l.length → y < l.length → (same (gt A x) (gt A y) = true ↔ eqk l M k (gt A x).toNat (gt A y).toNat)) :
    (chg same A (l.length - 1) : Int) + 1 = (l.length : Int) ↔ Strict l M A k := by
  constructor
  · intro h x y hx hy
    have hall : ∀ t, t < l.length → chg same A t = t := fun t ht => by
      have h1 := chg_le same A t
      have h2 := chg_up same A t (l.length - 1 - t)
      have e : t + (l.length - 1 - t) = l.length - 1 := by omega
      rw [e] at h2
      omega
    obtain ⟨d, rfl⟩ : ∃ d, y = x + d := ⟨y - x, by omega⟩
    rcases chg_lt hA hs x d hy with ⟨a, b⟩ | ⟨a, b⟩
    · exact b
    · rw [hall x (by omega), hall _ hy] at a
      omega
  · intro h
    have hall : ∀ t, t < l.length → chg same A t = t := fun t => by
      induction t with
      | zero => intro _; rfl
      | succ t ih =>
        intro ht
        have := ih (by omega)
        unfold chg
        rw [if_neg (fun hh => (h t (t + 1) (by omega) ht).ne ((hs t (t + 1) (by omega) ht).1 hh)), this]
    rw [hall _ (by omega)]
    omega
theorem distinct (hM : ∀ x, x < l.length → M < gt l x) {k i j : Nat} (hk : l.length ≤ k) (hi : i < j) (hj : j < l.length) : ¬ eqk l M k i j := fun h => by
  have := h (l.length - j) (by omega)
  unfold ev at this
  rw [if_pos (by omega), if_neg (by omega)] at this
  have := hM (i + (l.length - j)) (by omega)
  omega
/-- What follows behind so many. -/
theorem bhd_iff (hM : ∀ x, x < l.length → M < gt l x) {R : List Int} {k i j : Nat} (hk : 0 < k) (h : Rk l M R k) (hi : i < l.length) (hj : j < l.length) :
    bhd R l.length k (i : Int) < bhd R l.length k (j : Int) ↔ ltk l M k (i + k) (j + k) := by
  have v1 : ∀ i : Nat, i + k < l.length → bhd R l.length k (i : Int) = gt R (i + k) := fun i h => by
    unfold bhd
    rw [if_pos (by omega)]
    have e : ((i : Int) + (k : Int)).toNat = i + k := by omega
    rw [e]
  have v2 : ∀ i : Nat, ¬ i + k < l.length → bhd R l.length k (i : Int) = -1 := fun i h => by
    unfold bhd
    rw [if_neg (by omega)]
  have w2 : ∀ (i u : Nat), ¬ i + k < l.length → ev l M (i + k + u) = M := fun i u h => by unfold ev; rw [if_neg (by omega)]
  have w1 : ∀ i : Nat, i + k < l.length → M < ev l M (i + k + 0) := fun i h => by unfold ev; rw [if_pos (by omega)]; exact hM _ h
  by_cases c1 : i + k < l.length
  · by_cases c2 : j + k < l.length
    · rw [v1 i c1, v1 j c2]
      exact h.2.2 _ _ c1 c2
    · rw [v1 i c1, v2 j c2]
      have := h.2.1 _ c1
      refine ⟨fun hh => by omega, fun hh => ?_⟩
      obtain ⟨t, h1, h2, h3⟩ := hh
      have a := w1 i c1
      rw [w2 j t c2] at h3
      by_cases e : t = 0
      · rw [e] at h3; omega
      · have := h2 0 (by omega)
        rw [w2 j 0 c2] at this
        omega
  · by_cases c2 : j + k < l.length
    · rw [v2 i c1, v1 j c2]
      have := h.2.1 _ c2
      refine ⟨fun hh => ⟨0, hk, fun u hu => by omega, by rw [w2 i 0 c1]; exact w1 j c2⟩, fun hh => by omega⟩
    · rw [v2 i c1, v2 j c2]
      refine ⟨fun hh => by omega, fun ⟨t, h1, h2, h3⟩ => ?_⟩
      rw [w2 i t c1, w2 j t c2] at h3
      omega
end
/-! rows -/
theorem rEnd_ok (R A : List Int) (fr : Nat) : ∀ (k t : Nat), A.length ≤ t + k → t ≤ A.length →
    t ≤ rEnd R A fr k t ∧ rEnd R A fr k t ≤ A.length ∧ (∀ x, t ≤ x → x < rEnd R A fr k t → gt R (gt A x).toNat = gt R (gt A fr).toNat) ∧ (rEnd R A fr k t < A.length → gt R (gt A (rEnd R A fr k t)).toNat ≠ gt R (gt A fr).toNat)
  | 0, t, h, ht => by
    unfold rEnd
    exact ⟨Nat.le_refl _, ht, fun x h1 h2 => by omega, fun h1 => by omega⟩
  | k + 1, t, h, ht => by
    unfold rEnd
    by_cases c : t < A.length ∧ gt R (gt A t).toNat = gt R (gt A fr).toNat
    · rw [if_pos c]
      obtain ⟨q1, q2, q3, q4⟩ := rEnd_ok R A fr k (t + 1) (by omega) (by omega)
      refine ⟨by omega, q2, fun x h1 h2 => ?_, q4⟩
      by_cases e : x = t
      · rw [e]; exact c.2
      · exact q3 x (by omega) h2
    · rw [if_neg c]
      exact ⟨Nat.le_refl _, ht, fun x h1 h2 => by omega, fun h1 h2 => c ⟨h1, h2⟩⟩
theorem cutL_len {A : List Int} {a b : Nat} (hb : b ≤ A.length) : (cutL A a b).length = b - a := by
  unfold cutL
  rw [List.length_take, List.length_drop]
  omega
theorem gt_cutL {A : List Int} {a b y : Nat} (hy : y < b - a) : gt (cutL A a b) y = gt A (a + y) := by
  unfold gt cutL
  rw [List.getD_eq_getElem?_getD, List.getD_eq_getElem?_getD, List.getElem?_take, if_pos hy, List.getElem?_drop]
theorem spl_len {A x : List Int} {a b : Nat} (hab : a ≤ b) (hb : b ≤ A.length) (hx : x.length = b - a) : (spl A a b x).length = A.length := by
  unfold spl
  rw [List.length_append, List.length_append, List.length_take, List.length_drop]
  omega
theorem gt_spl {A x : List Int} {a b : Nat} (hab : a ≤ b) (hb : b ≤ A.length) (hx : x.length = b - a) (y : Nat) : gt (spl A a b x) y = if y < a then gt A y else if y < b then gt x (y - a) else gt A y := by
  have e0 : (A.take a).length = a := by rw [List.length_take]; omega
  unfold gt spl
  rw [List.getD_eq_getElem?_getD, List.append_assoc]
  by_cases c1 : y < a
  · rw [if_pos c1, List.getElem?_append_left (by omega), List.getElem?_take, if_pos c1, List.getD_eq_getElem?_getD]
  · rw [if_neg c1, List.getElem?_append_right (by omega), e0]
    by_cases c2 : y < b
    · rw [if_pos c2, List.getElem?_append_left (by omega), List.getD_eq_getElem?_getD]
    · rw [if_neg c2, List.getElem?_append_right (by omega), List.getElem?_drop, List.getD_eq_getElem?_getD]
      have e : b + (y - a - x.length) = y := by omega
      rw [e]
theorem Mv.spl {A x : List Int} {a b : Nat} (hab : a ≤ b) (hb : b ≤ A.length) (h : Mv 0 (b - a) (cutL A a b) x) : Mv a b A (spl A a b x) := by
  have hx : x.length = b - a := by rw [h.len, cutL_len hb]
  refine ⟨spl_len hab hb hx, ?_⟩
  obtain ⟨hl, f, g, h1, h2, h3, h4⟩ := h
  have hf : ∀ x, x < b - a → f x < b - a := fun x hx => Nat.not_le.1 fun hh => by
    have e := h3 (f x) (.inr hh)
    have e2 : f x = x := by have := congrArg g e; rwa [h1, h1] at this
    omega
  have hg : ∀ x, x < b - a → g x < b - a := fun x hx => Nat.not_le.1 fun hh => by
    have e := h3 (g x) (.inr hh)
    rw [h2] at e
    omega
  refine ⟨fun y => if a ≤ y ∧ y < b then a + f (y - a) else y, fun y => if a ≤ y ∧ y < b then a + g (y - a) else y, fun y => ?_, fun y => ?_, fun y hy => ?_, fun y => ?_⟩
  · dsimp only
    by_cases c : a ≤ y ∧ y < b
    · have := hf (y - a) (by omega)
      rw [if_pos c, if_pos (by omega)]
      have e : a + f (y - a) - a = f (y - a) := by omega
      rw [e, h1]; omega
    · rw [if_neg c, if_neg c]
  · dsimp only
    by_cases c : a ≤ y ∧ y < b
    · have := hg (y - a) (by omega)
      rw [if_pos c, if_pos (by omega)]
      have e : a + g (y - a) - a = g (y - a) := by omega
      rw [e, h2]; omega
    · rw [if_neg c, if_neg c]
  · dsimp only
    rw [if_neg (by omega)]
  · dsimp only
    rw [gt_spl hab hb hx]
    by_cases c : a ≤ y ∧ y < b
    · rw [if_pos c, if_neg (by omega), if_pos c.2, h4, gt_cutL (hf _ (by omega))]
    · rw [if_neg c]
      by_cases c1 : y < a
      · rw [if_pos c1]
      · rw [if_neg c1, if_neg (by omega)]
theorem rwF_ok (key : Int → Int) (R A0 : List Int) (n : Nat) (ho : ∀ x y, x < y → y < n → gt R (gt A0 x).toNat ≤ gt R (gt A0 y).toNat) : ∀ (k fr : Nat) (A : List Int) (z : Nat), A.length = n → n ≤ fr + k → fr ≤ n →
    Mv 0 n A0 A → (∀ x, x < n → gt R (gt A x).toNat = gt R (gt A0 x).toNat) →
    (∀ x y, x < y → y < fr → gt R (gt A0 x).toNat = gt R (gt A0 y).toNat → key (gt A x) ≤ key (gt A y)) →
    (∀ x y, x < fr → fr ≤ y → y < n → gt R (gt A0 x).toNat < gt R (gt A0 y).toNat) →
    Mv 0 n A0 (rwF R key k fr A z).1 ∧ (∀ x, x < n → gt R (gt (rwF R key k fr A z).1 x).toNat = gt R (gt A0 x).toNat) ∧
      (∀ x y, x < y → y < n → gt R (gt A0 x).toNat = gt R (gt A0 y).toNat → key (gt (rwF R key k fr A z).1 x) ≤ key (gt (rwF R key k fr A z).1 y)) ∧
      z ≤ (rwF R key k fr A z).2 ∧ (rwF R key k fr A z).2 ≤ z + (n - fr) * (11 + 2 * bits n)
  | 0, fr, A, z, hl, hk, hf, hm, hr, hs, hb => by
    unfold rwF
    exact ⟨hm, hr, fun x y h1 h2 h3 => hs x y h1 (by omega) h3, Nat.le_refl _, Nat.le_add_right _ _⟩
  | k + 1, fr, A, z, hl, hk, hf, hm, hr, hs, hb => by
    unfold rwF
    by_cases c : fr < A.length
    · rw [if_pos c]
      obtain ⟨p1, p2, p3, p4⟩ := rEnd_ok R A fr A.length (fr + 1) (by omega) (by omega)
      generalize rEnd R A fr A.length (fr + 1) = t at *
      obtain ⟨s1, s2, s3⟩ := stab_ok key (cutL A fr t)
      have hcl : (cutL A fr t).length = t - fr := cutL_len p2
      rw [hcl] at s1 s2 s3
      generalize stab key (cutL A fr t) = r at *
      have hm1 := Mv.spl (by omega) p2 s2
      have hxl : r.1.length = t - fr := by rw [s2.len, hcl]
      have hg1 := gt_spl (A := A) (x := r.1) (a := fr) (b := t) (by omega) p2 hxl
      have hrow : ∀ x, fr ≤ x → x < t → gt R (gt A0 x).toNat = gt R (gt A0 fr).toNat := fun x h1 h2 => by
        rw [← hr x (by omega), ← hr fr (by omega)]
        by_cases e : x = fr
        · rw [e]
        · exact p3 x (by omega) h2
      have hb9 := bits_mono n (t - fr) (by omega)
      have hcost : r.2 + (t - fr) ≤ (t - fr) * (11 + 2 * bits n) := by
        have h1 := Nat.mul_le_mul_left (2 * (t - fr)) hb9
        have e : (t - fr) * (11 + 2 * bits n) = 11 * (t - fr) + 2 * (t - fr) * bits n := by
          rw [Nat.mul_add, ← Nat.mul_assoc, Nat.mul_comm (t - fr) 2, Nat.mul_comm (t - fr) 11]
        omega
      obtain ⟨q1, q2, q3, q4, q5⟩ := rwF_ok key R A0 n ho k t (spl A fr t r.1) (z + r.2 + (t - fr)) (by rw [hm1.len]; exact hl) (by omega) (by omega) (hm.trans (hm1.mono (Nat.zero_le _) (by omega))) (fun x hx => by
          by_cases c1 : fr ≤ x ∧ x < t
          · obtain ⟨y, y1, y2, y3⟩ := hm1.inn c1.1 c1.2
            rw [y3, hr y (by omega), hrow y y1 y2, hrow x c1.1 c1.2]
          · rw [hm1.out (by omega)]; exact hr x hx) (fun x y h1 h2 h3 => by
          by_cases c1 : y < fr
          · rw [hm1.out (.inl c1), hm1.out (.inl (by omega))]
            exact hs x y h1 c1 h3
          · by_cases c2 : x < fr
            · have := hb x y c2 (by omega) (by omega)
              omega
            · rw [hg1, hg1, if_neg c2, if_neg c1, if_pos (by omega), if_pos h2]
              exact s1 _ _ (Nat.zero_le _) (by omega) (by omega)) (fun x y h1 h2 h3 => by
          by_cases c1 : x < fr
          · exact hb x y c1 (by omega) h3
          · rw [hrow x (by omega) h1]
            have e1 := p4 (by omega)
            rw [hr t (by omega), hr fr (by omega)] at e1
            have e2 := ho fr t (by omega) (by omega)
            by_cases e3 : y = t
            · rw [e3]; omega
            · have := ho t y (by omega) h3
              omega)
      refine ⟨q1, q2, q3, by omega, ?_⟩
      have e : (n - fr) * (11 + 2 * bits n) = (t - fr) * (11 + 2 * bits n) + (n - t) * (11 + 2 * bits n) := by
        rw [← Nat.add_mul]; congr 1; omega
      omega
    · rw [if_neg c]
      exact ⟨hm, hr, fun x y h1 h2 h3 => hs x y h1 (by omega) h3, Nat.le_refl _, Nat.le_add_right _ _⟩
section
variable {l : List Int} {M : Int}
theorem sm2_iff (hM : ∀ x, x < l.length → M < gt l x) {R A : List Int} {k : Nat} (hk : 0 < k) (hA : Pm l.length A) (h : Rk l M R k) (x y : Nat) (hx : x < l.length) (hy : y < l.length) :
    sm2 R l.length k (gt A x) (gt A y) = true ↔ eqk l M (2 * k) (gt A x).toNat (gt A y).toNat := by
  have i1 := hA.lt hx
  have j1 := hA.lt hy
  have b1 := bhd_iff hM hk h i1 j1
  have b2 := bhd_iff hM hk h j1 i1
  rw [← hA.nn hx, ← hA.nn hy] at b1 b2
  unfold sm2
  rw [decide_eq_true_eq, h.eq_iff i1 j1, Nat.two_mul, eqk_two]
  refine and_congr_right fun _ => ?_
  constructor
  · intro e
    rcases ltk_tri (l := l) (M := M) k ((gt A x).toNat + k) ((gt A y).toNat + k) with h3 | h3 | h3
    · have := b1.2 h3; omega
    · exact h3
    · have := b2.2 h3; omega
  · intro e
    rcases Int.lt_trichotomy (bhd R l.length k (gt A x)) (bhd R l.length k (gt A y)) with h3 | h3 | h3
    · exact absurd e (b1.1 h3).ne
    · exact h3
    · exact absurd e.symm (b2.1 h3).ne
theorem rows_ok (hM : ∀ x, x < l.length → M < gt l x) {R A : List Int} {k : Nat} (hk : 0 < k) (hA : Ar l M A k) (h : Rk l M R k) (z : Nat) :
    Ar l M (rwF R (bhd R l.length k) (l.length + 1) 0 A z).1 (2 * k) ∧ z ≤ (rwF R (bhd R l.length k) (l.length + 1) 0 A z).2 ∧ (rwF R (bhd R l.length k) (l.length + 1) 0 A z).2 ≤ z + l.length * (11 + 2 * bits l.length) := by
  have ho : ∀ x y, x < y → y < l.length → gt R (gt A x).toNat ≤ gt R (gt A y).toNat := fun x y h1 h2 => by
    have := hA.2 x y h1 h2
    rw [← h.2.2 _ _ (hA.1.lt h2) (hA.1.lt (by omega))] at this
    omega
  obtain ⟨q1, q2, q3, q4, q5⟩ := rwF_ok (bhd R l.length k) R A l.length ho (l.length + 1) 0 A z hA.1.1 (by omega) (Nat.zero_le _) (Mv.refl _ _ _) (fun _ _ => rfl) (fun x y _ h => by omega) (fun x y h => by omega)
  have hP := hA.1.mv q1
  refine ⟨⟨hP, fun x y h1 h2 hh => ?_⟩, q4, q5⟩
  have x1 := hP.lt (x := x) (by omega)
  have y1 := hP.lt h2
  rw [Nat.two_mul, ltk_two] at hh
  rcases hh with hh | ⟨e, hh⟩
  · rw [← h.2.2 _ _ y1 x1, q2 x (by omega), q2 y h2] at hh
    have := ho x y h1 h2
    omega
  · have e2 := (h.eq_iff y1 x1).2 e
    rw [q2 x (by omega), q2 y h2] at e2
    have := q3 x y h1 h2 e2.symm
    have b1 := (bhd_iff hM hk h y1 x1).2 hh
    rw [← hP.nn (x := x) (by omega), ← hP.nn h2] at b1
    omega
theorem cs2_le (R : List Int) (i k : Int) : 1 ≤ cs2 R i k ∧ cs2 R i k ≤ 2 := by
  unfold cs2
  split <;> omega
theorem dbF_ok (hM : ∀ x, x < l.length → M < gt l x) (hn : 0 < l.length) (hn6 : l.length ≤ 1000000) : ∀ (k st : Nat) (A R O : List Int) (c : Int) (z : Nat), 0 < st → bits ((l.length - 1) / st) < k → Ar l M A st → Rk l M R st → O.length = l.length →
    (c = (l.length : Int) ↔ Strict l M A st) →
    ∃ A' z', dbF l.length k st A R O c z = some (A', z') ∧ Pm l.length A' ∧ (∃ q, Strict l M A' q) ∧ z ≤ z' ∧ z' ≤ z + bits ((l.length - 1) / st) * (l.length * (13 + 2 * bits l.length))
  | 0, st, A, R, O, c, z, hs, hk, hA, hR, hO, hc => by omega
  | k + 1, st, A, R, O, c, z, hs, hk, hA, hR, hO, hc => by
    unfold dbF
    by_cases h : c = (l.length : Int)
    · rw [if_pos h]
      exact ⟨A, z, rfl, hA.1, ⟨st, hc.1 h⟩, Nat.le_refl _, Nat.le_add_right _ _⟩
    · rw [if_neg h]
      have hst : st < l.length := Nat.not_le.1 fun hh => h (hc.2 fun x y h1 h2 => by
        rcases ltk_tri (l := l) (M := M) st (gt A x).toNat (gt A y).toNat with h3 | h3 | h3
        · exact h3
        · exfalso
          have x1 := hA.1.lt (x := x) (by omega)
          have y1 := hA.1.lt h2
          rcases Nat.lt_trichotomy (gt A x).toNat (gt A y).toNat with e | e | e
          · exact distinct hM hh e y1 h3
          · have := hA.1.inj (by omega) h2 e; omega
          · exact distinct hM hh e x1 h3.symm
        · exact absurd h3 (hA.2 x y h1 h2))
      have hb : bits ((l.length - 1) / st) = bits ((l.length - 1) / (2 * st)) + 1 := by
        rw [bits_pos (Nat.div_pos (by omega) hs), Nat.div_div_eq_div_mul, Nat.mul_comm st 2]
      rw [if_neg (by omega : ¬ 1000000 < st)]
      obtain ⟨r1, r2, r3⟩ := rows_ok hM hs hA hR z
      dsimp only
      generalize rwF R (bhd R l.length st) (l.length + 1) 0 A z = r at *
      have hsm := sm2_iff hM hs r1.1 hR
      obtain ⟨m1, m2, m3, m4, m5⟩ := nmF_ok (sm2 R l.length st) (cs2 R) r.1 l.length 2 r1.1 (cs2_le R) l.length 0 O 0 r.2 (by omega) hO (fun _ => rfl) (fun hh => by omega) (fun x hx => by omega)
      unfold nmAll
      rw [r1.1.1]
      generalize nmF (sm2 R l.length st) (cs2 R) r.1 l.length 0 O 0 r.2 = m at *
      have hR2 : Rk l M m.1 (2 * st) := rank_of r1 hsm m1 m2
      obtain ⟨A', z', d1, d2, d3, d4, d5⟩ := dbF_ok hM hn hn6 k (2 * st) r.1 m.1 R m.2.1 m.2.2 (by omega) (by omega) r1 hR2 hR.1 (by rw [m3 hn]; exact strict_iff hn r1 hsm)
      refine ⟨A', z', d1, d2, d3, ?_, ?_⟩
      · rw [if_pos rfl] at m4; omega
      · rw [hb, Nat.succ_mul]
        have e : l.length * (13 + 2 * bits l.length) = l.length * (11 + 2 * bits l.length) + 2 * l.length := by
          have : 13 + 2 * bits l.length = 11 + 2 * bits l.length + 2 := by omega
          rw [this, Nat.mul_add, Nat.mul_comm l.length 2]
        omega
theorem rkF_ok (A : List Int) (n : Nat) (hA : Pm n A) : ∀ (k a : Nat) (R : List Int), a + k = n → R.length = n → (∀ x, x < a → gt R (gt A x).toNat = (x : Int)) →
    (rkF A k a R).length = n ∧ ∀ x, x < n → gt (rkF A k a R) (gt A x).toNat = (x : Int)
  | 0, a, R, h, hR, hx => by
    unfold rkF
    exact ⟨hR, fun x h1 => hx x (by omega)⟩
  | k + 1, a, R, h, hR, hx => by
    unfold rkF
    have ha : a < n := by omega
    have hlt := hA.lt ha
    refine rkF_ok A n hA k (a + 1) _ (by omega) (by simpa using hR) fun x h1 => ?_
    rw [gt_set _ _ _ _ (by omega)]
    by_cases e : x = a
    · rw [e, if_pos rfl]
    · rw [if_neg (fun hh => e (hA.inj (by omega) ha hh))]
      exact hx x (by omega)
/-- The suffix at i is less than that at j. -/
def sl (l : List Int) (M : Int) (i j : Nat) : Prop := ∃ q, ltk l M q i j
theorem low (l : List Int) : ∃ M : Int, ∀ x, x < l.length → M < gt l x := by
  induction l with
  | nil => exact ⟨0, fun x hx => by cases hx⟩
  | cons a l ih =>
    obtain ⟨M, hM⟩ := ih
    refine ⟨min M (a - 1), fun x hx => ?_⟩
    cases x with
    | zero => show _ < a; omega
    | succ x =>
      have := hM x (by simpa using hx)
      show _ < gt l x
      omega
theorem poly {n b b1 : Nat} (h1 : b1 ≤ b) (h2 : 2 ≤ b) : 11 * n + 2 * n * b + b1 * (n * (13 + 2 * b)) ≤ 6 * n * (b + 1) * (b + 1) := by
  have e1 : b1 * (n * (13 + 2 * b)) ≤ b * (n * (13 + 2 * b)) := Nat.mul_le_mul_right _ h1
  have e2 : 11 + 2 * b + b * (13 + 2 * b) ≤ 6 * ((b + 1) * (b + 1)) := by
    obtain ⟨c, rfl⟩ : ∃ c, b = c + 2 := ⟨b - 2, by omega⟩
    have a1 : (c + 2) * (13 + 2 * (c + 2)) = 2 * (c * c) + 21 * c + 34 := by
      have e0 : 13 + 2 * (c + 2) = 2 * c + 17 := by omega
      have e9 : c * (2 * c) = 2 * (c * c) := Nat.mul_left_comm _ _ _
      rw [e0, Nat.add_mul, Nat.mul_add, e9]
      omega
    have a2 : (c + 2 + 1) * (c + 2 + 1) = c * c + 6 * c + 9 := by
      rw [Nat.add_assoc, Nat.add_mul, Nat.mul_add]; omega
    rw [a1, a2]
    omega
  have e3 := Nat.mul_le_mul_left n e2
  have e4 : 6 * n * (b + 1) * (b + 1) = n * (6 * ((b + 1) * (b + 1))) := by
    rw [Nat.mul_assoc, Nat.mul_comm 6 n, Nat.mul_assoc]
  have e5 : n * (11 + 2 * b + b * (13 + 2 * b)) = 11 * n + 2 * n * b + b * (n * (13 + 2 * b)) := by
    rw [Nat.mul_add, Nat.mul_add, Nat.mul_left_comm n b, Nat.mul_comm n 11, ← Nat.mul_assoc, Nat.mul_comm n 2]
  omega
theorem ofF_ok (hM : ∀ x, x < l.length → M < gt l x) (hn6 : l.length ≤ 1000000) : ∃ A R z, ofF l = some (A, R, z) ∧ Pm l.length A ∧ (∀ x y, x < y → y < l.length → sl l M (gt A x).toNat (gt A y).toNat) ∧
    R.length = l.length ∧ (∀ x, x < l.length → gt R (gt A x).toNat = (x : Int)) ∧ l.length - 1 ≤ z ∧ z ≤ 6 * l.length * (bits l.length + 1) * (bits l.length + 1) := by
  unfold ofF
  by_cases hn : l.length = 0
  · dsimp only
    rw [if_pos hn]
    refine ⟨[], [], 0, rfl, ⟨hn.symm, id, id, fun x hx => by omega⟩, fun x y h1 h2 => by omega, hn.symm, fun x hx => by omega, by omega, Nat.zero_le _⟩
  · dsimp only
    rw [if_neg hn]
    obtain ⟨s1, s2, s3⟩ := stab_ok (keyL l) (iota l.length)
    rw [iota_len] at s1 s2 s3
    generalize stab (keyL l) (iota l.length) = s at *
    have hP : Pm l.length s.1 := (Pm_iota _).mv s2
    have lt1 : ∀ i j : Nat, i < l.length → j < l.length → (ltk l M 1 i j ↔ gt l i < gt l j) := fun i j hi hj => by
      constructor
      · rintro ⟨t, h1, h2, h3⟩
        obtain rfl : t = 0 := by omega
        unfold ev at h3
        rw [if_pos (by omega), if_pos (by omega)] at h3
        exact h3
      · intro h
        refine ⟨0, by omega, fun u hu => by omega, ?_⟩
        unfold ev
        rw [if_pos (by omega), if_pos (by omega)]
        exact h
    have hA : Ar l M s.1 1 := ⟨hP, fun x y h1 h2 h => by
      rw [lt1 _ _ (hP.lt h2) (hP.lt (by omega))] at h
      have := s1 x y (Nat.zero_le _) h1 h2
      unfold keyL at this
      omega⟩
    have hsm : ∀ x y, x < l.length → y < l.length → ((fun i k => decide (keyL l i = keyL l k)) (gt s.1 x) (gt s.1 y) = true ↔ eqk l M 1 (gt s.1 x).toNat (gt s.1 y).toNat) := fun x y hx hy => by
      rw [decide_eq_true_eq]
      have a1 := lt1 _ _ (hP.lt hx) (hP.lt hy)
      have a2 := lt1 _ _ (hP.lt hy) (hP.lt hx)
      unfold keyL
      constructor
      · intro e
        rcases ltk_tri (l := l) (M := M) 1 (gt s.1 x).toNat (gt s.1 y).toNat with h3 | h3 | h3
        · have := a1.1 h3; omega
        · exact h3
        · have := a2.1 h3; omega
      · intro e
        rcases Int.lt_trichotomy (gt l (gt s.1 x).toNat) (gt l (gt s.1 y).toNat) with h3 | h3 | h3
        · exact absurd e (a1.2 h3).ne
        · exact h3
        · exact absurd e.symm (a2.2 h3).ne
    obtain ⟨m1, m2, m3, m4, m5⟩ := nmF_ok (fun i k => decide (keyL l i = keyL l k)) (fun _ _ => 1) s.1 l.length 1 hP (fun _ _ => ⟨Nat.le_refl _, Nat.le_refl _⟩) l.length 0 (List.replicate l.length 0) 0 s.2 (by omega) (by simp) (fun _ => rfl) (fun hh => by omega) (fun x hx => by omega)
    unfold nmAll
    rw [hP.1]
    generalize nmF (fun i k => decide (keyL l i = keyL l k)) (fun _ _ => 1) s.1 l.length 0 (List.replicate l.length 0) 0 s.2 = m at *
    have hR : Rk l M m.1 1 := rank_of hA hsm m1 m2
    have hbl : bits ((l.length - 1) / 1) < l.length := by
      rw [Nat.div_one]
      have := bits_le (l.length - 1)
      omega
    obtain ⟨A', z', d1, d2, ⟨q, d3⟩, d4, d5⟩ := dbF_ok hM (by omega) hn6 l.length 1 s.1 m.1 (List.replicate l.length 0) m.2.1 m.2.2 (by omega) hbl hA hR (by simp) (by rw [m3 (by omega)]; exact strict_iff (by omega) hA hsm)
    rw [d1]
    obtain ⟨k1, k2⟩ := rkF_ok A' l.length d2 l.length 0 (List.replicate l.length 0) (by omega) (by simp) (fun x hx => by omega)
    refine ⟨A', rkF A' l.length 0 (List.replicate l.length 0), z', rfl, d2, fun x y h1 h2 => ⟨q, d3 x y h1 h2⟩, k1, k2, ?_, ?_⟩
    · rw [if_pos rfl] at m4; omega
    · by_cases h1 : l.length = 1
      · have e0 : bits ((l.length - 1) / 1) = 0 := by rw [h1]; exact bits_zero
        have e1 : bits l.length = 1 := by rw [h1, bits_pos (by omega)]; exact congrArg (· + 1) bits_zero
        rw [e0] at d5
        rw [e1] at s3 ⊢
        rw [h1] at s3 d5 m5 ⊢
        omega
      · have hb1 : bits ((l.length - 1) / 1) ≤ bits l.length := bits_mono _ _ (by rw [Nat.div_one]; omega)
        have hb2 : 2 ≤ bits l.length := by
          rw [bits_pos (by omega), bits_pos (n := l.length / 2) (by omega)]; omega
        have hp := poly (n := l.length) hb1 hb2
        omega
end
/-! one order, one array -/
theorem arr_one {n : Nat} {lt : Nat → Nat → Prop} {A B : List Int} (ha : ∀ i j, lt i j → ¬ lt j i) (hA : Pm n A) (hB : Pm n B) (sA : ∀ x y, x < y → y < n → lt (gt A x).toNat (gt A y).toNat) (sB : ∀ x y, x < y → y < n → lt (gt B x).toNat (gt B y).toNat) : A = B := by
  have key : ∀ x, x < n → (gt A x).toNat = (gt B x).toNat := fun x => by
    induction x using Nat.strongRecOn with
    | _ x ih =>
      intro hx
      obtain ⟨y, y1, y2⟩ := hB.sur (hA.lt hx)
      obtain ⟨z, z1, z2⟩ := hA.sur (hB.lt hx)
      have hy : x ≤ y := Nat.not_lt.1 fun hh => by
        have := ih y hh (by omega)
        have := hA.inj (x := y) (y := x) (by omega) hx (by omega)
        omega
      have hz : x ≤ z := Nat.not_lt.1 fun hh => by
        have := ih z hh (by omega)
        have := hB.inj (x := z) (y := x) (by omega) hx (by omega)
        omega
      by_cases e1 : y = x
      · rw [← y2, e1]
      by_cases e2 : z = x
      · rw [← z2, e2]
      have l1 := sB x y (by omega) y1
      have l2 := sA x z (by omega) z1
      rw [y2] at l1
      rw [z2] at l2
      exact absurd l2 (ha _ _ l1)
  refine List.ext_getElem (hA.1.trans hB.1.symm) fun i h1 h2 => ?_
  have hi : i < n := by have := hA.1; omega
  have := key i hi
  have e1 := hA.nn hi
  have e2 := hB.nn hi
  have e3 : gt A i = A[i] := by simp [gt, List.getD_eq_getElem?_getD, h1]
  have e4 : gt B i = B[i] := by simp [gt, List.getD_eq_getElem?_getD, h2]
  rw [← e3, ← e4, e1, e2, this]
theorem sl.asym {l : List Int} {M : Int} {i j : Nat} (h : sl l M i j) : ¬ sl l M j i := fun h' => by
  obtain ⟨q, t, h1, h2, h3⟩ := h
  obtain ⟨q', t', h1', h2', h3'⟩ := h'
  rcases Nat.lt_trichotomy t t' with e | e | e
  · have := h2' t e; omega
  · subst e; omega
  · have := h2 t' e; omega
/-! ### the slices' functions, walked -/
/-- The list d stands in the block b from the place o on; what stands around it is D's. -/
def DD (W : World) (b : Nat) (D : List Int) (o : Nat) (d : List Int) : Prop := o + d.length ≤ D.length ∧ W.heap[b]? = some (.cells (nums .i64 (spl D o (o + d.length) d)).toArray 3 (0, 0))
theorem DD.cell {W : World} {b o : Nat} {D d : List Int} (h : DD W b D o d) (i : Nat) (hi : i < d.length) : W.cell? ⟨b, o + i, none⟩ = some (.int .i64 (gt d i)) := by
  rw [blk_cell h.2]
  have e := gt_spl (A := D) (x := d) (a := o) (b := o + d.length) (by omega) h.1 (by omega) (o + i)
  rw [if_neg (by omega), if_pos (by omega)] at e
  have e2 : o + i - o = i := by omega
  rw [e2] at e
  have hl := spl_len (A := D) (x := d) (a := o) (b := o + d.length) (by omega) h.1 (by omega)
  rw [← e]
  simp only [nums, gt, List.getD_eq_getElem?_getD]
  rw [List.getElem?_toArray, List.getElem?_map]
  have hlt : o + i < (spl D o (o + d.length) d).length := by have := h.1; omega
  rw [List.getElem?_eq_getElem hlt]
  rfl
theorem DD.frozen {W : World} {b o : Nat} {D d : List Int} (h : DD W b D o d) (i : Nat) : W.frozen? ⟨b, i, none⟩ = false := blk_frozen h.2 i
theorem spl_set {D d : List Int} {o : Nat} (hb : o + d.length ≤ D.length) (i : Nat) (hi : i < d.length) (v : Int) : (spl D o (o + d.length) d).set (o + i) v = spl D o (o + d.length) (d.set i v) := by
  unfold spl
  have e0 : (D.take o).length = o := by rw [List.length_take]; omega
  have e1 : o + i - o = i := by omega
  have e2 : (d.set i v).length = d.length := List.length_set
  rw [List.append_assoc, List.set_append_right _ _ (by omega), e0, e1, List.set_append_left _ _ hi, ← List.append_assoc]
theorem DD.set {W : World} {b o : Nat} {D d : List Int} (h : DD W b D o d) (i : Nat) (hi : i < d.length) (v : Int) : DD (W.setCell ⟨b, o + i, none⟩ (.int .i64 v)) b D o (d.set i v) := by
  refine ⟨by rw [List.length_set]; exact h.1, ?_⟩
  rw [List.length_set, ← spl_set h.1 i hi v]
  refine blk_put h.2 _ _ ?_
  simp [nums, List.map_set]
theorem DD.same {W W' : World} {b o : Nat} {D d : List Int} (h : DD W b D o d) (e : W'.heap[b]? = W.heap[b]?) : DD W' b D o d := ⟨h.1, e.trans h.2⟩
theorem DD.drew {W : World} {b o : Nat} {D d : List Int} (h : DD W b D o d) : DD W.drew b D o d := h
/-- What a comparing function says of two keys. -/
def cmp3 (x y : Int) : Int := if x < y then -1 else if y < x then 1 else 0
theorem cmp3_lt (x y : Int) : decide (cmp3 x y < 0) = decide (x < y) := by
  unfold cmp3
  by_cases h : x < y
  · simp [h]
  · by_cases h2 : y < x <;> simp [h, h2]
theorem cmp3_eq (x y : Int) : (cmp3 x y == 0) = decide (x = y) := by
  unfold cmp3
  by_cases h : x < y
  · have : x ≠ y := by omega
    simp [h, this]
  · by_cases h2 : y < x
    · have : x ≠ y := by omega
      simp [h, h2, this]
    · have : x = y := by omega
      simp [this]
/-- A function value that compares entries by their keys; J z: so many comparisons were made. -/
structure Cmp (F : Nat) (caps : Array Value) (b : Nat) (key : Int → Int) (V : Int → Prop) (J : Nat → World → Prop) : Prop where
  enters : ∀ (a : Array Value) (W : World), (callFunc F a).run Try.prog W = .ok (.enter F a) W
  call : ∀ (z : Nat) (W : World) (x y : Int), J z W → V x → V y → Calls Try.prog F (#[.int .i64 x, .int .i64 y] ++ caps) W fun e W' => e = .returned (.int .i64 (cmp3 (key x) (key y))) ∧ J (z + 1) W' ∧ W'.heap[b]? = W.heap[b]?
  set : ∀ (z : Nat) (W : World) (j : Nat) (v : Int), J z W → J z (W.setCell ⟨b, j, none⟩ (.int .i64 v))
  drew : ∀ (z : Nat) (W : World), J z W → J z W.drew
def AllV (V : Int → Prop) (d : List Int) : Prop := ∀ i, i < d.length → V (gt d i)
theorem AllV.swp {V : Int → Prop} {d : List Int} (h : AllV V d) {i j : Nat} (hi : i < d.length) (hj : j < d.length) : AllV V (swp d i j) := fun x hx => by
  rw [gt_swp _ _ _ _ hi hj]
  rw [swp_len] at hx
  split
  · exact h i hi
  · split
    · exact h j hj
    · exact h x hx
theorem DD.swp {W : World} {b o : Nat} {D d : List Int} (h : DD W b D o d) {i j : Nat} (hi : i < d.length) (hj : j < d.length) : DD ((W.setCell ⟨b, o + i, none⟩ (.int .i64 (gt d j))).setCell ⟨b, o + j, none⟩ (.int .i64 (gt d i))) b D o (swp d i j) :=
  (h.set i hi (gt d j)).set j (by simpa using hj) (gt d i)
section
variable {F : Nat} {caps : Array Value} {b : Nat} {key : Int → Int} {V : Int → Prop} {J : Nat → World → Prop} {D : List Int} {o : Nat}
/-- The state of the sorting: the list, its entries' worth, the comparisons. -/
structure St (b : Nat) (V : Int → Prop) (J : Nat → World → Prop) (D : List Int) (o : Nat) (W : World) (d : List Int) (z : Nat) : Prop where
  dd : DD W b D o d
  all : AllV V d
  j : J z W
theorem St.swp (hC : Cmp F caps b key V J) {W : World} {d : List Int} {z : Nat} (h : St b V J D o W d z) {i j : Nat} (hi : i < d.length) (hj : j < d.length) : St b V J D o ((W.setCell ⟨b, o + i, none⟩ (.int .i64 (gt d j))).setCell ⟨b, o + j, none⟩ (.int .i64 (gt d i))) (swp d i j) z :=
  ⟨h.dd.swp hi hj, h.all.swp hi hj, hC.set _ _ _ _ (hC.set _ _ _ _ h.j)⟩
theorem St.drew (hC : Cmp F caps b key V J) {W : World} {d : List Int} {z : Nat} (h : St b V J D o W d z) : St b V J D o W.drew d z := ⟨h.dd, h.all, hC.drew _ _ h.j⟩
set_option maxRecDepth 100000 in
set_option maxHeartbeats 4000000 in
theorem swapRange_calls (hC : Cmp F caps b key V J) (p q t : Nat) (d : List Int) (z cap : Nat) (W : World) (h : St b V J D o W d z) (hp : p + t ≤ d.length) (hq : q + t ≤ d.length) (hl : d.length ≤ 1000000) (Pi Qi Ti : Int) (ep : Pi = (p : Int)) (eq : Qi = (q : Int)) (et : Ti = (t : Int)) (n : Nat) (hn : n = d.length) :
    Calls Try.prog 56 #[.slice (some ⟨b, o, none⟩) n cap, .int .i64 Pi, .int .i64 Qi, .int .i64 Ti, .func (.func F) #[] caps] W fun en W' => en = .returned (.tuple #[]) ∧ St b V J D o W' (srF t p q d) z := by
  subst hn ep eq et
  have HS := Aside0.mk h
  clear h
  go_enter Try.func56, Try.ntmps56
  go_wp2
  go_loopg [10] t (fun g v10 wr => ∃ (i : Nat) (d1 : List Int), v10 = .int .i64 i ∧ i + g = t ∧ d1.length = d.length ∧ srF g (p + i) (q + i) d1 = srF t p q d ∧ Aside0 (St b V J D o wr d1 z))
  case atStart => exact ⟨0, d, rfl, by omega, rfl, rfl, HS⟩
  case round =>
    clear HS
    obtain ⟨i, d1, rfl, hi, hl1, hF, HS⟩ := hrel
    cases gk with
    | zero =>
      have d0 : decide ((i : Int) < (t : Int)) = false := decide_eq_false (by omega)
      go_wp2
      refine bodyPost_end (v := .tuple #[]) (by simp [results, Try.results56, go_sem]) rfl ?_
      have e := HS.out
      rw [show d1 = srF t p q d from hF] at e
      exact ⟨rfl, e⟩
    | succ g =>
      have d0 : decide ((i : Int) < (t : Int)) = true := decide_eq_true (by omega)
      have c1 : wr.cell? ⟨b, o + (p + i), none⟩ = some (.int .i64 (gt d1 (p + i))) := HS.out.dd.cell _ (by omega)
      have c2 : wr.cell? ⟨b, o + (q + i), none⟩ = some (.int .i64 (gt d1 (q + i))) := HS.out.dd.cell _ (by omega)
      have f1 := HS.out.dd.frozen
      have c3 := (HS.out.dd.set (p + i) (by omega) (gt d1 (q + i))).cell (q + i) (by rw [List.length_set]; omega)
      go_wp2
      go_region
      go_wp2
      go_roundg g
      case measure => omega
      case rel => exact ⟨i + 1, swp d1 (p + i) (q + i), by simp, by omega, by rw [swp_len]; exact hl1, hF, ⟨(HS.out.swp hC (by omega) (by omega)).drew hC⟩⟩
set_option maxRecDepth 100000 in
set_option maxHeartbeats 4000000 in
theorem rotate_calls (hC : Cmp F caps b key V J) (a m e : Nat) (d : List Int) (z cap : Nat) (W : World) (h : St b V J D o W d z) (h1 : a < m) (h2 : m < e) (h3 : e ≤ d.length) (hl : d.length ≤ 1000000) (Ai Mi Ei : Int) (ea : Ai = (a : Int)) (em : Mi = (m : Int)) (ee : Ei = (e : Int)) (n : Nat) (hn : n = d.length) :
    Calls Try.prog 55 #[.slice (some ⟨b, o, none⟩) n cap, .int .i64 Ai, .int .i64 Mi, .int .i64 Ei, .func (.func F) #[] caps] W fun en W' => en = .returned (.tuple #[]) ∧ St b V J D o W' (rtF (e - a) m (m - a) (e - m) d) z := by
  subst hn ea em ee
  have HS := Aside0.mk h
  clear h
  go_enter Try.func55, Try.ntmps55
  go_wp2
  go_loopg [10, 11] (e - a) (fun g v10 v11 wr => ∃ (i j : Nat) (d1 : List Int), v10 = .int .i64 i ∧ v11 = .int .i64 j ∧ 0 < i ∧ 0 < j ∧ i ≤ m ∧ m + j ≤ d.length ∧ i + j ≤ g ∧ d1.length = d.length ∧ rtF g m i j d1 = rtF (e - a) m (m - a) (e - m) d ∧ Aside0 (St b V J D o wr d1 z))
  case atStart => exact ⟨m - a, e - m, d, (by first | rfl | (congr 1; omega)), (by first | rfl | (congr 1; omega)), by omega, by omega, by omega, by omega, by omega, rfl, rfl, HS⟩
  case round =>
    clear HS
    obtain ⟨i, j, d1, rfl, rfl, hi, hj, him, hjm, hg, hl1, hF, HS⟩ := hrel
    obtain ⟨g, rfl⟩ : ∃ g, gk = g + 1 := ⟨gk - 1, by omega⟩
    have hr : rtF (g + 1) m i j d1 = if i = j then srF i (m - i) m d1 else if j < i then rtF g m (i - j) j (srF j (m - i) m d1) else rtF g m i (j - i) (srF i (m - i) (m + j - i) d1) := rfl
    rw [hr] at hF
    clear hr
    by_cases c1 : i = j
    · subst c1
      rw [if_pos rfl] at hF
      have d0 : ((i : Int) != (i : Int)) = false := by simp
      go_wp2_with (go_at_call 56; refine (swapRange_calls hC (m - i) m i d1 z cap _ HS.out (by omega) (by omega) (by omega) _ _ _ (by omega) rfl rfl _ hl1.symm).mono ?_; rintro e2 w2 ⟨rfl, h2⟩; have H2 := Aside0.mk h2; clear h2)
      refine bodyPost_end (v := .tuple #[]) (by simp [results, Try.results55, go_sem]) rfl ?_
      have h := H2.out
      rw [hF] at h
      exact ⟨rfl, h⟩
    · rw [if_neg c1] at hF
      have d0 : ((i : Int) != (j : Int)) = true := by simp; omega
      by_cases c2 : j < i
      · rw [if_pos c2] at hF
        have d1' : decide ((i : Int) > (j : Int)) = true := decide_eq_true (by omega)
        have hm1 := (srF_ok j (m - i) m d1 (by omega) (by omega)).1.len
        go_wp2_with (go_at_call 56; refine (swapRange_calls hC (m - i) m j d1 z cap _ HS.out (by omega) (by omega) (by omega) _ _ _ (by omega) rfl rfl _ hl1.symm).mono ?_; rintro e2 w2 ⟨rfl, h2⟩; have H2 := Aside0.mk h2; clear h2)
        go_roundg g
        case measure => omega
        case rel => exact ⟨i - j, j, srF j (m - i) m d1, (by first | rfl | (congr 1; omega)), rfl, by omega, hj, by omega, hjm, by omega, by rw [hm1]; exact hl1, hF, H2⟩
      · rw [if_neg c2] at hF
        have d1' : decide ((i : Int) > (j : Int)) = false := decide_eq_false (by omega)
        have hm1 := (srF_ok i (m - i) (m + j - i) d1 (by omega) (by omega)).1.len
        go_wp2_with (go_at_call 56; refine (swapRange_calls hC (m - i) (m + j - i) i d1 z cap _ HS.out (by omega) (by omega) (by omega) _ _ _ (by omega) (by omega) rfl _ hl1.symm).mono ?_; rintro e2 w2 ⟨rfl, h2⟩; have H2 := Aside0.mk h2; clear h2)
        go_roundg g
        case measure => omega
        case rel => exact ⟨i, j - i, srF i (m - i) (m + j - i) d1, rfl, (by first | rfl | (congr 1; omega)), hi, by omega, him, by omega, by omega, by rw [hm1]; exact hl1, hF, H2⟩
set_option maxRecDepth 100000 in
set_option maxHeartbeats 4000000 in
theorem ins_calls (hC : Cmp F caps b key V J) (a e : Nat) (d : List Int) (z cap : Nat) (W : World) (h : St b V J D o W d z) (h1 : a ≤ e) (h3 : e ≤ d.length) (hl : d.length ≤ 1000000) (Ai Ei : Int) (ea : Ai = (a : Int)) (ee : Ei = (e : Int)) (n : Nat) (hn : n = d.length) :
    Calls Try.prog 52 #[.slice (some ⟨b, o, none⟩) n cap, .int .i64 Ai, .int .i64 Ei, .func (.func F) #[] caps] W fun en W' => en = .returned (.tuple #[]) ∧ St b V J D o W' (insSort key a e d).1 (z + (insSort key a e d).2) := by
  subst hn ea ee
  have HS := Aside0.mk h
  clear h
  go_enter Try.func52, Try.ntmps52
  go_wp2
  go_loopg [8] (e - (a + 1)) (fun g v8 wr => ∃ (i : Nat) (d1 : List Int) (z1 : Nat), v8 = .int .i64 i ∧ a < i ∧ (i < e → i + g = e) ∧ (e ≤ i → g = 0) ∧ d1.length = d.length ∧ (insOut key a g i d1).1 = (insSort key a e d).1 ∧ z1 + (insOut key a g i d1).2 = z + (insSort key a e d).2 ∧ Aside0 (St b V J D o wr d1 z1))
  case atStart => exact ⟨a + 1, d, z, (by first | rfl | (congr 1; omega)), by omega, by omega, by omega, rfl, rfl, rfl, HS⟩
  case round =>
    clear HS
    obtain ⟨i, d1, z1, rfl, hai, hi1, hi2, hl1, hF, hZ, HS⟩ := hrel
    cases gk with
    | zero =>
      have hie : ¬ i < e := fun hh => by have := hi1 hh; omega
      have d0 : decide ((i : Int) < (e : Int)) = false := decide_eq_false (by omega)
      clear hi1 hi2
      go_wp2
      refine bodyPost_end (v := .tuple #[]) (by simp [results, Try.results52, go_sem]) rfl ?_
      have h := HS.out
      rw [← hF, ← hZ]
      exact ⟨rfl, h⟩
    | succ g =>
      have hie : i < e := Nat.not_le.1 fun hh => by have := hi2 hh; omega
      have hi3 : i + g + 1 = e := by have := hi1 hie; omega
      have d0 : decide ((i : Int) < (e : Int)) = true := decide_eq_true (by omega)
      clear hi1 hi2
      have e1 : (insOut key a (g + 1) i d1).1 = (insOut key a g (i + 1) (insIn key a i d1).1).1 := rfl
      have e2 : (insOut key a (g + 1) i d1).2 = (insIn key a i d1).2 + (insOut key a g (i + 1) (insIn key a i d1).1).2 := rfl
      rw [e1] at hF
      rw [e2] at hZ
      go_wp2
      go_loopg [9] i (fun j v9 wr2 => ∃ (d2 : List Int) (z2 : Nat), v9 = .int .i64 j ∧ j < d.length ∧ d2.length = d.length ∧ (insIn key a j d2).1 = (insIn key a i d1).1 ∧ z2 + (insIn key a j d2).2 = z1 + (insIn key a i d1).2 ∧ Aside0 (St b V J D o wr2 d2 z2))
      case atStart => exact ⟨d1, z1, rfl, by omega, hl1, rfl, rfl, HS⟩
      case round =>
        clear HS
        obtain ⟨d2, z2, rfl, hjl, hl2, hF2, hZ2, HS⟩ := hrel
        by_cases c1 : a < gk
        · obtain ⟨j, rfl⟩ : ∃ j, gk = j + 1 := ⟨gk - 1, by omega⟩
          have e3 : insIn key a (j + 1) d2 = if a < j + 1 then (if key (gt d2 (j + 1)) < key (gt d2 j) then ((insIn key a j (swp d2 (j + 1) j)).1, (insIn key a j (swp d2 (j + 1) j)).2 + 1) else (d2, 1)) else (d2, 0) := rfl
          rw [if_pos c1] at e3
          have d1' : decide ((a : Int) < (j : Int) + 1) = true := decide_eq_true (by omega)
          have c2 : wr.cell? ⟨b, o + (j + 1), none⟩ = some (.int .i64 (gt d2 (j + 1))) := HS.out.dd.cell _ (by omega)
          have c3 : wr.cell? ⟨b, o + j, none⟩ = some (.int .i64 (gt d2 j)) := HS.out.dd.cell _ (by omega)
          have hu := hC.enters
          have b0 : (0 : Int) ≤ (j : Int) + 1 := by omega
          have b1 : (j : Int) + 1 < (d.length : Int) := by omega
          have b2 : (j : Int) < (d.length : Int) := by omega
          have t1 : ((j : Int) + 1).toNat = j + 1 := by omega
          have w9 : IntKind.i64.wrap (j : Int) = (j : Int) := by rw [i64_w]; unfold wrap64; omega
          go_wp2
          go_still_tail 14, (by kernel_rfl)
          go_wp2
          refine (hC.call z2 _ _ _ (hC.drew _ _ HS.out.j) (HS.out.all (j + 1) (by omega)) (HS.out.all j (by omega))).mono ?_
          rintro en w3 ⟨rfl, hJ3, hk3⟩
          have HS3 : Aside0 (St b V J D o w3 d2 (z2 + 1)) := ⟨⟨HS.out.dd.drew.same hk3, HS.out.all, hJ3⟩⟩
          clear HS c2 c3 hJ3 hk3 w9
          have hlt := cmp3_lt (key (gt d2 (j + 1))) (key (gt d2 j))
          generalize cmp3 (key (gt d2 (j + 1))) (key (gt d2 j)) = cv at hlt ⊢
          by_cases c4 : key (gt d2 (j + 1)) < key (gt d2 j)
          · rw [if_pos c4] at e3
            have d2' : decide (cv < 0) = true := by rw [hlt]; exact decide_eq_true c4
            clear hlt
            have c2 : w3.cell? ⟨b, o + (j + 1), none⟩ = some (.int .i64 (gt d2 (j + 1))) := HS3.out.dd.cell _ (by omega)
            have c3 : w3.cell? ⟨b, o + j, none⟩ = some (.int .i64 (gt d2 j)) := HS3.out.dd.cell _ (by omega)
            have f1 := HS3.out.dd.frozen
            have c5 := (HS3.out.dd.set (j + 1) (by omega) (gt d2 j)).cell j (by rw [List.length_set]; omega)
            clear c4
            go_wp2
            go_region
            go_wp2
            go_roundg j
            case measure => omega
            case rel => exact ⟨swp d2 (j + 1) j, z2 + 1, (by first | rfl | (congr 1; omega)), by omega, by rw [swp_len]; exact hl2, by rw [e3] at hF2; exact hF2, by rw [e3] at hZ2; dsimp only at hZ2; omega, ⟨(HS3.out.swp hC (by omega) (by omega)).drew hC⟩⟩
          · rw [if_neg c4] at e3
            have d2' : decide (cv < 0) = false := by rw [hlt]; exact decide_eq_false c4
            clear hlt
            clear c4
            rw [e3] at hF2 hZ2
            dsimp only at hF2 hZ2
            go_wp2
            go_roundg g
            case measure => omega
            case rel => exact ⟨i + 1, d2, z2 + 1, (by first | rfl | (congr 1; omega)), by omega, by omega, by omega, hl2, by rw [hF2]; exact hF, by rw [hF2]; omega, HS3⟩
        · have e3 : insIn key a gk d2 = (d2, 0) := by
            cases gk with
            | zero => rfl
            | succ j => exact if_neg c1
          have d1' : decide ((a : Int) < (gk : Int)) = false := decide_eq_false (by omega)
          rw [e3] at hF2 hZ2
          dsimp only at hF2 hZ2
          go_wp2
          go_region
          go_wp2
          go_roundg g
          case measure => omega
          case rel => exact ⟨i + 1, d2, z2, (by first | rfl | (congr 1; omega)), by omega, by omega, by omega, hl2, by rw [hF2]; exact hF, by rw [hF2]; omega, ⟨HS.out.drew hC⟩⟩
def SymOk (F : Nat) (caps : Array Value) (b : Nat) (key : Int → Int) (V : Int → Prop) (J : Nat → World → Prop) (D : List Int) (o : Nat) (k : Nat) : Prop := ∀ (a m t : Nat) (d : List Int) (z cap : Nat) (W : World) (h : St b V J D o W d z) (h1 : a < m) (h2 : m < t) (h3 : t ≤ d.length) (hk : t - a ≤ k) (hl : d.length ≤ 1000000) (Ai Mi Ti : Int) (ea : Ai = (a : Int)) (em : Mi = (m : Int)) (et : Ti = (t : Int)) (n : Nat) (hn : n = d.length),
    Calls Try.prog 53 #[.slice (some ⟨b, o, none⟩) n cap, .int .i64 Ai, .int .i64 Mi, .int .i64 Ti, .func (.func F) #[] caps] W fun en W' => en = .returned (.tuple #[]) ∧ St b V J D o W' (symM key k a m t d).1 (z + (symM key k a m t d).2)
set_option maxRecDepth 100000 in
set_option maxHeartbeats 4000000 in
theorem symM_left (hC : Cmp F caps b key V J) (k : Nat) (a m t : Nat) (d : List Int) (z cap : Nat) (W : World) (h : St b V J D o W d z) (h1 : a < m) (h2 : m < t) (h3 : t ≤ d.length) (hk : t - a ≤ k + 1) (hl : d.length ≤ 1000000) (c1 : m - a = 1) :
    Calls Try.prog 53 #[.slice (some ⟨b, o, none⟩) d.length cap, .int .i64 (a : Int), .int .i64 (m : Int), .int .i64 (t : Int), .func (.func F) #[] caps] W fun en W' => en = .returned (.tuple #[]) ∧ St b V J D o W' (symM key (k + 1) a m t d).1 (z + (symM key (k + 1) a m t d).2) := by
    have HS := Aside0.mk h
    clear h
    · have d0 : ((m : Int) - (a : Int) == 1) = true := by simp; omega
      obtain ⟨P, hP⟩ : ∃ P : Nat → Bool, P = fun h => decide (key (gt d h) < key (gt d a)) := ⟨_, rfl⟩
      obtain ⟨r, hr⟩ : ∃ r, r = bsr P (t - m) m t := ⟨_, rfl⟩
      have hv : symM key (k + 1) a m t d = (upF (r.1 - 1 - a) a d, r.2) := symM_left_eq c1 (by rw [hr, hP])
      rw [hv]
      have HR := Aside0.mk hr; have HP := Aside0.mk hP
      clear hv hr hP
      go_enter Try.func53, Try.ntmps53
      go_wp2
      go_loopg [10, 11] (t - m) (fun g v10 v11 wr => ∃ (i j z1 : Nat), v10 = .int .i64 i ∧ v11 = .int .i64 j ∧ m ≤ i ∧ i ≤ j ∧ j ≤ t ∧ j - i ≤ g ∧ Aside0 ((bsr (P) g i j).1 = r.1 ∧ z1 + (bsr (P) g i j).2 = z + r.2) ∧ Aside0 (St b V J D o wr d z1))
      case atStart => exact ⟨m, t, z, (by first | rfl | (congr 1; omega)), (by first | rfl | (congr 1; omega)), by omega, by omega, by omega, by omega, ⟨by rw [HR.out], by rw [HR.out]⟩, HS⟩
      case round =>
        clear HS
        obtain ⟨i, j, z1, rfl, rfl, hi1, hi2, hi3, hg, HF, HS⟩ := hrel
        by_cases c2 : i < j
        · obtain ⟨g, rfl⟩ : ∃ g, gk = g + 1 := ⟨gk - 1, by omega⟩
          have d2 : decide ((i : Int) < (j : Int)) = true := decide_eq_true (by omega)
          obtain ⟨hh, hhe⟩ : ∃ hh : Nat, hh = (i + j) / 2 := ⟨_, rfl⟩
          have hb1 : i ≤ hh ∧ hh < j := by omega
          have HHE := Aside0.mk hhe
          have HW := Aside0.mk (show ((i : Int) + (j : Int)) / 2 = (hh : Int) by omega)
          clear hhe
          have k1 : wr.cell? ⟨b, o + (hh), none⟩ = some (.int .i64 (gt d (hh))) := HS.out.dd.cell _ (by omega)
          have k2 : wr.cell? ⟨b, o + (a), none⟩ = some (.int .i64 (gt d (a))) := HS.out.dd.cell _ (by omega)
          have l1 : ((hh : Nat) : Int) < (d.length : Int) := by omega
          have l2 : ((a : Nat) : Int) < (d.length : Int) := by omega
          have hu := hC.enters
          go_wp2
          simp only [HW.out]
          go_still_tail 9, (by kernel_rfl)
          go_wp2
          refine (hC.call z1 _ _ _ (hC.drew _ _ HS.out.j) (HS.out.all (hh) (by omega)) (HS.out.all (a) (by omega))).mono ?_
          rintro en w3 ⟨rfl, hJ3, hk3⟩
          have HS3 : Aside0 (St b V J D o w3 d (z1 + 1)) := ⟨⟨HS.out.dd.drew.same hk3, HS.out.all, hJ3⟩⟩
          clear HS k1 k2 hJ3 hk3
          have hlt := cmp3_lt (key (gt d (hh))) (key (gt d (a)))
          generalize cmp3 (key (gt d (hh))) (key (gt d (a))) = cv at hlt ⊢
          by_cases c4 : key (gt d (hh)) < key (gt d (a))
          · have d3 : decide (cv < 0) = true := by rw [hlt]; exact decide_eq_true c4
            have e3 := bsr_t (p := P) (k := g) c2 HHE.out (by rw [HP.out]; exact decide_eq_true c4)
            have E3 := Aside0.mk e3
            clear hlt c4 e3
            go_wp2
            go_roundg g
            case measure => omega
            case rel => exact ⟨hh + 1, j, z1 + 1, (by first | rfl | (congr 1; omega)), rfl, by omega, by omega, by omega, by omega, ⟨⟨by have h9 := HF.out.1; rw [E3.out] at h9; exact h9, by have h9 := HF.out.2; rw [E3.out] at h9; dsimp only at h9; omega⟩⟩, HS3⟩
          · have d3 : decide (cv < 0) = false := by rw [hlt]; exact decide_eq_false c4
            have e3 := bsr_f (p := P) (k := g) c2 HHE.out (by rw [HP.out]; exact decide_eq_false c4)
            have E3 := Aside0.mk e3
            clear hlt c4 e3
            go_wp2
            go_roundg g
            case measure => omega
            case rel => exact ⟨i, hh, z1 + 1, rfl, (by first | rfl | (congr 1; omega)), by omega, by omega, by omega, by omega, ⟨⟨by have h9 := HF.out.1; rw [E3.out] at h9; exact h9, by have h9 := HF.out.2; rw [E3.out] at h9; dsimp only at h9; omega⟩⟩, HS3⟩
        · have e3 : bsr (P) gk i j = (i, 0) := by
            cases gk with
            | zero => rfl
            | succ g => exact if_neg c2
          have d2 : decide ((i : Int) < (j : Int)) = false := decide_eq_false (by omega)
          have HI : Aside0 (i = r.1 ∧ z1 = z + r.2) := ⟨by have h9 := HF.out; rw [e3] at h9; exact h9⟩
          obtain rfl : i = j := by omega
          clear e3 c2 HF d2
          go_wp2
          go_loopg [13] (i - 1 - a) (fun g v13 wr => ∃ (q : Nat) (d1 : List Int), v13 = .int .i64 q ∧ q + g = i - 1 ∧ d1.length = d.length ∧ Aside0 (upF g q d1 = upF (r.1 - 1 - a) a d) ∧ Aside0 (St b V J D o wr d1 (z + r.2)))
          case atStart => exact ⟨a, d, rfl, by omega, rfl, ⟨by rw [HI.out.1]⟩, ⟨by have h9 := HS.out; rw [HI.out.2] at h9; exact h9⟩⟩
          case round =>
            clear HS
            obtain ⟨q, d1, rfl, hq, hl1, HF1, HS⟩ := hrel
            cases gk with
            | zero =>
              have d3 : decide ((q : Int) < (i : Int) - 1) = false := decide_eq_false (by omega)
              go_wp2
              refine bodyPost_ret (v := .tuple #[]) (by simp [results, Try.results53, go_sem]) rfl ?_
              have h9 := HS.out
              rw [show d1 = upF (r.1 - 1 - a) a d from HF1.out] at h9
              exact ⟨rfl, h9⟩
            | succ g =>
              have d3 : decide ((q : Int) < (i : Int) - 1) = true := decide_eq_true (by omega)
              have k1 : wr.cell? ⟨b, o + q, none⟩ = some (.int .i64 (gt d1 q)) := HS.out.dd.cell _ (by omega)
              have k2 : wr.cell? ⟨b, o + (q + 1), none⟩ = some (.int .i64 (gt d1 (q + 1))) := HS.out.dd.cell _ (by omega)
              have f1 := HS.out.dd.frozen
              have k3 := (HS.out.dd.set q (by omega) (gt d1 (q + 1))).cell (q + 1) (by rw [List.length_set]; omega)
              go_wp2
              go_region
              go_wp2
              go_roundg g
              case measure => omega
              case rel => exact ⟨q + 1, swp d1 q (q + 1), (by first | rfl | (congr 1; omega)), by omega, by rw [swp_len]; exact hl1, HF1, ⟨(HS.out.swp hC (by omega) (by omega)).drew hC⟩⟩
set_option maxRecDepth 100000 in
set_option maxHeartbeats 4000000 in
theorem symM_right (hC : Cmp F caps b key V J) (k : Nat) (a m t : Nat) (d : List Int) (z cap : Nat) (W : World) (h : St b V J D o W d z) (h1 : a < m) (h2 : m < t) (h3 : t ≤ d.length) (hk : t - a ≤ k + 1) (hl : d.length ≤ 1000000) (c1 : ¬ m - a = 1) (c2 : t - m = 1) :
    Calls Try.prog 53 #[.slice (some ⟨b, o, none⟩) d.length cap, .int .i64 (a : Int), .int .i64 (m : Int), .int .i64 (t : Int), .func (.func F) #[] caps] W fun en W' => en = .returned (.tuple #[]) ∧ St b V J D o W' (symM key (k + 1) a m t d).1 (z + (symM key (k + 1) a m t d).2) := by
      have HS := Aside0.mk h
      clear h
      have d0 : ((m : Int) - (a : Int) == 1) = false := by simp; omega
      · have d1 : ((t : Int) - (m : Int) == 1) = true := by simp; omega
        obtain ⟨P, hP⟩ : ∃ P : Nat → Bool, P = fun h => decide (¬ key (gt d m) < key (gt d h)) := ⟨_, rfl⟩
        obtain ⟨r, hr⟩ : ∃ r, r = bsr P (m - a) a m := ⟨_, rfl⟩
        have hv : symM key (k + 1) a m t d = (dnF (m - r.1) m d, r.2) := symM_right_eq c1 c2 (by rw [hr, hP])
        rw [hv]
        have HR := Aside0.mk hr; have HP := Aside0.mk hP
        clear hv hr hP
        go_enter Try.func53, Try.ntmps53
        go_wp2
        go_loopg [14, 15] (m - a) (fun g v14 v15 wr => ∃ (i j z1 : Nat), v14 = .int .i64 i ∧ v15 = .int .i64 j ∧ a ≤ i ∧ i ≤ j ∧ j ≤ m ∧ j - i ≤ g ∧ Aside0 ((bsr (P) g i j).1 = r.1 ∧ z1 + (bsr (P) g i j).2 = z + r.2) ∧ Aside0 (St b V J D o wr d z1))
        case atStart => exact ⟨a, m, z, (by first | rfl | (congr 1; omega)), (by first | rfl | (congr 1; omega)), by omega, by omega, by omega, by omega, ⟨by rw [HR.out], by rw [HR.out]⟩, HS⟩
        case round =>
          clear HS
          obtain ⟨i, j, z1, rfl, rfl, hi1, hi2, hi3, hg, HF, HS⟩ := hrel
          by_cases c2 : i < j
          · obtain ⟨g, rfl⟩ : ∃ g, gk = g + 1 := ⟨gk - 1, by omega⟩
            have d2 : decide ((i : Int) < (j : Int)) = true := decide_eq_true (by omega)
            obtain ⟨hh, hhe⟩ : ∃ hh : Nat, hh = (i + j) / 2 := ⟨_, rfl⟩
            have hb1 : i ≤ hh ∧ hh < j := by omega
            have HHE := Aside0.mk hhe
            have HW := Aside0.mk (show ((i : Int) + (j : Int)) / 2 = (hh : Int) by omega)
            clear hhe
            have k1 : wr.cell? ⟨b, o + (m), none⟩ = some (.int .i64 (gt d (m))) := HS.out.dd.cell _ (by omega)
            have k2 : wr.cell? ⟨b, o + (hh), none⟩ = some (.int .i64 (gt d (hh))) := HS.out.dd.cell _ (by omega)
            have l1 : ((m : Nat) : Int) < (d.length : Int) := by omega
            have l2 : ((hh : Nat) : Int) < (d.length : Int) := by omega
            have hu := hC.enters
            go_wp2
            simp only [HW.out]
            go_still_tail 9, (by kernel_rfl)
            go_wp2
            refine (hC.call z1 _ _ _ (hC.drew _ _ HS.out.j) (HS.out.all (m) (by omega)) (HS.out.all (hh) (by omega))).mono ?_
            rintro en w3 ⟨rfl, hJ3, hk3⟩
            have HS3 : Aside0 (St b V J D o w3 d (z1 + 1)) := ⟨⟨HS.out.dd.drew.same hk3, HS.out.all, hJ3⟩⟩
            clear HS k1 k2 hJ3 hk3
            have hlt := cmp3_lt (key (gt d (m))) (key (gt d (hh)))
            generalize cmp3 (key (gt d (m))) (key (gt d (hh))) = cv at hlt ⊢
            by_cases c4 : key (gt d (m)) < key (gt d (hh))
            · have d3 : decide (cv < 0) = true := by rw [hlt]; exact decide_eq_true c4
              have e3 := bsr_f (p := P) (k := g) c2 HHE.out (by rw [HP.out]; (try simp only [HXN.out]); simp; omega)
              have E3 := Aside0.mk e3
              clear hlt c4 e3
              go_wp2
              go_roundg g
              case measure => omega
              case rel => exact ⟨i, hh, z1 + 1, rfl, (by first | rfl | (congr 1; omega)), by omega, by omega, by omega, by omega, ⟨⟨by have h9 := HF.out.1; rw [E3.out] at h9; exact h9, by have h9 := HF.out.2; rw [E3.out] at h9; dsimp only at h9; omega⟩⟩, HS3⟩
            · have d3 : decide (cv < 0) = false := by rw [hlt]; exact decide_eq_false c4
              have e3 := bsr_t (p := P) (k := g) c2 HHE.out (by rw [HP.out]; (try simp only [HXN.out]); simp; omega)
              have E3 := Aside0.mk e3
              clear hlt c4 e3
              go_wp2
              go_roundg g
              case measure => omega
              case rel => exact ⟨hh + 1, j, z1 + 1, (by first | rfl | (congr 1; omega)), rfl, by omega, by omega, by omega, by omega, ⟨⟨by have h9 := HF.out.1; rw [E3.out] at h9; exact h9, by have h9 := HF.out.2; rw [E3.out] at h9; dsimp only at h9; omega⟩⟩, HS3⟩
          · have e3 : bsr (P) gk i j = (i, 0) := by
              cases gk with
              | zero => rfl
              | succ g => exact if_neg c2
            have d2 : decide ((i : Int) < (j : Int)) = false := decide_eq_false (by omega)
            have HI : Aside0 (i = r.1 ∧ z1 = z + r.2) := ⟨by have h9 := HF.out; rw [e3] at h9; exact h9⟩
            obtain rfl : i = j := by omega
            clear e3 c2 HF d2
            go_wp2
            go_loopg [17] (m - i) (fun g v17 wr => ∃ (q : Nat) (d1 : List Int), v17 = .int .i64 q ∧ Aside0 (q = i + g) ∧ q ≤ m ∧ d1.length = d.length ∧ Aside0 (dnF g q d1 = dnF (m - r.1) m d) ∧ Aside0 (St b V J D o wr d1 (z + r.2)))
            case atStart => exact ⟨m, d, rfl, ⟨by omega⟩, by omega, rfl, ⟨by rw [HI.out.1]⟩, ⟨by have h9 := HS.out; rw [HI.out.2] at h9; exact h9⟩⟩
            case round =>
              clear HS
              obtain ⟨q, d1, rfl, HQ, hqm, hl1, HF1, HS⟩ := hrel
              cases gk with
              | zero =>
                obtain rfl : q = i := by have := HQ.out; omega
                go_wp2
                refine bodyPost_ret (v := .tuple #[]) (by simp [results, Try.results53, go_sem]) rfl ?_
                have h9 := HS.out
                rw [show d1 = dnF (m - r.1) m d from HF1.out] at h9
                exact ⟨rfl, h9⟩
              | succ g =>
                obtain ⟨q', rfl⟩ : ∃ q', q = q' + 1 := ⟨q - 1, by have := HQ.out; omega⟩
                have d3 : decide ((i : Int) < (q' : Int) + 1) = true := decide_eq_true (by have := HQ.out; omega)
                have HQ2 : Aside0 (q' = i + g) := ⟨by have := HQ.out; omega⟩
                clear HQ
                have k1 : wr.cell? ⟨b, o + (q' + 1), none⟩ = some (.int .i64 (gt d1 (q' + 1))) := HS.out.dd.cell _ (by omega)
                have k2 : wr.cell? ⟨b, o + q', none⟩ = some (.int .i64 (gt d1 q')) := HS.out.dd.cell _ (by omega)
                have f1 := HS.out.dd.frozen
                have k3 := (HS.out.dd.set (q' + 1) (by omega) (gt d1 q')).cell q' (by rw [List.length_set]; omega)
                go_wp2
                go_region
                go_wp2
                go_roundg g
                case measure => omega
                case rel => exact ⟨q', swp d1 (q' + 1) q', (by first | rfl | (congr 1; omega)), HQ2, by omega, by rw [swp_len]; exact hl1, HF1, ⟨(HS.out.swp hC (by omega) (by omega)).drew hC⟩⟩
end
end Go.Proofs.Ythkiapcoagjjpaa.Suf
