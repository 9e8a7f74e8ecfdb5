/- Views of maps from whole numbers that a call makes: an association list of whole numbers (newest first) as the datum that World.ownsMap speaks of. Over any program. -/
import Derived.Maps.OwnSet
import Derived.Maps.OwnOps
import Derived.Maps.Ext
import Derived.WalkKit
namespace Go.Proofs.Ythkiapcoagjjpaa.Mapv
open Go.Maps Go.RowKit

abbrev DU := DataW Unit
def mview (q p : IntKind) : List (Int × Int) → DU
  | [] => .map []
  | (k, v) :: m => (mview q p m).put (.int q k) (.lit (.int p v))
theorem mview_isMap (q p : IntKind) : ∀ m, IsMap (mview q p m)
  | [] => isMap_empty
  | (_, _) :: m => (mview_isMap q p m).put _ _
theorem key_int (q : IntKind) (k : Int) : WideAt.IsKeyLit (.int q k) := by simp [WideAt.IsKeyLit]
theorem mview_tidy (q p : IntKind) : ∀ m, Tidy (mview q p m)
  | [] => tidy_empty
  | (k, _) :: m => (mview_tidy q p m).put (key_int q k) _
theorem mview_has (q p : IntKind) (i : Int) : ∀ m, has (mview q p m) (.int q i) = (m.lookup i).isSome
  | [] => rfl
  | (k, v) :: m => by
    by_cases h : i = k
    · subst h
      rw [show mview q p ((i, v) :: m) = (mview q p m).put (.int q i) (.lit (.int p v)) from rfl, has_put_same (mview_isMap q p m) (key_int q i), List.lookup_cons_self]
      rfl
    · rw [show mview q p ((k, v) :: m) = (mview q p m).put (.int q k) (.lit (.int p v)) from rfl, has_put_other (by intro e; cases e; exact h rfl), mview_has q p i m, List.lookup_cons, show (i == k) = false by simpa using h]
theorem mview_at (q p : IntKind) (i : Int) (z : DU) : ∀ m, (mview q p m).atKey (.int q i) z = match m.lookup i with | some v => .lit (.int p v) | none => z
  | [] => rfl
  | (k, v) :: m => by
    by_cases h : i = k
    · subst h
      rw [show mview q p ((i, v) :: m) = (mview q p m).put (.int q i) (.lit (.int p v)) from rfl, atKey_put_same (mview_isMap q p m) (key_int q i), List.lookup_cons_self]
    · rw [show mview q p ((k, v) :: m) = (mview q p m).put (.int q k) (.lit (.int p v)) from rfl, atKey_put_other (by intro e; cases e; exact h rfl), mview_at q p i z m, List.lookup_cons, show (i == k) = false by simpa using h]

/-- A set of whole numbers: the numbers that were put in (map[int]bool, true each). -/
def sview (q : IntKind) : List Int → DU
  | [] => .map []
  | k :: m => (sview q m).put (.int q k) (.lit (.bool true))
theorem sview_isMap (q : IntKind) : ∀ m, IsMap (sview q m)
  | [] => isMap_empty
  | _ :: m => (sview_isMap q m).put _ _
theorem sview_tidy (q : IntKind) : ∀ m, Tidy (sview q m)
  | [] => tidy_empty
  | k :: m => (sview_tidy q m).put (key_int q k) _
theorem sview_has (q : IntKind) (i : Int) : ∀ m, has (sview q m) (.int q i) = m.contains i
  | [] => rfl
  | k :: m => by
    by_cases h : i = k
    · subst h
      rw [show sview q (i :: m) = (sview q m).put (.int q i) (.lit (.bool true)) from rfl, has_put_same (sview_isMap q m) (key_int q i)]
      simp
    · rw [show sview q (k :: m) = (sview q m).put (.int q k) (.lit (.bool true)) from rfl, has_put_other (by intro e; cases e; exact h rfl), sview_has q i m]
      simp [h]
theorem sview_at (q : IntKind) (i : Int) : ∀ m, (sview q m).atKey (.int q i) (.lit (.bool false)) = .lit (.bool (m.contains i))
  | [] => rfl
  | k :: m => by
    by_cases h : i = k
    · subst h
      rw [show sview q (i :: m) = (sview q m).put (.int q i) (.lit (.bool true)) from rfl, atKey_put_same (sview_isMap q m) (key_int q i)]
      simp
    · rw [show sview q (k :: m) = (sview q m).put (.int q k) (.lit (.bool true)) from rfl, atKey_put_other (by intro e; cases e; exact h rfl), sview_at q i m]
      simp [h]
/-- How many unlike numbers there are. -/
def distinct : List Int → Nat
  | [] => 0
  | k :: m => if m.contains k then distinct m else distinct m + 1
theorem sview_size (q : IntKind) : ∀ m, size (sview q m) = distinct m
  | [] => rfl
  | k :: m => by
    rw [show sview q (k :: m) = (sview q m).put (.int q k) (.lit (.bool true)) from rfl, size_put (sview_tidy q m), sview_has, sview_size q m]
    rfl

theorem plainElem_bool_inv' {P : Program} {e : TypeId} (he : P.underlying e = some .bool) {v : Value} {z : DU × List MemPlace} (h : plainElem P e v = some z) : ∃ x, v = .bool x ∧ z = (.lit (.bool x), []) := by
  unfold plainElem at h
  rw [he] at h
  cases v <;> simp at h
  exact ⟨_, rfl, h.symm⟩
/-- A look-up in a set. -/
theorem look_bool {P : Program} {k e t : TypeId} {q : IntKind} {w : World} {b n : Nat} {L : List Int} {i : Int} (h : w.ownsMap P k (plainElem P e) b n (sview q L)) (hk : P.underlying k = some (.int q)) (ht : P.underlying t = some (.map k e)) (he : P.underlying e = some .bool)
    (hz : (zeroValue e).run P w = .ok (.bool false) w) (hw : (Lit.int q i).wf = true) : (Instr.lookup t (.map (some b)) (.int q i) false).run P w = .ok (.bool (L.contains i)) w := by
  obtain ⟨v, ps, hrun, hR⟩ := h.lookup (int_keyed hk) ht hz (plainElem_bool he false) (keyOf_int_mk hk hw)
  rw [sview_at] at hR
  obtain ⟨x, rfl, hx⟩ := plainElem_bool_inv' he hR
  obtain ⟨h1, _⟩ := Prod.mk.inj hx
  rw [hrun]
  cases h1
  rfl
/-- A map stays where its block does. -/
theorem ownsMap_of_heap {P : Program} {k : TypeId} {R : Value → Option (DU × List MemPlace)} {w w' : World} {b n : Nat} {D : DU} (h : w.ownsMap P k R b n D) (hb : w'.heap[b]? = w.heap[b]?) : w'.ownsMap P k R b n D := by
  obtain ⟨es, clock, h1, h2, h3, h4⟩ := h
  exact ⟨es, clock, hb.trans h1, h2, h3, h4⟩
theorem ownsMap_below {P : Program} {k : TypeId} {R : Value → Option (DU × List MemPlace)} {w w' : World} {b n B : Nat} {D : DU} (h : w.ownsMap P k R b n D) (hb : Below B w w') (hB : b < B) : w'.ownsMap P k R b n D := ownsMap_of_heap h (hb.block b hB)
/-- A block of cells stays where no other block is written. -/
theorem heap_kept {w w' : World} {g : Nat} {o : Obj} {row : Option Nat} (h : w.heap[g]? = some o) (hg : w.grownBy w' row) (hne : some g ≠ row) : w'.heap[g]? = some o := by
  have hlt : g < w.heap.size := (Array.getElem?_eq_some_iff.1 h).1
  exact (hg.block g hlt hne).trans h
end Go.Proofs.Ythkiapcoagjjpaa.Mapv
