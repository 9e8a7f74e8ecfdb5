-- The bag of lists: images' lists. Own text.
import Derived.Test.YtfgdjpgdabjpmaaDoorBagW
namespace Go.Proofs.YtfgdjpgdabjpmaaDoor.Bag
open Go.RowKit Go.Proofs.YtfgdjpgdabjpmaaDoorW.PrintWords Go.Proofs.YtfgdjpgdabjpmaaDoorW.PrintLast Go.Proofs.YtfgdjpgdabjpmaaDoorW.PrintMore
set_option linter.unusedVariables false
set_option linter.unusedSimpArgs false
theorem own_types {w : World} {b1 b2 e1 e2 s1 s2 n1 n2 : Nat} {v1 v2 : Value} {x1 x2 : List Value} (h1 : w.ownsRow b1 e1 s1 v1 n1 x1) (h2 : w.ownsRow b2 e2 s2 v2 n2 x2) (hne : e1 ≠ e2) : ∀ b, v1.ownBlock = some b → v2.ownBlock ≠ some b := by
  intro b hv hv2
  obtain ⟨c1, q1⟩ := own_typed h1 b hv
  obtain ⟨c2, q2⟩ := own_typed h2 b hv2
  rw [q1] at q2
  injection q2 with q2
  injection q2 with _ q2
  exact hne q2
theorem Todo.snoc2 {w0 W w1 : World} {T : List (Nat × Value × Nat)} (h : Todo w0 W T) (hw : w0.heap.size ≤ W.heap.size) (hb : Below W.heap.size W w1) {j n j2 n2 : Nat} {v v2 : Value} (hn : n ≤ 1000000) {ys ys2 : List Value} (ho : w1.ownsRow W.heap.size (bagE j) 1 v n ys) (hn2 : n2 ≤ 1000000) (ho2 : w1.ownsRow W.heap.size (bagE j2) 1 v2 n2 ys2) (hne : bagE j ≠ bagE j2) : Todo w0 w1 (T ++ [(j, v, n), (j2, v2, n2)]) := by
  have a := h.snoc hw hb hn ho
  have b := h.snoc hw hb hn2 ho2
  refine ⟨fun x hx => ?_, ?_⟩
  · rcases List.mem_append.1 hx with hx | hx
    · exact a.each x (List.mem_append_left _ hx)
    · rcases List.mem_cons.1 hx with rfl | hx
      · exact a.each _ (List.mem_append_right _ (List.mem_singleton_self _))
      · obtain rfl := List.mem_singleton.1 hx
        exact b.each _ (List.mem_append_right _ (List.mem_singleton_self _))
  · rw [List.pairwise_append]
    refine ⟨h.apart, List.pairwise_pair.2 (own_types ho ho2 hne), fun x hx y hy c hv hv2 => ?_⟩
    have h1 := h.lt hx hv
    rcases List.mem_cons.1 hy with rfl | hy
    · have := (ho.lt c hv2).1; omega
    · obtain rfl := List.mem_singleton.1 hy
      have := (ho2.lt c hv2).1; omega
/-- A block more, that is to stand. -/
theorem BagS.alloc {w0 w : World} {gb c : Nat} {T : List (Nat × Value × Nat)} {K : List (Nat × Obj)} (h : BagS w0 gb c T K w) (o : Obj) : BagS w0 gb c T ((w.heap.size, o) :: K) (w.alloc o) := by
  obtain ⟨ow, L, ⟨⟨cells, a1, a2, a3⟩, a4, a5, a6⟩, h2, h3, h4, h5, h6, h7, h8, h9, h10⟩ := h
  have hal : Below w.heap.size w (w.alloc o) := below_alloc (Below.refl _ _) _
  have hlt : ∀ b, b < w.heap.size → (fun b => if b < w.heap.size then ow b else 0) b = ow b := fun b hb => if_pos hb
  have hown : ∀ {K e sz v n ys}, Own ow K e sz w v n ys → Own (fun b => if b < w.heap.size then ow b else 0) K e sz (w.alloc o) v n ys := fun ho =>
    ho.via fun b hb => ⟨hal.block b (ho.1.lt b hb).2, hlt b (ho.1.lt b hb).2⟩
  have hg := blk_lt a1
  refine ⟨fun b => if b < w.heap.size then ow b else 0, L, ⟨⟨cells, blk_alloc a1 o, a2, fun j hj hj2 => ?_⟩, (hlt gb hg).trans a4, fun j hj hj2 k x hx => ?_, a6⟩, below_alloc h2 o, fun b hb => ?_, h4, h5, h6, h7.next hal, fun x hx b hb => ?_, fun p hp => ?_, fun x hx p hp => ?_⟩
  · obtain ⟨v, q1, q2, q3⟩ := a3 j hj hj2
    exact ⟨v, q1, q2, hown q3⟩
  · obtain ⟨q1, ys, q2⟩ := a5 j hj hj2 k x hx
    exact ⟨q1, ys, hown q2⟩
  · exact (hlt b (Nat.lt_of_lt_of_le hb h2.size)).trans (h3 b hb)
  · exact (hlt b (h7.lt hx hb)).trans (h8 x hx b hb)
  · rcases List.mem_cons.1 hp with rfl | hp
    · exact ⟨blk_new w o, if_neg (Nat.lt_irrefl _)⟩
    · obtain ⟨q1, q2⟩ := h9 p hp
      exact ⟨blk_alloc q1 o, (hlt p.1 (blk_lt q1)).trans q2⟩
  · rcases List.mem_cons.1 hp with rfl | hp
    · intro hh
      have := h7.lt hx hh
      exact Nat.lt_irrefl _ this
    · exact h10 x hx p hp
theorem BagS.tail {w0 w : World} {gb c : Nat} {T : List (Nat × Value × Nat)} {K : List (Nat × Obj)} {p : Nat × Obj} (h : BagS w0 gb c T (p :: K) w) : BagS w0 gb c T K w := by
  obtain ⟨ow, L, h1, h2, h3, h4, h5, h6, h7, h8, h9, h10⟩ := h
  exact ⟨ow, L, h1, h2, h3, h4, h5, h6, h7, h8, fun p hp => h9 p (List.mem_cons_of_mem _ hp), fun x hx p hp => h10 x hx p (List.mem_cons_of_mem _ hp)⟩
theorem BagS.blk {w0 w : World} {gb c : Nat} {T : List (Nat × Value × Nat)} {K : List (Nat × Obj)} (h : BagS w0 gb c T K w) (i : Nat) {g : Nat} {o : Obj} (hi : K[i]? = some (g, o)) : w.heap[g]? = some o := by
  obtain ⟨ow, L, h1, h2, h3, h4, h5, h6, h7, h8, h9, h10⟩ := h
  exact (h9 _ (List.mem_of_getElem? hi)).1
theorem BagS.below {w0 w : World} {gb c : Nat} {T : List (Nat × Value × Nat)} {K : List (Nat × Obj)} (h : BagS w0 gb c T K w) : Below w0.heap.size w0 w := by
  obtain ⟨ow, L, h1, h2, _⟩ := h
  exact h2
theorem box_two {w : World} {g h : Nat} {o o2 : Obj} (h1 : w.heap[g]? = some o) (h2 : w.heap[h]? = some o2) {p : Nat × Obj} (hp : p ∈ [(g, o), (h, o2)]) : w.heap[p.1]? = some p.2 := by
  rcases List.mem_cons.1 hp with rfl | hp
  · exact h1
  · obtain rfl := List.mem_singleton.1 hp
    exact h2
/-- A list's block is none of two blocks of another type. -/
theorem todo_box {w0 w : World} {T : List (Nat × Value × Nat)} (hT : Todo w0 w T) {g h t : Nat} {c1 c2 : Array Value} (h1 : w.heap[g]? = some (.cells c1 t (0, 0))) (h2 : w.heap[h]? = some (.cells c2 t (0, 0))) (ht : (T.all fun x => bagE x.1 != t) = true) {x : Nat × Value × Nat} (hx : x ∈ T) {p : Nat × Obj} (hp : p ∈ [(g, Obj.cells c1 t (0, 0)), (h, Obj.cells c2 t (0, 0))]) : x.2.1.ownBlock ≠ some p.1 := by
  intro hh
  obtain ⟨_, ⟨ys, hy⟩, _⟩ := hT.each x hx
  obtain ⟨cs, q⟩ := own_typed hy p.1 hh
  have hne : bagE x.1 ≠ t := by simpa using List.all_eq_true.1 ht x hx
  have q2 := box_two h1 h2 hp
  rcases List.mem_cons.1 hp with rfl | hp
  · rw [q] at q2
    injection q2 with q2
    injection q2 with _ q2
    exact hne q2
  · obtain rfl := List.mem_singleton.1 hp
    rw [q] at q2
    injection q2 with q2
    injection q2 with _ q2
    exact hne q2
set_option maxHeartbeats 4000000 in
set_option maxRecDepth 100000 in
theorem bagS_AddImage {w0 w : World} {gb c n0 c0 n2 c2 : Nat} {A0 A2 : Option Addr} {a1 : Int} {T : List (Nat × Value × Nat)} {K : List (Nat × Obj)} (h : BagS w0 gb c ((5, .slice A0 n0 c0, n0) :: (4, .slice A2 n2 c2, n2) :: T) K w) (hc : c + 1 < 300) : Calls Tryd.prog 35 #[.pointer (some ⟨gb, 0, none⟩), .agg #[.slice A0 n0 c0, .int .i64 a1, .slice A2 n2 c2]] w fun e w' => e = .returned (.tuple #[]) ∧ BagS w0 gb (c + 2) T K w' := by
  have hu := Tryd.underlying25
  have HS := Aside0.mk (h.alloc (.cells #[.slice A0 n0 c0, .int .i64 a1, .slice A2 n2 c2] 25))
  have HC := Lib.hid hc
  clear h hc
  go_enter Tryd.func35, Tryd.ntmps35
  go_wp2_with (first | (go_at_call 79; refine (bagS_AddWords (w0 := w0) HS.out (by have := HC.out; omega)).mono ?_; rintro e w1 ⟨rfl, hs⟩; clear HS; have HS := Aside0.mk hs; clear hs; have hc_ := blk_cell (HS.out.blk 0 rfl); have hf_ := blk_frozen (HS.out.blk 0 rfl)) | (go_at_call 80; refine (bagS_AddLongs (w0 := w0) HS.out HC.out).mono ?_; rintro e w2 ⟨rfl, hs⟩; clear HS; have HS := Aside0.mk hs; clear hs hc_ hf_))
  go_end0
  exact ⟨rfl, HS.out.tail⟩
end Go.Proofs.YtfgdjpgdabjpmaaDoor.Bag
