/- Where control can go, and to what it can come: the program's lists are the document's; as a statement over lists of numbers. -/
import Derived.Test.YtfgdjpgdabjpmaaStEdgeLists
import Derived.Test.YtfgdjpgdabjpmaaBksPEdgeLists
namespace Go.Proofs.Ytfgdjpgdabjpmaa.Pure
open Go.RowKit Go.Proofs.YtfgdjpgdabjpmaaW.PrintWords Go.Proofs.YtfgdjpgdabjpmaaW.PrintLast Go.Proofs.Ytfgdjpgdabjpmaa.PEdgeLists Go.Proofs.Ytfgdjpgdabjpmaa.Ev
set_option linter.unusedVariables false
set_option linter.unusedSimpArgs false

theorem works_true : Evt (fun q => pleatlaw12_works.f q) true := Evt.of_mono pleatlaw12_works.mono 100 (by decide +kernel)
theorem bools_eq (l : List Bool) (hl : l.length ≤ 16384) : ∀ (m j : Nat), j + m = l.length → Evt (fun q => pleatref00_EqBools.l0 q l l (j : Int)) true
  | 0, j, h => by
    obtain rfl : j = l.length := by omega
    refine Evt.succ ?_
    simp only [pleatref00_EqBools.l0, Int.lt_irrefl, if_false]
    exact Evt.pure
  | m + 1, j, h => by
    refine Evt.succ ?_
    have h1 : (j : Int) < (l.length : Int) := by omega
    simp only [pleatref00_EqBools.l0, h1, nonneg, if_true, wrap1 j (by omega), bne_self_eq_false, Bool.false_eq_true, if_false]
    exact bools_eq l hl m (j + 1) (by omega)
theorem bools_refl (l : List Bool) (hl : l.length ≤ 16384) : Evt (fun q => pleatref00_EqBools.f q l l) true := by
  simp only [pleatref00_EqBools.f, if_true]
  exact bools_eq l hl _ 0 (Nat.zero_add _)
theorem back_back (l : List Int) (e : Int) : (List.range (nb l e)).map (froms ((List.range (nb l e)).map (froms (edgs l e) (nb l e))) (nb l e)) = edgs l e := by
  unfold edgs
  refine List.map_congr_left fun k hk => ?_
  rw [List.mem_range] at hk
  unfold froms erow
  refine nats_congr fun j hj => ?_
  rw [getD_eq [] (by simpa using hj), Bool.eq_iff_iff, decide_eq_true_eq, List.getElem_map, List.getElem_range, mem_nats]
  have he : ((List.range (nb l e)).map (fun s => nats (goV l e s) (nb l e))).getD k [] = nats (goV l e k) (nb l e) := edgs_get hk
  constructor
  · rintro ⟨k', e1, hk', h⟩
    obtain rfl : k = k' := by omega
    rw [he, decide_eq_true_eq] at h
    obtain ⟨j', e2, _, h3⟩ := mem_nats.1 h
    have : j' = j := by omega
    subst this
    exact h3
  · intro h
    refine ⟨k, rfl, hk, ?_⟩
    rw [he, decide_eq_true_eq]
    exact mem_nats.2 ⟨j, rfl, hj, h⟩
theorem copy_image (l m : List Int) (e : Int) (hl : l.length ≤ 600) (hm : m.length ≤ 16384) : pleatref00_CopyImage.f l e m = some (l, e, m) := by
  unfold pleatref00_CopyImage.f pleatref00_CopyWords.f pleatref00_CopyLongs.f
  have h1 : ([] : List Int).length + l.length < 35184372088832 := by simp; omega
  have h2 : ([] : List Int).length + m.length < 17592186044416 := by simp; omega
  rw [if_pos h1, if_pos h2]
  rfl
theorem allW_of {l : List Int} (h : ∀ x ∈ l, (Lit.int .u32 x).wf = true) : allW l := fun x hx => by
  have := h x hx
  have hmin : IntKind.u32.min = 0 := rfl
  have hmax : IntKind.u32.max = 4294967295 := rfl
  simp only [Lit.wf, Bool.and_eq_true, decide_eq_true_eq] at this
  unfold isW
  omega
theorem chk_mem {l m : List Int} {e : Int} (h : (chk l e m).1 = 0) : m.length ≤ 4096 := by
  unfold chk at h
  split at h
  · cases h
  · split at h
    · cases h
    · split at h
      · cases h
      · omega
theorem EdgeLists : St.EdgeLists := by
  intro l e m hl he hm
  have hW : allW l := allW_of hl.2
  refine Evt.out (g := fun k => pleatlaw12_EdgeLists.f k l e m) ?_
  unfold pleatlaw12_EdgeLists.f pleatlaw12_much.f
  by_cases c1 : (l.length : Int) > 600
  · simp only [c1, if_true, Option.bind_some]
    exact Evt.bind works_true Evt.pure
  · simp only [c1, if_false, Option.bind_some]
    by_cases c2 : (m.length : Int) > 16384
    · simp only [c2, decide_true, if_true]
      exact Evt.bind works_true Evt.pure
    · simp only [c2, decide_false, Bool.false_eq_true, if_false, copy_image l m e (by omega) (by omega), Option.bind_some]
      have hchk : Evt (fun q => pleatref07_Check.f q l e m) (chk l e m) := ⟨16392, fun k hk => ref_chk l m e hW k (.inr hk)⟩
      have hisa : Evt (fun q => image_Check.f q l e m) (chk l e m) := ⟨16386, fun k hk => isa_chk l m e hW k (.inr hk)⟩
      refine Evt.bind hchk ?_
      by_cases c3 : (chk l e m).1 = 0
      · have hm4 := chk_mem c3
        have g : Good l e m := good_of (x := (chk l e m).2) hW (Prod.ext c3 rfl)
        obtain ⟨r, r1, r2, r3⟩ := reached_eq g hm4 (by omega)
        have hnb := nb_le l e
        have hel := edgs_len l e
        have hrow : ∀ x, x ∈ edgs l e → x.length ≤ 16384 := fun x hx => by
          obtain ⟨s, hs, rfl⟩ := List.mem_map.1 hx
          have := nats_len (goV l e s) (nb l e)
          unfold erow
          omega
        have hrow2 : ∀ x, x ∈ (List.range (nb l e)).map (froms (edgs l e) (nb l e)) → x.length ≤ 16384 := fun x hx => by
          obtain ⟨s, hs, rfl⟩ := List.mem_map.1 hx
          have := nats_len (fun j => decide ((s : Int) ∈ (edgs l e).getD j [])) (nb l e)
          unfold froms
          omega
        refine Evt.bind (edges_eq g hm4 (by omega)) (Evt.bind r1 ?_)
        simp only [c3, if_true, bne_self_eq_false]
        refine Evt.succ ?_
        simp only [pleatlaw12_EdgeLists.j0, Bool.false_eq_true, if_false, if_true]
        have b1 := back_eq (edgs l e) (by omega) hrow
        rw [hel] at b1
        have b2 := back_eq ((List.range (nb l e)).map (froms (edgs l e) (nb l e))) (by simp; omega) hrow2
        rw [List.length_map, List.length_range, back_back] at b2
        have q1 := eq_refl (edgs l e) (by omega) hrow
        refine Evt.bind (refEdges_eq g) (Evt.bind b1 (Evt.bind q1 ?_))
        simp only [if_true]
        refine Evt.bind r2 (Evt.bind (bools_refl r (by omega)) ?_)
        simp only [if_true]
        refine Evt.bind b2 (Evt.bind q1 ?_)
        simp only [if_true]
        exact Evt.bind works_true Evt.pure
      · have hb : Evt (fun q => block_Blocks.f q l e m) ([], (chk l e m).1) := by
          simp only [block_Blocks.f]
          refine Evt.bind hisa ?_
          simp only [c3, if_false]
          exact Evt.pure
        have hE : Evt (fun q => edge_Edges.f q l e m) ([], (chk l e m).1) := by
          simp only [edge_Edges.f]
          refine Evt.bind hb ?_
          simp only [c3, if_false]
          exact Evt.pure
        have hR : Evt (fun q => edge_Reached.f q l e m) ([], (chk l e m).1) := by
          simp only [edge_Reached.f]
          refine Evt.bind hE ?_
          simp only [c3, if_false]
          exact Evt.pure
        refine Evt.bind hE (Evt.bind hR ?_)
        simp only [if_true, bne_self_eq_false]
        refine Evt.succ ?_
        have hz : wrap64 (((([] : List (List Int)).length : Int)) + ((([] : List Bool).length : Int))) = 0 := by unfold wrap64; simp
        simp only [pleatlaw12_EdgeLists.j0, Bool.false_eq_true, if_false, c3, hz, if_true]
        exact Evt.bind works_true Evt.pure
end Go.Proofs.Ytfgdjpgdabjpmaa.Pure
