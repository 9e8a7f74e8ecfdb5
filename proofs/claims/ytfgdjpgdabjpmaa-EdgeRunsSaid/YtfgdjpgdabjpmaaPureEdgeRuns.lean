/- A machine goes along the edges of its program: as a statement over lists of numbers. -/
import Derived.Test.YtfgdjpgdabjpmaaStEdgeRuns
import Derived.Test.YtfgdjpgdabjpmaaRnsPEdgeRuns
namespace Go.Proofs.Ytfgdjpgdabjpmaa.Pure
open Go.RowKit Go.Proofs.YtfgdjpgdabjpmaaW.PrintWords Go.Proofs.YtfgdjpgdabjpmaaW.PrintLast Go.Proofs.Ytfgdjpgdabjpmaa.PEdgeRuns Go.Proofs.Ytfgdjpgdabjpmaa.Ev
set_option linter.unusedVariables false
set_option linter.unusedSimpArgs false
theorem works_true : Evt (fun q => pleatlaw12_works.f q) true := Evt.of_mono pleatlaw12_works.mono 100 (by decide +kernel)
theorem chk_mem {l m : List Int} {e : Int} (h : (chk l e m).1 = 0) : m.length ≤ 4096 := by
  unfold chk at h
  split at h
  · cases h
  · split at h
    · cases h
    · split at h
      · cases h
      · omega
theorem tail_err {x0 : Int} {bs : List S84} {E : List (List Int)} {re : List Bool} {e1 e0 : Int} {o : Option MS} (h : e1 ≠ 0 ∨ e0 ≠ 0) : Evt (fun k => edgeTail k x0 bs e1 E e1 re e1 o e0) true := by
  have e : (fun k => edgeTail k x0 bs e1 E e1 re e1 o e0) = fun k => pleatlaw12_works.f k := funext fun k => by
    unfold edgeTail
    rw [if_pos ⟨rfl, rfl⟩, if_pos h]
  rw [e]
  exact works_true
theorem tail_ok {x0 : Int} {bs : List S84} {E : List (List Int)} {re : List Bool} {s : MS} (h : E.length = bs.length ∧ re.length = bs.length ∧ bs.length ≤ 16384) (hr : Evt (fun k => edgeRuns k bs E re x0.toNat s) ()) : Evt (fun k => edgeTail k x0 bs 0 E 0 re 0 (some s) 0) true := by
  have e : (fun k => edgeTail k x0 bs 0 E 0 re 0 (some s) 0) = fun k => (edgeRuns k bs E re x0.toNat s).bind fun _ => pleatlaw12_works.f k := funext fun k => by
    unfold edgeTail
    rw [if_pos ⟨rfl, rfl⟩, if_neg (by simp)]
    dsimp only
    rw [if_pos h]
  rw [e]
  exact Evt.bind hr works_true
theorem much_le {l m : List Int} {e : Int} {u : Bool} (h : pleatlaw12_much.f l e m = some u) (hu : ¬ u = true) : l.length ≤ 600 := by
  unfold pleatlaw12_much.f at h
  by_cases c1 : (l.length : Int) > 600
  · rw [if_pos c1] at h
    exact absurd (Option.some.inj h).symm hu
  · omega
theorem much_some (l m : List Int) (e : Int) : ∃ u, pleatlaw12_much.f l e m = some u := by
  unfold pleatlaw12_much.f
  repeat' split
  all_goals exact ⟨_, rfl⟩
theorem new_long {l m v : List Int} {e : Int} (hW : allW l) (h : (chk l e m).1 = 0) (hv : 4096 < v.length) : Evt (fun k => mnew k l e m v) (none, 21) := ⟨16386, fun k hk => by
  show mnew k l e m v = _
  unfold mnew
  rw [isa_chk l m e hW k (.inr hk), Option.bind_some, if_pos h, if_pos hv]⟩
theorem new_bad {l m v : List Int} {e : Int} (hW : allW l) (h : ¬ (chk l e m).1 = 0) : Evt (fun k => mnew k l e m v) (none, (chk l e m).1) := ⟨16386, fun k hk => by
  show mnew k l e m v = _
  unfold mnew
  rw [isa_chk l m e hW k (.inr hk), Option.bind_some, if_neg h]⟩
theorem runs_core (l m v : List Int) (e x0 : Int) (hW : allW l) : Evt (fun k => pleatlaw12_EdgeRuns.f k l e m v x0) true := by
  unfold pleatlaw12_EdgeRuns.f
  obtain ⟨u, hu⟩ := much_some l m e
  simp only [hu, Option.bind_some]
  by_cases h5 : u = true ∨ 8192 < v.length ∨ 300 < x0
  · simp only [if_pos h5]
    exact works_true
  simp only [if_neg h5]
  have hn : l.length ≤ 600 := much_le hu (fun h => h5 (.inl h))
  have hd : x0.toNat ≤ 300 := by
    have : ¬ 300 < x0 := fun h => h5 (.inr (.inr h))
    omega
  by_cases c3 : (chk l e m).1 = 0
  · have hm4 := chk_mem c3
    have g : Good l e m := good_of (x := (chk l e m).2) hW (Prod.ext c3 rfl)
    have hnb := nb_le l e
    have hel := edgs_len l e
    have hbl := bks_len l e
    obtain ⟨p, hp⟩ := Int.eq_ofNat_of_zero_le g.ent.1
    obtain ⟨s, hs, h1, h2⟩ := block_at (e := e) (l := l) (p := p) (by have := g.ent.2; omega)
    rw [← hp] at h1 h2
    obtain ⟨r, r1, r2⟩ := reached_at g hm4 hn hs h1 h2
    have hrl := r2.len
    by_cases hv : 4096 < v.length
    · exact Evt.bind (blocks_eq g hm4) (Evt.bind (edges_eq g hm4 hn) (Evt.bind r1 (Evt.bind (new_long hW c3 hv) (tail_err (.inr (by decide))))))
    · exact Evt.bind (blocks_eq g hm4) (Evt.bind (edges_eq g hm4 hn) (Evt.bind r1 (Evt.bind (fresh_ev g hm4 (by omega)) (tail_ok ⟨hel.trans hbl.symm, by show r.length = (bks l e).length; omega, by show (bks l e).length ≤ 16384; omega⟩ (run_ev g hm4 (by omega) hs h1 h2 r2 _ hd)))))
  · have hisa : Evt (fun q => image_Check.f q l e m) (chk l e m) := ⟨16386, fun k hk => isa_chk l m e hW k (.inr hk)⟩
    have hb : Evt (fun q => block_Blocks.f q l e m) ([], (chk l e m).1) := by
      simp only [block_Blocks.f]
      refine Evt.bind hisa ?_
      simp only [c3, if_false]
      exact Evt.pure
    have hE : Evt (fun q => edge_Edges.f q l e m) ([], (chk l e m).1) := by
      simp only [edge_Edges.f]
      refine Evt.bind hb ?_
      simp only [c3, if_false]
      exact Evt.pure
    have hR : Evt (fun q => edge_Reached.f q l e m) ([], (chk l e m).1) := by
      simp only [edge_Reached.f]
      refine Evt.bind hE ?_
      simp only [c3, if_false]
      exact Evt.pure
    exact Evt.bind hb (Evt.bind hE (Evt.bind hR (Evt.bind (new_bad hW c3) (tail_err (.inl c3)))))
theorem EdgeRuns : St.EdgeRuns := by
  intro l e m v x0 hl he hm hv hx
  refine Evt.out (runs_core l m v e x0 ?_)
  intro x hx
  have h := hl.2 x hx
  simp [Lit.wf, IntKind.min, IntKind.max, IntKind.bits, IntKind.signed] at h
  unfold isW
  omega
end Go.Proofs.Ytfgdjpgdabjpmaa.Pure
