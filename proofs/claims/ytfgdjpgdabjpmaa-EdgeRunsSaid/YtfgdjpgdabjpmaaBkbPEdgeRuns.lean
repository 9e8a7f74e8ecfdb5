/- The blocks of a text and its edges: the program's lists and the document's are the same; the block at a place; what can be come to. -/
import Derived.Test.YtfgdjpgdabjpmaaBlbPEdgeRuns
import Derived.Test.YtfgdjpgdabjpmaaEdbPEdgeRuns
namespace Go.Proofs.Ytfgdjpgdabjpmaa.Pure
open Go.RowKit Go.Proofs.YtfgdjpgdabjpmaaW.PrintWords Go.Proofs.YtfgdjpgdabjpmaaW.PrintLast Go.Proofs.Ytfgdjpgdabjpmaa.PEdgeRuns Go.Proofs.Ytfgdjpgdabjpmaa.Ev
set_option linter.unusedVariables false
set_option linter.unusedSimpArgs false

abbrev zB : Bk := z84
theorem rdB (l : List Bk) (i : Nat) : rd_T84 l (i : Int) = l.getD i zB := by simp [rd_T84]
/-- The pairs of neighbours. -/
def prs : List Int → List Bk
  | a :: b :: t => ⟨a, b⟩ :: prs (b :: t)
  | _ => []
theorem prs_snoc : ∀ (Q : List Int), Q ≠ [] → ∀ x, prs (Q ++ [x]) = prs Q ++ [⟨Q.getLastD 0, x⟩]
  | [], h, _ => absurd rfl h
  | [a], _, x => rfl
  | a :: b :: t, _, x => by
    have ih := prs_snoc (b :: t) (by simp) x
    show (⟨a, b⟩ : Bk) :: prs ((b :: t) ++ [x]) = (⟨a, b⟩ :: prs (b :: t)) ++ _
    rw [ih]
    rfl
theorem prs_len : ∀ (Q : List Int), (prs Q).length = Q.length - 1
  | [] => rfl
  | [a] => rfl
  | a :: b :: t => by
    have ih := prs_len (b :: t)
    simp only [prs, List.length_cons] at ih ⊢
    omega
theorem prs_get : ∀ (Q : List Int) (s : Nat), s + 1 < Q.length → (prs Q).getD s zB = ⟨Q.getD s 0, Q.getD (s + 1) 0⟩
  | [], s, h => by simp at h
  | [a], s, h => by simp at h
  | a :: b :: t, 0, h => rfl
  | a :: b :: t, s + 1, h => by
    have ih := prs_get (b :: t) s (by simpa using h)
    simpa [prs] using ih
theorem blocksTo_eq (L : List Int) (n : Int) : ∀ j, j ≤ L.length → blocksTo L n j = prs ((L ++ [n]).take (j + 1))
  | 0, _ => by
    unfold blocksTo
    have h : ((L ++ [n]).take 1).length = 1 := by rw [List.length_take, List.length_append]; simp
    match hq : (L ++ [n]).take 1, h with
    | [a], _ => rfl
  | j + 1, hj => by
    have ih := blocksTo_eq L n j (by omega)
    have hlt : j + 1 < (L ++ [n]).length := by rw [List.length_append]; simp; omega
    rw [take_next 0 hlt, prs_snoc _ (by
      intro e
      have := congrArg List.length e
      rw [List.length_take, List.length_append] at this
      simp at this)]
    unfold blocksTo
    rw [ih]
    congr 1
    have h1 : ((L ++ [n]).take (j + 1)).getLastD 0 = rd L (j : Int) := by
      have hlt0 : j < (L ++ [n]).length := by omega
      rw [take_next 0 hlt0, List.getLastD_concat, rd_nat, getD_eq 0 hlt0, getD_eq 0 (show j < L.length by omega), List.getElem_append_left]
    have h2 : (L ++ [n]).getD (j + 1) 0 = if (j : Int) + 1 < (L.length : Int) then rd L ((j : Int) + 1) else n := by
      rw [getD_eq 0 hlt]
      by_cases c : j + 1 < L.length
      · rw [if_pos (by omega), List.getElem_append_left c]
        have : ((j : Int) + 1) = ((j + 1 : Nat) : Int) := by omega
        rw [this, rd_nat, getD_eq 0 c]
      · rw [if_neg (by omega)]
        simp [List.getElem_append_right (show L.length ≤ j + 1 by omega)]
    rw [h1, h2]

/-! ### the boundaries -/
def bnd (l : List Int) (e : Int) (p : Nat) : Bool := decide ((p : Int) ∈ seenTo (bmkAt (l.map fun w => (tgt w, endsV w)) e) l.length)
theorem bnd_iff (l : List Int) (e : Int) (hl : 0 < l.length) (p : Nat) : bnd l e p = true ↔ (∃ j, j < l.length ∧ tgt (at_ l j) = ((p : Int), true)) ∨ (∃ j, j < l.length ∧ endsV (at_ l j) = true ∧ p = j + 1) ∨ (p : Int) = e ∨ p = 0 := by
  unfold bnd
  rw [decide_eq_true_eq, mem_seen]
  have hb : ∀ j, j < l.length → ((p : Int) ∈ bmkAt (l.map fun w => (tgt w, endsV w)) e j ↔ tgt (at_ l j) = ((p : Int), true) ∨ (endsV (at_ l j) = true ∧ p = j + 1) ∨ (p : Int) = e ∨ p = 0) := fun j hj => by
    unfold bmkAt
    rw [map_at (fun w => (tgt w, endsV w)) l ((0, false), false) j hj]
    simp only [List.mem_append, List.mem_cons, List.not_mem_nil, or_false]
    constructor
    · rintro (h | h | h | h)
      · split at h
        · rename_i h2
          have := List.mem_singleton.1 h
          exact .inl (Prod.ext this.symm h2)
        · simp at h
      · split at h
        · rename_i h2
          have := List.mem_singleton.1 h
          exact .inr (.inl ⟨h2, by omega⟩)
        · simp at h
      · exact .inr (.inr (.inl h))
      · exact .inr (.inr (.inr (by omega)))
    · rintro (h | ⟨h1, h2⟩ | h | h)
      · left
        rw [h]
        simp
      · right; left
        rw [if_pos h1]
        simp
        omega
      · exact .inr (.inr (.inl h))
      · exact .inr (.inr (.inr (by omega)))
  constructor
  · rintro ⟨j, hj, h⟩
    rcases (hb j hj).1 h with a | ⟨a, b⟩ | a | a
    · exact .inl ⟨j, hj, a⟩
    · exact .inr (.inl ⟨j, hj, a, b⟩)
    · exact .inr (.inr (.inl a))
    · exact .inr (.inr (.inr a))
  · rintro (⟨j, hj, a⟩ | ⟨j, hj, a, b⟩ | a | a)
    · exact ⟨j, hj, (hb j hj).2 (.inl a)⟩
    · exact ⟨j, hj, (hb j hj).2 (.inr (.inl ⟨a, b⟩))⟩
    · exact ⟨0, hl, (hb 0 hl).2 (.inr (.inr (.inl a)))⟩
    · exact ⟨0, hl, (hb 0 hl).2 (.inr (.inr (.inr a)))⟩
/-- The boundaries of a text. -/
def bps (l : List Int) (e : Int) : List Int := nats (bnd l e) l.length
/-- The blocks. -/
def bks (l : List Int) (e : Int) : List Bk := prs (bps l e ++ [(l.length : Int)])
theorem chk_zero {l m : List Int} {e : Int} (g : Good l e m) (hm : m.length ≤ 4096) : chk l e m = (0, 0) := by
  have hf : ∀ d i, i + d = l.length → chkFrom l d i = (0, 0) := by
    intro d
    induction d with
    | zero =>
      intro i hi
      unfold chkFrom
      have : ((l.length : Int) - 1) = ((l.length - 1 : Nat) : Int) := by have := g.pos; omega
      rw [this, if_pos g.last]
    | succ d ih =>
      intro i hi
      rw [chkFrom_succ, if_neg (fun h => by
        have := g.tg i (by omega) h.1
        have h2 := h.2
        have h3 : (tgt (at_ l i)).1 = (tgt (rd l (i : Int))).1 := rfl
        omega), ih (i + 1) (by omega)]
  unfold chk
  have h1 := g.pos
  have h2 := g.len
  have h3 := g.ent
  rw [if_neg (by omega), if_neg (by omega), if_neg (by omega), if_neg (by omega), hf _ _ (by omega)]
theorem blocks_eq {l m : List Int} {e : Int} (g : Good l e m) (hm : m.length ≤ 4096) : Evt (fun q => block_Blocks.f q l e m) (bks l e, 0) := by
  have h1 := g.len
  have h2 := g.ent
  refine ⟨16386, fun k hk => ?_⟩
  show block_Blocks.f k l e m = _
  unfold block_Blocks.f
  rw [isa_chk l m e g.words k (.inr hk), chk_zero g hm]
  simp only [Option.bind_some, if_true]
  rw [if_pos ⟨h1, h2.1, by omega⟩, decs_eq k (by omega) l g.words, blkInfo_eq k (by omega) l g.words]
  simp only [Option.bind_some]
  rw [places_eq, blocksTo_eq _ _ _ (Nat.le_refl _), List.take_of_length_le (by rw [List.length_append]; simp)]
  rfl
theorem bps_zero (l : List Int) (e : Int) (hl : 0 < l.length) : ∀ i, 0 < i → nats (bnd l e) i ≠ []
  | 0, h => by omega
  | i + 1, _ => by
    have h0 : (0 : Int) ∈ nats (bnd l e) (i + 1) := mem_nats.2 ⟨0, rfl, by omega, (bnd_iff l e hl 0).2 (.inr (.inr (.inr rfl)))⟩
    intro e
    rw [e] at h0
    simp at h0
theorem nats_lt (p : Nat → Bool) (n : Nat) : (nats p n).Pairwise (· < ·) := by
  unfold nats
  rw [List.pairwise_map]
  exact ((List.pairwise_lt_range (n := n)).filter p).imp fun h => by omega
theorem nats_congr {p q : Nat → Bool} {n : Nat} (h : ∀ k, k < n → p k = q k) : nats p n = nats q n := by
  unfold nats
  rw [List.filter_congr fun k hk => h k (List.mem_range.1 hk)]
theorem nats_none : ∀ (n : Nat), nats (fun _ => false) n = []
  | 0 => rfl
  | n + 1 => by rw [nats_next, nats_none n]; rfl
theorem nats_one (t : Nat) : ∀ (n : Nat), nats (fun k => decide (k = t)) n = if t < n then [(t : Int)] else []
  | 0 => rfl
  | n + 1 => by
    rw [nats_next, nats_one t n]
    by_cases c : n = t
    · subst c
      simp
    · by_cases d : t < n
      · have h1 : t < n + 1 := by omega
        simp [c, d, h1]
      · have h1 : ¬ t < n + 1 := by omega
        simp [c, d, h1]

/-! ### the points -/
section
variable (l : List Int) (e : Int)
/-- How many blocks; where they begin and end. -/
def nb : Nat := (bps l e).length
def pt (s : Nat) : Int := (bps l e).getD s 0
def toN (s : Nat) : Int := if s + 1 < nb l e then pt l e (s + 1) else (l.length : Int)
end
theorem pt_mem {l : List Int} {e : Int} {s : Nat} (h : s < nb l e) : ∃ m : Nat, pt l e s = (m : Int) ∧ m < l.length ∧ bnd l e m = true := by
  have : pt l e s ∈ bps l e := by
    unfold pt
    rw [getD_eq 0 h]
    exact List.getElem_mem h
  exact mem_nats.1 this
theorem pt_lt {l : List Int} {e : Int} {s t : Nat} (h : s < t) (ht : t < nb l e) : pt l e s < pt l e t := by
  have := List.pairwise_iff_getElem.1 (nats_lt (bnd l e) l.length) s t (by unfold nb bps at ht; omega) ht h
  have hl : (bps l e).length = nb l e := rfl
  unfold pt
  rw [getD_eq 0 ht, getD_eq 0 (by omega)]
  exact this
theorem pt_inj {l : List Int} {e : Int} {s t : Nat} (hs : s < nb l e) (ht : t < nb l e) (h : pt l e s = pt l e t) : s = t := by
  rcases Nat.lt_trichotomy s t with a | a | a
  · have := pt_lt a ht; omega
  · exact a
  · have := pt_lt a hs; omega
theorem pt_idx {l : List Int} {e : Int} {m : Nat} (hm : m < l.length) (hb : bnd l e m = true) : ∃ s, s < nb l e ∧ pt l e s = (m : Int) := by
  have : (m : Int) ∈ bps l e := mem_nats.2 ⟨m, rfl, hm, hb⟩
  obtain ⟨i, hi, h⟩ := List.getElem_of_mem this
  exact ⟨i, hi, by unfold pt; rw [getD_eq 0 hi, h]⟩
theorem nb_pos {l : List Int} {e : Int} (hl : 0 < l.length) : 0 < nb l e := by
  have := bps_zero l e hl l.length hl
  exact List.length_pos_iff.2 this
theorem nb_le (l : List Int) (e : Int) : nb l e ≤ l.length := nats_len _ _
theorem bks_len (l : List Int) (e : Int) : (bks l e).length = nb l e := by
  unfold bks
  rw [prs_len, List.length_append]
  rfl
theorem bks_get {l : List Int} {e : Int} {s : Nat} (h : s < nb l e) : (bks l e).getD s zB = ⟨pt l e s, toN l e s⟩ := by
  have hl : (bps l e ++ [(l.length : Int)]).length = nb l e + 1 := by rw [List.length_append]; rfl
  unfold bks
  rw [prs_get _ s (by omega)]
  have h1 : (bps l e ++ [(l.length : Int)]).getD s 0 = pt l e s := by
    unfold pt
    rw [getD_eq 0 (by omega), getD_eq 0 h, List.getElem_append_left (show s < (bps l e).length from h)]
    rfl
  have h2 : (bps l e ++ [(l.length : Int)]).getD (s + 1) 0 = toN l e s := by
    unfold toN
    rw [getD_eq 0 (by omega)]
    by_cases c : s + 1 < nb l e
    · rw [if_pos c]
      unfold pt
      rw [getD_eq 0 c, List.getElem_append_left (show s + 1 < (bps l e).length from c)]
      rfl
    · rw [if_neg c]
      simp [List.getElem_append_right (show (bps l e).length ≤ s + 1 by unfold nb at c; omega)]
  rw [h1, h2]
theorem toN_range {l : List Int} {e : Int} {s : Nat} (h : s < nb l e) : pt l e s < toN l e s ∧ toN l e s ≤ l.length ∧ 1 ≤ toN l e s := by
  obtain ⟨m, hm, hml, _⟩ := pt_mem h
  unfold toN
  by_cases c : s + 1 < nb l e
  · rw [if_pos c]
    have := pt_lt (show s < s + 1 by omega) c
    obtain ⟨m', hm', hml', _⟩ := pt_mem c
    omega
  · rw [if_neg c]
    omega
/-- The last word of a block. -/
def wLast (l : List Int) (e : Int) (s : Nat) : Int := at_ l ((toN l e s).toNat - 1)
theorem wLast_W {l m : List Int} {e : Int} (g : Good l e m) {s : Nat} (h : s < nb l e) : isW (wLast l e s) := by
  have := toN_range h
  exact rd_W g.words _ (by omega)
theorem wLast_last {l m : List Int} {e : Int} (g : Good l e m) {s : Nat} (h : s < nb l e) (hs : ¬ s + 1 < nb l e) : opW (wLast l e s) = 0 ∨ opW (wLast l e s) = 15 ∨ opW (wLast l e s) = 19 ∨ opW (wLast l e s) = 21 := by
  have : (toN l e s).toNat - 1 = l.length - 1 := by
    unfold toN
    rw [if_neg hs]
    omega
  unfold wLast
  rw [this]
  exact g.last

/-! ### look-ups -/
theorem look_eq (l : List Int) (e : Int) : ∀ (j : Nat), j ≤ nb l e → ∀ s, s < j → edgeLook (edgeBeg (bks l e) j) (pt l e s) = (s : Int)
  | 0, _, s, hs => by omega
  | j + 1, hj, s, hs => by
    have ih := look_eq l e j (by omega)
    unfold edgeBeg edgeLook
    rw [rdB, bks_get (by omega)]
    by_cases c : s = j
    · subst c
      simp [List.lookup]
    · have hne : (pt l e s == pt l e j) = false := by
        rw [beq_eq_false_iff_ne]
        exact fun a => c (pt_inj (by omega) (by omega) a)
      have := ih s (by omega)
      unfold edgeLook at this
      simpa [List.lookup, hne] using this
theorem hv_tgt {w : Int} (h : opW w = 15 ∨ opW w = 16 ∨ opW w = 17 ∨ opW w = 20) : tgt w = ((dec w).2.2.2.2, true) := by
  unfold tgt
  have : bt1 (hv (dec w).1) 16 = true := by
    rcases h with a | a | a | a <;> (rw [show (dec w).1 = opW w from rfl, a]; decide)
  rw [if_pos this]
/-- Where a target's block stands. -/
theorem tgt_idx {l m : List Int} {e : Int} (g : Good l e m) {j : Nat} (hj : j < l.length) (h : (tgt (at_ l j)).2 = true) : ∃ s, s < nb l e ∧ pt l e s = (tgt (at_ l j)).1 := by
  obtain ⟨a, b⟩ := g.tg j hj h
  obtain ⟨p, hp⟩ := Int.eq_ofNat_of_zero_le a
  have hb : bnd l e p = true := (bnd_iff l e g.pos p).2 (.inl ⟨j, hj, Prod.ext hp h⟩)
  obtain ⟨s, hs, h2⟩ := pt_idx (by rw [hp] at b; omega) hb
  exact ⟨s, hs, by rw [h2]; exact hp.symm⟩

/-! ### what is known -/
def tkL (l : List Int) : List Int := nats (fun p => decide ((p : Int) ∈ seenTo (takenAt (l.map dec)) l.length)) l.length
def stL (l : List Int) : List Int := nats (fun p => decide ((p : Int) ∈ seenTo (siteAt (l.map dec)) l.length)) l.length
theorem mem_tk {l m : List Int} {e : Int} (g : Good l e m) (x : Int) : x ∈ tkL l ↔ ∃ p : Nat, x = (p : Int) ∧ p < l.length ∧ ∃ j, j < l.length ∧ hit l 1 j p := by
  unfold tkL
  rw [mem_nats]
  constructor
  · rintro ⟨p, rfl, hp, h⟩
    rw [decide_eq_true_eq, mem_seen] at h
    obtain ⟨j, hj, h⟩ := h
    unfold takenAt at h
    rw [map_at dec l (0, 0, 0, 0, 0) j hj] at h
    split at h
    · rename_i h20
      have h2 := List.mem_singleton.1 h
      exact ⟨p, rfl, hp, j, hj, .inr (.inl ⟨rfl, h20, by rw [hv_tgt (.inr (.inr (.inr h20))), h2]⟩)⟩
    · simp at h
  · rintro ⟨p, rfl, hp, j, hj, h⟩
    rcases h with ⟨a, _⟩ | ⟨_, a, b⟩ | ⟨a, _⟩
    · cases a
    · refine ⟨p, rfl, hp, ?_⟩
      rw [decide_eq_true_eq, mem_seen]
      refine ⟨j, hj, ?_⟩
      unfold takenAt
      rw [map_at dec l (0, 0, 0, 0, 0) j hj, if_pos a]
      rw [hv_tgt (.inr (.inr (.inr a)))] at b
      have b' := congrArg Prod.fst b
      simp only at b'
      simp [b']
    · cases a
theorem mem_st {l m : List Int} {e : Int} (g : Good l e m) (x : Int) : x ∈ stL l ↔ ∃ p : Nat, x = (p : Int) ∧ p < l.length ∧ ∃ j, j < l.length ∧ hit l 2 j p := by
  unfold stL
  rw [mem_nats]
  constructor
  · rintro ⟨p, rfl, hp, h⟩
    rw [decide_eq_true_eq, mem_seen] at h
    obtain ⟨j, hj, h⟩ := h
    unfold siteAt at h
    rw [map_at dec l (0, 0, 0, 0, 0) j hj] at h
    split at h
    · rename_i h17
      have h2 := List.mem_singleton.1 h
      exact ⟨p, rfl, hp, j, hj, .inr (.inr ⟨rfl, h17, by omega⟩)⟩
    · simp at h
  · rintro ⟨p, rfl, hp, j, hj, h⟩
    rcases h with ⟨a, _⟩ | ⟨a, _⟩ | ⟨_, a, b⟩
    · cases a
    · cases a
    · refine ⟨p, rfl, hp, ?_⟩
      rw [decide_eq_true_eq, mem_seen]
      refine ⟨j, hj, ?_⟩
      unfold siteAt
      rw [map_at dec l (0, 0, 0, 0, 0) j hj, if_pos a]
      simp
      omega
theorem hit_bnd {l m : List Int} {e : Int} (g : Good l e m) {c : Int} {j p : Nat} (hc : c = 1 ∨ c = 2) (hj : j < l.length) (h : hit l c j p) : bnd l e p = true := by
  rw [bnd_iff l e g.pos]
  rcases h with ⟨a, _⟩ | ⟨_, a, b⟩ | ⟨_, a, b⟩
  · rcases hc with rfl | rfl <;> cases a
  · exact .inl ⟨j, hj, b⟩
  · refine .inr (.inl ⟨j, hj, ?_, b⟩)
    unfold endsV
    rcases a with a | a <;> simp [a]
/-- Can one go to a block out of a register? -/
def kn (l : List Int) (e : Int) (s : Nat) : Bool := decide ((s : Int) ∈ (tkL l).map (edgeLook (edgeBeg (bks l e) (nb l e))) ++ (stL l).map (edgeLook (edgeBeg (bks l e) (nb l e))))
theorem kn_iff {l m : List Int} {e : Int} (g : Good l e m) {s : Nat} (hs : s < nb l e) : kn l e s = true ↔ (∃ p : Nat, pt l e s = (p : Int) ∧ ((∃ j, j < l.length ∧ hit l 1 j p) ∨ (∃ j, j < l.length ∧ hit l 2 j p))) := by
  have key : ∀ (c : Int) (hc : c = 1 ∨ c = 2) (p j : Nat), p < l.length → j < l.length → hit l c j p → ∃ t, t < nb l e ∧ pt l e t = (p : Int) ∧ edgeLook (edgeBeg (bks l e) (nb l e)) (p : Int) = (t : Int) := fun c hc p j hp hj h => by
    obtain ⟨t, ht, h2⟩ := pt_idx hp (hit_bnd g hc hj h)
    exact ⟨t, ht, h2, by rw [← h2]; exact look_eq l e _ (Nat.le_refl _) t ht⟩
  unfold kn
  rw [decide_eq_true_eq, List.mem_append, List.mem_map, List.mem_map]
  constructor
  · rintro (⟨x, hx, h⟩ | ⟨x, hx, h⟩)
    · obtain ⟨p, rfl, hp, j, hj, hh⟩ := (mem_tk g x).1 hx
      obtain ⟨t, ht, h2, h3⟩ := key 1 (.inl rfl) p j hp hj hh
      have : t = s := by omega
      subst this
      exact ⟨p, h2, .inl ⟨j, hj, hh⟩⟩
    · obtain ⟨p, rfl, hp, j, hj, hh⟩ := (mem_st g x).1 hx
      obtain ⟨t, ht, h2, h3⟩ := key 2 (.inr rfl) p j hp hj hh
      have : t = s := by omega
      subst this
      exact ⟨p, h2, .inr ⟨j, hj, hh⟩⟩
  · rintro ⟨p, hp, ⟨j, hj, hh⟩ | ⟨j, hj, hh⟩⟩
    · obtain ⟨m', hm', hml, _⟩ := pt_mem hs
      have hpl : p < l.length := by omega
      exact .inl ⟨p, (mem_tk g _).2 ⟨p, rfl, hpl, j, hj, hh⟩, by rw [← hp]; exact look_eq l e _ (Nat.le_refl _) s hs⟩
    · obtain ⟨m', hm', hml, _⟩ := pt_mem hs
      have hpl : p < l.length := by omega
      exact .inr ⟨p, (mem_st g _).2 ⟨p, rfl, hpl, j, hj, hh⟩, by rw [← hp]; exact look_eq l e _ (Nat.le_refl _) s hs⟩

/-! ### the rows -/
def goV (l : List Int) (e : Int) (s k : Nat) : Bool :=
  if opW (wLast l e s) = -1 ∨ opW (wLast l e s) = 0 ∨ opW (wLast l e s) = 21 then false
  else if opW (wLast l e s) = 15 ∨ opW (wLast l e s) = 17 then decide ((dec (wLast l e s)).2.2.2.2 = pt l e k)
  else if opW (wLast l e s) = 16 then decide ((dec (wLast l e s)).2.2.2.2 = pt l e k) || decide (k = s + 1)
  else if opW (wLast l e s) = 18 ∨ opW (wLast l e s) = 19 then kn l e k
  else decide (k = s + 1)
def erow (l : List Int) (e : Int) (s : Nat) : List Int := nats (goV l e s) (nb l e)
def edgs (l : List Int) (e : Int) : List (List Int) := (List.range (nb l e)).map (erow l e)
theorem fit_of {l : List Int} (h1 : l.length ≤ 16384) (h2 : ∀ x, x ∈ l → ∃ p : Nat, x = (p : Int) ∧ p < 16384) : edgeFit l = true := by
  unfold edgeFit
  rw [Bool.and_eq_true, decide_eq_true_eq, List.all_eq_true]
  exact ⟨h1, fun x hx => by obtain ⟨p, e, hp⟩ := h2 x hx; rw [decide_eq_true_eq]; omega⟩
theorem step_eq {l m : List Int} {e : Int} (g : Good l e m) {s : Nat} (hs : s < nb l e) :
    Evt (fun q => edgeStep q l (bks l e) (edgeBeg (bks l e) (nb l e)) (nb l e : Int) (nats (kn l e) (nb l e)) s) (erow l e s) := by
  have ht := toN_range hs
  have hw := wLast_W g hs
  have hn := dec_n_range hw
  have hb := nb_le l e
  have hl := g.len
  have hj : (toN l e s).toNat - 1 < l.length := by omega
  have hget : rd_T84 (bks l e) (s : Int) = ⟨pt l e s, toN l e s⟩ := by rw [rdB, bks_get hs]
  have hidx : rd l (toN l e s - 1) = wLast l e s := by
    unfold wLast at_
    congr 1
    omega
  have hdec : Evt (fun q => isa_Decode.f q (wLast l e s)) (dec (wLast l e s)) := ⟨1, fun k hk => isa_dec hw k hk⟩
  simp only [edgeStep, hget, ht.2.2, ht.2.1, and_self, if_true, hidx]
  refine Evt.bind hdec ?_
  simp only [hn.1, hn.2, and_self, if_true]
  have look : opW (wLast l e s) = 15 ∨ opW (wLast l e s) = 16 ∨ opW (wLast l e s) = 17 → ∃ t, t < nb l e ∧ pt l e t = (dec (wLast l e s)).2.2.2.2 ∧ edgeLook (edgeBeg (bks l e) (nb l e)) (dec (wLast l e s)).2.2.2.2 = (t : Int) := fun h => by
    have h1 := hv_tgt (w := wLast l e s) (by rcases h with a | a | a; exact .inl a; exact .inr (.inl a); exact .inr (.inr (.inl a)))
    obtain ⟨t, ht, h2⟩ := tgt_idx g hj (show (tgt (wLast l e s)).2 = true by rw [h1])
    have h3 : pt l e t = (dec (wLast l e s)).2.2.2.2 := by
      rw [h2]
      show (tgt (wLast l e s)).1 = _
      rw [h1]
    exact ⟨t, ht, h3, by rw [← h3]; exact look_eq l e _ (Nat.le_refl _) t ht⟩
  have eqk : ∀ t, t < nb l e → ∀ k, k < nb l e → decide (pt l e t = pt l e k) = decide (k = t) := fun t ht k hk => by
    by_cases c : k = t
    · subst c; simp
    · have : ¬ pt l e t = pt l e k := fun a => c (pt_inj ht hk a).symm
      simp [c, this]
  have hlast := wLast_last g hs
  unfold edgeTo erow
  simp only [show (dec (wLast l e s)).1 = opW (wLast l e s) from rfl]
  by_cases c1 : opW (wLast l e s) = -1
  · simp only [c1, if_true]
    refine Evt.const (congrArg some ?_)
    rw [nats_congr (q := fun _ => false) (fun k _ => by unfold goV; rw [if_pos (.inl c1)]), nats_none]
  · by_cases c2 : opW (wLast l e s) = 0
    · simp only [c2, if_true]
      refine Evt.const (if_neg (by decide) |>.trans (congrArg some ?_))
      rw [nats_congr (q := fun _ => false) (fun k _ => by unfold goV; rw [if_pos (.inr (.inl c2))]), nats_none]
    · by_cases c3 : opW (wLast l e s) = 21
      · simp only [c1, c2, c3, if_true, if_false]
        refine Evt.const (congrArg some ?_)
        rw [nats_congr (q := fun _ => false) (fun k _ => by unfold goV; rw [if_pos (.inr (.inr c3))]), nats_none]
      · have nz : ¬ (opW (wLast l e s) = -1 ∨ opW (wLast l e s) = 0 ∨ opW (wLast l e s) = 21) := by omega
        by_cases c4 : opW (wLast l e s) = 15 ∨ opW (wLast l e s) = 17
        · obtain ⟨t, htn, hp, hlk⟩ := look (by omega)
          have hr : nats (goV l e s) (nb l e) = [(t : Int)] := by
            rw [nats_congr (q := fun k => decide (k = t)) (fun k hk => by
              unfold goV
              rw [if_neg nz, if_pos c4, ← hp]
              exact eqk t htn k hk), nats_one, if_pos htn]
          rw [hr]
          rcases c4 with a | a
          · simp only [c1, c2, c3, a, if_true, if_false, hlk]
            simp
            exact Evt.pure
          · simp only [c1, c2, c3, a, if_true, if_false, hlk]
            simp
            exact Evt.pure
        · have n15 : ¬ opW (wLast l e s) = 15 := by omega
          have n17 : ¬ opW (wLast l e s) = 17 := by omega
          by_cases c5 : opW (wLast l e s) = 16
          · obtain ⟨t, htn, hp, hlk⟩ := look (by omega)
            have hr : nats (goV l e s) (nb l e) = nats (fun k => decide ((k : Int) ∈ [(t : Int), (s : Int) + 1])) (nb l e) := nats_congr fun k hk => by
              unfold goV
              rw [if_neg nz, if_neg c4, if_pos c5, ← hp, eqk t htn k hk]
              rw [Bool.eq_iff_iff]
              simp
              omega
            rw [hr]
            simp only [c1, c2, c3, n15, n17, c5, if_true, if_false, hlk]
            simp
            have := rise [(t : Int), (s : Int) + 1] (nb l e) (by omega) (by simp)
            simpa using this
          · by_cases c6 : opW (wLast l e s) = 18 ∨ opW (wLast l e s) = 19
            · have hr : nats (goV l e s) (nb l e) = nats (kn l e) (nb l e) := nats_congr fun k hk => by
                unfold goV
                rw [if_neg nz, if_neg c4, if_neg c5, if_pos c6]
              rw [hr]
              rcases c6 with a | a
              · simp only [c1, c2, c3, n15, n17, c5, a, if_true, if_false]
                simp
                exact Evt.pure
              · simp only [c1, c2, c3, n15, n17, c5, a, if_true, if_false]
                simp
                exact Evt.pure
            · have n18 : ¬ opW (wLast l e s) = 18 := by omega
              have n19 : ¬ opW (wLast l e s) = 19 := by omega
              have hs1 : s + 1 < nb l e := by
                rcases Nat.lt_or_ge (s + 1) (nb l e) with a | a
                · exact a
                · have := hlast (by omega)
                  omega
              have hr : nats (goV l e s) (nb l e) = [((s + 1 : Nat) : Int)] := by
                rw [nats_congr (q := fun k => decide (k = s + 1)) (fun k hk => by
                  unfold goV
                  rw [if_neg nz, if_neg c4, if_neg c5, if_neg c6]), nats_one, if_pos hs1]
              rw [hr]
              simp only [c1, c2, c3, n15, n17, c5, n18, n19, if_false]
              exact Evt.const (by simp)

theorem Evt.ifp {α : Type} {c : Prop} [Decidable c] {a b : Nat → Option α} {r : α} (h : c) (ha : Evt a r) : Evt (fun q => if c then a q else b q) r := by
  simpa only [if_pos h] using ha
theorem edgesTo_eq {l m : List Int} {e : Int} (g : Good l e m) : ∀ j, j ≤ nb l e → Evt (fun q => edgesTo q l (bks l e) (edgeBeg (bks l e) (nb l e)) (nb l e : Int) (nats (kn l e) (nb l e)) j) ((List.range j).map (erow l e))
  | 0, _ => Evt.const rfl
  | j + 1, hj => by
    have ih := edgesTo_eq g j (by omega)
    simp only [edgesTo]
    refine Evt.bind ih (Evt.bind (step_eq g (by omega)) ?_)
    rw [List.range_succ, List.map_append]
    exact Evt.pure
theorem gathered_eq {l m : List Int} {e : Int} (g : Good l e m) (hm : m.length ≤ 4096) (mk : List (Int × Int × Int × Int × Int) → Nat → List Int) : Evt (fun q => gathered q mk l e m) (nats (fun p => decide ((p : Int) ∈ seenTo (mk (l.map dec)) l.length)) l.length, 0) := by
  have h1 := g.len
  refine ⟨16386, fun k hk => ?_⟩
  show gathered k mk l e m = _
  unfold gathered
  rw [isa_chk l m e g.words k (.inr hk), chk_zero g hm]
  simp only [Option.bind_some, if_true]
  rw [if_pos h1, decs_eq k (by omega) l g.words]
  simp only [Option.bind_some]
  rw [places_eq]
theorem edges_eq {l m : List Int} {e : Int} (g : Good l e m) (hm : m.length ≤ 4096) (hn : l.length ≤ 600) : Evt (fun q => edge_Edges.f q l e m) (edgs l e, 0) := by
  have hb := nb_le l e
  have h1 := g.len
  have hfit : edgeFit ((bks l e).map fun x => x.f0) = true := fit_of (by rw [List.length_map, bks_len]; omega) fun x hx => by
    obtain ⟨y, hy, rfl⟩ := List.mem_map.1 hx
    obtain ⟨s, hs, h2⟩ := List.getElem_of_mem hy
    rw [bks_len] at hs
    have h3 := bks_get hs
    rw [getD_eq zB (by rw [bks_len]; exact hs), h2] at h3
    obtain ⟨p, hp, hpl, _⟩ := pt_mem hs
    exact ⟨p, by rw [h3]; exact hp, by omega⟩
  have hft : edgeFit (tkL l) = true := fit_of (Nat.le_trans (nats_len _ _) h1) fun x hx => by
    obtain ⟨p, h2, hp, _⟩ := mem_nats.1 hx
    exact ⟨p, h2, by omega⟩
  have hfs : edgeFit (stL l) = true := fit_of (Nat.le_trans (nats_len _ _) h1) fun x hx => by
    obtain ⟨p, h2, hp, _⟩ := mem_nats.1 hx
    exact ⟨p, h2, by omega⟩
  have hbl := bks_len l e
  have hkl : (nats (kn l e) (nb l e)).length ≤ 16384 := Nat.le_trans (nats_len _ _) (by omega)
  simp only [edge_Edges.f]
  refine Evt.bind (blocks_eq g hm) ?_
  have c1 : l.length ≤ 16384 ∧ (bks l e).length ≤ 16384 ∧ edgeFit ((bks l e).map fun x => x.f0) = true := ⟨h1, by omega, hfit⟩
  simp only [if_true]
  refine Evt.ifp c1 ?_
  refine Evt.bind (show Evt (fun q => block_Taken.f q l e m) (tkL l, 0) from gathered_eq g hm takenAt) ?_
  refine Evt.bind (show Evt (fun q => block_Sites.f q l e m) (stL l, 0) from gathered_eq g hm siteAt) ?_
  have c2 : edgeFit (tkL l) = true ∧ edgeFit (stL l) = true := ⟨hft, hfs⟩
  refine Evt.ifp c2 ?_
  simp only [hbl]
  have hlen : ((tkL l).map (edgeLook (edgeBeg (bks l e) (nb l e))) ++ (stL l).map (edgeLook (edgeBeg (bks l e) (nb l e)))).length ≤ 16384 := by
    have a := nats_len (fun p => decide ((p : Int) ∈ seenTo (takenAt (l.map dec)) l.length)) l.length
    have b := nats_len (fun p => decide ((p : Int) ∈ seenTo (siteAt (l.map dec)) l.length)) l.length
    rw [List.length_append, List.length_map, List.length_map]
    unfold tkL stL
    omega
  refine Evt.bind (v := nats (kn l e) (nb l e)) (rise _ (nb l e) (by omega) hlen) ?_
  refine Evt.ifp hkl ?_
  exact Evt.bind (edgesTo_eq g (nb l e) (Nat.le_refl _)) Evt.pure

/-! ### the document's edges -/
def gR (t : Int × Int × Int × Int × Int) (next : Bool) (place : Int) (known : Bool) : Bool :=
  if t.1 = -1 ∨ t.1 = 0 ∨ t.1 = 21 then false else if t.1 = 15 ∨ t.1 = 17 then t.2.2.2.2 == place else if t.1 = 16 then (if t.2.2.2.2 = place then true else next) else if t.1 = 18 ∨ t.1 = 19 then known else next
theorem gR_goV (l : List Int) (e : Int) (s k : Nat) : gR (dec (wLast l e s)) (decide (k = s + 1)) (pt l e k) (kn l e k) = goV l e s k := by
  unfold gR goV
  simp only [show (dec (wLast l e s)).1 = opW (wLast l e s) from rfl]
  split
  · rfl
  · split
    · rw [Bool.eq_iff_iff]
      simp
    · split
      · by_cases c : (dec (wLast l e s)).2.2.2.2 = pt l e k
        · simp [c]
        · simp [c]
      · rfl
/-! ### the block at a place -/
theorem edgs_len (l : List Int) (e : Int) : (edgs l e).length = nb l e := by unfold edgs; simp
theorem edgs_get {l : List Int} {e : Int} {s : Nat} (h : s < nb l e) : (edgs l e).getD s [] = erow l e s := by
  rw [getD_eq [] (by rw [edgs_len]; exact h)]
  simp [edgs]
theorem edgs_in (l : List Int) (e : Int) : inR (edgs l e) := fun i hi x hx => by
  rw [edgs_len] at hi
  rw [edgs_get hi] at hx
  obtain ⟨k, h1, h2, _⟩ := mem_nats.1 hx
  exact ⟨k, h1, by rw [edgs_len]; exact h2⟩
end Go.Proofs.Ytfgdjpgdabjpmaa.Pure
