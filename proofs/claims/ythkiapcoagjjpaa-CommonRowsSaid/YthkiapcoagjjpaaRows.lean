/-
  No cell of these rows narrows 'for every input' (looked for: loops, veiled, ifaces, maps, wideKeys, modest, calm, conditions, laid).
  DERIVED. THE GIVEN ROWS OF THIS SEAT. 5 by the template 'for every input the law returns true; each argument reads behind the call as it read before'; 0 by the template 'total and deterministic' (their statements: YthkiapcoagjjpaaTotals.lean).
  GIVEN WITH THE SEED: the statements are not yours to turn. If you find one false, say at which input.
  Laid BY PROGRAM, IN A SANDBOX (cutbox-rows.mjs): the forced cells as the released guide's own fill.sh prints them over the translation 0ac056a8fab64bf5… (all of the seat's roots in one cut). By AI agents, Wed Nov 11 2026. No macro, syntax, notation, axiom, sorry.
-/
import Derived.Test.YthkiapcoagjjpaaChecked
import GoSem.Claim
import GoSem.ClaimJoined
import GoSem.ClaimMapViews
import Derived.JoinedTies
import Derived.KernelRfl
namespace Go.Proofs.Ythkiapcoagjjpaa
/- THE CELL 'sum', in the pinned program and in every row, IS THE sha256 OF THE DUMP (.gsa) THAT YthkiapcoagjjpaaProg.lean LOADS. Nothing in Lean hashes anything: it is a label: what it is worth is what the hold of that sum in a sandbox is worth. -/
noncomputable def Try.pinned : Pinned := { name := "ythkiapcoagjjpaa", sum := "0ac056a8fab64bf5faf569a7e70be8b0be47b255aae81d338e3b9f5d388f7135", checked := Try.checked }
namespace Rows
def none {H : Type} : Left H := { results := [], args := [] }

/-- 'pleatlaw20.PruneMost': WHATEVER THE INPUT: true; the input reads as it did. -/
def pruneMostSpec : ChangeSpec := { name := "pruneMost", fn := fun _ => fun
  | [d1, d2, d3] => { results := [.lit (.bool true)], args := [d1, d2, d3] }
  | _ => none }
def pruneMostRow : OpenClaim := { program := "ythkiapcoagjjpaa", sum := "0ac056a8fab64bf5faf569a7e70be8b0be47b255aae81d338e3b9f5d388f7135", func := "pleat/pleatlaw20.PruneMost", spec := "pruneMost", unfollowed := true, recurses := true, apart := false }
def PruneMostSaid : Prop := pruneMostRow.holds Try.pinned (OpenSpec.ofChange pruneMostSpec)

/-- ITS FALSE NEIGHBOUR: 'it returns false'. Refute it at one input. -/
def pruneMostWrong : ChangeSpec := { name := "pruneMost", fn := fun _ => fun
  | [d1, d2, d3] => { results := [.lit (.bool false)], args := [d1, d2, d3] }
  | _ => none }
def PruneMostWrongFalsely : Prop := pruneMostRow.holds Try.pinned (OpenSpec.ofChange pruneMostWrong)

/-- 'pleatlaw17.CommonTells': WHATEVER THE INPUT: true; the input reads as it did. -/
def commonTellsSpec : ChangeSpec := { name := "commonTells", fn := fun _ => fun
  | [d1, d2, d3, d4] => { results := [.lit (.bool true)], args := [d1, d2, d3, d4] }
  | _ => none }
def commonTellsRow : OpenClaim := { program := "ythkiapcoagjjpaa", sum := "0ac056a8fab64bf5faf569a7e70be8b0be47b255aae81d338e3b9f5d388f7135", func := "pleat/pleatlaw17.CommonTells", spec := "commonTells", unfollowed := true, recurses := true, apart := false }
def CommonTellsSaid : Prop := commonTellsRow.holds Try.pinned (OpenSpec.ofChange commonTellsSpec)

/-- ITS FALSE NEIGHBOUR: 'it returns false'. Refute it at one input. -/
def commonTellsWrong : ChangeSpec := { name := "commonTells", fn := fun _ => fun
  | [d1, d2, d3, d4] => { results := [.lit (.bool false)], args := [d1, d2, d3, d4] }
  | _ => none }
def CommonTellsWrongFalsely : Prop := commonTellsRow.holds Try.pinned (OpenSpec.ofChange commonTellsWrong)

/-- 'pleatlaw17.CommonRows': WHATEVER THE INPUT: true; the input reads as it did. -/
def commonRowsSpec : ChangeSpec := { name := "commonRows", fn := fun _ => fun
  | [d1, d2] => { results := [.lit (.bool true)], args := [d1, d2] }
  | _ => none }
def commonRowsRow : OpenClaim := { program := "ythkiapcoagjjpaa", sum := "0ac056a8fab64bf5faf569a7e70be8b0be47b255aae81d338e3b9f5d388f7135", func := "pleat/pleatlaw17.CommonRows", spec := "commonRows", unfollowed := true, recurses := true, apart := false }
def CommonRowsSaid : Prop := commonRowsRow.holds Try.pinned (OpenSpec.ofChange commonRowsSpec)

/-- ITS FALSE NEIGHBOUR: 'it returns false'. Refute it at one input. -/
def commonRowsWrong : ChangeSpec := { name := "commonRows", fn := fun _ => fun
  | [d1, d2] => { results := [.lit (.bool false)], args := [d1, d2] }
  | _ => none }
def CommonRowsWrongFalsely : Prop := commonRowsRow.holds Try.pinned (OpenSpec.ofChange commonRowsWrong)

/-- 'pleatlaw16.SuffixTells': WHATEVER THE INPUT: true; the input reads as it did. -/
def suffixTellsSpec : ChangeSpec := { name := "suffixTells", fn := fun _ => fun
  | [d1, d2, d3, d4] => { results := [.lit (.bool true)], args := [d1, d2, d3, d4] }
  | _ => none }
def suffixTellsRow : OpenClaim := { program := "ythkiapcoagjjpaa", sum := "0ac056a8fab64bf5faf569a7e70be8b0be47b255aae81d338e3b9f5d388f7135", func := "pleat/pleatlaw16.SuffixTells", spec := "suffixTells", unfollowed := true, recurses := true, apart := false }
def SuffixTellsSaid : Prop := suffixTellsRow.holds Try.pinned (OpenSpec.ofChange suffixTellsSpec)

/-- ITS FALSE NEIGHBOUR: 'it returns false'. Refute it at one input. -/
def suffixTellsWrong : ChangeSpec := { name := "suffixTells", fn := fun _ => fun
  | [d1, d2, d3, d4] => { results := [.lit (.bool false)], args := [d1, d2, d3, d4] }
  | _ => none }
def SuffixTellsWrongFalsely : Prop := suffixTellsRow.holds Try.pinned (OpenSpec.ofChange suffixTellsWrong)

/-- 'pleatlaw16.SuffixOrder': WHATEVER THE INPUT: true; the input reads as it did. -/
def suffixOrderSpec : ChangeSpec := { name := "suffixOrder", fn := fun _ => fun
  | [d1, d2] => { results := [.lit (.bool true)], args := [d1, d2] }
  | _ => none }
def suffixOrderRow : OpenClaim := { program := "ythkiapcoagjjpaa", sum := "0ac056a8fab64bf5faf569a7e70be8b0be47b255aae81d338e3b9f5d388f7135", func := "pleat/pleatlaw16.SuffixOrder", spec := "suffixOrder", unfollowed := true, recurses := true, apart := false }
def SuffixOrderSaid : Prop := suffixOrderRow.holds Try.pinned (OpenSpec.ofChange suffixOrderSpec)

/-- ITS FALSE NEIGHBOUR: 'it returns false'. Refute it at one input. -/
def suffixOrderWrong : ChangeSpec := { name := "suffixOrder", fn := fun _ => fun
  | [d1, d2] => { results := [.lit (.bool false)], args := [d1, d2] }
  | _ => none }
def SuffixOrderWrongFalsely : Prop := suffixOrderRow.holds Try.pinned (OpenSpec.ofChange suffixOrderWrong)

/- THE SECOND FORM. 'bulk': how many values and letters a reading holds, each counted each time it is reached (what is shared counts as often as it is met; a slice's spare places count too). A statement '..UptoSaid' is the law's where the arguments, and the package variables that the reading takes, are together of bulk at most 1048576: NARROWER than '..Said'. Prove '..Said' where nothing that the law and all that it calls make is longer than what came in: it says more and counts as full. Else prove '..UptoSaid'. A law counts once. -/
mutual
def uptoBulk {H : Type} : DataW H → Nat
  | .lit (.string bytes) => bytes.length + 1
  | .lit _ => 1
  | .nil => 1
  | .ptr d => uptoBulk d + 1
  | .slice elems spare => uptoBulkAll elems + uptoBulkAll spare + 1
  | .agg parts => uptoBulkAll parts + 1
  | .iface _ d => uptoBulk d + 1
  | .map entries => uptoBulkEntries entries + 1
  | .held _ => 1
def uptoBulkAll {H : Type} : List (DataW H) → Nat
  | [] => 0
  | d :: r => uptoBulk d + uptoBulkAll r
def uptoBulkEntries {H : Type} : List (Lit × DataW H) → Nat
  | [] => 0
  | x :: r => uptoBulkEntry x + uptoBulkEntries r
def uptoBulkEntry {H : Type} : Lit × DataW H → Nat
  | (.string bytes, d) => bytes.length + uptoBulk d + 1
  | (_, d) => uptoBulk d + 1
 end
def uptoSmall : (H : Type) → List (DataW H) → Bool := fun _ ds => decide (uptoBulkAll ds ≤ 1048576)
def OpenSpec.upto (s : _root_.Go.ChangeSpec) : _root_.Go.OpenSpec := { _root_.Go.OpenSpec.ofChange s with cond := some uptoSmall }

/-- 'pleatlaw20.PruneMost', WHERE WHAT IT READS IS OF BULK AT MOST 1048576: true; the input reads as it did. -/
def pruneMostUptoRow : OpenClaim := { program := "ythkiapcoagjjpaa", sum := "0ac056a8fab64bf5faf569a7e70be8b0be47b255aae81d338e3b9f5d388f7135", func := "pleat/pleatlaw20.PruneMost", spec := "pruneMost", unfollowed := true, recurses := true, apart := false, narrowed := true }
def PruneMostUptoSaid : Prop := pruneMostUptoRow.holds Try.pinned (OpenSpec.upto pruneMostSpec)

/-- 'pleatlaw17.CommonTells', WHERE WHAT IT READS IS OF BULK AT MOST 1048576: true; the input reads as it did. -/
def commonTellsUptoRow : OpenClaim := { program := "ythkiapcoagjjpaa", sum := "0ac056a8fab64bf5faf569a7e70be8b0be47b255aae81d338e3b9f5d388f7135", func := "pleat/pleatlaw17.CommonTells", spec := "commonTells", unfollowed := true, recurses := true, apart := false, narrowed := true }
def CommonTellsUptoSaid : Prop := commonTellsUptoRow.holds Try.pinned (OpenSpec.upto commonTellsSpec)

/-- 'pleatlaw17.CommonRows', WHERE WHAT IT READS IS OF BULK AT MOST 1048576: true; the input reads as it did. -/
def commonRowsUptoRow : OpenClaim := { program := "ythkiapcoagjjpaa", sum := "0ac056a8fab64bf5faf569a7e70be8b0be47b255aae81d338e3b9f5d388f7135", func := "pleat/pleatlaw17.CommonRows", spec := "commonRows", unfollowed := true, recurses := true, apart := false, narrowed := true }
def CommonRowsUptoSaid : Prop := commonRowsUptoRow.holds Try.pinned (OpenSpec.upto commonRowsSpec)

/-- 'pleatlaw16.SuffixTells', WHERE WHAT IT READS IS OF BULK AT MOST 1048576: true; the input reads as it did. -/
def suffixTellsUptoRow : OpenClaim := { program := "ythkiapcoagjjpaa", sum := "0ac056a8fab64bf5faf569a7e70be8b0be47b255aae81d338e3b9f5d388f7135", func := "pleat/pleatlaw16.SuffixTells", spec := "suffixTells", unfollowed := true, recurses := true, apart := false, narrowed := true }
def SuffixTellsUptoSaid : Prop := suffixTellsUptoRow.holds Try.pinned (OpenSpec.upto suffixTellsSpec)

/-- 'pleatlaw16.SuffixOrder', WHERE WHAT IT READS IS OF BULK AT MOST 1048576: true; the input reads as it did. -/
def suffixOrderUptoRow : OpenClaim := { program := "ythkiapcoagjjpaa", sum := "0ac056a8fab64bf5faf569a7e70be8b0be47b255aae81d338e3b9f5d388f7135", func := "pleat/pleatlaw16.SuffixOrder", spec := "suffixOrder", unfollowed := true, recurses := true, apart := false, narrowed := true }
def SuffixOrderUptoSaid : Prop := suffixOrderUptoRow.holds Try.pinned (OpenSpec.upto suffixOrderSpec)

end Rows
end Go.Proofs.Ythkiapcoagjjpaa
