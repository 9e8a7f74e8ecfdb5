/-
  No cell of these rows narrows 'for every input' (looked for: loops, veiled, ifaces, maps, wideKeys, modest, calm, conditions, laid).
  DERIVED. THE GIVEN ROWS OF THIS SEAT. 9 by the template 'for every input the law returns true; each argument reads behind the call as it read before'; 0 by the template 'total and deterministic' (their statements: YtfgdjpgdabjpmaaTotals.lean).
  GIVEN WITH THE SEED: the statements are not yours to turn. If you find one false, say at which input.
  Laid BY PROGRAM, IN A SANDBOX (cutbox-rows.mjs): the forced cells as the released guide's own fill.sh prints them over the translation f7008d73509dc15e… (all of the seat's roots in one cut). By AI agents, Wed Nov 11 2026. No macro, syntax, notation, axiom, sorry.
-/
import Derived.Test.YtfgdjpgdabjpmaaChecked
import GoSem.Claim
import GoSem.ClaimJoined
import GoSem.ClaimMapViews
import Derived.JoinedTies
import Derived.KernelRfl
namespace Go.Proofs.Ytfgdjpgdabjpmaa
/- THE CELL 'sum', in the pinned program and in every row, IS THE sha256 OF THE DUMP (.gsa) THAT YtfgdjpgdabjpmaaProg.lean LOADS. Nothing in Lean hashes anything: it is a label: what it is worth is what the hold of that sum in a sandbox is worth. -/
noncomputable def Try.pinned : Pinned := { name := "ytfgdjpgdabjpmaa", sum := "f7008d73509dc15e0f5357714d6ba214b0e7df642e5281e1330a789ff2e36dd6", checked := Try.checked }
namespace Rows
def none {H : Type} : Left H := { results := [], args := [] }

/-- 'pleatlaw15.NumberSame': WHATEVER THE INPUT: true; the input reads as it did. -/
def numberSameSpec : ChangeSpec := { name := "numberSame", fn := fun _ => fun
  | [d] => { results := [.lit (.bool true)], args := [d] }
  | _ => none }
def numberSameRow : OpenClaim := { program := "ytfgdjpgdabjpmaa", sum := "f7008d73509dc15e0f5357714d6ba214b0e7df642e5281e1330a789ff2e36dd6", func := "pleat/pleatlaw15.NumberSame", spec := "numberSame", unfollowed := true, recurses := true, apart := false }
def NumberSameSaid : Prop := numberSameRow.holds Try.pinned (OpenSpec.ofChange numberSameSpec)

/-- ITS FALSE NEIGHBOUR: 'it returns false'. Refute it at one input. -/
def numberSameWrong : ChangeSpec := { name := "numberSame", fn := fun _ => fun
  | [d] => { results := [.lit (.bool false)], args := [d] }
  | _ => none }
def NumberSameWrongFalsely : Prop := numberSameRow.holds Try.pinned (OpenSpec.ofChange numberSameWrong)

/-- 'pleatlaw07.ImageRound': WHATEVER THE INPUT: true; the input reads as it did. -/
def imageRoundSpec : ChangeSpec := { name := "imageRound", fn := fun _ => fun
  | [d1, d2, d3] => { results := [.lit (.bool true)], args := [d1, d2, d3] }
  | _ => none }
def imageRoundRow : OpenClaim := { program := "ytfgdjpgdabjpmaa", sum := "f7008d73509dc15e0f5357714d6ba214b0e7df642e5281e1330a789ff2e36dd6", func := "pleat/pleatlaw07.ImageRound", spec := "imageRound", unfollowed := true, recurses := true, apart := false }
def ImageRoundSaid : Prop := imageRoundRow.holds Try.pinned (OpenSpec.ofChange imageRoundSpec)

/-- ITS FALSE NEIGHBOUR: 'it returns false'. Refute it at one input. -/
def imageRoundWrong : ChangeSpec := { name := "imageRound", fn := fun _ => fun
  | [d1, d2, d3] => { results := [.lit (.bool false)], args := [d1, d2, d3] }
  | _ => none }
def ImageRoundWrongFalsely : Prop := imageRoundRow.holds Try.pinned (OpenSpec.ofChange imageRoundWrong)

/-- 'pleatlaw12.EdgeBacks': WHATEVER THE INPUT: true; the input reads as it did. -/
def edgeBacksSpec : ChangeSpec := { name := "edgeBacks", fn := fun _ => fun
  | [d] => { results := [.lit (.bool true)], args := [d] }
  | _ => none }
def edgeBacksRow : OpenClaim := { program := "ytfgdjpgdabjpmaa", sum := "f7008d73509dc15e0f5357714d6ba214b0e7df642e5281e1330a789ff2e36dd6", func := "pleat/pleatlaw12.EdgeBacks", spec := "edgeBacks", unfollowed := true, recurses := true, apart := false }
def EdgeBacksSaid : Prop := edgeBacksRow.holds Try.pinned (OpenSpec.ofChange edgeBacksSpec)

/-- ITS FALSE NEIGHBOUR: 'it returns false'. Refute it at one input. -/
def edgeBacksWrong : ChangeSpec := { name := "edgeBacks", fn := fun _ => fun
  | [d] => { results := [.lit (.bool false)], args := [d] }
  | _ => none }
def EdgeBacksWrongFalsely : Prop := edgeBacksRow.holds Try.pinned (OpenSpec.ofChange edgeBacksWrong)

/-- 'pleatlaw12.EdgeLists': WHATEVER THE INPUT: true; the input reads as it did. -/
def edgeListsSpec : ChangeSpec := { name := "edgeLists", fn := fun _ => fun
  | [d] => { results := [.lit (.bool true)], args := [d] }
  | _ => none }
def edgeListsRow : OpenClaim := { program := "ytfgdjpgdabjpmaa", sum := "f7008d73509dc15e0f5357714d6ba214b0e7df642e5281e1330a789ff2e36dd6", func := "pleat/pleatlaw12.EdgeLists", spec := "edgeLists", unfollowed := true, recurses := true, apart := false }
def EdgeListsSaid : Prop := edgeListsRow.holds Try.pinned (OpenSpec.ofChange edgeListsSpec)

/-- ITS FALSE NEIGHBOUR: 'it returns false'. Refute it at one input. -/
def edgeListsWrong : ChangeSpec := { name := "edgeLists", fn := fun _ => fun
  | [d] => { results := [.lit (.bool false)], args := [d] }
  | _ => none }
def EdgeListsWrongFalsely : Prop := edgeListsRow.holds Try.pinned (OpenSpec.ofChange edgeListsWrong)

/-- 'pleatlaw14.LiveSets': WHATEVER THE INPUT: true; the input reads as it did. -/
def liveSetsSpec : ChangeSpec := { name := "liveSets", fn := fun _ => fun
  | [d] => { results := [.lit (.bool true)], args := [d] }
  | _ => none }
def liveSetsRow : OpenClaim := { program := "ytfgdjpgdabjpmaa", sum := "f7008d73509dc15e0f5357714d6ba214b0e7df642e5281e1330a789ff2e36dd6", func := "pleat/pleatlaw14.LiveSets", spec := "liveSets", unfollowed := true, recurses := true, apart := false }
def LiveSetsSaid : Prop := liveSetsRow.holds Try.pinned (OpenSpec.ofChange liveSetsSpec)

/-- ITS FALSE NEIGHBOUR: 'it returns false'. Refute it at one input. -/
def liveSetsWrong : ChangeSpec := { name := "liveSets", fn := fun _ => fun
  | [d] => { results := [.lit (.bool false)], args := [d] }
  | _ => none }
def LiveSetsWrongFalsely : Prop := liveSetsRow.holds Try.pinned (OpenSpec.ofChange liveSetsWrong)

/-- 'pleatlaw12.EdgeRuns': WHATEVER THE INPUT: true; the input reads as it did. -/
def edgeRunsSpec : ChangeSpec := { name := "edgeRuns", fn := fun _ => fun
  | [d1, d2, d3] => { results := [.lit (.bool true)], args := [d1, d2, d3] }
  | _ => none }
def edgeRunsRow : OpenClaim := { program := "ytfgdjpgdabjpmaa", sum := "f7008d73509dc15e0f5357714d6ba214b0e7df642e5281e1330a789ff2e36dd6", func := "pleat/pleatlaw12.EdgeRuns", spec := "edgeRuns", unfollowed := true, recurses := true, apart := false }
def EdgeRunsSaid : Prop := edgeRunsRow.holds Try.pinned (OpenSpec.ofChange edgeRunsSpec)

/-- ITS FALSE NEIGHBOUR: 'it returns false'. Refute it at one input. -/
def edgeRunsWrong : ChangeSpec := { name := "edgeRuns", fn := fun _ => fun
  | [d1, d2, d3] => { results := [.lit (.bool false)], args := [d1, d2, d3] }
  | _ => none }
def EdgeRunsWrongFalsely : Prop := edgeRunsRow.holds Try.pinned (OpenSpec.ofChange edgeRunsWrong)

/-- 'pleatlaw14.LiveDead': WHATEVER THE INPUT: true; the input reads as it did. -/
def liveDeadSpec : ChangeSpec := { name := "liveDead", fn := fun _ => fun
  | [d1, d2, d3] => { results := [.lit (.bool true)], args := [d1, d2, d3] }
  | _ => none }
def liveDeadRow : OpenClaim := { program := "ytfgdjpgdabjpmaa", sum := "f7008d73509dc15e0f5357714d6ba214b0e7df642e5281e1330a789ff2e36dd6", func := "pleat/pleatlaw14.LiveDead", spec := "liveDead", unfollowed := true, recurses := true, apart := false }
def LiveDeadSaid : Prop := liveDeadRow.holds Try.pinned (OpenSpec.ofChange liveDeadSpec)

/-- ITS FALSE NEIGHBOUR: 'it returns false'. Refute it at one input. -/
def liveDeadWrong : ChangeSpec := { name := "liveDead", fn := fun _ => fun
  | [d1, d2, d3] => { results := [.lit (.bool false)], args := [d1, d2, d3] }
  | _ => none }
def LiveDeadWrongFalsely : Prop := liveDeadRow.holds Try.pinned (OpenSpec.ofChange liveDeadWrong)

/-- 'pleatlaw10.MachineSplits': WHATEVER THE INPUT: true; the input reads as it did. -/
def machineSplitsSpec : ChangeSpec := { name := "machineSplits", fn := fun _ => fun
  | [d1, d2, d3] => { results := [.lit (.bool true)], args := [d1, d2, d3] }
  | _ => none }
def machineSplitsRow : OpenClaim := { program := "ytfgdjpgdabjpmaa", sum := "f7008d73509dc15e0f5357714d6ba214b0e7df642e5281e1330a789ff2e36dd6", func := "pleat/pleatlaw10.MachineSplits", spec := "machineSplits", unfollowed := true, recurses := true, apart := false }
def MachineSplitsSaid : Prop := machineSplitsRow.holds Try.pinned (OpenSpec.ofChange machineSplitsSpec)

/-- ITS FALSE NEIGHBOUR: 'it returns false'. Refute it at one input. -/
def machineSplitsWrong : ChangeSpec := { name := "machineSplits", fn := fun _ => fun
  | [d1, d2, d3] => { results := [.lit (.bool false)], args := [d1, d2, d3] }
  | _ => none }
def MachineSplitsWrongFalsely : Prop := machineSplitsRow.holds Try.pinned (OpenSpec.ofChange machineSplitsWrong)

/-- 'pleatlaw10.MachineNone': WHATEVER THE INPUT: true; the input reads as it did. -/
def machineNoneSpec : ChangeSpec := { name := "machineNone", fn := fun _ => fun
  | [d] => { results := [.lit (.bool true)], args := [d] }
  | _ => none }
def machineNoneRow : OpenClaim := { program := "ytfgdjpgdabjpmaa", sum := "f7008d73509dc15e0f5357714d6ba214b0e7df642e5281e1330a789ff2e36dd6", func := "pleat/pleatlaw10.MachineNone", spec := "machineNone", unfollowed := true, recurses := true, apart := false }
def MachineNoneSaid : Prop := machineNoneRow.holds Try.pinned (OpenSpec.ofChange machineNoneSpec)

/-- ITS FALSE NEIGHBOUR: 'it returns false'. Refute it at one input. -/
def machineNoneWrong : ChangeSpec := { name := "machineNone", fn := fun _ => fun
  | [d] => { results := [.lit (.bool false)], args := [d] }
  | _ => none }
def MachineNoneWrongFalsely : Prop := machineNoneRow.holds Try.pinned (OpenSpec.ofChange machineNoneWrong)

/- THE SECOND FORM. 'bulk': how many values and letters a reading holds, each counted each time it is reached (what is shared counts as often as it is met; a slice's spare places count too). A statement '..UptoSaid' is the law's where the arguments, and the package variables that the reading takes, are together of bulk at most 1048576: NARROWER than '..Said'. Prove '..Said' where nothing that the law and all that it calls make is longer than what came in: it says more and counts as full. Else prove '..UptoSaid'. A law counts once. -/
mutual
def uptoBulk {H : Type} : DataW H → Nat
  | .lit (.string bytes) => bytes.length + 1
  | .lit _ => 1
  | .nil => 1
  | .ptr d => uptoBulk d + 1
  | .slice elems spare => uptoBulkAll elems + uptoBulkAll spare + 1
  | .agg parts => uptoBulkAll parts + 1
  | .iface _ d => uptoBulk d + 1
  | .map entries => uptoBulkEntries entries + 1
  | .held _ => 1
def uptoBulkAll {H : Type} : List (DataW H) → Nat
  | [] => 0
  | d :: r => uptoBulk d + uptoBulkAll r
def uptoBulkEntries {H : Type} : List (Lit × DataW H) → Nat
  | [] => 0
  | x :: r => uptoBulkEntry x + uptoBulkEntries r
def uptoBulkEntry {H : Type} : Lit × DataW H → Nat
  | (.string bytes, d) => bytes.length + uptoBulk d + 1
  | (_, d) => uptoBulk d + 1
 end
def uptoSmall : (H : Type) → List (DataW H) → Bool := fun _ ds => decide (uptoBulkAll ds ≤ 1048576)
def OpenSpec.upto (s : _root_.Go.ChangeSpec) : _root_.Go.OpenSpec := { _root_.Go.OpenSpec.ofChange s with cond := some uptoSmall }

/-- 'pleatlaw15.NumberSame', WHERE WHAT IT READS IS OF BULK AT MOST 1048576: true; the input reads as it did. -/
def numberSameUptoRow : OpenClaim := { program := "ytfgdjpgdabjpmaa", sum := "f7008d73509dc15e0f5357714d6ba214b0e7df642e5281e1330a789ff2e36dd6", func := "pleat/pleatlaw15.NumberSame", spec := "numberSame", unfollowed := true, recurses := true, apart := false, narrowed := true }
def NumberSameUptoSaid : Prop := numberSameUptoRow.holds Try.pinned (OpenSpec.upto numberSameSpec)

/-- 'pleatlaw07.ImageRound', WHERE WHAT IT READS IS OF BULK AT MOST 1048576: true; the input reads as it did. -/
def imageRoundUptoRow : OpenClaim := { program := "ytfgdjpgdabjpmaa", sum := "f7008d73509dc15e0f5357714d6ba214b0e7df642e5281e1330a789ff2e36dd6", func := "pleat/pleatlaw07.ImageRound", spec := "imageRound", unfollowed := true, recurses := true, apart := false, narrowed := true }
def ImageRoundUptoSaid : Prop := imageRoundUptoRow.holds Try.pinned (OpenSpec.upto imageRoundSpec)

/-- 'pleatlaw12.EdgeBacks', WHERE WHAT IT READS IS OF BULK AT MOST 1048576: true; the input reads as it did. -/
def edgeBacksUptoRow : OpenClaim := { program := "ytfgdjpgdabjpmaa", sum := "f7008d73509dc15e0f5357714d6ba214b0e7df642e5281e1330a789ff2e36dd6", func := "pleat/pleatlaw12.EdgeBacks", spec := "edgeBacks", unfollowed := true, recurses := true, apart := false, narrowed := true }
def EdgeBacksUptoSaid : Prop := edgeBacksUptoRow.holds Try.pinned (OpenSpec.upto edgeBacksSpec)

/-- 'pleatlaw12.EdgeLists', WHERE WHAT IT READS IS OF BULK AT MOST 1048576: true; the input reads as it did. -/
def edgeListsUptoRow : OpenClaim := { program := "ytfgdjpgdabjpmaa", sum := "f7008d73509dc15e0f5357714d6ba214b0e7df642e5281e1330a789ff2e36dd6", func := "pleat/pleatlaw12.EdgeLists", spec := "edgeLists", unfollowed := true, recurses := true, apart := false, narrowed := true }
def EdgeListsUptoSaid : Prop := edgeListsUptoRow.holds Try.pinned (OpenSpec.upto edgeListsSpec)

/-- 'pleatlaw14.LiveSets', WHERE WHAT IT READS IS OF BULK AT MOST 1048576: true; the input reads as it did. -/
def liveSetsUptoRow : OpenClaim := { program := "ytfgdjpgdabjpmaa", sum := "f7008d73509dc15e0f5357714d6ba214b0e7df642e5281e1330a789ff2e36dd6", func := "pleat/pleatlaw14.LiveSets", spec := "liveSets", unfollowed := true, recurses := true, apart := false, narrowed := true }
def LiveSetsUptoSaid : Prop := liveSetsUptoRow.holds Try.pinned (OpenSpec.upto liveSetsSpec)

/-- 'pleatlaw12.EdgeRuns', WHERE WHAT IT READS IS OF BULK AT MOST 1048576: true; the input reads as it did. -/
def edgeRunsUptoRow : OpenClaim := { program := "ytfgdjpgdabjpmaa", sum := "f7008d73509dc15e0f5357714d6ba214b0e7df642e5281e1330a789ff2e36dd6", func := "pleat/pleatlaw12.EdgeRuns", spec := "edgeRuns", unfollowed := true, recurses := true, apart := false, narrowed := true }
def EdgeRunsUptoSaid : Prop := edgeRunsUptoRow.holds Try.pinned (OpenSpec.upto edgeRunsSpec)

/-- 'pleatlaw14.LiveDead', WHERE WHAT IT READS IS OF BULK AT MOST 1048576: true; the input reads as it did. -/
def liveDeadUptoRow : OpenClaim := { program := "ytfgdjpgdabjpmaa", sum := "f7008d73509dc15e0f5357714d6ba214b0e7df642e5281e1330a789ff2e36dd6", func := "pleat/pleatlaw14.LiveDead", spec := "liveDead", unfollowed := true, recurses := true, apart := false, narrowed := true }
def LiveDeadUptoSaid : Prop := liveDeadUptoRow.holds Try.pinned (OpenSpec.upto liveDeadSpec)

/-- 'pleatlaw10.MachineSplits', WHERE WHAT IT READS IS OF BULK AT MOST 1048576: true; the input reads as it did. -/
def machineSplitsUptoRow : OpenClaim := { program := "ytfgdjpgdabjpmaa", sum := "f7008d73509dc15e0f5357714d6ba214b0e7df642e5281e1330a789ff2e36dd6", func := "pleat/pleatlaw10.MachineSplits", spec := "machineSplits", unfollowed := true, recurses := true, apart := false, narrowed := true }
def MachineSplitsUptoSaid : Prop := machineSplitsUptoRow.holds Try.pinned (OpenSpec.upto machineSplitsSpec)

/-- 'pleatlaw10.MachineNone', WHERE WHAT IT READS IS OF BULK AT MOST 1048576: true; the input reads as it did. -/
def machineNoneUptoRow : OpenClaim := { program := "ytfgdjpgdabjpmaa", sum := "f7008d73509dc15e0f5357714d6ba214b0e7df642e5281e1330a789ff2e36dd6", func := "pleat/pleatlaw10.MachineNone", spec := "machineNone", unfollowed := true, recurses := true, apart := false, narrowed := true }
def MachineNoneUptoSaid : Prop := machineNoneUptoRow.holds Try.pinned (OpenSpec.upto machineNoneSpec)

end Rows
end Go.Proofs.Ytfgdjpgdabjpmaa
