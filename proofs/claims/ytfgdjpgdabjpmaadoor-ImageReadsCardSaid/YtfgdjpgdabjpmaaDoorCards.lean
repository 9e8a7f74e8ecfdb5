/-
  DERIVED. GIVEN WITH THE SEED: THE CARDS: each row of YtfgdjpgdabjpmaaDoorRows.lean that lists a variable, with what it lists TIED to the program's text (the seventh form; the later family's looks); each row that meets fmt, with fmt's text TOLD by the authors' own Lean function (tested against real Go, not proved from fmt's source: count such statements apart). THE CARD IS WHAT COUNTS. Prove the row's statement (the work); the ties are given (YtfgdjpgdabjpmaaDoorTie.lean); close each card by the builder's one call (the guide's Derived/Test/ToyasCard.lean, 'card_holds'). Laid BY PROGRAM, IN A SANDBOX (cutbox-door.mjs). By AI agents, Wed Nov 11 2026. No macro, syntax, notation, axiom, sorry.
-/
import Derived.Test.YtfgdjpgdabjpmaaDoorRows
import GoSem.ClaimSeven
namespace Go.Proofs.YtfgdjpgdabjpmaaDoor
namespace Rows

/-- THE TIED CARD OF 'pleatlaw15.NumberOf'. -/
def numberOfCard : Claim7 := { stood := { row := numberOfRow, standIns := [], harness := (true, "8ad36fb8477fe11254c1d53b15db948dfdb7df65873fa4cd6cd548c12cedd5c8"), looks := true }, kinds := [], alts := [], laidByText := true, laidKinds := [.data, .data, .data], laidTests := true, laidLooks := .later }
def NumberOfCardSaid : Prop := Claim7.holds Tryd.pinned (.plain (OpenSpec.ofChange numberOfSpec)) numberOfCard

/-- THE TIED CARD OF 'pleatlaw07.ImageTells'. -/
def imageTellsCard : Claim7 := { stood := { row := imageTellsRow, standIns := [], harness := (true, "8ad36fb8477fe11254c1d53b15db948dfdb7df65873fa4cd6cd548c12cedd5c8"), looks := true }, kinds := [], alts := [], laidByText := true, laidKinds := [.data, .data, .data], laidTests := true, laidLooks := .later }
def ImageTellsCardSaid : Prop := Claim7.holds Tryd.pinned (.plain (OpenSpec.ofChange imageTellsSpec)) imageTellsCard

/-- THE TIED CARD OF 'pleatlaw07.ImageReads'. -/
def imageReadsCard : Claim7 := { stood := { row := imageReadsRow, standIns := [], harness := (true, "8ad36fb8477fe11254c1d53b15db948dfdb7df65873fa4cd6cd548c12cedd5c8"), looks := true }, kinds := [], alts := [], laidByText := true, laidKinds := [.data, .data, .data], laidTests := true, laidLooks := .later }
def ImageReadsCardSaid : Prop := Claim7.holds Tryd.pinned (.plain (OpenSpec.ofChange imageReadsSpec)) imageReadsCard

/-- THE SECOND FORM's CARD OF 'pleatlaw15.NumberOf'. -/
def numberOfUptoCard : Claim7 := { stood := { row := numberOfUptoRow, standIns := [], harness := (true, "8ad36fb8477fe11254c1d53b15db948dfdb7df65873fa4cd6cd548c12cedd5c8"), looks := true }, kinds := [], alts := [], laidByText := true, laidKinds := [.data, .data, .data], laidTests := true, laidLooks := .later }
def NumberOfUptoCardSaid : Prop := Claim7.holds Tryd.pinned (.plain (OpenSpec.upto numberOfSpec)) numberOfUptoCard

/-- THE SECOND FORM's CARD OF 'pleatlaw07.ImageTells'. -/
def imageTellsUptoCard : Claim7 := { stood := { row := imageTellsUptoRow, standIns := [], harness := (true, "8ad36fb8477fe11254c1d53b15db948dfdb7df65873fa4cd6cd548c12cedd5c8"), looks := true }, kinds := [], alts := [], laidByText := true, laidKinds := [.data, .data, .data], laidTests := true, laidLooks := .later }
def ImageTellsUptoCardSaid : Prop := Claim7.holds Tryd.pinned (.plain (OpenSpec.upto imageTellsSpec)) imageTellsUptoCard

/-- THE SECOND FORM's CARD OF 'pleatlaw07.ImageReads'. -/
def imageReadsUptoCard : Claim7 := { stood := { row := imageReadsUptoRow, standIns := [], harness := (true, "8ad36fb8477fe11254c1d53b15db948dfdb7df65873fa4cd6cd548c12cedd5c8"), looks := true }, kinds := [], alts := [], laidByText := true, laidKinds := [.data, .data, .data], laidTests := true, laidLooks := .later }
def ImageReadsUptoCardSaid : Prop := Claim7.holds Tryd.pinned (.plain (OpenSpec.upto imageReadsSpec)) imageReadsUptoCard
end Rows
end Go.Proofs.YtfgdjpgdabjpmaaDoor
