/-
  DERIVED. GIVEN WITH THE SEED: THE CARDS: each row of YthkiapcoagjjpaaDoorRows.lean that lists a variable, with what it lists TIED to the program's text (the seventh form; the later family's looks); each row that meets fmt, with fmt's text TOLD by the authors' own Lean function (tested against real Go, not proved from fmt's source: count such statements apart). THE CARD IS WHAT COUNTS. Prove the row's statement (the work); the ties are given (YthkiapcoagjjpaaDoorTie.lean); close each card by the builder's one call (the guide's Derived/Test/ToyasCard.lean, 'card_holds'). Laid BY PROGRAM, IN A SANDBOX (cutbox-door.mjs). By AI agents, Wed Nov 11 2026. No macro, syntax, notation, axiom, sorry.
-/
import Derived.Test.YthkiapcoagjjpaaDoorRows
import GoSem.ClaimSeven
namespace Go.Proofs.YthkiapcoagjjpaaDoor
namespace Rows

/-- THE TIED CARD OF 'pleatlaw01.WordCalcs'. -/
def wordCalcsCard : Claim7 := { stood := { row := wordCalcsRow, standIns := [], harness := (true, "994337970e0a5320e3fcfc77d92819ad3a221369f179e4cb526c7ca23cd1ed08"), looks := true }, kinds := [], alts := [], laidByText := true, laidKinds := [.data, .data, .data], laidTests := true, laidLooks := .later }
def WordCalcsCardSaid : Prop := Claim7.holds Tryd.pinned (.plain (OpenSpec.ofChange wordCalcsSpec)) wordCalcsCard

/-- THE TIED CARD OF 'pleatlaw01.WordSeals'. -/
def wordSealsCard : Claim7 := { stood := { row := wordSealsRow, standIns := [], harness := (true, "994337970e0a5320e3fcfc77d92819ad3a221369f179e4cb526c7ca23cd1ed08"), looks := true }, kinds := [], alts := [], laidByText := true, laidKinds := [.data, .data, .data], laidTests := true, laidLooks := .later }
def WordSealsCardSaid : Prop := Claim7.holds Tryd.pinned (.plain (OpenSpec.ofChange wordSealsSpec)) wordSealsCard

/-- THE TIED CARD OF 'pleatlaw20.PruneSpots'. -/
def pruneSpotsCard : Claim7 := { stood := { row := pruneSpotsRow, standIns := [], harness := (true, "994337970e0a5320e3fcfc77d92819ad3a221369f179e4cb526c7ca23cd1ed08"), looks := true }, kinds := [], alts := [], laidByText := true, laidKinds := [.data, .data, .data], laidTests := true, laidLooks := .later }
def PruneSpotsCardSaid : Prop := Claim7.holds Tryd.pinned (.plain (OpenSpec.ofChange pruneSpotsSpec)) pruneSpotsCard

/-- THE TIED CARD OF 'pleatlaw01.WordAddresses'. -/
def wordAddressesCard : Claim7 := { stood := { row := wordAddressesRow, standIns := [], harness := (true, "994337970e0a5320e3fcfc77d92819ad3a221369f179e4cb526c7ca23cd1ed08"), looks := true }, kinds := [], alts := [], laidByText := true, laidKinds := [.data, .data, .data], laidTests := true, laidLooks := .later }
def WordAddressesCardSaid : Prop := Claim7.holds Tryd.pinned (.plain (OpenSpec.ofChange wordAddressesSpec)) wordAddressesCard

/-- THE TIED CARD OF 'pleatlaw16.SuffixOf'. -/
def suffixOfCard : Claim7 := { stood := { row := suffixOfRow, standIns := [], harness := (true, "994337970e0a5320e3fcfc77d92819ad3a221369f179e4cb526c7ca23cd1ed08"), looks := true }, kinds := [], alts := [], laidByText := true, laidKinds := [.data, .data, .data], laidTests := true, laidLooks := .later }
def SuffixOfCardSaid : Prop := Claim7.holds Tryd.pinned (.plain (OpenSpec.ofChange suffixOfSpec)) suffixOfCard

/-- THE TIED CARD OF 'pleatlaw17.CommonPrefixes'. -/
def commonPrefixesCard : Claim7 := { stood := { row := commonPrefixesRow, standIns := [], harness := (true, "994337970e0a5320e3fcfc77d92819ad3a221369f179e4cb526c7ca23cd1ed08"), looks := true }, kinds := [], alts := [], laidByText := true, laidKinds := [.data, .data, .data], laidTests := true, laidLooks := .later }
def CommonPrefixesCardSaid : Prop := Claim7.holds Tryd.pinned (.plain (OpenSpec.ofChange commonPrefixesSpec)) commonPrefixesCard

/-- THE TIED CARD OF 'pleatlaw01.WordTexts'. -/
def wordTextsCard : Claim7 := { stood := { row := wordTextsRow, standIns := [], harness := (true, "994337970e0a5320e3fcfc77d92819ad3a221369f179e4cb526c7ca23cd1ed08"), looks := true }, kinds := [], alts := [], laidByText := true, laidKinds := [.data, .data, .data, .sentinel, .sentinel], laidTests := true, laidLooks := .later }
def WordTextsCardSaid : Prop := Claim7.holds Tryd.pinned (.plain (OpenSpec.ofChange wordTextsSpec)) wordTextsCard

/-- THE SECOND FORM's CARD OF 'pleatlaw01.WordCalcs'. -/
def wordCalcsUptoCard : Claim7 := { stood := { row := wordCalcsUptoRow, standIns := [], harness := (true, "994337970e0a5320e3fcfc77d92819ad3a221369f179e4cb526c7ca23cd1ed08"), looks := true }, kinds := [], alts := [], laidByText := true, laidKinds := [.data, .data, .data], laidTests := true, laidLooks := .later }
def WordCalcsUptoCardSaid : Prop := Claim7.holds Tryd.pinned (.plain (OpenSpec.upto wordCalcsSpec)) wordCalcsUptoCard

/-- THE SECOND FORM's CARD OF 'pleatlaw01.WordSeals'. -/
def wordSealsUptoCard : Claim7 := { stood := { row := wordSealsUptoRow, standIns := [], harness := (true, "994337970e0a5320e3fcfc77d92819ad3a221369f179e4cb526c7ca23cd1ed08"), looks := true }, kinds := [], alts := [], laidByText := true, laidKinds := [.data, .data, .data], laidTests := true, laidLooks := .later }
def WordSealsUptoCardSaid : Prop := Claim7.holds Tryd.pinned (.plain (OpenSpec.upto wordSealsSpec)) wordSealsUptoCard

/-- THE SECOND FORM's CARD OF 'pleatlaw20.PruneSpots'. -/
def pruneSpotsUptoCard : Claim7 := { stood := { row := pruneSpotsUptoRow, standIns := [], harness := (true, "994337970e0a5320e3fcfc77d92819ad3a221369f179e4cb526c7ca23cd1ed08"), looks := true }, kinds := [], alts := [], laidByText := true, laidKinds := [.data, .data, .data], laidTests := true, laidLooks := .later }
def PruneSpotsUptoCardSaid : Prop := Claim7.holds Tryd.pinned (.plain (OpenSpec.upto pruneSpotsSpec)) pruneSpotsUptoCard

/-- THE SECOND FORM's CARD OF 'pleatlaw01.WordAddresses'. -/
def wordAddressesUptoCard : Claim7 := { stood := { row := wordAddressesUptoRow, standIns := [], harness := (true, "994337970e0a5320e3fcfc77d92819ad3a221369f179e4cb526c7ca23cd1ed08"), looks := true }, kinds := [], alts := [], laidByText := true, laidKinds := [.data, .data, .data], laidTests := true, laidLooks := .later }
def WordAddressesUptoCardSaid : Prop := Claim7.holds Tryd.pinned (.plain (OpenSpec.upto wordAddressesSpec)) wordAddressesUptoCard

/-- THE SECOND FORM's CARD OF 'pleatlaw16.SuffixOf'. -/
def suffixOfUptoCard : Claim7 := { stood := { row := suffixOfUptoRow, standIns := [], harness := (true, "994337970e0a5320e3fcfc77d92819ad3a221369f179e4cb526c7ca23cd1ed08"), looks := true }, kinds := [], alts := [], laidByText := true, laidKinds := [.data, .data, .data], laidTests := true, laidLooks := .later }
def SuffixOfUptoCardSaid : Prop := Claim7.holds Tryd.pinned (.plain (OpenSpec.upto suffixOfSpec)) suffixOfUptoCard

/-- THE SECOND FORM's CARD OF 'pleatlaw17.CommonPrefixes'. -/
def commonPrefixesUptoCard : Claim7 := { stood := { row := commonPrefixesUptoRow, standIns := [], harness := (true, "994337970e0a5320e3fcfc77d92819ad3a221369f179e4cb526c7ca23cd1ed08"), looks := true }, kinds := [], alts := [], laidByText := true, laidKinds := [.data, .data, .data], laidTests := true, laidLooks := .later }
def CommonPrefixesUptoCardSaid : Prop := Claim7.holds Tryd.pinned (.plain (OpenSpec.upto commonPrefixesSpec)) commonPrefixesUptoCard

/-- THE SECOND FORM's CARD OF 'pleatlaw01.WordTexts'. -/
def wordTextsUptoCard : Claim7 := { stood := { row := wordTextsUptoRow, standIns := [], harness := (true, "994337970e0a5320e3fcfc77d92819ad3a221369f179e4cb526c7ca23cd1ed08"), looks := true }, kinds := [], alts := [], laidByText := true, laidKinds := [.data, .data, .data, .sentinel, .sentinel], laidTests := true, laidLooks := .later }
def WordTextsUptoCardSaid : Prop := Claim7.holds Tryd.pinned (.plain (OpenSpec.upto wordTextsSpec)) wordTextsUptoCard
end Rows
end Go.Proofs.YthkiapcoagjjpaaDoor
