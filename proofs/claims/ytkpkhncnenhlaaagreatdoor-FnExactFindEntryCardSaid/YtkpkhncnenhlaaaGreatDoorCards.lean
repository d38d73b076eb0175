/-
  DERIVED. GIVEN WITH THE SEED: THE CARDS: each row of YtkpkhncnenhlaaaGreatDoorRows.lean that lists a variable, with what it lists TIED to the program's text (the seventh form; the later family's looks); each row that meets fmt, with fmt's text TOLD by the authors' own Lean function (tested against real Go, not proved from fmt's source: count such statements apart). THE CARD IS WHAT COUNTS. Prove the row's statement (the work); the ties are given (YtkpkhncnenhlaaaGreatDoorTie.lean); close each card by the builder's one call (the guide's Derived/Test/ToyasCard.lean, 'card_holds'). Laid BY PROGRAM, IN A SANDBOX (cutbox-door.mjs). By AI agents, Wed Nov 11 2026. No macro, syntax, notation, axiom, sorry.
-/
import Derived.Test.YtkpkhncnenhlaaaGreatDoorRows
import GoSem.ClaimSeven
namespace Go.Proofs.YtkpkhncnenhlaaaGreatDoor
namespace Rows

/-- THE TIED CARD OF 'laws.FnExactIsCatalogue'. -/
def fnExactIsCatalogueCard : Claim7 := { stood := { row := fnExactIsCatalogueRow, standIns := [], harness := (true, "9090c6c36b7d7558723b3e8324d17300cb0175f7361011bde5985bcf26262cea"), looks := false }, kinds := [], alts := [], laidByText := true, laidKinds := [.data, .pinned], laidTests := true, laidLooks := .later }
def FnExactIsCatalogueCardSaid : Prop := Claim7.holds Tryz.pinned (.plain (OpenSpec.ofChange fnExactIsCatalogueSpec)) fnExactIsCatalogueCard

/-- THE TIED CARD OF 'laws.FnExactFindEntry'. -/
def fnExactFindEntryCard : Claim7 := { stood := { row := fnExactFindEntryRow, standIns := [], harness := (true, "9090c6c36b7d7558723b3e8324d17300cb0175f7361011bde5985bcf26262cea"), looks := false }, kinds := [], alts := [], laidByText := true, laidKinds := [.data, .pinned], laidTests := true, laidLooks := .later }
def FnExactFindEntryCardSaid : Prop := Claim7.holds Tryz.pinned (.plain (OpenSpec.ofChange fnExactFindEntrySpec)) fnExactFindEntryCard

/-- THE TIED CARD OF 'laws.FnExactPatternNamed'. -/
def fnExactPatternNamedCard : Claim7 := { stood := { row := fnExactPatternNamedRow, standIns := [], harness := (true, "9090c6c36b7d7558723b3e8324d17300cb0175f7361011bde5985bcf26262cea"), looks := false }, kinds := [], alts := [], laidByText := true, laidKinds := [.data, .pinned], laidTests := true, laidLooks := .later }
def FnExactPatternNamedCardSaid : Prop := Claim7.holds Tryz.pinned (.plain (OpenSpec.ofChange fnExactPatternNamedSpec)) fnExactPatternNamedCard

/-- THE TIED CARD OF 'laws.FnExactDropEntry'. -/
def fnExactDropEntryCard : Claim7 := { stood := { row := fnExactDropEntryRow, standIns := [], harness := (true, "9090c6c36b7d7558723b3e8324d17300cb0175f7361011bde5985bcf26262cea"), looks := false }, kinds := [], alts := [], laidByText := true, laidKinds := [.data, .pinned], laidTests := true, laidLooks := .later }
def FnExactDropEntryCardSaid : Prop := Claim7.holds Tryz.pinned (.plain (OpenSpec.ofChange fnExactDropEntrySpec)) fnExactDropEntryCard

/-- THE TIED CARD OF 'laws.FnExactAddEntry'. -/
def fnExactAddEntryCard : Claim7 := { stood := { row := fnExactAddEntryRow, standIns := [], harness := (true, "9090c6c36b7d7558723b3e8324d17300cb0175f7361011bde5985bcf26262cea"), looks := false }, kinds := [], alts := [], laidByText := true, laidKinds := [.data, .pinned], laidTests := true, laidLooks := .later }
def FnExactAddEntryCardSaid : Prop := Claim7.holds Tryz.pinned (.plain (OpenSpec.ofChange fnExactAddEntrySpec)) fnExactAddEntryCard

/-- THE SECOND FORM's CARD OF 'laws.FnExactIsCatalogue'. -/
def fnExactIsCatalogueUptoCard : Claim7 := { stood := { row := fnExactIsCatalogueUptoRow, standIns := [], harness := (true, "9090c6c36b7d7558723b3e8324d17300cb0175f7361011bde5985bcf26262cea"), looks := false }, kinds := [], alts := [], laidByText := true, laidKinds := [.data, .pinned], laidTests := true, laidLooks := .later }
def FnExactIsCatalogueUptoCardSaid : Prop := Claim7.holds Tryz.pinned (.plain (OpenSpec.upto fnExactIsCatalogueSpec)) fnExactIsCatalogueUptoCard

/-- THE SECOND FORM's CARD OF 'laws.FnExactFindEntry'. -/
def fnExactFindEntryUptoCard : Claim7 := { stood := { row := fnExactFindEntryUptoRow, standIns := [], harness := (true, "9090c6c36b7d7558723b3e8324d17300cb0175f7361011bde5985bcf26262cea"), looks := false }, kinds := [], alts := [], laidByText := true, laidKinds := [.data, .pinned], laidTests := true, laidLooks := .later }
def FnExactFindEntryUptoCardSaid : Prop := Claim7.holds Tryz.pinned (.plain (OpenSpec.upto fnExactFindEntrySpec)) fnExactFindEntryUptoCard

/-- THE SECOND FORM's CARD OF 'laws.FnExactPatternNamed'. -/
def fnExactPatternNamedUptoCard : Claim7 := { stood := { row := fnExactPatternNamedUptoRow, standIns := [], harness := (true, "9090c6c36b7d7558723b3e8324d17300cb0175f7361011bde5985bcf26262cea"), looks := false }, kinds := [], alts := [], laidByText := true, laidKinds := [.data, .pinned], laidTests := true, laidLooks := .later }
def FnExactPatternNamedUptoCardSaid : Prop := Claim7.holds Tryz.pinned (.plain (OpenSpec.upto fnExactPatternNamedSpec)) fnExactPatternNamedUptoCard

/-- THE SECOND FORM's CARD OF 'laws.FnExactDropEntry'. -/
def fnExactDropEntryUptoCard : Claim7 := { stood := { row := fnExactDropEntryUptoRow, standIns := [], harness := (true, "9090c6c36b7d7558723b3e8324d17300cb0175f7361011bde5985bcf26262cea"), looks := false }, kinds := [], alts := [], laidByText := true, laidKinds := [.data, .pinned], laidTests := true, laidLooks := .later }
def FnExactDropEntryUptoCardSaid : Prop := Claim7.holds Tryz.pinned (.plain (OpenSpec.upto fnExactDropEntrySpec)) fnExactDropEntryUptoCard

/-- THE SECOND FORM's CARD OF 'laws.FnExactAddEntry'. -/
def fnExactAddEntryUptoCard : Claim7 := { stood := { row := fnExactAddEntryUptoRow, standIns := [], harness := (true, "9090c6c36b7d7558723b3e8324d17300cb0175f7361011bde5985bcf26262cea"), looks := false }, kinds := [], alts := [], laidByText := true, laidKinds := [.data, .pinned], laidTests := true, laidLooks := .later }
def FnExactAddEntryUptoCardSaid : Prop := Claim7.holds Tryz.pinned (.plain (OpenSpec.upto fnExactAddEntrySpec)) fnExactAddEntryUptoCard
end Rows
end Go.Proofs.YtkpkhncnenhlaaaGreatDoor
