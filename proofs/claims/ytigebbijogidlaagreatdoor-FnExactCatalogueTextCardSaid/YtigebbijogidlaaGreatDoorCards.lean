/-
  DERIVED. GIVEN WITH THE SEED: THE CARDS: each row of YtigebbijogidlaaGreatDoorRows.lean that lists a variable, with what it lists TIED to the program's text (the seventh form; the later family's looks); each row that meets fmt, with fmt's text TOLD by the authors' own Lean function (tested against real Go, not proved from fmt's source: count such statements apart). THE CARD IS WHAT COUNTS. Prove the row's statement (the work); the ties are given (YtigebbijogidlaaGreatDoorTie.lean); close each card by the builder's one call (the guide's Derived/Test/ToyasCard.lean, 'card_holds'). Laid BY PROGRAM, IN A SANDBOX (cutbox-door.mjs). By AI agents, Wed Nov 11 2026. No macro, syntax, notation, axiom, sorry.
-/
import Derived.Test.YtigebbijogidlaaGreatDoorRows
import GoSem.ClaimSeven
namespace Go.Proofs.YtigebbijogidlaaGreatDoor
namespace Rows

/-- THE TIED CARD OF 'laws.FnExactPatternNamed'. -/
def fnExactPatternNamedCard : Claim7 := { stood := { row := fnExactPatternNamedRow, standIns := [], harness := (true, "2ad1b52ddcd5cfaf80f7bc741ce49286218da791d60751b986a2fc53baf7d951"), looks := true }, kinds := [], alts := [], laidByText := true, laidKinds := [.data, .pinned], laidTests := true, laidLooks := .later }
def FnExactPatternNamedCardSaid : Prop := Claim7.holds Tryz.pinned (.plain (OpenSpec.ofChange fnExactPatternNamedSpec)) fnExactPatternNamedCard

/-- THE TIED CARD OF 'laws.FnExactDropEntry'. -/
def fnExactDropEntryCard : Claim7 := { stood := { row := fnExactDropEntryRow, standIns := [], harness := (true, "2ad1b52ddcd5cfaf80f7bc741ce49286218da791d60751b986a2fc53baf7d951"), looks := true }, kinds := [], alts := [], laidByText := true, laidKinds := [.data, .pinned], laidTests := true, laidLooks := .later }
def FnExactDropEntryCardSaid : Prop := Claim7.holds Tryz.pinned (.plain (OpenSpec.ofChange fnExactDropEntrySpec)) fnExactDropEntryCard

/-- THE TIED CARD OF 'laws.FnExactAddEntry'. -/
def fnExactAddEntryCard : Claim7 := { stood := { row := fnExactAddEntryRow, standIns := [], harness := (true, "2ad1b52ddcd5cfaf80f7bc741ce49286218da791d60751b986a2fc53baf7d951"), looks := true }, kinds := [], alts := [], laidByText := true, laidKinds := [.data, .pinned], laidTests := true, laidLooks := .later }
def FnExactAddEntryCardSaid : Prop := Claim7.holds Tryz.pinned (.plain (OpenSpec.ofChange fnExactAddEntrySpec)) fnExactAddEntryCard

/-- THE TIED CARD OF 'laws.FnExactCatalogueText'. -/
def fnExactCatalogueTextCard : Claim7 := { stood := { row := fnExactCatalogueTextRow, standIns := [], harness := (true, "2ad1b52ddcd5cfaf80f7bc741ce49286218da791d60751b986a2fc53baf7d951"), looks := true }, kinds := [], alts := [], laidByText := true, laidKinds := [.data, .data, .data, .data, .pinned], laidTests := true, laidLooks := .later }
def FnExactCatalogueTextCardSaid : Prop := Claim7.holds Tryz.pinned (.plain (OpenSpec.ofChange fnExactCatalogueTextSpec)) fnExactCatalogueTextCard

/-- THE TIED CARD OF 'laws.FnExactEntriesOf'. -/
def fnExactEntriesOfCard : Claim7 := { stood := { row := fnExactEntriesOfRow, standIns := [], harness := (true, "2ad1b52ddcd5cfaf80f7bc741ce49286218da791d60751b986a2fc53baf7d951"), looks := true }, kinds := [], alts := [], laidByText := true, laidKinds := [.data, .data, .data, .data, .pinned], laidTests := true, laidLooks := .later }
def FnExactEntriesOfCardSaid : Prop := Claim7.holds Tryz.pinned (.plain (OpenSpec.ofChange fnExactEntriesOfSpec)) fnExactEntriesOfCard

/-- THE TIED CARD OF 'laws.FnExactReadCatalogue'. -/
def fnExactReadCatalogueCard : Claim7 := { stood := { row := fnExactReadCatalogueRow, standIns := [], harness := (true, "2ad1b52ddcd5cfaf80f7bc741ce49286218da791d60751b986a2fc53baf7d951"), looks := true }, kinds := [], alts := [], laidByText := true, laidKinds := [.data, .data, .data, .data, .sentinel, .sentinel, .pinned], laidTests := true, laidLooks := .later }
def FnExactReadCatalogueCardSaid : Prop := Claim7.holds Tryz.pinned (.plain (OpenSpec.ofChange fnExactReadCatalogueSpec)) fnExactReadCatalogueCard

/-- THE TIED CARD OF 'laws.FnCatalogues'. -/
def fnCataloguesCard : Claim7 := { stood := { row := fnCataloguesRow, standIns := [], harness := (true, "2ad1b52ddcd5cfaf80f7bc741ce49286218da791d60751b986a2fc53baf7d951"), looks := true }, kinds := [], alts := [], laidByText := true, laidKinds := [.data, .pinned], laidTests := true, laidLooks := .later }
def FnCataloguesCardSaid : Prop := Claim7.holds Tryz.pinned (.plain (OpenSpec.ofChange fnCataloguesSpec)) fnCataloguesCard

/-- THE TIED CARD OF 'laws.FnCatalogueTexts'. -/
def fnCatalogueTextsCard : Claim7 := { stood := { row := fnCatalogueTextsRow, standIns := [], harness := (true, "2ad1b52ddcd5cfaf80f7bc741ce49286218da791d60751b986a2fc53baf7d951"), looks := true }, kinds := [], alts := [], laidByText := true, laidKinds := [.data, .data, .data, .data, .sentinel, .sentinel, .pinned], laidTests := true, laidLooks := .later }
def FnCatalogueTextsCardSaid : Prop := Claim7.holds Tryz.pinned (.plain (OpenSpec.ofChange fnCatalogueTextsSpec)) fnCatalogueTextsCard

/-- THE SECOND FORM's CARD OF 'laws.FnExactPatternNamed'. -/
def fnExactPatternNamedUptoCard : Claim7 := { stood := { row := fnExactPatternNamedUptoRow, standIns := [], harness := (true, "2ad1b52ddcd5cfaf80f7bc741ce49286218da791d60751b986a2fc53baf7d951"), looks := true }, kinds := [], alts := [], laidByText := true, laidKinds := [.data, .pinned], laidTests := true, laidLooks := .later }
def FnExactPatternNamedUptoCardSaid : Prop := Claim7.holds Tryz.pinned (.plain (OpenSpec.upto fnExactPatternNamedSpec)) fnExactPatternNamedUptoCard

/-- THE SECOND FORM's CARD OF 'laws.FnExactDropEntry'. -/
def fnExactDropEntryUptoCard : Claim7 := { stood := { row := fnExactDropEntryUptoRow, standIns := [], harness := (true, "2ad1b52ddcd5cfaf80f7bc741ce49286218da791d60751b986a2fc53baf7d951"), looks := true }, kinds := [], alts := [], laidByText := true, laidKinds := [.data, .pinned], laidTests := true, laidLooks := .later }
def FnExactDropEntryUptoCardSaid : Prop := Claim7.holds Tryz.pinned (.plain (OpenSpec.upto fnExactDropEntrySpec)) fnExactDropEntryUptoCard

/-- THE SECOND FORM's CARD OF 'laws.FnExactAddEntry'. -/
def fnExactAddEntryUptoCard : Claim7 := { stood := { row := fnExactAddEntryUptoRow, standIns := [], harness := (true, "2ad1b52ddcd5cfaf80f7bc741ce49286218da791d60751b986a2fc53baf7d951"), looks := true }, kinds := [], alts := [], laidByText := true, laidKinds := [.data, .pinned], laidTests := true, laidLooks := .later }
def FnExactAddEntryUptoCardSaid : Prop := Claim7.holds Tryz.pinned (.plain (OpenSpec.upto fnExactAddEntrySpec)) fnExactAddEntryUptoCard

/-- THE SECOND FORM's CARD OF 'laws.FnExactCatalogueText'. -/
def fnExactCatalogueTextUptoCard : Claim7 := { stood := { row := fnExactCatalogueTextUptoRow, standIns := [], harness := (true, "2ad1b52ddcd5cfaf80f7bc741ce49286218da791d60751b986a2fc53baf7d951"), looks := true }, kinds := [], alts := [], laidByText := true, laidKinds := [.data, .data, .data, .data, .pinned], laidTests := true, laidLooks := .later }
def FnExactCatalogueTextUptoCardSaid : Prop := Claim7.holds Tryz.pinned (.plain (OpenSpec.upto fnExactCatalogueTextSpec)) fnExactCatalogueTextUptoCard

/-- THE SECOND FORM's CARD OF 'laws.FnExactEntriesOf'. -/
def fnExactEntriesOfUptoCard : Claim7 := { stood := { row := fnExactEntriesOfUptoRow, standIns := [], harness := (true, "2ad1b52ddcd5cfaf80f7bc741ce49286218da791d60751b986a2fc53baf7d951"), looks := true }, kinds := [], alts := [], laidByText := true, laidKinds := [.data, .data, .data, .data, .pinned], laidTests := true, laidLooks := .later }
def FnExactEntriesOfUptoCardSaid : Prop := Claim7.holds Tryz.pinned (.plain (OpenSpec.upto fnExactEntriesOfSpec)) fnExactEntriesOfUptoCard

/-- THE SECOND FORM's CARD OF 'laws.FnExactReadCatalogue'. -/
def fnExactReadCatalogueUptoCard : Claim7 := { stood := { row := fnExactReadCatalogueUptoRow, standIns := [], harness := (true, "2ad1b52ddcd5cfaf80f7bc741ce49286218da791d60751b986a2fc53baf7d951"), looks := true }, kinds := [], alts := [], laidByText := true, laidKinds := [.data, .data, .data, .data, .sentinel, .sentinel, .pinned], laidTests := true, laidLooks := .later }
def FnExactReadCatalogueUptoCardSaid : Prop := Claim7.holds Tryz.pinned (.plain (OpenSpec.upto fnExactReadCatalogueSpec)) fnExactReadCatalogueUptoCard

/-- THE SECOND FORM's CARD OF 'laws.FnCatalogues'. -/
def fnCataloguesUptoCard : Claim7 := { stood := { row := fnCataloguesUptoRow, standIns := [], harness := (true, "2ad1b52ddcd5cfaf80f7bc741ce49286218da791d60751b986a2fc53baf7d951"), looks := true }, kinds := [], alts := [], laidByText := true, laidKinds := [.data, .pinned], laidTests := true, laidLooks := .later }
def FnCataloguesUptoCardSaid : Prop := Claim7.holds Tryz.pinned (.plain (OpenSpec.upto fnCataloguesSpec)) fnCataloguesUptoCard

/-- THE SECOND FORM's CARD OF 'laws.FnCatalogueTexts'. -/
def fnCatalogueTextsUptoCard : Claim7 := { stood := { row := fnCatalogueTextsUptoRow, standIns := [], harness := (true, "2ad1b52ddcd5cfaf80f7bc741ce49286218da791d60751b986a2fc53baf7d951"), looks := true }, kinds := [], alts := [], laidByText := true, laidKinds := [.data, .data, .data, .data, .sentinel, .sentinel, .pinned], laidTests := true, laidLooks := .later }
def FnCatalogueTextsUptoCardSaid : Prop := Claim7.holds Tryz.pinned (.plain (OpenSpec.upto fnCatalogueTextsSpec)) fnCatalogueTextsUptoCard
end Rows
end Go.Proofs.YtigebbijogidlaaGreatDoor
