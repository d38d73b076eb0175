/-
  DERIVED. GIVEN WITH THE SEED: THE CARDS: each row of YthgpjndildlgpaaDoorRows.lean that lists a variable, with what it lists TIED to the program's text (the seventh form; the later family's looks); each row that meets fmt, with fmt's text TOLD by the authors' own Lean function (tested against real Go, not proved from fmt's source: count such statements apart). THE CARD IS WHAT COUNTS. Prove the row's statement (the work); the ties are given (YthgpjndildlgpaaDoorTie.lean); close each card by the builder's one call (the guide's Derived/Test/ToyasCard.lean, 'card_holds'). Laid BY PROGRAM, IN A SANDBOX (cutbox-door.mjs). By AI agents, Wed Nov 11 2026. No macro, syntax, notation, axiom, sorry.
-/
import Derived.Test.YthgpjndildlgpaaDoorRows
import GoSem.ClaimSeven
namespace Go.Proofs.YthgpjndildlgpaaDoor
namespace Rows

/-- THE TIED CARD OF 'laws.FnExactIsWord'. -/
def fnExactIsWordCard : Claim7 := { stood := { row := fnExactIsWordRow, standIns := [], harness := (true, "70d6d9caba9267491c6a96eb9da3e38c70f2930214f52e7b9c4478f98b744c33"), looks := false }, kinds := [], alts := [], laidByText := true, laidKinds := [.data, .pinned], laidTests := true, laidLooks := .later }
def FnExactIsWordCardSaid : Prop := Claim7.holds Tryd.pinned (.plain (OpenSpec.ofChange fnExactIsWordSpec)) fnExactIsWordCard

/-- THE TIED CARD OF 'laws.FnExactEndOfWord'. -/
def fnExactEndOfWordCard : Claim7 := { stood := { row := fnExactEndOfWordRow, standIns := [], harness := (true, "70d6d9caba9267491c6a96eb9da3e38c70f2930214f52e7b9c4478f98b744c33"), looks := false }, kinds := [], alts := [], laidByText := true, laidKinds := [.data, .pinned], laidTests := true, laidLooks := .later }
def FnExactEndOfWordCardSaid : Prop := Claim7.holds Tryd.pinned (.plain (OpenSpec.ofChange fnExactEndOfWordSpec)) fnExactEndOfWordCard

/-- THE TIED CARD OF 'laws.FnExactIsLoop'. -/
def fnExactIsLoopCard : Claim7 := { stood := { row := fnExactIsLoopRow, standIns := [], harness := (true, "70d6d9caba9267491c6a96eb9da3e38c70f2930214f52e7b9c4478f98b744c33"), looks := false }, kinds := [], alts := [], laidByText := true, laidKinds := [.data, .pinned], laidTests := true, laidLooks := .later }
def FnExactIsLoopCardSaid : Prop := Claim7.holds Tryd.pinned (.plain (OpenSpec.ofChange fnExactIsLoopSpec)) fnExactIsLoopCard

/-- THE TIED CARD OF 'laws.FnExactAreaOfLoop'. -/
def fnExactAreaOfLoopCard : Claim7 := { stood := { row := fnExactAreaOfLoopRow, standIns := [], harness := (true, "70d6d9caba9267491c6a96eb9da3e38c70f2930214f52e7b9c4478f98b744c33"), looks := false }, kinds := [], alts := [], laidByText := true, laidKinds := [.data, .pinned], laidTests := true, laidLooks := .later }
def FnExactAreaOfLoopCardSaid : Prop := Claim7.holds Tryd.pinned (.plain (OpenSpec.ofChange fnExactAreaOfLoopSpec)) fnExactAreaOfLoopCard

/-- THE TIED CARD OF 'laws.FnExactOppositeWord'. -/
def fnExactOppositeWordCard : Claim7 := { stood := { row := fnExactOppositeWordRow, standIns := [], harness := (true, "70d6d9caba9267491c6a96eb9da3e38c70f2930214f52e7b9c4478f98b744c33"), looks := false }, kinds := [], alts := [], laidByText := true, laidKinds := [.data, .pinned], laidTests := true, laidLooks := .later }
def FnExactOppositeWordCardSaid : Prop := Claim7.holds Tryd.pinned (.plain (OpenSpec.ofChange fnExactOppositeWordSpec)) fnExactOppositeWordCard

/-- THE TIED CARD OF 'laws.FnExactFactorLoop'. -/
def fnExactFactorLoopCard : Claim7 := { stood := { row := fnExactFactorLoopRow, standIns := [], harness := (true, "70d6d9caba9267491c6a96eb9da3e38c70f2930214f52e7b9c4478f98b744c33"), looks := false }, kinds := [], alts := [], laidByText := true, laidKinds := [.data, .pinned], laidTests := true, laidLooks := .later }
def FnExactFactorLoopCardSaid : Prop := Claim7.holds Tryd.pinned (.plain (OpenSpec.ofChange fnExactFactorLoopSpec)) fnExactFactorLoopCard

/-- THE TIED CARD OF 'laws.FnExactStepsOfFactors'. -/
def fnExactStepsOfFactorsCard : Claim7 := { stood := { row := fnExactStepsOfFactorsRow, standIns := [], harness := (true, "70d6d9caba9267491c6a96eb9da3e38c70f2930214f52e7b9c4478f98b744c33"), looks := false }, kinds := [], alts := [], laidByText := true, laidKinds := [.data, .pinned], laidTests := true, laidLooks := .later }
def FnExactStepsOfFactorsCardSaid : Prop := Claim7.holds Tryd.pinned (.plain (OpenSpec.ofChange fnExactStepsOfFactorsSpec)) fnExactStepsOfFactorsCard

/-- THE SECOND FORM's CARD OF 'laws.FnExactIsWord'. -/
def fnExactIsWordUptoCard : Claim7 := { stood := { row := fnExactIsWordUptoRow, standIns := [], harness := (true, "70d6d9caba9267491c6a96eb9da3e38c70f2930214f52e7b9c4478f98b744c33"), looks := false }, kinds := [], alts := [], laidByText := true, laidKinds := [.data, .pinned], laidTests := true, laidLooks := .later }
def FnExactIsWordUptoCardSaid : Prop := Claim7.holds Tryd.pinned (.plain (OpenSpec.upto fnExactIsWordSpec)) fnExactIsWordUptoCard

/-- THE SECOND FORM's CARD OF 'laws.FnExactEndOfWord'. -/
def fnExactEndOfWordUptoCard : Claim7 := { stood := { row := fnExactEndOfWordUptoRow, standIns := [], harness := (true, "70d6d9caba9267491c6a96eb9da3e38c70f2930214f52e7b9c4478f98b744c33"), looks := false }, kinds := [], alts := [], laidByText := true, laidKinds := [.data, .pinned], laidTests := true, laidLooks := .later }
def FnExactEndOfWordUptoCardSaid : Prop := Claim7.holds Tryd.pinned (.plain (OpenSpec.upto fnExactEndOfWordSpec)) fnExactEndOfWordUptoCard

/-- THE SECOND FORM's CARD OF 'laws.FnExactIsLoop'. -/
def fnExactIsLoopUptoCard : Claim7 := { stood := { row := fnExactIsLoopUptoRow, standIns := [], harness := (true, "70d6d9caba9267491c6a96eb9da3e38c70f2930214f52e7b9c4478f98b744c33"), looks := false }, kinds := [], alts := [], laidByText := true, laidKinds := [.data, .pinned], laidTests := true, laidLooks := .later }
def FnExactIsLoopUptoCardSaid : Prop := Claim7.holds Tryd.pinned (.plain (OpenSpec.upto fnExactIsLoopSpec)) fnExactIsLoopUptoCard

/-- THE SECOND FORM's CARD OF 'laws.FnExactAreaOfLoop'. -/
def fnExactAreaOfLoopUptoCard : Claim7 := { stood := { row := fnExactAreaOfLoopUptoRow, standIns := [], harness := (true, "70d6d9caba9267491c6a96eb9da3e38c70f2930214f52e7b9c4478f98b744c33"), looks := false }, kinds := [], alts := [], laidByText := true, laidKinds := [.data, .pinned], laidTests := true, laidLooks := .later }
def FnExactAreaOfLoopUptoCardSaid : Prop := Claim7.holds Tryd.pinned (.plain (OpenSpec.upto fnExactAreaOfLoopSpec)) fnExactAreaOfLoopUptoCard

/-- THE SECOND FORM's CARD OF 'laws.FnExactOppositeWord'. -/
def fnExactOppositeWordUptoCard : Claim7 := { stood := { row := fnExactOppositeWordUptoRow, standIns := [], harness := (true, "70d6d9caba9267491c6a96eb9da3e38c70f2930214f52e7b9c4478f98b744c33"), looks := false }, kinds := [], alts := [], laidByText := true, laidKinds := [.data, .pinned], laidTests := true, laidLooks := .later }
def FnExactOppositeWordUptoCardSaid : Prop := Claim7.holds Tryd.pinned (.plain (OpenSpec.upto fnExactOppositeWordSpec)) fnExactOppositeWordUptoCard

/-- THE SECOND FORM's CARD OF 'laws.FnExactFactorLoop'. -/
def fnExactFactorLoopUptoCard : Claim7 := { stood := { row := fnExactFactorLoopUptoRow, standIns := [], harness := (true, "70d6d9caba9267491c6a96eb9da3e38c70f2930214f52e7b9c4478f98b744c33"), looks := false }, kinds := [], alts := [], laidByText := true, laidKinds := [.data, .pinned], laidTests := true, laidLooks := .later }
def FnExactFactorLoopUptoCardSaid : Prop := Claim7.holds Tryd.pinned (.plain (OpenSpec.upto fnExactFactorLoopSpec)) fnExactFactorLoopUptoCard

/-- THE SECOND FORM's CARD OF 'laws.FnExactStepsOfFactors'. -/
def fnExactStepsOfFactorsUptoCard : Claim7 := { stood := { row := fnExactStepsOfFactorsUptoRow, standIns := [], harness := (true, "70d6d9caba9267491c6a96eb9da3e38c70f2930214f52e7b9c4478f98b744c33"), looks := false }, kinds := [], alts := [], laidByText := true, laidKinds := [.data, .pinned], laidTests := true, laidLooks := .later }
def FnExactStepsOfFactorsUptoCardSaid : Prop := Claim7.holds Tryd.pinned (.plain (OpenSpec.upto fnExactStepsOfFactorsSpec)) fnExactStepsOfFactorsUptoCard
end Rows
end Go.Proofs.YthgpjndildlgpaaDoor
