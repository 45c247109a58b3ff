/-
  DERIVED. GIVEN WITH THE SEED: THE CARDS: each row of YtkilaemngejplaaDoorRows.lean that lists a variable, with what it lists TIED to the program's text (the seventh form; the later family's looks); each row that meets fmt, with fmt's text TOLD by the authors' own Lean function (tested against real Go, not proved from fmt's source: count such statements apart). THE CARD IS WHAT COUNTS. Prove the row's statement (the work); the ties are given (YtkilaemngejplaaDoorTie.lean); close each card by the builder's one call (the guide's Derived/Test/ToyasCard.lean, 'card_holds'). Laid BY PROGRAM, IN A SANDBOX (cutbox-door.mjs). By AI agents, Wed Nov 11 2026. No macro, syntax, notation, axiom, sorry.
-/
import Derived.Test.YtkilaemngejplaaDoorRows
import GoSem.ClaimSeven
namespace Go.Proofs.YtkilaemngejplaaDoor
namespace Rows

/-- THE TIED CARD OF 'slipwaylaw01.SemverParses'. -/
def semverParsesCard : Claim7 := { stood := { row := semverParsesRow, standIns := [], harness := (true, "ef5fe658e1dd7a2c5e2a80d6c905862cf204538b4f2cfa2d254cbb5b4862e1d5"), looks := true }, kinds := [], alts := [], laidByText := true, laidKinds := [.data, .data, .data, .data, .sentinel, .sentinel, .pinned], laidTests := true, laidLooks := .later }
def SemverParsesCardSaid : Prop := Claim7.holds Tryd.pinned (.plain (OpenSpec.ofChange semverParsesSpec)) semverParsesCard

/-- THE TIED CARD OF 'slipwaylaw01.SemverCompares'. -/
def semverComparesCard : Claim7 := { stood := { row := semverComparesRow, standIns := [], harness := (true, "ef5fe658e1dd7a2c5e2a80d6c905862cf204538b4f2cfa2d254cbb5b4862e1d5"), looks := true }, kinds := [], alts := [], laidByText := true, laidKinds := [.data, .data, .data, .data, .sentinel, .sentinel, .pinned], laidTests := true, laidLooks := .later }
def SemverComparesCardSaid : Prop := Claim7.holds Tryd.pinned (.plain (OpenSpec.ofChange semverComparesSpec)) semverComparesCard

/-- THE TIED CARD OF 'slipwaylaw01.SemverOrder'. -/
def semverOrderCard : Claim7 := { stood := { row := semverOrderRow, standIns := [], harness := (true, "ef5fe658e1dd7a2c5e2a80d6c905862cf204538b4f2cfa2d254cbb5b4862e1d5"), looks := true }, kinds := [], alts := [], laidByText := true, laidKinds := [.data, .data, .data, .data, .sentinel, .sentinel, .pinned], laidTests := true, laidLooks := .later }
def SemverOrderCardSaid : Prop := Claim7.holds Tryd.pinned (.plain (OpenSpec.ofChange semverOrderSpec)) semverOrderCard

/-- THE TIED CARD OF 'slipwaylaw01.SemverPres'. -/
def semverPresCard : Claim7 := { stood := { row := semverPresRow, standIns := [], harness := (true, "ef5fe658e1dd7a2c5e2a80d6c905862cf204538b4f2cfa2d254cbb5b4862e1d5"), looks := true }, kinds := [], alts := [], laidByText := true, laidKinds := [.data, .data, .data, .data, .sentinel, .sentinel, .pinned], laidTests := true, laidLooks := .later }
def SemverPresCardSaid : Prop := Claim7.holds Tryd.pinned (.plain (OpenSpec.ofChange semverPresSpec)) semverPresCard

/-- THE TIED CARD OF 'slipwaylaw01.SemverNumbers'. -/
def semverNumbersCard : Claim7 := { stood := { row := semverNumbersRow, standIns := [], harness := (true, "ef5fe658e1dd7a2c5e2a80d6c905862cf204538b4f2cfa2d254cbb5b4862e1d5"), looks := true }, kinds := [], alts := [], laidByText := true, laidKinds := [.data, .data, .data, .data, .sentinel, .sentinel, .pinned], laidTests := true, laidLooks := .later }
def SemverNumbersCardSaid : Prop := Claim7.holds Tryd.pinned (.plain (OpenSpec.ofChange semverNumbersSpec)) semverNumbersCard

/-- THE TIED CARD OF 'slipwaylaw01.SemverBack'. -/
def semverBackCard : Claim7 := { stood := { row := semverBackRow, standIns := [], harness := (true, "ef5fe658e1dd7a2c5e2a80d6c905862cf204538b4f2cfa2d254cbb5b4862e1d5"), looks := true }, kinds := [], alts := [], laidByText := true, laidKinds := [.data, .data, .data, .data, .sentinel, .sentinel, .pinned], laidTests := true, laidLooks := .later }
def SemverBackCardSaid : Prop := Claim7.holds Tryd.pinned (.plain (OpenSpec.ofChange semverBackSpec)) semverBackCard

/-- THE TIED CARD OF 'slipwaylaw01.SemverTexts'. -/
def semverTextsCard : Claim7 := { stood := { row := semverTextsRow, standIns := [], harness := (true, "ef5fe658e1dd7a2c5e2a80d6c905862cf204538b4f2cfa2d254cbb5b4862e1d5"), looks := true }, kinds := [], alts := [], laidByText := true, laidKinds := [.data, .data, .data, .data, .sentinel, .sentinel, .pinned], laidTests := true, laidLooks := .later }
def SemverTextsCardSaid : Prop := Claim7.holds Tryd.pinned (.plain (OpenSpec.ofChange semverTextsSpec)) semverTextsCard

/-- THE TIED CARD OF 'slipwaylaw01.SemverBumps'. -/
def semverBumpsCard : Claim7 := { stood := { row := semverBumpsRow, standIns := [], harness := (true, "ef5fe658e1dd7a2c5e2a80d6c905862cf204538b4f2cfa2d254cbb5b4862e1d5"), looks := true }, kinds := [], alts := [], laidByText := true, laidKinds := [.data, .data, .data, .data, .sentinel, .sentinel, .pinned], laidTests := true, laidLooks := .later }
def SemverBumpsCardSaid : Prop := Claim7.holds Tryd.pinned (.plain (OpenSpec.ofChange semverBumpsSpec)) semverBumpsCard

/-- THE SECOND FORM's CARD OF 'slipwaylaw01.SemverParses'. -/
def semverParsesUptoCard : Claim7 := { stood := { row := semverParsesUptoRow, standIns := [], harness := (true, "ef5fe658e1dd7a2c5e2a80d6c905862cf204538b4f2cfa2d254cbb5b4862e1d5"), looks := true }, kinds := [], alts := [], laidByText := true, laidKinds := [.data, .data, .data, .data, .sentinel, .sentinel, .pinned], laidTests := true, laidLooks := .later }
def SemverParsesUptoCardSaid : Prop := Claim7.holds Tryd.pinned (.plain (OpenSpec.upto semverParsesSpec)) semverParsesUptoCard

/-- THE SECOND FORM's CARD OF 'slipwaylaw01.SemverCompares'. -/
def semverComparesUptoCard : Claim7 := { stood := { row := semverComparesUptoRow, standIns := [], harness := (true, "ef5fe658e1dd7a2c5e2a80d6c905862cf204538b4f2cfa2d254cbb5b4862e1d5"), looks := true }, kinds := [], alts := [], laidByText := true, laidKinds := [.data, .data, .data, .data, .sentinel, .sentinel, .pinned], laidTests := true, laidLooks := .later }
def SemverComparesUptoCardSaid : Prop := Claim7.holds Tryd.pinned (.plain (OpenSpec.upto semverComparesSpec)) semverComparesUptoCard

/-- THE SECOND FORM's CARD OF 'slipwaylaw01.SemverOrder'. -/
def semverOrderUptoCard : Claim7 := { stood := { row := semverOrderUptoRow, standIns := [], harness := (true, "ef5fe658e1dd7a2c5e2a80d6c905862cf204538b4f2cfa2d254cbb5b4862e1d5"), looks := true }, kinds := [], alts := [], laidByText := true, laidKinds := [.data, .data, .data, .data, .sentinel, .sentinel, .pinned], laidTests := true, laidLooks := .later }
def SemverOrderUptoCardSaid : Prop := Claim7.holds Tryd.pinned (.plain (OpenSpec.upto semverOrderSpec)) semverOrderUptoCard

/-- THE SECOND FORM's CARD OF 'slipwaylaw01.SemverPres'. -/
def semverPresUptoCard : Claim7 := { stood := { row := semverPresUptoRow, standIns := [], harness := (true, "ef5fe658e1dd7a2c5e2a80d6c905862cf204538b4f2cfa2d254cbb5b4862e1d5"), looks := true }, kinds := [], alts := [], laidByText := true, laidKinds := [.data, .data, .data, .data, .sentinel, .sentinel, .pinned], laidTests := true, laidLooks := .later }
def SemverPresUptoCardSaid : Prop := Claim7.holds Tryd.pinned (.plain (OpenSpec.upto semverPresSpec)) semverPresUptoCard

/-- THE SECOND FORM's CARD OF 'slipwaylaw01.SemverNumbers'. -/
def semverNumbersUptoCard : Claim7 := { stood := { row := semverNumbersUptoRow, standIns := [], harness := (true, "ef5fe658e1dd7a2c5e2a80d6c905862cf204538b4f2cfa2d254cbb5b4862e1d5"), looks := true }, kinds := [], alts := [], laidByText := true, laidKinds := [.data, .data, .data, .data, .sentinel, .sentinel, .pinned], laidTests := true, laidLooks := .later }
def SemverNumbersUptoCardSaid : Prop := Claim7.holds Tryd.pinned (.plain (OpenSpec.upto semverNumbersSpec)) semverNumbersUptoCard

/-- THE SECOND FORM's CARD OF 'slipwaylaw01.SemverBack'. -/
def semverBackUptoCard : Claim7 := { stood := { row := semverBackUptoRow, standIns := [], harness := (true, "ef5fe658e1dd7a2c5e2a80d6c905862cf204538b4f2cfa2d254cbb5b4862e1d5"), looks := true }, kinds := [], alts := [], laidByText := true, laidKinds := [.data, .data, .data, .data, .sentinel, .sentinel, .pinned], laidTests := true, laidLooks := .later }
def SemverBackUptoCardSaid : Prop := Claim7.holds Tryd.pinned (.plain (OpenSpec.upto semverBackSpec)) semverBackUptoCard

/-- THE SECOND FORM's CARD OF 'slipwaylaw01.SemverTexts'. -/
def semverTextsUptoCard : Claim7 := { stood := { row := semverTextsUptoRow, standIns := [], harness := (true, "ef5fe658e1dd7a2c5e2a80d6c905862cf204538b4f2cfa2d254cbb5b4862e1d5"), looks := true }, kinds := [], alts := [], laidByText := true, laidKinds := [.data, .data, .data, .data, .sentinel, .sentinel, .pinned], laidTests := true, laidLooks := .later }
def SemverTextsUptoCardSaid : Prop := Claim7.holds Tryd.pinned (.plain (OpenSpec.upto semverTextsSpec)) semverTextsUptoCard

/-- THE SECOND FORM's CARD OF 'slipwaylaw01.SemverBumps'. -/
def semverBumpsUptoCard : Claim7 := { stood := { row := semverBumpsUptoRow, standIns := [], harness := (true, "ef5fe658e1dd7a2c5e2a80d6c905862cf204538b4f2cfa2d254cbb5b4862e1d5"), looks := true }, kinds := [], alts := [], laidByText := true, laidKinds := [.data, .data, .data, .data, .sentinel, .sentinel, .pinned], laidTests := true, laidLooks := .later }
def SemverBumpsUptoCardSaid : Prop := Claim7.holds Tryd.pinned (.plain (OpenSpec.upto semverBumpsSpec)) semverBumpsUptoCard
end Rows
end Go.Proofs.YtkilaemngejplaaDoor
