/-
  DERIVED. GIVEN WITH THE SEED: THE CARDS: each row of YtckeeefeiljamaaGreatDoorRows.lean that lists a variable, with what it lists TIED to the program's text (the seventh form; the later family's looks); each row that meets fmt, with fmt's text TOLD by the authors' own Lean function (tested against real Go, not proved from fmt's source: count such statements apart). THE CARD IS WHAT COUNTS. Prove the row's statement (the work); the ties are given (YtckeeefeiljamaaGreatDoorTie.lean); close each card by the builder's one call (the guide's Derived/Test/ToyasCard.lean, 'card_holds'). Laid BY PROGRAM, IN A SANDBOX (cutbox-door.mjs). By AI agents, Wed Nov 11 2026. No macro, syntax, notation, axiom, sorry.
-/
import Derived.Test.YtckeeefeiljamaaGreatDoorRows
import GoSem.ClaimSeven
namespace Go.Proofs.YtckeeefeiljamaaGreatDoor
namespace Rows

/-- THE TIED CARD OF 'slipwaylaw02.RangesParses'. -/
def rangesParsesCard : Claim7 := { stood := { row := rangesParsesRow, standIns := [], harness := (true, "dbfd5d086b5e4ad8091f53fa3301fecf5854beb9b83b753545af4110d8729295"), looks := true }, kinds := [], alts := [], laidByText := true, laidKinds := [.data, .data, .data, .data, .sentinel, .sentinel, .pinned], laidTests := true, laidLooks := .later }
def RangesParsesCardSaid : Prop := Claim7.holds Tryz.pinned (.plain (OpenSpec.ofChange rangesParsesSpec)) rangesParsesCard

/-- THE TIED CARD OF 'slipwaylaw02.RangesHas'. -/
def rangesHasCard : Claim7 := { stood := { row := rangesHasRow, standIns := [], harness := (true, "dbfd5d086b5e4ad8091f53fa3301fecf5854beb9b83b753545af4110d8729295"), looks := true }, kinds := [], alts := [], laidByText := true, laidKinds := [.data, .data, .data, .data, .sentinel, .sentinel, .pinned], laidTests := true, laidLooks := .later }
def RangesHasCardSaid : Prop := Claim7.holds Tryz.pinned (.plain (OpenSpec.ofChange rangesHasSpec)) rangesHasCard

/-- THE TIED CARD OF 'slipwaylaw02.RangesParts'. -/
def rangesPartsCard : Claim7 := { stood := { row := rangesPartsRow, standIns := [], harness := (true, "dbfd5d086b5e4ad8091f53fa3301fecf5854beb9b83b753545af4110d8729295"), looks := true }, kinds := [], alts := [], laidByText := true, laidKinds := [.data, .data, .data, .data, .sentinel, .sentinel, .pinned], laidTests := true, laidLooks := .later }
def RangesPartsCardSaid : Prop := Claim7.holds Tryz.pinned (.plain (OpenSpec.ofChange rangesPartsSpec)) rangesPartsCard

/-- THE TIED CARD OF 'slipwaylaw02.RangesLists'. -/
def rangesListsCard : Claim7 := { stood := { row := rangesListsRow, standIns := [], harness := (true, "dbfd5d086b5e4ad8091f53fa3301fecf5854beb9b83b753545af4110d8729295"), looks := true }, kinds := [], alts := [], laidByText := true, laidKinds := [.data, .data, .data, .data, .sentinel, .sentinel, .pinned], laidTests := true, laidLooks := .later }
def RangesListsCardSaid : Prop := Claim7.holds Tryz.pinned (.plain (OpenSpec.ofChange rangesListsSpec)) rangesListsCard

/-- THE TIED CARD OF 'slipwaylaw02.RangesTilde'. -/
def rangesTildeCard : Claim7 := { stood := { row := rangesTildeRow, standIns := [], harness := (true, "dbfd5d086b5e4ad8091f53fa3301fecf5854beb9b83b753545af4110d8729295"), looks := true }, kinds := [], alts := [], laidByText := true, laidKinds := [.data, .data, .data, .data, .sentinel, .sentinel, .pinned], laidTests := true, laidLooks := .later }
def RangesTildeCardSaid : Prop := Claim7.holds Tryz.pinned (.plain (OpenSpec.ofChange rangesTildeSpec)) rangesTildeCard

/-- THE TIED CARD OF 'slipwaylaw02.RangesPlain'. -/
def rangesPlainCard : Claim7 := { stood := { row := rangesPlainRow, standIns := [], harness := (true, "dbfd5d086b5e4ad8091f53fa3301fecf5854beb9b83b753545af4110d8729295"), looks := true }, kinds := [], alts := [], laidByText := true, laidKinds := [.data, .data, .data, .data, .sentinel, .sentinel, .pinned], laidTests := true, laidLooks := .later }
def RangesPlainCardSaid : Prop := Claim7.holds Tryz.pinned (.plain (OpenSpec.ofChange rangesPlainSpec)) rangesPlainCard

/-- THE TIED CARD OF 'slipwaylaw02.RangesAnd'. -/
def rangesAndCard : Claim7 := { stood := { row := rangesAndRow, standIns := [], harness := (true, "dbfd5d086b5e4ad8091f53fa3301fecf5854beb9b83b753545af4110d8729295"), looks := true }, kinds := [], alts := [], laidByText := true, laidKinds := [.data, .data, .data, .data, .sentinel, .sentinel, .pinned], laidTests := true, laidLooks := .later }
def RangesAndCardSaid : Prop := Claim7.holds Tryz.pinned (.plain (OpenSpec.ofChange rangesAndSpec)) rangesAndCard

/-- THE TIED CARD OF 'slipwaylaw02.RangesBack'. -/
def rangesBackCard : Claim7 := { stood := { row := rangesBackRow, standIns := [], harness := (true, "dbfd5d086b5e4ad8091f53fa3301fecf5854beb9b83b753545af4110d8729295"), looks := true }, kinds := [], alts := [], laidByText := true, laidKinds := [.data, .data, .data, .data, .sentinel, .sentinel, .pinned], laidTests := true, laidLooks := .later }
def RangesBackCardSaid : Prop := Claim7.holds Tryz.pinned (.plain (OpenSpec.ofChange rangesBackSpec)) rangesBackCard

/-- THE SECOND FORM's CARD OF 'slipwaylaw02.RangesParses'. -/
def rangesParsesUptoCard : Claim7 := { stood := { row := rangesParsesUptoRow, standIns := [], harness := (true, "dbfd5d086b5e4ad8091f53fa3301fecf5854beb9b83b753545af4110d8729295"), looks := true }, kinds := [], alts := [], laidByText := true, laidKinds := [.data, .data, .data, .data, .sentinel, .sentinel, .pinned], laidTests := true, laidLooks := .later }
def RangesParsesUptoCardSaid : Prop := Claim7.holds Tryz.pinned (.plain (OpenSpec.upto rangesParsesSpec)) rangesParsesUptoCard

/-- THE SECOND FORM's CARD OF 'slipwaylaw02.RangesHas'. -/
def rangesHasUptoCard : Claim7 := { stood := { row := rangesHasUptoRow, standIns := [], harness := (true, "dbfd5d086b5e4ad8091f53fa3301fecf5854beb9b83b753545af4110d8729295"), looks := true }, kinds := [], alts := [], laidByText := true, laidKinds := [.data, .data, .data, .data, .sentinel, .sentinel, .pinned], laidTests := true, laidLooks := .later }
def RangesHasUptoCardSaid : Prop := Claim7.holds Tryz.pinned (.plain (OpenSpec.upto rangesHasSpec)) rangesHasUptoCard

/-- THE SECOND FORM's CARD OF 'slipwaylaw02.RangesParts'. -/
def rangesPartsUptoCard : Claim7 := { stood := { row := rangesPartsUptoRow, standIns := [], harness := (true, "dbfd5d086b5e4ad8091f53fa3301fecf5854beb9b83b753545af4110d8729295"), looks := true }, kinds := [], alts := [], laidByText := true, laidKinds := [.data, .data, .data, .data, .sentinel, .sentinel, .pinned], laidTests := true, laidLooks := .later }
def RangesPartsUptoCardSaid : Prop := Claim7.holds Tryz.pinned (.plain (OpenSpec.upto rangesPartsSpec)) rangesPartsUptoCard

/-- THE SECOND FORM's CARD OF 'slipwaylaw02.RangesLists'. -/
def rangesListsUptoCard : Claim7 := { stood := { row := rangesListsUptoRow, standIns := [], harness := (true, "dbfd5d086b5e4ad8091f53fa3301fecf5854beb9b83b753545af4110d8729295"), looks := true }, kinds := [], alts := [], laidByText := true, laidKinds := [.data, .data, .data, .data, .sentinel, .sentinel, .pinned], laidTests := true, laidLooks := .later }
def RangesListsUptoCardSaid : Prop := Claim7.holds Tryz.pinned (.plain (OpenSpec.upto rangesListsSpec)) rangesListsUptoCard

/-- THE SECOND FORM's CARD OF 'slipwaylaw02.RangesTilde'. -/
def rangesTildeUptoCard : Claim7 := { stood := { row := rangesTildeUptoRow, standIns := [], harness := (true, "dbfd5d086b5e4ad8091f53fa3301fecf5854beb9b83b753545af4110d8729295"), looks := true }, kinds := [], alts := [], laidByText := true, laidKinds := [.data, .data, .data, .data, .sentinel, .sentinel, .pinned], laidTests := true, laidLooks := .later }
def RangesTildeUptoCardSaid : Prop := Claim7.holds Tryz.pinned (.plain (OpenSpec.upto rangesTildeSpec)) rangesTildeUptoCard

/-- THE SECOND FORM's CARD OF 'slipwaylaw02.RangesPlain'. -/
def rangesPlainUptoCard : Claim7 := { stood := { row := rangesPlainUptoRow, standIns := [], harness := (true, "dbfd5d086b5e4ad8091f53fa3301fecf5854beb9b83b753545af4110d8729295"), looks := true }, kinds := [], alts := [], laidByText := true, laidKinds := [.data, .data, .data, .data, .sentinel, .sentinel, .pinned], laidTests := true, laidLooks := .later }
def RangesPlainUptoCardSaid : Prop := Claim7.holds Tryz.pinned (.plain (OpenSpec.upto rangesPlainSpec)) rangesPlainUptoCard

/-- THE SECOND FORM's CARD OF 'slipwaylaw02.RangesAnd'. -/
def rangesAndUptoCard : Claim7 := { stood := { row := rangesAndUptoRow, standIns := [], harness := (true, "dbfd5d086b5e4ad8091f53fa3301fecf5854beb9b83b753545af4110d8729295"), looks := true }, kinds := [], alts := [], laidByText := true, laidKinds := [.data, .data, .data, .data, .sentinel, .sentinel, .pinned], laidTests := true, laidLooks := .later }
def RangesAndUptoCardSaid : Prop := Claim7.holds Tryz.pinned (.plain (OpenSpec.upto rangesAndSpec)) rangesAndUptoCard

/-- THE SECOND FORM's CARD OF 'slipwaylaw02.RangesBack'. -/
def rangesBackUptoCard : Claim7 := { stood := { row := rangesBackUptoRow, standIns := [], harness := (true, "dbfd5d086b5e4ad8091f53fa3301fecf5854beb9b83b753545af4110d8729295"), looks := true }, kinds := [], alts := [], laidByText := true, laidKinds := [.data, .data, .data, .data, .sentinel, .sentinel, .pinned], laidTests := true, laidLooks := .later }
def RangesBackUptoCardSaid : Prop := Claim7.holds Tryz.pinned (.plain (OpenSpec.upto rangesBackSpec)) rangesBackUptoCard
end Rows
end Go.Proofs.YtckeeefeiljamaaGreatDoor
