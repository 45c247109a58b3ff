/-
  DERIVED. GIVEN WITH THE SEED: THE CARDS: each row of YtikjlooifdgbaaaGreatDoorRows.lean that lists a variable, with what it lists TIED to the program's text (the seventh form; the later family's looks); each row that meets fmt, with fmt's text TOLD by the authors' own Lean function (tested against real Go, not proved from fmt's source: count such statements apart). THE CARD IS WHAT COUNTS. Prove the row's statement (the work); the ties are given (YtikjlooifdgbaaaGreatDoorTie.lean); close each card by the builder's one call (the guide's Derived/Test/ToyasCard.lean, 'card_holds'). Laid BY PROGRAM, IN A SANDBOX (cutbox-door.mjs). By AI agents, Wed Nov 11 2026. No macro, syntax, notation, axiom, sorry.
-/
import Derived.Test.YtikjlooifdgbaaaGreatDoorRows
import GoSem.ClaimSeven
namespace Go.Proofs.YtikjlooifdgbaaaGreatDoor
namespace Rows

/-- THE TIED CARD OF 'slipwaylaw10.PlanMakes'. -/
def planMakesCard : Claim7 := { stood := { row := planMakesRow, standIns := [], harness := (true, "c685b5462e3b0903cb60ceaf4110c32c9a16516dde4928b789ab46d4b000d44a"), looks := true }, kinds := [], alts := [], laidByText := true, laidKinds := [.data, .data, .data, .data, .sentinel, .sentinel, .pinned], laidTests := true, laidLooks := .later }
def PlanMakesCardSaid : Prop := Claim7.holds Tryz.pinned (.plain (OpenSpec.ofChange planMakesSpec)) planMakesCard

/-- THE TIED CARD OF 'slipwaylaw10.PlanStuck'. -/
def planStuckCard : Claim7 := { stood := { row := planStuckRow, standIns := [], harness := (true, "c685b5462e3b0903cb60ceaf4110c32c9a16516dde4928b789ab46d4b000d44a"), looks := true }, kinds := [], alts := [], laidByText := true, laidKinds := [.data, .data, .data, .data, .sentinel, .sentinel, .pinned], laidTests := true, laidLooks := .later }
def PlanStuckCardSaid : Prop := Claim7.holds Tryz.pinned (.plain (OpenSpec.ofChange planStuckSpec)) planStuckCard

/-- THE TIED CARD OF 'slipwaylaw10.PlanChecks'. -/
def planChecksCard : Claim7 := { stood := { row := planChecksRow, standIns := [], harness := (true, "c685b5462e3b0903cb60ceaf4110c32c9a16516dde4928b789ab46d4b000d44a"), looks := true }, kinds := [], alts := [], laidByText := true, laidKinds := [.data, .data, .data, .data, .sentinel, .sentinel, .pinned], laidTests := true, laidLooks := .later }
def PlanChecksCardSaid : Prop := Claim7.holds Tryz.pinned (.plain (OpenSpec.ofChange planChecksSpec)) planChecksCard

/-- THE TIED CARD OF 'slipwaylaw10.PlanStays'. -/
def planStaysCard : Claim7 := { stood := { row := planStaysRow, standIns := [], harness := (true, "c685b5462e3b0903cb60ceaf4110c32c9a16516dde4928b789ab46d4b000d44a"), looks := true }, kinds := [], alts := [], laidByText := true, laidKinds := [.data, .data, .data, .data, .sentinel, .sentinel, .pinned], laidTests := true, laidLooks := .later }
def PlanStaysCardSaid : Prop := Claim7.holds Tryz.pinned (.plain (OpenSpec.ofChange planStaysSpec)) planStaysCard

/-- THE TIED CARD OF 'slipwaylaw10.PlanBare'. -/
def planBareCard : Claim7 := { stood := { row := planBareRow, standIns := [], harness := (true, "c685b5462e3b0903cb60ceaf4110c32c9a16516dde4928b789ab46d4b000d44a"), looks := true }, kinds := [], alts := [], laidByText := true, laidKinds := [.data, .data, .data, .data, .sentinel, .sentinel, .pinned], laidTests := true, laidLooks := .later }
def PlanBareCardSaid : Prop := Claim7.holds Tryz.pinned (.plain (OpenSpec.ofChange planBareSpec)) planBareCard

/-- THE TIED CARD OF 'slipwaylaw10.PlanBack'. -/
def planBackCard : Claim7 := { stood := { row := planBackRow, standIns := [], harness := (true, "c685b5462e3b0903cb60ceaf4110c32c9a16516dde4928b789ab46d4b000d44a"), looks := true }, kinds := [], alts := [], laidByText := true, laidKinds := [.data, .data, .data, .data, .sentinel, .sentinel, .pinned], laidTests := true, laidLooks := .later }
def PlanBackCardSaid : Prop := Claim7.holds Tryz.pinned (.plain (OpenSpec.ofChange planBackSpec)) planBackCard

/-- THE TIED CARD OF 'slipwaylaw10.PlanRight'. -/
def planRightCard : Claim7 := { stood := { row := planRightRow, standIns := [], harness := (true, "c685b5462e3b0903cb60ceaf4110c32c9a16516dde4928b789ab46d4b000d44a"), looks := true }, kinds := [], alts := [], laidByText := true, laidKinds := [.data, .data, .data, .data, .sentinel, .sentinel, .pinned], laidTests := true, laidLooks := .later }
def PlanRightCardSaid : Prop := Claim7.holds Tryz.pinned (.plain (OpenSpec.ofChange planRightSpec)) planRightCard

/-- THE TIED CARD OF 'slipwaylaw10.PlanFleets'. -/
def planFleetsCard : Claim7 := { stood := { row := planFleetsRow, standIns := [], harness := (true, "c685b5462e3b0903cb60ceaf4110c32c9a16516dde4928b789ab46d4b000d44a"), looks := true }, kinds := [], alts := [], laidByText := true, laidKinds := [.data, .data, .data, .data, .sentinel, .sentinel, .pinned], laidTests := true, laidLooks := .later }
def PlanFleetsCardSaid : Prop := Claim7.holds Tryz.pinned (.plain (OpenSpec.ofChange planFleetsSpec)) planFleetsCard

/-- THE TIED CARD OF 'slipwaylaw10.PlanWays'. -/
def planWaysCard : Claim7 := { stood := { row := planWaysRow, standIns := [], harness := (true, "c685b5462e3b0903cb60ceaf4110c32c9a16516dde4928b789ab46d4b000d44a"), looks := true }, kinds := [], alts := [], laidByText := true, laidKinds := [.data, .data, .data, .data, .sentinel, .sentinel, .pinned], laidTests := true, laidLooks := .later }
def PlanWaysCardSaid : Prop := Claim7.holds Tryz.pinned (.plain (OpenSpec.ofChange planWaysSpec)) planWaysCard

/-- THE SECOND FORM's CARD OF 'slipwaylaw10.PlanMakes'. -/
def planMakesUptoCard : Claim7 := { stood := { row := planMakesUptoRow, standIns := [], harness := (true, "c685b5462e3b0903cb60ceaf4110c32c9a16516dde4928b789ab46d4b000d44a"), looks := true }, kinds := [], alts := [], laidByText := true, laidKinds := [.data, .data, .data, .data, .sentinel, .sentinel, .pinned], laidTests := true, laidLooks := .later }
def PlanMakesUptoCardSaid : Prop := Claim7.holds Tryz.pinned (.plain (OpenSpec.upto planMakesSpec)) planMakesUptoCard

/-- THE SECOND FORM's CARD OF 'slipwaylaw10.PlanStuck'. -/
def planStuckUptoCard : Claim7 := { stood := { row := planStuckUptoRow, standIns := [], harness := (true, "c685b5462e3b0903cb60ceaf4110c32c9a16516dde4928b789ab46d4b000d44a"), looks := true }, kinds := [], alts := [], laidByText := true, laidKinds := [.data, .data, .data, .data, .sentinel, .sentinel, .pinned], laidTests := true, laidLooks := .later }
def PlanStuckUptoCardSaid : Prop := Claim7.holds Tryz.pinned (.plain (OpenSpec.upto planStuckSpec)) planStuckUptoCard

/-- THE SECOND FORM's CARD OF 'slipwaylaw10.PlanChecks'. -/
def planChecksUptoCard : Claim7 := { stood := { row := planChecksUptoRow, standIns := [], harness := (true, "c685b5462e3b0903cb60ceaf4110c32c9a16516dde4928b789ab46d4b000d44a"), looks := true }, kinds := [], alts := [], laidByText := true, laidKinds := [.data, .data, .data, .data, .sentinel, .sentinel, .pinned], laidTests := true, laidLooks := .later }
def PlanChecksUptoCardSaid : Prop := Claim7.holds Tryz.pinned (.plain (OpenSpec.upto planChecksSpec)) planChecksUptoCard

/-- THE SECOND FORM's CARD OF 'slipwaylaw10.PlanStays'. -/
def planStaysUptoCard : Claim7 := { stood := { row := planStaysUptoRow, standIns := [], harness := (true, "c685b5462e3b0903cb60ceaf4110c32c9a16516dde4928b789ab46d4b000d44a"), looks := true }, kinds := [], alts := [], laidByText := true, laidKinds := [.data, .data, .data, .data, .sentinel, .sentinel, .pinned], laidTests := true, laidLooks := .later }
def PlanStaysUptoCardSaid : Prop := Claim7.holds Tryz.pinned (.plain (OpenSpec.upto planStaysSpec)) planStaysUptoCard

/-- THE SECOND FORM's CARD OF 'slipwaylaw10.PlanBare'. -/
def planBareUptoCard : Claim7 := { stood := { row := planBareUptoRow, standIns := [], harness := (true, "c685b5462e3b0903cb60ceaf4110c32c9a16516dde4928b789ab46d4b000d44a"), looks := true }, kinds := [], alts := [], laidByText := true, laidKinds := [.data, .data, .data, .data, .sentinel, .sentinel, .pinned], laidTests := true, laidLooks := .later }
def PlanBareUptoCardSaid : Prop := Claim7.holds Tryz.pinned (.plain (OpenSpec.upto planBareSpec)) planBareUptoCard

/-- THE SECOND FORM's CARD OF 'slipwaylaw10.PlanBack'. -/
def planBackUptoCard : Claim7 := { stood := { row := planBackUptoRow, standIns := [], harness := (true, "c685b5462e3b0903cb60ceaf4110c32c9a16516dde4928b789ab46d4b000d44a"), looks := true }, kinds := [], alts := [], laidByText := true, laidKinds := [.data, .data, .data, .data, .sentinel, .sentinel, .pinned], laidTests := true, laidLooks := .later }
def PlanBackUptoCardSaid : Prop := Claim7.holds Tryz.pinned (.plain (OpenSpec.upto planBackSpec)) planBackUptoCard

/-- THE SECOND FORM's CARD OF 'slipwaylaw10.PlanRight'. -/
def planRightUptoCard : Claim7 := { stood := { row := planRightUptoRow, standIns := [], harness := (true, "c685b5462e3b0903cb60ceaf4110c32c9a16516dde4928b789ab46d4b000d44a"), looks := true }, kinds := [], alts := [], laidByText := true, laidKinds := [.data, .data, .data, .data, .sentinel, .sentinel, .pinned], laidTests := true, laidLooks := .later }
def PlanRightUptoCardSaid : Prop := Claim7.holds Tryz.pinned (.plain (OpenSpec.upto planRightSpec)) planRightUptoCard

/-- THE SECOND FORM's CARD OF 'slipwaylaw10.PlanFleets'. -/
def planFleetsUptoCard : Claim7 := { stood := { row := planFleetsUptoRow, standIns := [], harness := (true, "c685b5462e3b0903cb60ceaf4110c32c9a16516dde4928b789ab46d4b000d44a"), looks := true }, kinds := [], alts := [], laidByText := true, laidKinds := [.data, .data, .data, .data, .sentinel, .sentinel, .pinned], laidTests := true, laidLooks := .later }
def PlanFleetsUptoCardSaid : Prop := Claim7.holds Tryz.pinned (.plain (OpenSpec.upto planFleetsSpec)) planFleetsUptoCard

/-- THE SECOND FORM's CARD OF 'slipwaylaw10.PlanWays'. -/
def planWaysUptoCard : Claim7 := { stood := { row := planWaysUptoRow, standIns := [], harness := (true, "c685b5462e3b0903cb60ceaf4110c32c9a16516dde4928b789ab46d4b000d44a"), looks := true }, kinds := [], alts := [], laidByText := true, laidKinds := [.data, .data, .data, .data, .sentinel, .sentinel, .pinned], laidTests := true, laidLooks := .later }
def PlanWaysUptoCardSaid : Prop := Claim7.holds Tryz.pinned (.plain (OpenSpec.upto planWaysSpec)) planWaysUptoCard
end Rows
end Go.Proofs.YtikjlooifdgbaaaGreatDoor
