/-
  DERIVED. GIVEN WITH THE SEED: THE CARDS: each row of YtdjdfdfelcnpmaaGreatDoorRows.lean that lists a variable, with what it lists TIED to the program's text (the seventh form; the later family's looks); each row that meets fmt, with fmt's text TOLD by the authors' own Lean function (tested against real Go, not proved from fmt's source: count such statements apart). THE CARD IS WHAT COUNTS. Prove the row's statement (the work); the ties are given (YtdjdfdfelcnpmaaGreatDoorTie.lean); close each card by the builder's one call (the guide's Derived/Test/ToyasCard.lean, 'card_holds'). Laid BY PROGRAM, IN A SANDBOX (cutbox-door.mjs). By AI agents, Wed Nov 11 2026. No macro, syntax, notation, axiom, sorry.
-/
import Derived.Test.YtdjdfdfelcnpmaaGreatDoorRows
import GoSem.ClaimSeven
namespace Go.Proofs.YtdjdfdfelcnpmaaGreatDoor
namespace Rows

/-- THE TIED CARD OF 'slipwaylaw06.CatalogChecks'. -/
def catalogChecksCard : Claim7 := { stood := { row := catalogChecksRow, standIns := [], harness := (true, "d83a8fdf03a471f22daa123a2c74376a117a1f444db099d29854c5882c7d10e1"), looks := true }, kinds := [], alts := [], laidByText := true, laidKinds := [.data, .data, .data, .data, .sentinel, .sentinel, .pinned], laidTests := true, laidLooks := .later }
def CatalogChecksCardSaid : Prop := Claim7.holds Tryz.pinned (.plain (OpenSpec.ofChange catalogChecksSpec)) catalogChecksCard

/-- THE TIED CARD OF 'slipwaylaw06.CatalogGraphs'. -/
def catalogGraphsCard : Claim7 := { stood := { row := catalogGraphsRow, standIns := [], harness := (true, "d83a8fdf03a471f22daa123a2c74376a117a1f444db099d29854c5882c7d10e1"), looks := true }, kinds := [], alts := [], laidByText := true, laidKinds := [.data, .data, .data, .data, .sentinel, .sentinel, .pinned], laidTests := true, laidLooks := .later }
def CatalogGraphsCardSaid : Prop := Claim7.holds Tryz.pinned (.plain (OpenSpec.ofChange catalogGraphsSpec)) catalogGraphsCard

/-- THE TIED CARD OF 'slipwaylaw06.CatalogFits'. -/
def catalogFitsCard : Claim7 := { stood := { row := catalogFitsRow, standIns := [], harness := (true, "d83a8fdf03a471f22daa123a2c74376a117a1f444db099d29854c5882c7d10e1"), looks := true }, kinds := [], alts := [], laidByText := true, laidKinds := [.data, .data, .data, .data, .sentinel, .sentinel, .pinned], laidTests := true, laidLooks := .later }
def CatalogFitsCardSaid : Prop := Claim7.holds Tryz.pinned (.plain (OpenSpec.ofChange catalogFitsSpec)) catalogFitsCard

/-- THE TIED CARD OF 'slipwaylaw06.CatalogSettled'. -/
def catalogSettledCard : Claim7 := { stood := { row := catalogSettledRow, standIns := [], harness := (true, "d83a8fdf03a471f22daa123a2c74376a117a1f444db099d29854c5882c7d10e1"), looks := true }, kinds := [], alts := [], laidByText := true, laidKinds := [.data, .data, .data, .data, .sentinel, .sentinel, .pinned], laidTests := true, laidLooks := .later }
def CatalogSettledCardSaid : Prop := Claim7.holds Tryz.pinned (.plain (OpenSpec.ofChange catalogSettledSpec)) catalogSettledCard

/-- THE TIED CARD OF 'slipwaylaw06.CatalogMoves'. -/
def catalogMovesCard : Claim7 := { stood := { row := catalogMovesRow, standIns := [], harness := (true, "d83a8fdf03a471f22daa123a2c74376a117a1f444db099d29854c5882c7d10e1"), looks := true }, kinds := [], alts := [], laidByText := true, laidKinds := [.data, .data, .data, .data, .sentinel, .sentinel, .pinned], laidTests := true, laidLooks := .later }
def CatalogMovesCardSaid : Prop := Claim7.holds Tryz.pinned (.plain (OpenSpec.ofChange catalogMovesSpec)) catalogMovesCard

/-- THE TIED CARD OF 'slipwaylaw06.CatalogClones'. -/
def catalogClonesCard : Claim7 := { stood := { row := catalogClonesRow, standIns := [], harness := (true, "d83a8fdf03a471f22daa123a2c74376a117a1f444db099d29854c5882c7d10e1"), looks := true }, kinds := [], alts := [], laidByText := true, laidKinds := [.data, .data, .data, .data, .sentinel, .sentinel, .pinned], laidTests := true, laidLooks := .later }
def CatalogClonesCardSaid : Prop := Claim7.holds Tryz.pinned (.plain (OpenSpec.ofChange catalogClonesSpec)) catalogClonesCard

/-- THE TIED CARD OF 'slipwaylaw06.CatalogBare'. -/
def catalogBareCard : Claim7 := { stood := { row := catalogBareRow, standIns := [], harness := (true, "d83a8fdf03a471f22daa123a2c74376a117a1f444db099d29854c5882c7d10e1"), looks := true }, kinds := [], alts := [], laidByText := true, laidKinds := [.data, .data, .data, .data, .sentinel, .sentinel, .pinned], laidTests := true, laidLooks := .later }
def CatalogBareCardSaid : Prop := Claim7.holds Tryz.pinned (.plain (OpenSpec.ofChange catalogBareSpec)) catalogBareCard

/-- THE SECOND FORM's CARD OF 'slipwaylaw06.CatalogChecks'. -/
def catalogChecksUptoCard : Claim7 := { stood := { row := catalogChecksUptoRow, standIns := [], harness := (true, "d83a8fdf03a471f22daa123a2c74376a117a1f444db099d29854c5882c7d10e1"), looks := true }, kinds := [], alts := [], laidByText := true, laidKinds := [.data, .data, .data, .data, .sentinel, .sentinel, .pinned], laidTests := true, laidLooks := .later }
def CatalogChecksUptoCardSaid : Prop := Claim7.holds Tryz.pinned (.plain (OpenSpec.upto catalogChecksSpec)) catalogChecksUptoCard

/-- THE SECOND FORM's CARD OF 'slipwaylaw06.CatalogGraphs'. -/
def catalogGraphsUptoCard : Claim7 := { stood := { row := catalogGraphsUptoRow, standIns := [], harness := (true, "d83a8fdf03a471f22daa123a2c74376a117a1f444db099d29854c5882c7d10e1"), looks := true }, kinds := [], alts := [], laidByText := true, laidKinds := [.data, .data, .data, .data, .sentinel, .sentinel, .pinned], laidTests := true, laidLooks := .later }
def CatalogGraphsUptoCardSaid : Prop := Claim7.holds Tryz.pinned (.plain (OpenSpec.upto catalogGraphsSpec)) catalogGraphsUptoCard

/-- THE SECOND FORM's CARD OF 'slipwaylaw06.CatalogFits'. -/
def catalogFitsUptoCard : Claim7 := { stood := { row := catalogFitsUptoRow, standIns := [], harness := (true, "d83a8fdf03a471f22daa123a2c74376a117a1f444db099d29854c5882c7d10e1"), looks := true }, kinds := [], alts := [], laidByText := true, laidKinds := [.data, .data, .data, .data, .sentinel, .sentinel, .pinned], laidTests := true, laidLooks := .later }
def CatalogFitsUptoCardSaid : Prop := Claim7.holds Tryz.pinned (.plain (OpenSpec.upto catalogFitsSpec)) catalogFitsUptoCard

/-- THE SECOND FORM's CARD OF 'slipwaylaw06.CatalogSettled'. -/
def catalogSettledUptoCard : Claim7 := { stood := { row := catalogSettledUptoRow, standIns := [], harness := (true, "d83a8fdf03a471f22daa123a2c74376a117a1f444db099d29854c5882c7d10e1"), looks := true }, kinds := [], alts := [], laidByText := true, laidKinds := [.data, .data, .data, .data, .sentinel, .sentinel, .pinned], laidTests := true, laidLooks := .later }
def CatalogSettledUptoCardSaid : Prop := Claim7.holds Tryz.pinned (.plain (OpenSpec.upto catalogSettledSpec)) catalogSettledUptoCard

/-- THE SECOND FORM's CARD OF 'slipwaylaw06.CatalogMoves'. -/
def catalogMovesUptoCard : Claim7 := { stood := { row := catalogMovesUptoRow, standIns := [], harness := (true, "d83a8fdf03a471f22daa123a2c74376a117a1f444db099d29854c5882c7d10e1"), looks := true }, kinds := [], alts := [], laidByText := true, laidKinds := [.data, .data, .data, .data, .sentinel, .sentinel, .pinned], laidTests := true, laidLooks := .later }
def CatalogMovesUptoCardSaid : Prop := Claim7.holds Tryz.pinned (.plain (OpenSpec.upto catalogMovesSpec)) catalogMovesUptoCard

/-- THE SECOND FORM's CARD OF 'slipwaylaw06.CatalogClones'. -/
def catalogClonesUptoCard : Claim7 := { stood := { row := catalogClonesUptoRow, standIns := [], harness := (true, "d83a8fdf03a471f22daa123a2c74376a117a1f444db099d29854c5882c7d10e1"), looks := true }, kinds := [], alts := [], laidByText := true, laidKinds := [.data, .data, .data, .data, .sentinel, .sentinel, .pinned], laidTests := true, laidLooks := .later }
def CatalogClonesUptoCardSaid : Prop := Claim7.holds Tryz.pinned (.plain (OpenSpec.upto catalogClonesSpec)) catalogClonesUptoCard

/-- THE SECOND FORM's CARD OF 'slipwaylaw06.CatalogBare'. -/
def catalogBareUptoCard : Claim7 := { stood := { row := catalogBareUptoRow, standIns := [], harness := (true, "d83a8fdf03a471f22daa123a2c74376a117a1f444db099d29854c5882c7d10e1"), looks := true }, kinds := [], alts := [], laidByText := true, laidKinds := [.data, .data, .data, .data, .sentinel, .sentinel, .pinned], laidTests := true, laidLooks := .later }
def CatalogBareUptoCardSaid : Prop := Claim7.holds Tryz.pinned (.plain (OpenSpec.upto catalogBareSpec)) catalogBareUptoCard
end Rows
end Go.Proofs.YtdjdfdfelcnpmaaGreatDoor
