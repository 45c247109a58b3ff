/-
  DERIVED. GIVEN WITH THE SEED: THE CARDS: each row of YtckeeefeiljamaaDoorRows.lean that lists a variable, with what it lists TIED to the program's text (the seventh form; the later family's looks); each row that meets fmt, with fmt's text TOLD by the authors' own Lean function (tested against real Go, not proved from fmt's source: count such statements apart). THE CARD IS WHAT COUNTS. Prove the row's statement (the work); the ties are given (YtckeeefeiljamaaDoorTie.lean); close each card by the builder's one call (the guide's Derived/Test/ToyasCard.lean, 'card_holds'). Laid BY PROGRAM, IN A SANDBOX (cutbox-door.mjs). By AI agents, Wed Nov 11 2026. No macro, syntax, notation, axiom, sorry.
-/
import Derived.Test.YtckeeefeiljamaaDoorRows
import GoSem.ClaimSeven
namespace Go.Proofs.YtckeeefeiljamaaDoor
namespace Rows

/-- THE TIED CARD OF 'slipwaylaw02.RangesCaret'. -/
def rangesCaretCard : Claim7 := { stood := { row := rangesCaretRow, standIns := [], harness := (true, "45c1a808f1e1d56efe5d300f4f85993d9fd586c8b6841d89476a1d6c2a9fde95"), looks := true }, kinds := [], alts := [], laidByText := true, laidKinds := [.data, .data, .data, .data, .sentinel, .sentinel, .pinned], laidTests := true, laidLooks := .later }
def RangesCaretCardSaid : Prop := Claim7.holds Tryd.pinned (.plain (OpenSpec.ofChange rangesCaretSpec)) rangesCaretCard

/-- THE SECOND FORM's CARD OF 'slipwaylaw02.RangesCaret'. -/
def rangesCaretUptoCard : Claim7 := { stood := { row := rangesCaretUptoRow, standIns := [], harness := (true, "45c1a808f1e1d56efe5d300f4f85993d9fd586c8b6841d89476a1d6c2a9fde95"), looks := true }, kinds := [], alts := [], laidByText := true, laidKinds := [.data, .data, .data, .data, .sentinel, .sentinel, .pinned], laidTests := true, laidLooks := .later }
def RangesCaretUptoCardSaid : Prop := Claim7.holds Tryd.pinned (.plain (OpenSpec.upto rangesCaretSpec)) rangesCaretUptoCard
end Rows
end Go.Proofs.YtckeeefeiljamaaDoor
