/-
  DERIVED. GIVEN WITH THE SEED: THE CARDS: each row of YtfmnnceacdpbdaaGreatDoorRows.lean that lists a variable, with what it lists TIED to the program's text (the seventh form; the later family's looks); each row that meets fmt, with fmt's text TOLD by the authors' own Lean function (tested against real Go, not proved from fmt's source: count such statements apart). THE CARD IS WHAT COUNTS. Prove the row's statement (the work); the ties are given (YtfmnnceacdpbdaaGreatDoorTie.lean); close each card by the builder's one call (the guide's Derived/Test/ToyasCard.lean, 'card_holds'). Laid BY PROGRAM, IN A SANDBOX (cutbox-door.mjs). By AI agents, Wed Nov 11 2026. No macro, syntax, notation, axiom, sorry.
-/
import Derived.Test.YtfmnnceacdpbdaaGreatDoorRows
import GoSem.ClaimSeven
namespace Go.Proofs.YtfmnnceacdpbdaaGreatDoor
namespace Rows

/-- THE TIED CARD OF 'chitilaw01.SurdMakes'. -/
def surdMakesCard : Claim7 := { stood := { row := surdMakesRow, standIns := [], harness := (true, "324177ef4fbd0c1daae2bd8fdee136b76484866bbb584809d915f9478043ae1d"), looks := true }, kinds := [], alts := [], laidByText := true, laidKinds := [.data, .data, .data, .data, .sentinel, .sentinel, .pinned], laidTests := true, laidLooks := .later }
def SurdMakesCardSaid : Prop := Claim7.holds Tryz.pinned (.plain (OpenSpec.ofChange surdMakesSpec)) surdMakesCard

/-- THE TIED CARD OF 'chitilaw01.SurdTimes'. -/
def surdTimesCard : Claim7 := { stood := { row := surdTimesRow, standIns := [], harness := (true, "324177ef4fbd0c1daae2bd8fdee136b76484866bbb584809d915f9478043ae1d"), looks := true }, kinds := [], alts := [], laidByText := true, laidKinds := [.data, .data, .data, .data, .sentinel, .sentinel, .pinned], laidTests := true, laidLooks := .later }
def SurdTimesCardSaid : Prop := Claim7.holds Tryz.pinned (.plain (OpenSpec.ofChange surdTimesSpec)) surdTimesCard

/-- THE TIED CARD OF 'chitilaw01.SurdBetween'. -/
def surdBetweenCard : Claim7 := { stood := { row := surdBetweenRow, standIns := [], harness := (true, "324177ef4fbd0c1daae2bd8fdee136b76484866bbb584809d915f9478043ae1d"), looks := true }, kinds := [], alts := [], laidByText := true, laidKinds := [.data, .data, .data, .data, .sentinel, .sentinel, .pinned], laidTests := true, laidLooks := .later }
def SurdBetweenCardSaid : Prop := Claim7.holds Tryz.pinned (.plain (OpenSpec.ofChange surdBetweenSpec)) surdBetweenCard

/-- THE TIED CARD OF 'chitilaw01.SurdSums'. -/
def surdSumsCard : Claim7 := { stood := { row := surdSumsRow, standIns := [], harness := (true, "324177ef4fbd0c1daae2bd8fdee136b76484866bbb584809d915f9478043ae1d"), looks := true }, kinds := [], alts := [], laidByText := true, laidKinds := [.data, .data, .data, .data, .sentinel, .sentinel, .pinned], laidTests := true, laidLooks := .later }
def SurdSumsCardSaid : Prop := Claim7.holds Tryz.pinned (.plain (OpenSpec.ofChange surdSumsSpec)) surdSumsCard

/-- THE TIED CARD OF 'chitilaw01.SurdSquares'. -/
def surdSquaresCard : Claim7 := { stood := { row := surdSquaresRow, standIns := [], harness := (true, "324177ef4fbd0c1daae2bd8fdee136b76484866bbb584809d915f9478043ae1d"), looks := true }, kinds := [], alts := [], laidByText := true, laidKinds := [.data, .data, .data, .data, .sentinel, .sentinel, .pinned], laidTests := true, laidLooks := .later }
def SurdSquaresCardSaid : Prop := Claim7.holds Tryz.pinned (.plain (OpenSpec.ofChange surdSquaresSpec)) surdSquaresCard

/-- THE TIED CARD OF 'chitilaw01.SurdField'. -/
def surdFieldCard : Claim7 := { stood := { row := surdFieldRow, standIns := [], harness := (true, "324177ef4fbd0c1daae2bd8fdee136b76484866bbb584809d915f9478043ae1d"), looks := true }, kinds := [], alts := [], laidByText := true, laidKinds := [.data, .data, .data, .data, .sentinel, .sentinel, .pinned], laidTests := true, laidLooks := .later }
def SurdFieldCardSaid : Prop := Claim7.holds Tryz.pinned (.plain (OpenSpec.ofChange surdFieldSpec)) surdFieldCard

/-- THE TIED CARD OF 'chitilaw01.SurdOrder'. -/
def surdOrderCard : Claim7 := { stood := { row := surdOrderRow, standIns := [], harness := (true, "324177ef4fbd0c1daae2bd8fdee136b76484866bbb584809d915f9478043ae1d"), looks := true }, kinds := [], alts := [], laidByText := true, laidKinds := [.data, .data, .data, .data, .sentinel, .sentinel, .pinned], laidTests := true, laidLooks := .later }
def SurdOrderCardSaid : Prop := Claim7.holds Tryz.pinned (.plain (OpenSpec.ofChange surdOrderSpec)) surdOrderCard

/-- THE SECOND FORM's CARD OF 'chitilaw01.SurdMakes'. -/
def surdMakesUptoCard : Claim7 := { stood := { row := surdMakesUptoRow, standIns := [], harness := (true, "324177ef4fbd0c1daae2bd8fdee136b76484866bbb584809d915f9478043ae1d"), looks := true }, kinds := [], alts := [], laidByText := true, laidKinds := [.data, .data, .data, .data, .sentinel, .sentinel, .pinned], laidTests := true, laidLooks := .later }
def SurdMakesUptoCardSaid : Prop := Claim7.holds Tryz.pinned (.plain (OpenSpec.upto surdMakesSpec)) surdMakesUptoCard

/-- THE SECOND FORM's CARD OF 'chitilaw01.SurdTimes'. -/
def surdTimesUptoCard : Claim7 := { stood := { row := surdTimesUptoRow, standIns := [], harness := (true, "324177ef4fbd0c1daae2bd8fdee136b76484866bbb584809d915f9478043ae1d"), looks := true }, kinds := [], alts := [], laidByText := true, laidKinds := [.data, .data, .data, .data, .sentinel, .sentinel, .pinned], laidTests := true, laidLooks := .later }
def SurdTimesUptoCardSaid : Prop := Claim7.holds Tryz.pinned (.plain (OpenSpec.upto surdTimesSpec)) surdTimesUptoCard

/-- THE SECOND FORM's CARD OF 'chitilaw01.SurdBetween'. -/
def surdBetweenUptoCard : Claim7 := { stood := { row := surdBetweenUptoRow, standIns := [], harness := (true, "324177ef4fbd0c1daae2bd8fdee136b76484866bbb584809d915f9478043ae1d"), looks := true }, kinds := [], alts := [], laidByText := true, laidKinds := [.data, .data, .data, .data, .sentinel, .sentinel, .pinned], laidTests := true, laidLooks := .later }
def SurdBetweenUptoCardSaid : Prop := Claim7.holds Tryz.pinned (.plain (OpenSpec.upto surdBetweenSpec)) surdBetweenUptoCard

/-- THE SECOND FORM's CARD OF 'chitilaw01.SurdSums'. -/
def surdSumsUptoCard : Claim7 := { stood := { row := surdSumsUptoRow, standIns := [], harness := (true, "324177ef4fbd0c1daae2bd8fdee136b76484866bbb584809d915f9478043ae1d"), looks := true }, kinds := [], alts := [], laidByText := true, laidKinds := [.data, .data, .data, .data, .sentinel, .sentinel, .pinned], laidTests := true, laidLooks := .later }
def SurdSumsUptoCardSaid : Prop := Claim7.holds Tryz.pinned (.plain (OpenSpec.upto surdSumsSpec)) surdSumsUptoCard

/-- THE SECOND FORM's CARD OF 'chitilaw01.SurdSquares'. -/
def surdSquaresUptoCard : Claim7 := { stood := { row := surdSquaresUptoRow, standIns := [], harness := (true, "324177ef4fbd0c1daae2bd8fdee136b76484866bbb584809d915f9478043ae1d"), looks := true }, kinds := [], alts := [], laidByText := true, laidKinds := [.data, .data, .data, .data, .sentinel, .sentinel, .pinned], laidTests := true, laidLooks := .later }
def SurdSquaresUptoCardSaid : Prop := Claim7.holds Tryz.pinned (.plain (OpenSpec.upto surdSquaresSpec)) surdSquaresUptoCard

/-- THE SECOND FORM's CARD OF 'chitilaw01.SurdField'. -/
def surdFieldUptoCard : Claim7 := { stood := { row := surdFieldUptoRow, standIns := [], harness := (true, "324177ef4fbd0c1daae2bd8fdee136b76484866bbb584809d915f9478043ae1d"), looks := true }, kinds := [], alts := [], laidByText := true, laidKinds := [.data, .data, .data, .data, .sentinel, .sentinel, .pinned], laidTests := true, laidLooks := .later }
def SurdFieldUptoCardSaid : Prop := Claim7.holds Tryz.pinned (.plain (OpenSpec.upto surdFieldSpec)) surdFieldUptoCard

/-- THE SECOND FORM's CARD OF 'chitilaw01.SurdOrder'. -/
def surdOrderUptoCard : Claim7 := { stood := { row := surdOrderUptoRow, standIns := [], harness := (true, "324177ef4fbd0c1daae2bd8fdee136b76484866bbb584809d915f9478043ae1d"), looks := true }, kinds := [], alts := [], laidByText := true, laidKinds := [.data, .data, .data, .data, .sentinel, .sentinel, .pinned], laidTests := true, laidLooks := .later }
def SurdOrderUptoCardSaid : Prop := Claim7.holds Tryz.pinned (.plain (OpenSpec.upto surdOrderSpec)) surdOrderUptoCard
end Rows
end Go.Proofs.YtfmnnceacdpbdaaGreatDoor
