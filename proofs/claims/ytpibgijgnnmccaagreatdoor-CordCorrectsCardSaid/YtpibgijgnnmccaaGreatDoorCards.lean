/-
  DERIVED. GIVEN WITH THE SEED: THE CARDS: each row of YtpibgijgnnmccaaGreatDoorRows.lean that lists a variable, with what it lists TIED to the program's text (the seventh form; the later family's looks); each row that meets fmt, with fmt's text TOLD by the authors' own Lean function (tested against real Go, not proved from fmt's source: count such statements apart). THE CARD IS WHAT COUNTS. Prove the row's statement (the work); the ties are given (YtpibgijgnnmccaaGreatDoorTie.lean); close each card by the builder's one call (the guide's Derived/Test/ToyasCard.lean, 'card_holds'). Laid BY PROGRAM, IN A SANDBOX (cutbox-door.mjs). By AI agents, Wed Nov 11 2026. No macro, syntax, notation, axiom, sorry.
-/
import Derived.Test.YtpibgijgnnmccaaGreatDoorRows
import GoSem.ClaimSeven
namespace Go.Proofs.YtpibgijgnnmccaaGreatDoor
namespace Rows

/-- THE TIED CARD OF 'chitilaw02.CordCorrects'. -/
def cordCorrectsCard : Claim7 := { stood := { row := cordCorrectsRow, standIns := [], harness := (true, "6a36370ec73bc8bd626242691d56a5b736f0a913124475104c64ca996f6f55be"), looks := true }, kinds := [], alts := [], laidByText := true, laidKinds := [.data, .data, .data, .sentinel, .sentinel], laidTests := true, laidLooks := .later }
def CordCorrectsCardSaid : Prop := Claim7.holds Tryz.pinned (.plain (OpenSpec.ofChange cordCorrectsSpec)) cordCorrectsCard

/-- THE TIED CARD OF 'chitilaw02.CordRules'. -/
def cordRulesCard : Claim7 := { stood := { row := cordRulesRow, standIns := [], harness := (true, "6a36370ec73bc8bd626242691d56a5b736f0a913124475104c64ca996f6f55be"), looks := true }, kinds := [], alts := [], laidByText := true, laidKinds := [.data, .data, .data, .sentinel, .sentinel], laidTests := true, laidLooks := .later }
def CordRulesCardSaid : Prop := Claim7.holds Tryz.pinned (.plain (OpenSpec.ofChange cordRulesSpec)) cordRulesCard

/-- THE TIED CARD OF 'chitilaw02.CordOffs'. -/
def cordOffsCard : Claim7 := { stood := { row := cordOffsRow, standIns := [], harness := (true, "6a36370ec73bc8bd626242691d56a5b736f0a913124475104c64ca996f6f55be"), looks := true }, kinds := [], alts := [], laidByText := true, laidKinds := [.data, .data, .data, .sentinel, .sentinel], laidTests := true, laidLooks := .later }
def CordOffsCardSaid : Prop := Claim7.holds Tryz.pinned (.plain (OpenSpec.ofChange cordOffsSpec)) cordOffsCard

/-- THE TIED CARD OF 'chitilaw02.CordTakes'. -/
def cordTakesCard : Claim7 := { stood := { row := cordTakesRow, standIns := [], harness := (true, "6a36370ec73bc8bd626242691d56a5b736f0a913124475104c64ca996f6f55be"), looks := true }, kinds := [], alts := [], laidByText := true, laidKinds := [.data, .data, .data, .sentinel, .sentinel], laidTests := true, laidLooks := .later }
def CordTakesCardSaid : Prop := Claim7.holds Tryz.pinned (.plain (OpenSpec.ofChange cordTakesSpec)) cordTakesCard

/-- THE TIED CARD OF 'chitilaw02.CordNearest'. -/
def cordNearestCard : Claim7 := { stood := { row := cordNearestRow, standIns := [], harness := (true, "6a36370ec73bc8bd626242691d56a5b736f0a913124475104c64ca996f6f55be"), looks := true }, kinds := [], alts := [], laidByText := true, laidKinds := [.data, .data, .data, .sentinel, .sentinel], laidTests := true, laidLooks := .later }
def CordNearestCardSaid : Prop := Claim7.holds Tryz.pinned (.plain (OpenSpec.ofChange cordNearestSpec)) cordNearestCard

/-- THE TIED CARD OF 'chitilaw01.SurdMakes'. -/
def surdMakesCard : Claim7 := { stood := { row := surdMakesRow, standIns := [], harness := (true, "6a36370ec73bc8bd626242691d56a5b736f0a913124475104c64ca996f6f55be"), looks := true }, kinds := [], alts := [], laidByText := true, laidKinds := [.data, .data, .data, .data, .sentinel, .sentinel, .pinned], laidTests := true, laidLooks := .later }
def SurdMakesCardSaid : Prop := Claim7.holds Tryz.pinned (.plain (OpenSpec.ofChange surdMakesSpec)) surdMakesCard

/-- THE TIED CARD OF 'chitilaw01.SurdRoots'. -/
def surdRootsCard : Claim7 := { stood := { row := surdRootsRow, standIns := [], harness := (true, "6a36370ec73bc8bd626242691d56a5b736f0a913124475104c64ca996f6f55be"), looks := true }, kinds := [], alts := [], laidByText := true, laidKinds := [.data, .data, .data, .data, .sentinel, .sentinel, .pinned], laidTests := true, laidLooks := .later }
def SurdRootsCardSaid : Prop := Claim7.holds Tryz.pinned (.plain (OpenSpec.ofChange surdRootsSpec)) surdRootsCard

/-- THE TIED CARD OF 'chitilaw01.SurdBounds'. -/
def surdBoundsCard : Claim7 := { stood := { row := surdBoundsRow, standIns := [], harness := (true, "6a36370ec73bc8bd626242691d56a5b736f0a913124475104c64ca996f6f55be"), looks := true }, kinds := [], alts := [], laidByText := true, laidKinds := [.data, .data, .data, .data, .sentinel, .sentinel, .pinned], laidTests := true, laidLooks := .later }
def SurdBoundsCardSaid : Prop := Claim7.holds Tryz.pinned (.plain (OpenSpec.ofChange surdBoundsSpec)) surdBoundsCard

/-- THE TIED CARD OF 'chitilaw01.SurdTexts'. -/
def surdTextsCard : Claim7 := { stood := { row := surdTextsRow, standIns := [], harness := (true, "6a36370ec73bc8bd626242691d56a5b736f0a913124475104c64ca996f6f55be"), looks := true }, kinds := [], alts := [], laidByText := true, laidKinds := [.data, .data, .data, .data, .sentinel, .sentinel, .pinned], laidTests := true, laidLooks := .later }
def SurdTextsCardSaid : Prop := Claim7.holds Tryz.pinned (.plain (OpenSpec.ofChange surdTextsSpec)) surdTextsCard

/-- THE TIED CARD OF 'chitilaw01.SurdSpelled'. -/
def surdSpelledCard : Claim7 := { stood := { row := surdSpelledRow, standIns := [], harness := (true, "6a36370ec73bc8bd626242691d56a5b736f0a913124475104c64ca996f6f55be"), looks := true }, kinds := [], alts := [], laidByText := true, laidKinds := [.data, .data, .data, .data, .sentinel, .sentinel, .pinned], laidTests := true, laidLooks := .later }
def SurdSpelledCardSaid : Prop := Claim7.holds Tryz.pinned (.plain (OpenSpec.ofChange surdSpelledSpec)) surdSpelledCard

/-- THE TIED CARD OF 'chitilaw01.SurdTimes'. -/
def surdTimesCard : Claim7 := { stood := { row := surdTimesRow, standIns := [], harness := (true, "6a36370ec73bc8bd626242691d56a5b736f0a913124475104c64ca996f6f55be"), looks := true }, kinds := [], alts := [], laidByText := true, laidKinds := [.data, .data, .data, .data, .sentinel, .sentinel, .pinned], laidTests := true, laidLooks := .later }
def SurdTimesCardSaid : Prop := Claim7.holds Tryz.pinned (.plain (OpenSpec.ofChange surdTimesSpec)) surdTimesCard

/-- THE TIED CARD OF 'chitilaw01.SurdOrders'. -/
def surdOrdersCard : Claim7 := { stood := { row := surdOrdersRow, standIns := [], harness := (true, "6a36370ec73bc8bd626242691d56a5b736f0a913124475104c64ca996f6f55be"), looks := true }, kinds := [], alts := [], laidByText := true, laidKinds := [.data, .data, .data, .data, .sentinel, .sentinel, .pinned], laidTests := true, laidLooks := .later }
def SurdOrdersCardSaid : Prop := Claim7.holds Tryz.pinned (.plain (OpenSpec.ofChange surdOrdersSpec)) surdOrdersCard

/-- THE TIED CARD OF 'chitilaw01.SurdBetween'. -/
def surdBetweenCard : Claim7 := { stood := { row := surdBetweenRow, standIns := [], harness := (true, "6a36370ec73bc8bd626242691d56a5b736f0a913124475104c64ca996f6f55be"), looks := true }, kinds := [], alts := [], laidByText := true, laidKinds := [.data, .data, .data, .data, .sentinel, .sentinel, .pinned], laidTests := true, laidLooks := .later }
def SurdBetweenCardSaid : Prop := Claim7.holds Tryz.pinned (.plain (OpenSpec.ofChange surdBetweenSpec)) surdBetweenCard

/-- THE TIED CARD OF 'chitilaw01.SurdSums'. -/
def surdSumsCard : Claim7 := { stood := { row := surdSumsRow, standIns := [], harness := (true, "6a36370ec73bc8bd626242691d56a5b736f0a913124475104c64ca996f6f55be"), looks := true }, kinds := [], alts := [], laidByText := true, laidKinds := [.data, .data, .data, .data, .sentinel, .sentinel, .pinned], laidTests := true, laidLooks := .later }
def SurdSumsCardSaid : Prop := Claim7.holds Tryz.pinned (.plain (OpenSpec.ofChange surdSumsSpec)) surdSumsCard

/-- THE TIED CARD OF 'chitilaw01.SurdSquares'. -/
def surdSquaresCard : Claim7 := { stood := { row := surdSquaresRow, standIns := [], harness := (true, "6a36370ec73bc8bd626242691d56a5b736f0a913124475104c64ca996f6f55be"), looks := true }, kinds := [], alts := [], laidByText := true, laidKinds := [.data, .data, .data, .data, .sentinel, .sentinel, .pinned], laidTests := true, laidLooks := .later }
def SurdSquaresCardSaid : Prop := Claim7.holds Tryz.pinned (.plain (OpenSpec.ofChange surdSquaresSpec)) surdSquaresCard

/-- THE TIED CARD OF 'chitilaw01.SurdField'. -/
def surdFieldCard : Claim7 := { stood := { row := surdFieldRow, standIns := [], harness := (true, "6a36370ec73bc8bd626242691d56a5b736f0a913124475104c64ca996f6f55be"), looks := true }, kinds := [], alts := [], laidByText := true, laidKinds := [.data, .data, .data, .data, .sentinel, .sentinel, .pinned], laidTests := true, laidLooks := .later }
def SurdFieldCardSaid : Prop := Claim7.holds Tryz.pinned (.plain (OpenSpec.ofChange surdFieldSpec)) surdFieldCard

/-- THE TIED CARD OF 'chitilaw01.SurdOrder'. -/
def surdOrderCard : Claim7 := { stood := { row := surdOrderRow, standIns := [], harness := (true, "6a36370ec73bc8bd626242691d56a5b736f0a913124475104c64ca996f6f55be"), looks := true }, kinds := [], alts := [], laidByText := true, laidKinds := [.data, .data, .data, .data, .sentinel, .sentinel, .pinned], laidTests := true, laidLooks := .later }
def SurdOrderCardSaid : Prop := Claim7.holds Tryz.pinned (.plain (OpenSpec.ofChange surdOrderSpec)) surdOrderCard

/-- THE SECOND FORM's CARD OF 'chitilaw02.CordCorrects'. -/
def cordCorrectsUptoCard : Claim7 := { stood := { row := cordCorrectsUptoRow, standIns := [], harness := (true, "6a36370ec73bc8bd626242691d56a5b736f0a913124475104c64ca996f6f55be"), looks := true }, kinds := [], alts := [], laidByText := true, laidKinds := [.data, .data, .data, .sentinel, .sentinel], laidTests := true, laidLooks := .later }
def CordCorrectsUptoCardSaid : Prop := Claim7.holds Tryz.pinned (.plain (OpenSpec.upto cordCorrectsSpec)) cordCorrectsUptoCard

/-- THE SECOND FORM's CARD OF 'chitilaw02.CordRules'. -/
def cordRulesUptoCard : Claim7 := { stood := { row := cordRulesUptoRow, standIns := [], harness := (true, "6a36370ec73bc8bd626242691d56a5b736f0a913124475104c64ca996f6f55be"), looks := true }, kinds := [], alts := [], laidByText := true, laidKinds := [.data, .data, .data, .sentinel, .sentinel], laidTests := true, laidLooks := .later }
def CordRulesUptoCardSaid : Prop := Claim7.holds Tryz.pinned (.plain (OpenSpec.upto cordRulesSpec)) cordRulesUptoCard

/-- THE SECOND FORM's CARD OF 'chitilaw02.CordOffs'. -/
def cordOffsUptoCard : Claim7 := { stood := { row := cordOffsUptoRow, standIns := [], harness := (true, "6a36370ec73bc8bd626242691d56a5b736f0a913124475104c64ca996f6f55be"), looks := true }, kinds := [], alts := [], laidByText := true, laidKinds := [.data, .data, .data, .sentinel, .sentinel], laidTests := true, laidLooks := .later }
def CordOffsUptoCardSaid : Prop := Claim7.holds Tryz.pinned (.plain (OpenSpec.upto cordOffsSpec)) cordOffsUptoCard

/-- THE SECOND FORM's CARD OF 'chitilaw02.CordTakes'. -/
def cordTakesUptoCard : Claim7 := { stood := { row := cordTakesUptoRow, standIns := [], harness := (true, "6a36370ec73bc8bd626242691d56a5b736f0a913124475104c64ca996f6f55be"), looks := true }, kinds := [], alts := [], laidByText := true, laidKinds := [.data, .data, .data, .sentinel, .sentinel], laidTests := true, laidLooks := .later }
def CordTakesUptoCardSaid : Prop := Claim7.holds Tryz.pinned (.plain (OpenSpec.upto cordTakesSpec)) cordTakesUptoCard

/-- THE SECOND FORM's CARD OF 'chitilaw02.CordNearest'. -/
def cordNearestUptoCard : Claim7 := { stood := { row := cordNearestUptoRow, standIns := [], harness := (true, "6a36370ec73bc8bd626242691d56a5b736f0a913124475104c64ca996f6f55be"), looks := true }, kinds := [], alts := [], laidByText := true, laidKinds := [.data, .data, .data, .sentinel, .sentinel], laidTests := true, laidLooks := .later }
def CordNearestUptoCardSaid : Prop := Claim7.holds Tryz.pinned (.plain (OpenSpec.upto cordNearestSpec)) cordNearestUptoCard

/-- THE SECOND FORM's CARD OF 'chitilaw01.SurdMakes'. -/
def surdMakesUptoCard : Claim7 := { stood := { row := surdMakesUptoRow, standIns := [], harness := (true, "6a36370ec73bc8bd626242691d56a5b736f0a913124475104c64ca996f6f55be"), looks := true }, kinds := [], alts := [], laidByText := true, laidKinds := [.data, .data, .data, .data, .sentinel, .sentinel, .pinned], laidTests := true, laidLooks := .later }
def SurdMakesUptoCardSaid : Prop := Claim7.holds Tryz.pinned (.plain (OpenSpec.upto surdMakesSpec)) surdMakesUptoCard

/-- THE SECOND FORM's CARD OF 'chitilaw01.SurdRoots'. -/
def surdRootsUptoCard : Claim7 := { stood := { row := surdRootsUptoRow, standIns := [], harness := (true, "6a36370ec73bc8bd626242691d56a5b736f0a913124475104c64ca996f6f55be"), looks := true }, kinds := [], alts := [], laidByText := true, laidKinds := [.data, .data, .data, .data, .sentinel, .sentinel, .pinned], laidTests := true, laidLooks := .later }
def SurdRootsUptoCardSaid : Prop := Claim7.holds Tryz.pinned (.plain (OpenSpec.upto surdRootsSpec)) surdRootsUptoCard

/-- THE SECOND FORM's CARD OF 'chitilaw01.SurdBounds'. -/
def surdBoundsUptoCard : Claim7 := { stood := { row := surdBoundsUptoRow, standIns := [], harness := (true, "6a36370ec73bc8bd626242691d56a5b736f0a913124475104c64ca996f6f55be"), looks := true }, kinds := [], alts := [], laidByText := true, laidKinds := [.data, .data, .data, .data, .sentinel, .sentinel, .pinned], laidTests := true, laidLooks := .later }
def SurdBoundsUptoCardSaid : Prop := Claim7.holds Tryz.pinned (.plain (OpenSpec.upto surdBoundsSpec)) surdBoundsUptoCard

/-- THE SECOND FORM's CARD OF 'chitilaw01.SurdTexts'. -/
def surdTextsUptoCard : Claim7 := { stood := { row := surdTextsUptoRow, standIns := [], harness := (true, "6a36370ec73bc8bd626242691d56a5b736f0a913124475104c64ca996f6f55be"), looks := true }, kinds := [], alts := [], laidByText := true, laidKinds := [.data, .data, .data, .data, .sentinel, .sentinel, .pinned], laidTests := true, laidLooks := .later }
def SurdTextsUptoCardSaid : Prop := Claim7.holds Tryz.pinned (.plain (OpenSpec.upto surdTextsSpec)) surdTextsUptoCard

/-- THE SECOND FORM's CARD OF 'chitilaw01.SurdSpelled'. -/
def surdSpelledUptoCard : Claim7 := { stood := { row := surdSpelledUptoRow, standIns := [], harness := (true, "6a36370ec73bc8bd626242691d56a5b736f0a913124475104c64ca996f6f55be"), looks := true }, kinds := [], alts := [], laidByText := true, laidKinds := [.data, .data, .data, .data, .sentinel, .sentinel, .pinned], laidTests := true, laidLooks := .later }
def SurdSpelledUptoCardSaid : Prop := Claim7.holds Tryz.pinned (.plain (OpenSpec.upto surdSpelledSpec)) surdSpelledUptoCard

/-- THE SECOND FORM's CARD OF 'chitilaw01.SurdTimes'. -/
def surdTimesUptoCard : Claim7 := { stood := { row := surdTimesUptoRow, standIns := [], harness := (true, "6a36370ec73bc8bd626242691d56a5b736f0a913124475104c64ca996f6f55be"), looks := true }, kinds := [], alts := [], laidByText := true, laidKinds := [.data, .data, .data, .data, .sentinel, .sentinel, .pinned], laidTests := true, laidLooks := .later }
def SurdTimesUptoCardSaid : Prop := Claim7.holds Tryz.pinned (.plain (OpenSpec.upto surdTimesSpec)) surdTimesUptoCard

/-- THE SECOND FORM's CARD OF 'chitilaw01.SurdOrders'. -/
def surdOrdersUptoCard : Claim7 := { stood := { row := surdOrdersUptoRow, standIns := [], harness := (true, "6a36370ec73bc8bd626242691d56a5b736f0a913124475104c64ca996f6f55be"), looks := true }, kinds := [], alts := [], laidByText := true, laidKinds := [.data, .data, .data, .data, .sentinel, .sentinel, .pinned], laidTests := true, laidLooks := .later }
def SurdOrdersUptoCardSaid : Prop := Claim7.holds Tryz.pinned (.plain (OpenSpec.upto surdOrdersSpec)) surdOrdersUptoCard

/-- THE SECOND FORM's CARD OF 'chitilaw01.SurdBetween'. -/
def surdBetweenUptoCard : Claim7 := { stood := { row := surdBetweenUptoRow, standIns := [], harness := (true, "6a36370ec73bc8bd626242691d56a5b736f0a913124475104c64ca996f6f55be"), looks := true }, kinds := [], alts := [], laidByText := true, laidKinds := [.data, .data, .data, .data, .sentinel, .sentinel, .pinned], laidTests := true, laidLooks := .later }
def SurdBetweenUptoCardSaid : Prop := Claim7.holds Tryz.pinned (.plain (OpenSpec.upto surdBetweenSpec)) surdBetweenUptoCard

/-- THE SECOND FORM's CARD OF 'chitilaw01.SurdSums'. -/
def surdSumsUptoCard : Claim7 := { stood := { row := surdSumsUptoRow, standIns := [], harness := (true, "6a36370ec73bc8bd626242691d56a5b736f0a913124475104c64ca996f6f55be"), looks := true }, kinds := [], alts := [], laidByText := true, laidKinds := [.data, .data, .data, .data, .sentinel, .sentinel, .pinned], laidTests := true, laidLooks := .later }
def SurdSumsUptoCardSaid : Prop := Claim7.holds Tryz.pinned (.plain (OpenSpec.upto surdSumsSpec)) surdSumsUptoCard

/-- THE SECOND FORM's CARD OF 'chitilaw01.SurdSquares'. -/
def surdSquaresUptoCard : Claim7 := { stood := { row := surdSquaresUptoRow, standIns := [], harness := (true, "6a36370ec73bc8bd626242691d56a5b736f0a913124475104c64ca996f6f55be"), looks := true }, kinds := [], alts := [], laidByText := true, laidKinds := [.data, .data, .data, .data, .sentinel, .sentinel, .pinned], laidTests := true, laidLooks := .later }
def SurdSquaresUptoCardSaid : Prop := Claim7.holds Tryz.pinned (.plain (OpenSpec.upto surdSquaresSpec)) surdSquaresUptoCard

/-- THE SECOND FORM's CARD OF 'chitilaw01.SurdField'. -/
def surdFieldUptoCard : Claim7 := { stood := { row := surdFieldUptoRow, standIns := [], harness := (true, "6a36370ec73bc8bd626242691d56a5b736f0a913124475104c64ca996f6f55be"), looks := true }, kinds := [], alts := [], laidByText := true, laidKinds := [.data, .data, .data, .data, .sentinel, .sentinel, .pinned], laidTests := true, laidLooks := .later }
def SurdFieldUptoCardSaid : Prop := Claim7.holds Tryz.pinned (.plain (OpenSpec.upto surdFieldSpec)) surdFieldUptoCard

/-- THE SECOND FORM's CARD OF 'chitilaw01.SurdOrder'. -/
def surdOrderUptoCard : Claim7 := { stood := { row := surdOrderUptoRow, standIns := [], harness := (true, "6a36370ec73bc8bd626242691d56a5b736f0a913124475104c64ca996f6f55be"), looks := true }, kinds := [], alts := [], laidByText := true, laidKinds := [.data, .data, .data, .data, .sentinel, .sentinel, .pinned], laidTests := true, laidLooks := .later }
def SurdOrderUptoCardSaid : Prop := Claim7.holds Tryz.pinned (.plain (OpenSpec.upto surdOrderSpec)) surdOrderUptoCard
end Rows
end Go.Proofs.YtpibgijgnnmccaaGreatDoor
