/-
  DERIVED. GIVEN WITH THE SEED: THE CARDS: each row of YtloegjlknpioeaaGreatDoorRows.lean that lists a variable, with what it lists TIED to the program's text (the seventh form; the later family's looks); each row that meets fmt, with fmt's text TOLD by the authors' own Lean function (tested against real Go, not proved from fmt's source: count such statements apart). THE CARD IS WHAT COUNTS. Prove the row's statement (the work); the ties are given (YtloegjlknpioeaaGreatDoorTie.lean); close each card by the builder's one call (the guide's Derived/Test/ToyasCard.lean, 'card_holds'). Laid BY PROGRAM, IN A SANDBOX (cutbox-door.mjs). By AI agents, Wed Nov 11 2026. No macro, syntax, notation, axiom, sorry.
-/
import Derived.Test.YtloegjlknpioeaaGreatDoorRows
import GoSem.ClaimSeven
namespace Go.Proofs.YtloegjlknpioeaaGreatDoor
namespace Rows

/-- THE TIED CARD OF 'chitilaw02.CordCorrects'. -/
def cordCorrectsCard : Claim7 := { stood := { row := cordCorrectsRow, standIns := [], harness := (true, "071d23399f092d865242f0999a4230924ad26df4f3c312459c293c687a362587"), looks := true }, kinds := [], alts := [], laidByText := true, laidKinds := [.data, .data, .data, .sentinel, .sentinel], laidTests := true, laidLooks := .later }
def CordCorrectsCardSaid : Prop := Claim7.holds Tryz.pinned (.plain (OpenSpec.ofChange cordCorrectsSpec)) cordCorrectsCard

/-- THE TIED CARD OF 'chitilaw02.CordRules'. -/
def cordRulesCard : Claim7 := { stood := { row := cordRulesRow, standIns := [], harness := (true, "071d23399f092d865242f0999a4230924ad26df4f3c312459c293c687a362587"), looks := true }, kinds := [], alts := [], laidByText := true, laidKinds := [.data, .data, .data, .sentinel, .sentinel], laidTests := true, laidLooks := .later }
def CordRulesCardSaid : Prop := Claim7.holds Tryz.pinned (.plain (OpenSpec.ofChange cordRulesSpec)) cordRulesCard

/-- THE TIED CARD OF 'chitilaw02.CordOffs'. -/
def cordOffsCard : Claim7 := { stood := { row := cordOffsRow, standIns := [], harness := (true, "071d23399f092d865242f0999a4230924ad26df4f3c312459c293c687a362587"), looks := true }, kinds := [], alts := [], laidByText := true, laidKinds := [.data, .data, .data, .sentinel, .sentinel], laidTests := true, laidLooks := .later }
def CordOffsCardSaid : Prop := Claim7.holds Tryz.pinned (.plain (OpenSpec.ofChange cordOffsSpec)) cordOffsCard

/-- THE TIED CARD OF 'chitilaw02.CordTakes'. -/
def cordTakesCard : Claim7 := { stood := { row := cordTakesRow, standIns := [], harness := (true, "071d23399f092d865242f0999a4230924ad26df4f3c312459c293c687a362587"), looks := true }, kinds := [], alts := [], laidByText := true, laidKinds := [.data, .data, .data, .sentinel, .sentinel], laidTests := true, laidLooks := .later }
def CordTakesCardSaid : Prop := Claim7.holds Tryz.pinned (.plain (OpenSpec.ofChange cordTakesSpec)) cordTakesCard

/-- THE TIED CARD OF 'chitilaw02.CordMoves'. -/
def cordMovesCard : Claim7 := { stood := { row := cordMovesRow, standIns := [], harness := (true, "071d23399f092d865242f0999a4230924ad26df4f3c312459c293c687a362587"), looks := true }, kinds := [], alts := [], laidByText := true, laidKinds := [.data, .data, .data, .sentinel, .sentinel], laidTests := true, laidLooks := .later }
def CordMovesCardSaid : Prop := Claim7.holds Tryz.pinned (.plain (OpenSpec.ofChange cordMovesSpec)) cordMovesCard

/-- THE TIED CARD OF 'chitilaw02.CordExact'. -/
def cordExactCard : Claim7 := { stood := { row := cordExactRow, standIns := [], harness := (true, "071d23399f092d865242f0999a4230924ad26df4f3c312459c293c687a362587"), looks := true }, kinds := [], alts := [], laidByText := true, laidKinds := [.data, .data, .data, .sentinel, .sentinel], laidTests := true, laidLooks := .later }
def CordExactCardSaid : Prop := Claim7.holds Tryz.pinned (.plain (OpenSpec.ofChange cordExactSpec)) cordExactCard

/-- THE TIED CARD OF 'chitilaw02.CordNearest'. -/
def cordNearestCard : Claim7 := { stood := { row := cordNearestRow, standIns := [], harness := (true, "071d23399f092d865242f0999a4230924ad26df4f3c312459c293c687a362587"), looks := true }, kinds := [], alts := [], laidByText := true, laidKinds := [.data, .data, .data, .sentinel, .sentinel], laidTests := true, laidLooks := .later }
def CordNearestCardSaid : Prop := Claim7.holds Tryz.pinned (.plain (OpenSpec.ofChange cordNearestSpec)) cordNearestCard

/-- THE TIED CARD OF 'chitilaw02.CordRest'. -/
def cordRestCard : Claim7 := { stood := { row := cordRestRow, standIns := [], harness := (true, "071d23399f092d865242f0999a4230924ad26df4f3c312459c293c687a362587"), looks := true }, kinds := [], alts := [], laidByText := true, laidKinds := [.data, .data, .data, .sentinel, .sentinel], laidTests := true, laidLooks := .later }
def CordRestCardSaid : Prop := Claim7.holds Tryz.pinned (.plain (OpenSpec.ofChange cordRestSpec)) cordRestCard

/-- THE SECOND FORM's CARD OF 'chitilaw02.CordCorrects'. -/
def cordCorrectsUptoCard : Claim7 := { stood := { row := cordCorrectsUptoRow, standIns := [], harness := (true, "071d23399f092d865242f0999a4230924ad26df4f3c312459c293c687a362587"), looks := true }, kinds := [], alts := [], laidByText := true, laidKinds := [.data, .data, .data, .sentinel, .sentinel], laidTests := true, laidLooks := .later }
def CordCorrectsUptoCardSaid : Prop := Claim7.holds Tryz.pinned (.plain (OpenSpec.upto cordCorrectsSpec)) cordCorrectsUptoCard

/-- THE SECOND FORM's CARD OF 'chitilaw02.CordRules'. -/
def cordRulesUptoCard : Claim7 := { stood := { row := cordRulesUptoRow, standIns := [], harness := (true, "071d23399f092d865242f0999a4230924ad26df4f3c312459c293c687a362587"), looks := true }, kinds := [], alts := [], laidByText := true, laidKinds := [.data, .data, .data, .sentinel, .sentinel], laidTests := true, laidLooks := .later }
def CordRulesUptoCardSaid : Prop := Claim7.holds Tryz.pinned (.plain (OpenSpec.upto cordRulesSpec)) cordRulesUptoCard

/-- THE SECOND FORM's CARD OF 'chitilaw02.CordOffs'. -/
def cordOffsUptoCard : Claim7 := { stood := { row := cordOffsUptoRow, standIns := [], harness := (true, "071d23399f092d865242f0999a4230924ad26df4f3c312459c293c687a362587"), looks := true }, kinds := [], alts := [], laidByText := true, laidKinds := [.data, .data, .data, .sentinel, .sentinel], laidTests := true, laidLooks := .later }
def CordOffsUptoCardSaid : Prop := Claim7.holds Tryz.pinned (.plain (OpenSpec.upto cordOffsSpec)) cordOffsUptoCard

/-- THE SECOND FORM's CARD OF 'chitilaw02.CordTakes'. -/
def cordTakesUptoCard : Claim7 := { stood := { row := cordTakesUptoRow, standIns := [], harness := (true, "071d23399f092d865242f0999a4230924ad26df4f3c312459c293c687a362587"), looks := true }, kinds := [], alts := [], laidByText := true, laidKinds := [.data, .data, .data, .sentinel, .sentinel], laidTests := true, laidLooks := .later }
def CordTakesUptoCardSaid : Prop := Claim7.holds Tryz.pinned (.plain (OpenSpec.upto cordTakesSpec)) cordTakesUptoCard

/-- THE SECOND FORM's CARD OF 'chitilaw02.CordMoves'. -/
def cordMovesUptoCard : Claim7 := { stood := { row := cordMovesUptoRow, standIns := [], harness := (true, "071d23399f092d865242f0999a4230924ad26df4f3c312459c293c687a362587"), looks := true }, kinds := [], alts := [], laidByText := true, laidKinds := [.data, .data, .data, .sentinel, .sentinel], laidTests := true, laidLooks := .later }
def CordMovesUptoCardSaid : Prop := Claim7.holds Tryz.pinned (.plain (OpenSpec.upto cordMovesSpec)) cordMovesUptoCard

/-- THE SECOND FORM's CARD OF 'chitilaw02.CordExact'. -/
def cordExactUptoCard : Claim7 := { stood := { row := cordExactUptoRow, standIns := [], harness := (true, "071d23399f092d865242f0999a4230924ad26df4f3c312459c293c687a362587"), looks := true }, kinds := [], alts := [], laidByText := true, laidKinds := [.data, .data, .data, .sentinel, .sentinel], laidTests := true, laidLooks := .later }
def CordExactUptoCardSaid : Prop := Claim7.holds Tryz.pinned (.plain (OpenSpec.upto cordExactSpec)) cordExactUptoCard

/-- THE SECOND FORM's CARD OF 'chitilaw02.CordNearest'. -/
def cordNearestUptoCard : Claim7 := { stood := { row := cordNearestUptoRow, standIns := [], harness := (true, "071d23399f092d865242f0999a4230924ad26df4f3c312459c293c687a362587"), looks := true }, kinds := [], alts := [], laidByText := true, laidKinds := [.data, .data, .data, .sentinel, .sentinel], laidTests := true, laidLooks := .later }
def CordNearestUptoCardSaid : Prop := Claim7.holds Tryz.pinned (.plain (OpenSpec.upto cordNearestSpec)) cordNearestUptoCard

/-- THE SECOND FORM's CARD OF 'chitilaw02.CordRest'. -/
def cordRestUptoCard : Claim7 := { stood := { row := cordRestUptoRow, standIns := [], harness := (true, "071d23399f092d865242f0999a4230924ad26df4f3c312459c293c687a362587"), looks := true }, kinds := [], alts := [], laidByText := true, laidKinds := [.data, .data, .data, .sentinel, .sentinel], laidTests := true, laidLooks := .later }
def CordRestUptoCardSaid : Prop := Claim7.holds Tryz.pinned (.plain (OpenSpec.upto cordRestSpec)) cordRestUptoCard
end Rows
end Go.Proofs.YtloegjlknpioeaaGreatDoor
