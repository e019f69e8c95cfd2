/-
  DERIVED. GIVEN WITH THE SEED: THE CARDS: each row of YtphcodcdfeohhaaGreatDoorRows.lean that lists a variable, with what it lists TIED to the program's text (the seventh form; the later family's looks); each row that meets fmt, with fmt's text TOLD by the authors' own Lean function (tested against real Go, not proved from fmt's source: count such statements apart). THE CARD IS WHAT COUNTS. Prove the row's statement (the work); the ties are given (YtphcodcdfeohhaaGreatDoorTie.lean); close each card by the builder's one call (the guide's Derived/Test/ToyasCard.lean, 'card_holds'). Laid BY PROGRAM, IN A SANDBOX (cutbox-door.mjs). By AI agents, Wed Nov 11 2026. No macro, syntax, notation, axiom, sorry.
-/
import Derived.Test.YtphcodcdfeohhaaGreatDoorRows
import GoSem.ClaimSeven
namespace Go.Proofs.YtphcodcdfeohhaaGreatDoor
namespace Rows

/-- THE TIED CARD OF 'chitilaw02.CordRules'. -/
def cordRulesCard : Claim7 := { stood := { row := cordRulesRow, standIns := [], harness := (true, "afadc4e55507bc68df14f8846902df06f5b3b13e6bf2062089d94a4d1f4642ce"), looks := true }, kinds := [], alts := [], laidByText := true, laidKinds := [.data, .data, .data, .sentinel, .sentinel], laidTests := true, laidLooks := .later }
def CordRulesCardSaid : Prop := Claim7.holds Tryz.pinned (.plain (OpenSpec.ofChange cordRulesSpec)) cordRulesCard

/-- THE TIED CARD OF 'chitilaw02.CordOffs'. -/
def cordOffsCard : Claim7 := { stood := { row := cordOffsRow, standIns := [], harness := (true, "afadc4e55507bc68df14f8846902df06f5b3b13e6bf2062089d94a4d1f4642ce"), looks := true }, kinds := [], alts := [], laidByText := true, laidKinds := [.data, .data, .data, .sentinel, .sentinel], laidTests := true, laidLooks := .later }
def CordOffsCardSaid : Prop := Claim7.holds Tryz.pinned (.plain (OpenSpec.ofChange cordOffsSpec)) cordOffsCard

/-- THE TIED CARD OF 'chitilaw02.CordTakes'. -/
def cordTakesCard : Claim7 := { stood := { row := cordTakesRow, standIns := [], harness := (true, "afadc4e55507bc68df14f8846902df06f5b3b13e6bf2062089d94a4d1f4642ce"), looks := true }, kinds := [], alts := [], laidByText := true, laidKinds := [.data, .data, .data, .sentinel, .sentinel], laidTests := true, laidLooks := .later }
def CordTakesCardSaid : Prop := Claim7.holds Tryz.pinned (.plain (OpenSpec.ofChange cordTakesSpec)) cordTakesCard

/-- THE TIED CARD OF 'chitilaw02.CordNearest'. -/
def cordNearestCard : Claim7 := { stood := { row := cordNearestRow, standIns := [], harness := (true, "afadc4e55507bc68df14f8846902df06f5b3b13e6bf2062089d94a4d1f4642ce"), looks := true }, kinds := [], alts := [], laidByText := true, laidKinds := [.data, .data, .data, .sentinel, .sentinel], laidTests := true, laidLooks := .later }
def CordNearestCardSaid : Prop := Claim7.holds Tryz.pinned (.plain (OpenSpec.ofChange cordNearestSpec)) cordNearestCard

/-- THE SECOND FORM's CARD OF 'chitilaw02.CordRules'. -/
def cordRulesUptoCard : Claim7 := { stood := { row := cordRulesUptoRow, standIns := [], harness := (true, "afadc4e55507bc68df14f8846902df06f5b3b13e6bf2062089d94a4d1f4642ce"), looks := true }, kinds := [], alts := [], laidByText := true, laidKinds := [.data, .data, .data, .sentinel, .sentinel], laidTests := true, laidLooks := .later }
def CordRulesUptoCardSaid : Prop := Claim7.holds Tryz.pinned (.plain (OpenSpec.upto cordRulesSpec)) cordRulesUptoCard

/-- THE SECOND FORM's CARD OF 'chitilaw02.CordOffs'. -/
def cordOffsUptoCard : Claim7 := { stood := { row := cordOffsUptoRow, standIns := [], harness := (true, "afadc4e55507bc68df14f8846902df06f5b3b13e6bf2062089d94a4d1f4642ce"), looks := true }, kinds := [], alts := [], laidByText := true, laidKinds := [.data, .data, .data, .sentinel, .sentinel], laidTests := true, laidLooks := .later }
def CordOffsUptoCardSaid : Prop := Claim7.holds Tryz.pinned (.plain (OpenSpec.upto cordOffsSpec)) cordOffsUptoCard

/-- THE SECOND FORM's CARD OF 'chitilaw02.CordTakes'. -/
def cordTakesUptoCard : Claim7 := { stood := { row := cordTakesUptoRow, standIns := [], harness := (true, "afadc4e55507bc68df14f8846902df06f5b3b13e6bf2062089d94a4d1f4642ce"), looks := true }, kinds := [], alts := [], laidByText := true, laidKinds := [.data, .data, .data, .sentinel, .sentinel], laidTests := true, laidLooks := .later }
def CordTakesUptoCardSaid : Prop := Claim7.holds Tryz.pinned (.plain (OpenSpec.upto cordTakesSpec)) cordTakesUptoCard

/-- THE SECOND FORM's CARD OF 'chitilaw02.CordNearest'. -/
def cordNearestUptoCard : Claim7 := { stood := { row := cordNearestUptoRow, standIns := [], harness := (true, "afadc4e55507bc68df14f8846902df06f5b3b13e6bf2062089d94a4d1f4642ce"), looks := true }, kinds := [], alts := [], laidByText := true, laidKinds := [.data, .data, .data, .sentinel, .sentinel], laidTests := true, laidLooks := .later }
def CordNearestUptoCardSaid : Prop := Claim7.holds Tryz.pinned (.plain (OpenSpec.upto cordNearestSpec)) cordNearestUptoCard
end Rows
end Go.Proofs.YtphcodcdfeohhaaGreatDoor
