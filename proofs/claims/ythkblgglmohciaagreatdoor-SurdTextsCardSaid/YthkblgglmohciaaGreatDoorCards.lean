/-
  DERIVED. GIVEN WITH THE SEED: THE CARDS: each row of YthkblgglmohciaaGreatDoorRows.lean that lists a variable, with what it lists TIED to the program's text (the seventh form; the later family's looks); each row that meets fmt, with fmt's text TOLD by the authors' own Lean function (tested against real Go, not proved from fmt's source: count such statements apart). THE CARD IS WHAT COUNTS. Prove the row's statement (the work); the ties are given (YthkblgglmohciaaGreatDoorTie.lean); close each card by the builder's one call (the guide's Derived/Test/ToyasCard.lean, 'card_holds'). Laid BY PROGRAM, IN A SANDBOX (cutbox-door.mjs). By AI agents, Wed Nov 11 2026. No macro, syntax, notation, axiom, sorry.
-/
import Derived.Test.YthkblgglmohciaaGreatDoorRows
import GoSem.ClaimSeven
namespace Go.Proofs.YthkblgglmohciaaGreatDoor
namespace Rows

/-- THE TIED CARD OF 'chitilaw01.SurdRoots'. -/
def surdRootsCard : Claim7 := { stood := { row := surdRootsRow, standIns := [], harness := (true, "01aa59ec3be42a510b5415d359473d11ef139f5c73012cc4eae12d6b67c45570"), looks := true }, kinds := [], alts := [], laidByText := true, laidKinds := [.data, .data, .data, .data, .sentinel, .sentinel, .pinned], laidTests := true, laidLooks := .later }
def SurdRootsCardSaid : Prop := Claim7.holds Tryz.pinned (.plain (OpenSpec.ofChange surdRootsSpec)) surdRootsCard

/-- THE TIED CARD OF 'chitilaw01.SurdBounds'. -/
def surdBoundsCard : Claim7 := { stood := { row := surdBoundsRow, standIns := [], harness := (true, "01aa59ec3be42a510b5415d359473d11ef139f5c73012cc4eae12d6b67c45570"), looks := true }, kinds := [], alts := [], laidByText := true, laidKinds := [.data, .data, .data, .data, .sentinel, .sentinel, .pinned], laidTests := true, laidLooks := .later }
def SurdBoundsCardSaid : Prop := Claim7.holds Tryz.pinned (.plain (OpenSpec.ofChange surdBoundsSpec)) surdBoundsCard

/-- THE TIED CARD OF 'chitilaw01.SurdTexts'. -/
def surdTextsCard : Claim7 := { stood := { row := surdTextsRow, standIns := [], harness := (true, "01aa59ec3be42a510b5415d359473d11ef139f5c73012cc4eae12d6b67c45570"), looks := true }, kinds := [], alts := [], laidByText := true, laidKinds := [.data, .data, .data, .data, .sentinel, .sentinel, .pinned], laidTests := true, laidLooks := .later }
def SurdTextsCardSaid : Prop := Claim7.holds Tryz.pinned (.plain (OpenSpec.ofChange surdTextsSpec)) surdTextsCard

/-- THE TIED CARD OF 'chitilaw01.SurdSpelled'. -/
def surdSpelledCard : Claim7 := { stood := { row := surdSpelledRow, standIns := [], harness := (true, "01aa59ec3be42a510b5415d359473d11ef139f5c73012cc4eae12d6b67c45570"), looks := true }, kinds := [], alts := [], laidByText := true, laidKinds := [.data, .data, .data, .data, .sentinel, .sentinel, .pinned], laidTests := true, laidLooks := .later }
def SurdSpelledCardSaid : Prop := Claim7.holds Tryz.pinned (.plain (OpenSpec.ofChange surdSpelledSpec)) surdSpelledCard

/-- THE TIED CARD OF 'chitilaw01.SurdOrders'. -/
def surdOrdersCard : Claim7 := { stood := { row := surdOrdersRow, standIns := [], harness := (true, "01aa59ec3be42a510b5415d359473d11ef139f5c73012cc4eae12d6b67c45570"), looks := true }, kinds := [], alts := [], laidByText := true, laidKinds := [.data, .data, .data, .data, .sentinel, .sentinel, .pinned], laidTests := true, laidLooks := .later }
def SurdOrdersCardSaid : Prop := Claim7.holds Tryz.pinned (.plain (OpenSpec.ofChange surdOrdersSpec)) surdOrdersCard

/-- THE SECOND FORM's CARD OF 'chitilaw01.SurdRoots'. -/
def surdRootsUptoCard : Claim7 := { stood := { row := surdRootsUptoRow, standIns := [], harness := (true, "01aa59ec3be42a510b5415d359473d11ef139f5c73012cc4eae12d6b67c45570"), looks := true }, kinds := [], alts := [], laidByText := true, laidKinds := [.data, .data, .data, .data, .sentinel, .sentinel, .pinned], laidTests := true, laidLooks := .later }
def SurdRootsUptoCardSaid : Prop := Claim7.holds Tryz.pinned (.plain (OpenSpec.upto surdRootsSpec)) surdRootsUptoCard

/-- THE SECOND FORM's CARD OF 'chitilaw01.SurdBounds'. -/
def surdBoundsUptoCard : Claim7 := { stood := { row := surdBoundsUptoRow, standIns := [], harness := (true, "01aa59ec3be42a510b5415d359473d11ef139f5c73012cc4eae12d6b67c45570"), looks := true }, kinds := [], alts := [], laidByText := true, laidKinds := [.data, .data, .data, .data, .sentinel, .sentinel, .pinned], laidTests := true, laidLooks := .later }
def SurdBoundsUptoCardSaid : Prop := Claim7.holds Tryz.pinned (.plain (OpenSpec.upto surdBoundsSpec)) surdBoundsUptoCard

/-- THE SECOND FORM's CARD OF 'chitilaw01.SurdTexts'. -/
def surdTextsUptoCard : Claim7 := { stood := { row := surdTextsUptoRow, standIns := [], harness := (true, "01aa59ec3be42a510b5415d359473d11ef139f5c73012cc4eae12d6b67c45570"), looks := true }, kinds := [], alts := [], laidByText := true, laidKinds := [.data, .data, .data, .data, .sentinel, .sentinel, .pinned], laidTests := true, laidLooks := .later }
def SurdTextsUptoCardSaid : Prop := Claim7.holds Tryz.pinned (.plain (OpenSpec.upto surdTextsSpec)) surdTextsUptoCard

/-- THE SECOND FORM's CARD OF 'chitilaw01.SurdSpelled'. -/
def surdSpelledUptoCard : Claim7 := { stood := { row := surdSpelledUptoRow, standIns := [], harness := (true, "01aa59ec3be42a510b5415d359473d11ef139f5c73012cc4eae12d6b67c45570"), looks := true }, kinds := [], alts := [], laidByText := true, laidKinds := [.data, .data, .data, .data, .sentinel, .sentinel, .pinned], laidTests := true, laidLooks := .later }
def SurdSpelledUptoCardSaid : Prop := Claim7.holds Tryz.pinned (.plain (OpenSpec.upto surdSpelledSpec)) surdSpelledUptoCard

/-- THE SECOND FORM's CARD OF 'chitilaw01.SurdOrders'. -/
def surdOrdersUptoCard : Claim7 := { stood := { row := surdOrdersUptoRow, standIns := [], harness := (true, "01aa59ec3be42a510b5415d359473d11ef139f5c73012cc4eae12d6b67c45570"), looks := true }, kinds := [], alts := [], laidByText := true, laidKinds := [.data, .data, .data, .data, .sentinel, .sentinel, .pinned], laidTests := true, laidLooks := .later }
def SurdOrdersUptoCardSaid : Prop := Claim7.holds Tryz.pinned (.plain (OpenSpec.upto surdOrdersSpec)) surdOrdersUptoCard
end Rows
end Go.Proofs.YthkblgglmohciaaGreatDoor
