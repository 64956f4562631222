/-
  DERIVED. GIVEN WITH THE SEED: THE CARDS: each row of YthcboallnbaimaaGreatDoorRows.lean that lists a variable, with what it lists TIED to the program's text (the seventh form; the later family's looks); each row that meets fmt, with fmt's text TOLD by the authors' own Lean function (tested against real Go, not proved from fmt's source: count such statements apart). THE CARD IS WHAT COUNTS. Prove the row's statement (the work); the ties are given (YthcboallnbaimaaGreatDoorTie.lean); close each card by the builder's one call (the guide's Derived/Test/ToyasCard.lean, 'card_holds'). Laid BY PROGRAM, IN A SANDBOX (cutbox-door.mjs). By AI agents, Wed Nov 11 2026. No macro, syntax, notation, axiom, sorry.
-/
import Derived.Test.YthcboallnbaimaaGreatDoorRows
import GoSem.ClaimSeven
namespace Go.Proofs.YthcboallnbaimaaGreatDoor
namespace Rows

/-- THE TIED CARD OF 'salvorlaw32.CheckNames'. -/
def checkNamesCard : Claim7 := { stood := { row := checkNamesRow, standIns := [], harness := (true, "fa81562a59833655260012c4292bba1aa8da8f95cf5a7acb20ceea7fdeec980e"), looks := false }, kinds := [], alts := [], laidByText := true, laidKinds := [.data, .pinned], laidTests := true, laidLooks := .later }
def CheckNamesCardSaid : Prop := Claim7.holds Tryz.pinned (.plain (OpenSpec.ofChange checkNamesSpec)) checkNamesCard

/-- THE TIED CARD OF 'salvorlaw32.CheckWrong'. -/
def checkWrongCard : Claim7 := { stood := { row := checkWrongRow, standIns := [], harness := (true, "fa81562a59833655260012c4292bba1aa8da8f95cf5a7acb20ceea7fdeec980e"), looks := false }, kinds := [], alts := [], laidByText := true, laidKinds := [.data, .pinned], laidTests := true, laidLooks := .later }
def CheckWrongCardSaid : Prop := Claim7.holds Tryz.pinned (.plain (OpenSpec.ofChange checkWrongSpec)) checkWrongCard

/-- THE TIED CARD OF 'salvorlaw32.CheckCalls'. -/
def checkCallsCard : Claim7 := { stood := { row := checkCallsRow, standIns := [], harness := (true, "fa81562a59833655260012c4292bba1aa8da8f95cf5a7acb20ceea7fdeec980e"), looks := false }, kinds := [], alts := [], laidByText := true, laidKinds := [.data, .pinned], laidTests := true, laidLooks := .later }
def CheckCallsCardSaid : Prop := Claim7.holds Tryz.pinned (.plain (OpenSpec.ofChange checkCallsSpec)) checkCallsCard

/-- THE TIED CARD OF 'salvorlaw32.CheckWidths'. -/
def checkWidthsCard : Claim7 := { stood := { row := checkWidthsRow, standIns := [], harness := (true, "fa81562a59833655260012c4292bba1aa8da8f95cf5a7acb20ceea7fdeec980e"), looks := false }, kinds := [], alts := [], laidByText := true, laidKinds := [.data, .pinned], laidTests := true, laidLooks := .later }
def CheckWidthsCardSaid : Prop := Claim7.holds Tryz.pinned (.plain (OpenSpec.ofChange checkWidthsSpec)) checkWidthsCard

/-- THE TIED CARD OF 'salvorlaw32.CheckPlaces'. -/
def checkPlacesCard : Claim7 := { stood := { row := checkPlacesRow, standIns := [], harness := (true, "fa81562a59833655260012c4292bba1aa8da8f95cf5a7acb20ceea7fdeec980e"), looks := false }, kinds := [], alts := [], laidByText := true, laidKinds := [.data, .pinned], laidTests := true, laidLooks := .later }
def CheckPlacesCardSaid : Prop := Claim7.holds Tryz.pinned (.plain (OpenSpec.ofChange checkPlacesSpec)) checkPlacesCard

/-- THE TIED CARD OF 'salvorlaw32.CheckWiths'. -/
def checkWithsCard : Claim7 := { stood := { row := checkWithsRow, standIns := [], harness := (true, "fa81562a59833655260012c4292bba1aa8da8f95cf5a7acb20ceea7fdeec980e"), looks := false }, kinds := [], alts := [], laidByText := true, laidKinds := [.data, .pinned], laidTests := true, laidLooks := .later }
def CheckWithsCardSaid : Prop := Claim7.holds Tryz.pinned (.plain (OpenSpec.ofChange checkWithsSpec)) checkWithsCard

/-- THE TIED CARD OF 'salvorlaw32.CheckStays'. -/
def checkStaysCard : Claim7 := { stood := { row := checkStaysRow, standIns := [], harness := (true, "fa81562a59833655260012c4292bba1aa8da8f95cf5a7acb20ceea7fdeec980e"), looks := false }, kinds := [], alts := [], laidByText := true, laidKinds := [.data, .pinned], laidTests := true, laidLooks := .later }
def CheckStaysCardSaid : Prop := Claim7.holds Tryz.pinned (.plain (OpenSpec.ofChange checkStaysSpec)) checkStaysCard

/-- THE SECOND FORM's CARD OF 'salvorlaw32.CheckNames'. -/
def checkNamesUptoCard : Claim7 := { stood := { row := checkNamesUptoRow, standIns := [], harness := (true, "fa81562a59833655260012c4292bba1aa8da8f95cf5a7acb20ceea7fdeec980e"), looks := false }, kinds := [], alts := [], laidByText := true, laidKinds := [.data, .pinned], laidTests := true, laidLooks := .later }
def CheckNamesUptoCardSaid : Prop := Claim7.holds Tryz.pinned (.plain (OpenSpec.upto checkNamesSpec)) checkNamesUptoCard

/-- THE SECOND FORM's CARD OF 'salvorlaw32.CheckWrong'. -/
def checkWrongUptoCard : Claim7 := { stood := { row := checkWrongUptoRow, standIns := [], harness := (true, "fa81562a59833655260012c4292bba1aa8da8f95cf5a7acb20ceea7fdeec980e"), looks := false }, kinds := [], alts := [], laidByText := true, laidKinds := [.data, .pinned], laidTests := true, laidLooks := .later }
def CheckWrongUptoCardSaid : Prop := Claim7.holds Tryz.pinned (.plain (OpenSpec.upto checkWrongSpec)) checkWrongUptoCard

/-- THE SECOND FORM's CARD OF 'salvorlaw32.CheckCalls'. -/
def checkCallsUptoCard : Claim7 := { stood := { row := checkCallsUptoRow, standIns := [], harness := (true, "fa81562a59833655260012c4292bba1aa8da8f95cf5a7acb20ceea7fdeec980e"), looks := false }, kinds := [], alts := [], laidByText := true, laidKinds := [.data, .pinned], laidTests := true, laidLooks := .later }
def CheckCallsUptoCardSaid : Prop := Claim7.holds Tryz.pinned (.plain (OpenSpec.upto checkCallsSpec)) checkCallsUptoCard

/-- THE SECOND FORM's CARD OF 'salvorlaw32.CheckWidths'. -/
def checkWidthsUptoCard : Claim7 := { stood := { row := checkWidthsUptoRow, standIns := [], harness := (true, "fa81562a59833655260012c4292bba1aa8da8f95cf5a7acb20ceea7fdeec980e"), looks := false }, kinds := [], alts := [], laidByText := true, laidKinds := [.data, .pinned], laidTests := true, laidLooks := .later }
def CheckWidthsUptoCardSaid : Prop := Claim7.holds Tryz.pinned (.plain (OpenSpec.upto checkWidthsSpec)) checkWidthsUptoCard

/-- THE SECOND FORM's CARD OF 'salvorlaw32.CheckPlaces'. -/
def checkPlacesUptoCard : Claim7 := { stood := { row := checkPlacesUptoRow, standIns := [], harness := (true, "fa81562a59833655260012c4292bba1aa8da8f95cf5a7acb20ceea7fdeec980e"), looks := false }, kinds := [], alts := [], laidByText := true, laidKinds := [.data, .pinned], laidTests := true, laidLooks := .later }
def CheckPlacesUptoCardSaid : Prop := Claim7.holds Tryz.pinned (.plain (OpenSpec.upto checkPlacesSpec)) checkPlacesUptoCard

/-- THE SECOND FORM's CARD OF 'salvorlaw32.CheckWiths'. -/
def checkWithsUptoCard : Claim7 := { stood := { row := checkWithsUptoRow, standIns := [], harness := (true, "fa81562a59833655260012c4292bba1aa8da8f95cf5a7acb20ceea7fdeec980e"), looks := false }, kinds := [], alts := [], laidByText := true, laidKinds := [.data, .pinned], laidTests := true, laidLooks := .later }
def CheckWithsUptoCardSaid : Prop := Claim7.holds Tryz.pinned (.plain (OpenSpec.upto checkWithsSpec)) checkWithsUptoCard

/-- THE SECOND FORM's CARD OF 'salvorlaw32.CheckStays'. -/
def checkStaysUptoCard : Claim7 := { stood := { row := checkStaysUptoRow, standIns := [], harness := (true, "fa81562a59833655260012c4292bba1aa8da8f95cf5a7acb20ceea7fdeec980e"), looks := false }, kinds := [], alts := [], laidByText := true, laidKinds := [.data, .pinned], laidTests := true, laidLooks := .later }
def CheckStaysUptoCardSaid : Prop := Claim7.holds Tryz.pinned (.plain (OpenSpec.upto checkStaysSpec)) checkStaysUptoCard
end Rows
end Go.Proofs.YthcboallnbaimaaGreatDoor
