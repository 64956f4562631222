/-
  DERIVED. GIVEN WITH THE SEED: THE CARDS: each row of YtlibeobmdjeilaaGreatDoorRows.lean that lists a variable, with what it lists TIED to the program's text (the seventh form; the later family's looks); each row that meets fmt, with fmt's text TOLD by the authors' own Lean function (tested against real Go, not proved from fmt's source: count such statements apart). THE CARD IS WHAT COUNTS. Prove the row's statement (the work); the ties are given (YtlibeobmdjeilaaGreatDoorTie.lean); close each card by the builder's one call (the guide's Derived/Test/ToyasCard.lean, 'card_holds'). Laid BY PROGRAM, IN A SANDBOX (cutbox-door.mjs). By AI agents, Wed Nov 11 2026. No macro, syntax, notation, axiom, sorry.
-/
import Derived.Test.YtlibeobmdjeilaaGreatDoorRows
import GoSem.ClaimSeven
namespace Go.Proofs.YtlibeobmdjeilaaGreatDoor
namespace Rows

/-- THE TIED CARD OF 'salvorlaw36.InterpLoops'. -/
def interpLoopsCard : Claim7 := { stood := { row := interpLoopsRow, standIns := [], harness := (true, "6d98997639d69a20e66e93e28c23a40a88d325f063efe0b8db3a2cf47fc636d5"), looks := true }, kinds := [], alts := [], laidByText := true, laidKinds := [.data, .pinned], laidTests := true, laidLooks := .later }
def InterpLoopsCardSaid : Prop := Claim7.holds Tryz.pinned (.plain (OpenSpec.ofChange interpLoopsSpec)) interpLoopsCard

/-- THE TIED CARD OF 'salvorlaw36.InterpTotal'. -/
def interpTotalCard : Claim7 := { stood := { row := interpTotalRow, standIns := [], harness := (true, "6d98997639d69a20e66e93e28c23a40a88d325f063efe0b8db3a2cf47fc636d5"), looks := true }, kinds := [], alts := [], laidByText := true, laidKinds := [.data, .pinned], laidTests := true, laidLooks := .later }
def InterpTotalCardSaid : Prop := Claim7.holds Tryz.pinned (.plain (OpenSpec.ofChange interpTotalSpec)) interpTotalCard

/-- THE TIED CARD OF 'salvorlaw36.InterpStops'. -/
def interpStopsCard : Claim7 := { stood := { row := interpStopsRow, standIns := [], harness := (true, "6d98997639d69a20e66e93e28c23a40a88d325f063efe0b8db3a2cf47fc636d5"), looks := true }, kinds := [], alts := [], laidByText := true, laidKinds := [.data, .pinned], laidTests := true, laidLooks := .later }
def InterpStopsCardSaid : Prop := Claim7.holds Tryz.pinned (.plain (OpenSpec.ofChange interpStopsSpec)) interpStopsCard

/-- THE TIED CARD OF 'salvorlaw36.InterpRecovers'. -/
def interpRecoversCard : Claim7 := { stood := { row := interpRecoversRow, standIns := [], harness := (true, "6d98997639d69a20e66e93e28c23a40a88d325f063efe0b8db3a2cf47fc636d5"), looks := true }, kinds := [], alts := [], laidByText := true, laidKinds := [.data, .pinned], laidTests := true, laidLooks := .later }
def InterpRecoversCardSaid : Prop := Claim7.holds Tryz.pinned (.plain (OpenSpec.ofChange interpRecoversSpec)) interpRecoversCard

/-- THE TIED CARD OF 'salvorlaw36.InterpWrong'. -/
def interpWrongCard : Claim7 := { stood := { row := interpWrongRow, standIns := [], harness := (true, "6d98997639d69a20e66e93e28c23a40a88d325f063efe0b8db3a2cf47fc636d5"), looks := true }, kinds := [], alts := [], laidByText := true, laidKinds := [.data, .pinned], laidTests := true, laidLooks := .later }
def InterpWrongCardSaid : Prop := Claim7.holds Tryz.pinned (.plain (OpenSpec.ofChange interpWrongSpec)) interpWrongCard

/-- THE TIED CARD OF 'salvorlaw36.InterpSmall'. -/
def interpSmallCard : Claim7 := { stood := { row := interpSmallRow, standIns := [], harness := (true, "6d98997639d69a20e66e93e28c23a40a88d325f063efe0b8db3a2cf47fc636d5"), looks := true }, kinds := [], alts := [], laidByText := true, laidKinds := [.data, .pinned], laidTests := true, laidLooks := .later }
def InterpSmallCardSaid : Prop := Claim7.holds Tryz.pinned (.plain (OpenSpec.ofChange interpSmallSpec)) interpSmallCard

/-- THE TIED CARD OF 'salvorlaw43.ShrinkerMeasures'. -/
def shrinkerMeasuresCard : Claim7 := { stood := { row := shrinkerMeasuresRow, standIns := [], harness := (true, "6d98997639d69a20e66e93e28c23a40a88d325f063efe0b8db3a2cf47fc636d5"), looks := true }, kinds := [], alts := [], laidByText := true, laidKinds := [.data, .data, .data, .data, .pinned], laidTests := true, laidLooks := .later }
def ShrinkerMeasuresCardSaid : Prop := Claim7.holds Tryz.pinned (.plain (OpenSpec.ofChange shrinkerMeasuresSpec)) shrinkerMeasuresCard

/-- THE TIED CARD OF 'salvorlaw43.ShrinkerOrder'. -/
def shrinkerOrderCard : Claim7 := { stood := { row := shrinkerOrderRow, standIns := [], harness := (true, "6d98997639d69a20e66e93e28c23a40a88d325f063efe0b8db3a2cf47fc636d5"), looks := true }, kinds := [], alts := [], laidByText := true, laidKinds := [.data, .data, .data, .data, .pinned], laidTests := true, laidLooks := .later }
def ShrinkerOrderCardSaid : Prop := Claim7.holds Tryz.pinned (.plain (OpenSpec.ofChange shrinkerOrderSpec)) shrinkerOrderCard

/-- THE TIED CARD OF 'salvorlaw37.ReplayFlushes'. -/
def replayFlushesCard : Claim7 := { stood := { row := replayFlushesRow, standIns := [], harness := (true, "6d98997639d69a20e66e93e28c23a40a88d325f063efe0b8db3a2cf47fc636d5"), looks := true }, kinds := [], alts := [], laidByText := true, laidKinds := [.data, .data, .data, .data, .sentinel, .sentinel, .pinned], laidTests := true, laidLooks := .later }
def ReplayFlushesCardSaid : Prop := Claim7.holds Tryz.pinned (.plain (OpenSpec.ofChange replayFlushesSpec)) replayFlushesCard

/-- THE TIED CARD OF 'salvorlaw37.ReplayWrong'. -/
def replayWrongCard : Claim7 := { stood := { row := replayWrongRow, standIns := [], harness := (true, "6d98997639d69a20e66e93e28c23a40a88d325f063efe0b8db3a2cf47fc636d5"), looks := true }, kinds := [], alts := [], laidByText := true, laidKinds := [.data, .data, .data, .data, .sentinel, .sentinel, .pinned], laidTests := true, laidLooks := .later }
def ReplayWrongCardSaid : Prop := Claim7.holds Tryz.pinned (.plain (OpenSpec.ofChange replayWrongSpec)) replayWrongCard

/-- THE TIED CARD OF 'salvorlaw37.ReplayTextsBack'. -/
def replayTextsBackCard : Claim7 := { stood := { row := replayTextsBackRow, standIns := [], harness := (true, "6d98997639d69a20e66e93e28c23a40a88d325f063efe0b8db3a2cf47fc636d5"), looks := true }, kinds := [], alts := [], laidByText := true, laidKinds := [.data, .data, .data, .data, .sentinel, .sentinel, .pinned], laidTests := true, laidLooks := .later }
def ReplayTextsBackCardSaid : Prop := Claim7.holds Tryz.pinned (.plain (OpenSpec.ofChange replayTextsBackSpec)) replayTextsBackCard

/-- THE TIED CARD OF 'salvorlaw37.ReplayTexts'. -/
def replayTextsCard : Claim7 := { stood := { row := replayTextsRow, standIns := [], harness := (true, "6d98997639d69a20e66e93e28c23a40a88d325f063efe0b8db3a2cf47fc636d5"), looks := true }, kinds := [], alts := [], laidByText := true, laidKinds := [.data, .data, .data, .data, .sentinel, .sentinel, .pinned], laidTests := true, laidLooks := .later }
def ReplayTextsCardSaid : Prop := Claim7.holds Tryz.pinned (.plain (OpenSpec.ofChange replayTextsSpec)) replayTextsCard

/-- THE SECOND FORM's CARD OF 'salvorlaw36.InterpLoops'. -/
def interpLoopsUptoCard : Claim7 := { stood := { row := interpLoopsUptoRow, standIns := [], harness := (true, "6d98997639d69a20e66e93e28c23a40a88d325f063efe0b8db3a2cf47fc636d5"), looks := true }, kinds := [], alts := [], laidByText := true, laidKinds := [.data, .pinned], laidTests := true, laidLooks := .later }
def InterpLoopsUptoCardSaid : Prop := Claim7.holds Tryz.pinned (.plain (OpenSpec.upto interpLoopsSpec)) interpLoopsUptoCard

/-- THE SECOND FORM's CARD OF 'salvorlaw36.InterpTotal'. -/
def interpTotalUptoCard : Claim7 := { stood := { row := interpTotalUptoRow, standIns := [], harness := (true, "6d98997639d69a20e66e93e28c23a40a88d325f063efe0b8db3a2cf47fc636d5"), looks := true }, kinds := [], alts := [], laidByText := true, laidKinds := [.data, .pinned], laidTests := true, laidLooks := .later }
def InterpTotalUptoCardSaid : Prop := Claim7.holds Tryz.pinned (.plain (OpenSpec.upto interpTotalSpec)) interpTotalUptoCard

/-- THE SECOND FORM's CARD OF 'salvorlaw36.InterpStops'. -/
def interpStopsUptoCard : Claim7 := { stood := { row := interpStopsUptoRow, standIns := [], harness := (true, "6d98997639d69a20e66e93e28c23a40a88d325f063efe0b8db3a2cf47fc636d5"), looks := true }, kinds := [], alts := [], laidByText := true, laidKinds := [.data, .pinned], laidTests := true, laidLooks := .later }
def InterpStopsUptoCardSaid : Prop := Claim7.holds Tryz.pinned (.plain (OpenSpec.upto interpStopsSpec)) interpStopsUptoCard

/-- THE SECOND FORM's CARD OF 'salvorlaw36.InterpRecovers'. -/
def interpRecoversUptoCard : Claim7 := { stood := { row := interpRecoversUptoRow, standIns := [], harness := (true, "6d98997639d69a20e66e93e28c23a40a88d325f063efe0b8db3a2cf47fc636d5"), looks := true }, kinds := [], alts := [], laidByText := true, laidKinds := [.data, .pinned], laidTests := true, laidLooks := .later }
def InterpRecoversUptoCardSaid : Prop := Claim7.holds Tryz.pinned (.plain (OpenSpec.upto interpRecoversSpec)) interpRecoversUptoCard

/-- THE SECOND FORM's CARD OF 'salvorlaw36.InterpWrong'. -/
def interpWrongUptoCard : Claim7 := { stood := { row := interpWrongUptoRow, standIns := [], harness := (true, "6d98997639d69a20e66e93e28c23a40a88d325f063efe0b8db3a2cf47fc636d5"), looks := true }, kinds := [], alts := [], laidByText := true, laidKinds := [.data, .pinned], laidTests := true, laidLooks := .later }
def InterpWrongUptoCardSaid : Prop := Claim7.holds Tryz.pinned (.plain (OpenSpec.upto interpWrongSpec)) interpWrongUptoCard

/-- THE SECOND FORM's CARD OF 'salvorlaw36.InterpSmall'. -/
def interpSmallUptoCard : Claim7 := { stood := { row := interpSmallUptoRow, standIns := [], harness := (true, "6d98997639d69a20e66e93e28c23a40a88d325f063efe0b8db3a2cf47fc636d5"), looks := true }, kinds := [], alts := [], laidByText := true, laidKinds := [.data, .pinned], laidTests := true, laidLooks := .later }
def InterpSmallUptoCardSaid : Prop := Claim7.holds Tryz.pinned (.plain (OpenSpec.upto interpSmallSpec)) interpSmallUptoCard

/-- THE SECOND FORM's CARD OF 'salvorlaw43.ShrinkerMeasures'. -/
def shrinkerMeasuresUptoCard : Claim7 := { stood := { row := shrinkerMeasuresUptoRow, standIns := [], harness := (true, "6d98997639d69a20e66e93e28c23a40a88d325f063efe0b8db3a2cf47fc636d5"), looks := true }, kinds := [], alts := [], laidByText := true, laidKinds := [.data, .data, .data, .data, .pinned], laidTests := true, laidLooks := .later }
def ShrinkerMeasuresUptoCardSaid : Prop := Claim7.holds Tryz.pinned (.plain (OpenSpec.upto shrinkerMeasuresSpec)) shrinkerMeasuresUptoCard

/-- THE SECOND FORM's CARD OF 'salvorlaw43.ShrinkerOrder'. -/
def shrinkerOrderUptoCard : Claim7 := { stood := { row := shrinkerOrderUptoRow, standIns := [], harness := (true, "6d98997639d69a20e66e93e28c23a40a88d325f063efe0b8db3a2cf47fc636d5"), looks := true }, kinds := [], alts := [], laidByText := true, laidKinds := [.data, .data, .data, .data, .pinned], laidTests := true, laidLooks := .later }
def ShrinkerOrderUptoCardSaid : Prop := Claim7.holds Tryz.pinned (.plain (OpenSpec.upto shrinkerOrderSpec)) shrinkerOrderUptoCard

/-- THE SECOND FORM's CARD OF 'salvorlaw37.ReplayFlushes'. -/
def replayFlushesUptoCard : Claim7 := { stood := { row := replayFlushesUptoRow, standIns := [], harness := (true, "6d98997639d69a20e66e93e28c23a40a88d325f063efe0b8db3a2cf47fc636d5"), looks := true }, kinds := [], alts := [], laidByText := true, laidKinds := [.data, .data, .data, .data, .sentinel, .sentinel, .pinned], laidTests := true, laidLooks := .later }
def ReplayFlushesUptoCardSaid : Prop := Claim7.holds Tryz.pinned (.plain (OpenSpec.upto replayFlushesSpec)) replayFlushesUptoCard

/-- THE SECOND FORM's CARD OF 'salvorlaw37.ReplayWrong'. -/
def replayWrongUptoCard : Claim7 := { stood := { row := replayWrongUptoRow, standIns := [], harness := (true, "6d98997639d69a20e66e93e28c23a40a88d325f063efe0b8db3a2cf47fc636d5"), looks := true }, kinds := [], alts := [], laidByText := true, laidKinds := [.data, .data, .data, .data, .sentinel, .sentinel, .pinned], laidTests := true, laidLooks := .later }
def ReplayWrongUptoCardSaid : Prop := Claim7.holds Tryz.pinned (.plain (OpenSpec.upto replayWrongSpec)) replayWrongUptoCard

/-- THE SECOND FORM's CARD OF 'salvorlaw37.ReplayTextsBack'. -/
def replayTextsBackUptoCard : Claim7 := { stood := { row := replayTextsBackUptoRow, standIns := [], harness := (true, "6d98997639d69a20e66e93e28c23a40a88d325f063efe0b8db3a2cf47fc636d5"), looks := true }, kinds := [], alts := [], laidByText := true, laidKinds := [.data, .data, .data, .data, .sentinel, .sentinel, .pinned], laidTests := true, laidLooks := .later }
def ReplayTextsBackUptoCardSaid : Prop := Claim7.holds Tryz.pinned (.plain (OpenSpec.upto replayTextsBackSpec)) replayTextsBackUptoCard

/-- THE SECOND FORM's CARD OF 'salvorlaw37.ReplayTexts'. -/
def replayTextsUptoCard : Claim7 := { stood := { row := replayTextsUptoRow, standIns := [], harness := (true, "6d98997639d69a20e66e93e28c23a40a88d325f063efe0b8db3a2cf47fc636d5"), looks := true }, kinds := [], alts := [], laidByText := true, laidKinds := [.data, .data, .data, .data, .sentinel, .sentinel, .pinned], laidTests := true, laidLooks := .later }
def ReplayTextsUptoCardSaid : Prop := Claim7.holds Tryz.pinned (.plain (OpenSpec.upto replayTextsSpec)) replayTextsUptoCard
end Rows
end Go.Proofs.YtlibeobmdjeilaaGreatDoor
