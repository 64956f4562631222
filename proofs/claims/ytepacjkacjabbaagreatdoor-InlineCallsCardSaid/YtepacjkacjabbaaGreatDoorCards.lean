/-
  DERIVED. GIVEN WITH THE SEED: THE CARDS: each row of YtepacjkacjabbaaGreatDoorRows.lean that lists a variable, with what it lists TIED to the program's text (the seventh form; the later family's looks); each row that meets fmt, with fmt's text TOLD by the authors' own Lean function (tested against real Go, not proved from fmt's source: count such statements apart). THE CARD IS WHAT COUNTS. Prove the row's statement (the work); the ties are given (YtepacjkacjabbaaGreatDoorTie.lean); close each card by the builder's one call (the guide's Derived/Test/ToyasCard.lean, 'card_holds'). Laid BY PROGRAM, IN A SANDBOX (cutbox-door.mjs). By AI agents, Wed Nov 11 2026. No macro, syntax, notation, axiom, sorry.
-/
import Derived.Test.YtepacjkacjabbaaGreatDoorRows
import GoSem.ClaimSeven
namespace Go.Proofs.YtepacjkacjabbaaGreatDoor
namespace Rows

/-- THE TIED CARD OF 'salvorlaw33.InlineNames'. -/
def inlineNamesCard : Claim7 := { stood := { row := inlineNamesRow, standIns := [], harness := (true, "9bd119603f6db044f7ee268e1df310bbf23316ad7da165b264a3025d84d8c2ca"), looks := false }, kinds := [], alts := [], laidByText := true, laidKinds := [.data, .pinned], laidTests := true, laidLooks := .later }
def InlineNamesCardSaid : Prop := Claim7.holds Tryz.pinned (.plain (OpenSpec.ofChange inlineNamesSpec)) inlineNamesCard

/-- THE TIED CARD OF 'salvorlaw38.UnrollPasses'. -/
def unrollPassesCard : Claim7 := { stood := { row := unrollPassesRow, standIns := [], harness := (true, "9bd119603f6db044f7ee268e1df310bbf23316ad7da165b264a3025d84d8c2ca"), looks := false }, kinds := [], alts := [], laidByText := true, laidKinds := [.data, .pinned], laidTests := true, laidLooks := .later }
def UnrollPassesCardSaid : Prop := Claim7.holds Tryz.pinned (.plain (OpenSpec.ofChange unrollPassesSpec)) unrollPassesCard

/-- THE TIED CARD OF 'salvorlaw33.InlineCalls'. -/
def inlineCallsCard : Claim7 := { stood := { row := inlineCallsRow, standIns := [], harness := (true, "9bd119603f6db044f7ee268e1df310bbf23316ad7da165b264a3025d84d8c2ca"), looks := false }, kinds := [], alts := [], laidByText := true, laidKinds := [.data, .pinned], laidTests := true, laidLooks := .later }
def InlineCallsCardSaid : Prop := Claim7.holds Tryz.pinned (.plain (OpenSpec.ofChange inlineCallsSpec)) inlineCallsCard

/-- THE TIED CARD OF 'salvorlaw38.UnrollWrong'. -/
def unrollWrongCard : Claim7 := { stood := { row := unrollWrongRow, standIns := [], harness := (true, "9bd119603f6db044f7ee268e1df310bbf23316ad7da165b264a3025d84d8c2ca"), looks := false }, kinds := [], alts := [], laidByText := true, laidKinds := [.data, .pinned], laidTests := true, laidLooks := .later }
def UnrollWrongCardSaid : Prop := Claim7.holds Tryz.pinned (.plain (OpenSpec.ofChange unrollWrongSpec)) unrollWrongCard

/-- THE TIED CARD OF 'salvorlaw33.InlineFree'. -/
def inlineFreeCard : Claim7 := { stood := { row := inlineFreeRow, standIns := [], harness := (true, "9bd119603f6db044f7ee268e1df310bbf23316ad7da165b264a3025d84d8c2ca"), looks := false }, kinds := [], alts := [], laidByText := true, laidKinds := [.data, .pinned], laidTests := true, laidLooks := .later }
def InlineFreeCardSaid : Prop := Claim7.holds Tryz.pinned (.plain (OpenSpec.ofChange inlineFreeSpec)) inlineFreeCard

/-- THE TIED CARD OF 'salvorlaw38.UnrollSmall'. -/
def unrollSmallCard : Claim7 := { stood := { row := unrollSmallRow, standIns := [], harness := (true, "9bd119603f6db044f7ee268e1df310bbf23316ad7da165b264a3025d84d8c2ca"), looks := false }, kinds := [], alts := [], laidByText := true, laidKinds := [.data, .pinned], laidTests := true, laidLooks := .later }
def UnrollSmallCardSaid : Prop := Claim7.holds Tryz.pinned (.plain (OpenSpec.ofChange unrollSmallSpec)) unrollSmallCard

/-- THE TIED CARD OF 'salvorlaw38.UnrollCounts'. -/
def unrollCountsCard : Claim7 := { stood := { row := unrollCountsRow, standIns := [], harness := (true, "9bd119603f6db044f7ee268e1df310bbf23316ad7da165b264a3025d84d8c2ca"), looks := false }, kinds := [], alts := [], laidByText := true, laidKinds := [.data, .pinned], laidTests := true, laidLooks := .later }
def UnrollCountsCardSaid : Prop := Claim7.holds Tryz.pinned (.plain (OpenSpec.ofChange unrollCountsSpec)) unrollCountsCard

/-- THE TIED CARD OF 'salvorlaw38.UnrollFree'. -/
def unrollFreeCard : Claim7 := { stood := { row := unrollFreeRow, standIns := [], harness := (true, "9bd119603f6db044f7ee268e1df310bbf23316ad7da165b264a3025d84d8c2ca"), looks := false }, kinds := [], alts := [], laidByText := true, laidKinds := [.data, .pinned], laidTests := true, laidLooks := .later }
def UnrollFreeCardSaid : Prop := Claim7.holds Tryz.pinned (.plain (OpenSpec.ofChange unrollFreeSpec)) unrollFreeCard

/-- THE TIED CARD OF 'salvorlaw33.InlineSmall'. -/
def inlineSmallCard : Claim7 := { stood := { row := inlineSmallRow, standIns := [], harness := (true, "9bd119603f6db044f7ee268e1df310bbf23316ad7da165b264a3025d84d8c2ca"), looks := false }, kinds := [], alts := [], laidByText := true, laidKinds := [.data, .pinned], laidTests := true, laidLooks := .later }
def InlineSmallCardSaid : Prop := Claim7.holds Tryz.pinned (.plain (OpenSpec.ofChange inlineSmallSpec)) inlineSmallCard

/-- THE TIED CARD OF 'salvorlaw33.InlineWrong'. -/
def inlineWrongCard : Claim7 := { stood := { row := inlineWrongRow, standIns := [], harness := (true, "9bd119603f6db044f7ee268e1df310bbf23316ad7da165b264a3025d84d8c2ca"), looks := false }, kinds := [], alts := [], laidByText := true, laidKinds := [.data, .pinned], laidTests := true, laidLooks := .later }
def InlineWrongCardSaid : Prop := Claim7.holds Tryz.pinned (.plain (OpenSpec.ofChange inlineWrongSpec)) inlineWrongCard

/-- THE TIED CARD OF 'salvorlaw33.InlineOrders'. -/
def inlineOrdersCard : Claim7 := { stood := { row := inlineOrdersRow, standIns := [], harness := (true, "9bd119603f6db044f7ee268e1df310bbf23316ad7da165b264a3025d84d8c2ca"), looks := false }, kinds := [], alts := [], laidByText := true, laidKinds := [.data, .pinned], laidTests := true, laidLooks := .later }
def InlineOrdersCardSaid : Prop := Claim7.holds Tryz.pinned (.plain (OpenSpec.ofChange inlineOrdersSpec)) inlineOrdersCard

/-- THE SECOND FORM's CARD OF 'salvorlaw33.InlineNames'. -/
def inlineNamesUptoCard : Claim7 := { stood := { row := inlineNamesUptoRow, standIns := [], harness := (true, "9bd119603f6db044f7ee268e1df310bbf23316ad7da165b264a3025d84d8c2ca"), looks := false }, kinds := [], alts := [], laidByText := true, laidKinds := [.data, .pinned], laidTests := true, laidLooks := .later }
def InlineNamesUptoCardSaid : Prop := Claim7.holds Tryz.pinned (.plain (OpenSpec.upto inlineNamesSpec)) inlineNamesUptoCard

/-- THE SECOND FORM's CARD OF 'salvorlaw38.UnrollPasses'. -/
def unrollPassesUptoCard : Claim7 := { stood := { row := unrollPassesUptoRow, standIns := [], harness := (true, "9bd119603f6db044f7ee268e1df310bbf23316ad7da165b264a3025d84d8c2ca"), looks := false }, kinds := [], alts := [], laidByText := true, laidKinds := [.data, .pinned], laidTests := true, laidLooks := .later }
def UnrollPassesUptoCardSaid : Prop := Claim7.holds Tryz.pinned (.plain (OpenSpec.upto unrollPassesSpec)) unrollPassesUptoCard

/-- THE SECOND FORM's CARD OF 'salvorlaw33.InlineCalls'. -/
def inlineCallsUptoCard : Claim7 := { stood := { row := inlineCallsUptoRow, standIns := [], harness := (true, "9bd119603f6db044f7ee268e1df310bbf23316ad7da165b264a3025d84d8c2ca"), looks := false }, kinds := [], alts := [], laidByText := true, laidKinds := [.data, .pinned], laidTests := true, laidLooks := .later }
def InlineCallsUptoCardSaid : Prop := Claim7.holds Tryz.pinned (.plain (OpenSpec.upto inlineCallsSpec)) inlineCallsUptoCard

/-- THE SECOND FORM's CARD OF 'salvorlaw38.UnrollWrong'. -/
def unrollWrongUptoCard : Claim7 := { stood := { row := unrollWrongUptoRow, standIns := [], harness := (true, "9bd119603f6db044f7ee268e1df310bbf23316ad7da165b264a3025d84d8c2ca"), looks := false }, kinds := [], alts := [], laidByText := true, laidKinds := [.data, .pinned], laidTests := true, laidLooks := .later }
def UnrollWrongUptoCardSaid : Prop := Claim7.holds Tryz.pinned (.plain (OpenSpec.upto unrollWrongSpec)) unrollWrongUptoCard

/-- THE SECOND FORM's CARD OF 'salvorlaw33.InlineFree'. -/
def inlineFreeUptoCard : Claim7 := { stood := { row := inlineFreeUptoRow, standIns := [], harness := (true, "9bd119603f6db044f7ee268e1df310bbf23316ad7da165b264a3025d84d8c2ca"), looks := false }, kinds := [], alts := [], laidByText := true, laidKinds := [.data, .pinned], laidTests := true, laidLooks := .later }
def InlineFreeUptoCardSaid : Prop := Claim7.holds Tryz.pinned (.plain (OpenSpec.upto inlineFreeSpec)) inlineFreeUptoCard

/-- THE SECOND FORM's CARD OF 'salvorlaw38.UnrollSmall'. -/
def unrollSmallUptoCard : Claim7 := { stood := { row := unrollSmallUptoRow, standIns := [], harness := (true, "9bd119603f6db044f7ee268e1df310bbf23316ad7da165b264a3025d84d8c2ca"), looks := false }, kinds := [], alts := [], laidByText := true, laidKinds := [.data, .pinned], laidTests := true, laidLooks := .later }
def UnrollSmallUptoCardSaid : Prop := Claim7.holds Tryz.pinned (.plain (OpenSpec.upto unrollSmallSpec)) unrollSmallUptoCard

/-- THE SECOND FORM's CARD OF 'salvorlaw38.UnrollCounts'. -/
def unrollCountsUptoCard : Claim7 := { stood := { row := unrollCountsUptoRow, standIns := [], harness := (true, "9bd119603f6db044f7ee268e1df310bbf23316ad7da165b264a3025d84d8c2ca"), looks := false }, kinds := [], alts := [], laidByText := true, laidKinds := [.data, .pinned], laidTests := true, laidLooks := .later }
def UnrollCountsUptoCardSaid : Prop := Claim7.holds Tryz.pinned (.plain (OpenSpec.upto unrollCountsSpec)) unrollCountsUptoCard

/-- THE SECOND FORM's CARD OF 'salvorlaw38.UnrollFree'. -/
def unrollFreeUptoCard : Claim7 := { stood := { row := unrollFreeUptoRow, standIns := [], harness := (true, "9bd119603f6db044f7ee268e1df310bbf23316ad7da165b264a3025d84d8c2ca"), looks := false }, kinds := [], alts := [], laidByText := true, laidKinds := [.data, .pinned], laidTests := true, laidLooks := .later }
def UnrollFreeUptoCardSaid : Prop := Claim7.holds Tryz.pinned (.plain (OpenSpec.upto unrollFreeSpec)) unrollFreeUptoCard

/-- THE SECOND FORM's CARD OF 'salvorlaw33.InlineSmall'. -/
def inlineSmallUptoCard : Claim7 := { stood := { row := inlineSmallUptoRow, standIns := [], harness := (true, "9bd119603f6db044f7ee268e1df310bbf23316ad7da165b264a3025d84d8c2ca"), looks := false }, kinds := [], alts := [], laidByText := true, laidKinds := [.data, .pinned], laidTests := true, laidLooks := .later }
def InlineSmallUptoCardSaid : Prop := Claim7.holds Tryz.pinned (.plain (OpenSpec.upto inlineSmallSpec)) inlineSmallUptoCard

/-- THE SECOND FORM's CARD OF 'salvorlaw33.InlineWrong'. -/
def inlineWrongUptoCard : Claim7 := { stood := { row := inlineWrongUptoRow, standIns := [], harness := (true, "9bd119603f6db044f7ee268e1df310bbf23316ad7da165b264a3025d84d8c2ca"), looks := false }, kinds := [], alts := [], laidByText := true, laidKinds := [.data, .pinned], laidTests := true, laidLooks := .later }
def InlineWrongUptoCardSaid : Prop := Claim7.holds Tryz.pinned (.plain (OpenSpec.upto inlineWrongSpec)) inlineWrongUptoCard

/-- THE SECOND FORM's CARD OF 'salvorlaw33.InlineOrders'. -/
def inlineOrdersUptoCard : Claim7 := { stood := { row := inlineOrdersUptoRow, standIns := [], harness := (true, "9bd119603f6db044f7ee268e1df310bbf23316ad7da165b264a3025d84d8c2ca"), looks := false }, kinds := [], alts := [], laidByText := true, laidKinds := [.data, .pinned], laidTests := true, laidLooks := .later }
def InlineOrdersUptoCardSaid : Prop := Claim7.holds Tryz.pinned (.plain (OpenSpec.upto inlineOrdersSpec)) inlineOrdersUptoCard
end Rows
end Go.Proofs.YtepacjkacjabbaaGreatDoor
