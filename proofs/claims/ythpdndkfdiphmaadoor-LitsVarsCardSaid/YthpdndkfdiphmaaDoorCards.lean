/-
  DERIVED. GIVEN WITH THE SEED: THE CARDS: each row of YthpdndkfdiphmaaDoorRows.lean that lists a variable, with what it lists TIED to the program's text (the seventh form; the later family's looks); each row that meets fmt, with fmt's text TOLD by the authors' own Lean function (tested against real Go, not proved from fmt's source: count such statements apart). THE CARD IS WHAT COUNTS. Prove the row's statement (the work); the ties are given (YthpdndkfdiphmaaDoorTie.lean); close each card by the builder's one call (the guide's Derived/Test/ToyasCard.lean, 'card_holds'). Laid BY PROGRAM, IN A SANDBOX (cutbox-door.mjs). By AI agents, Wed Nov 11 2026. No macro, syntax, notation, axiom, sorry.
-/
import Derived.Test.YthpdndkfdiphmaaDoorRows
import GoSem.ClaimSeven
namespace Go.Proofs.YthpdndkfdiphmaaDoor
namespace Rows

/-- THE TIED CARD OF 'salvorlaw01.LitsTells'. -/
def litsTellsCard : Claim7 := { stood := { row := litsTellsRow, standIns := [], harness := (true, "c6c32407c24256a8b3372a92e4c8ded78b2f6a7b6bfb5749d89b68466aae6005"), looks := false }, kinds := [], alts := [], laidByText := true, laidKinds := [.data, .data, .data], laidTests := true, laidLooks := .later }
def LitsTellsCardSaid : Prop := Claim7.holds Tryd.pinned (.plain (OpenSpec.ofChange litsTellsSpec)) litsTellsCard

/-- THE TIED CARD OF 'salvorlaw01.LitsReads'. -/
def litsReadsCard : Claim7 := { stood := { row := litsReadsRow, standIns := [], harness := (true, "c6c32407c24256a8b3372a92e4c8ded78b2f6a7b6bfb5749d89b68466aae6005"), looks := false }, kinds := [], alts := [], laidByText := true, laidKinds := [.data, .data, .data], laidTests := true, laidLooks := .later }
def LitsReadsCardSaid : Prop := Claim7.holds Tryd.pinned (.plain (OpenSpec.ofChange litsReadsSpec)) litsReadsCard

/-- THE TIED CARD OF 'salvorlaw01.LitsNeg'. -/
def litsNegCard : Claim7 := { stood := { row := litsNegRow, standIns := [], harness := (true, "c6c32407c24256a8b3372a92e4c8ded78b2f6a7b6bfb5749d89b68466aae6005"), looks := false }, kinds := [], alts := [], laidByText := true, laidKinds := [.data, .data, .data], laidTests := true, laidLooks := .later }
def LitsNegCardSaid : Prop := Claim7.holds Tryd.pinned (.plain (OpenSpec.ofChange litsNegSpec)) litsNegCard

/-- THE TIED CARD OF 'salvorlaw01.LitsBack'. -/
def litsBackCard : Claim7 := { stood := { row := litsBackRow, standIns := [], harness := (true, "c6c32407c24256a8b3372a92e4c8ded78b2f6a7b6bfb5749d89b68466aae6005"), looks := false }, kinds := [], alts := [], laidByText := true, laidKinds := [.data, .data, .data], laidTests := true, laidLooks := .later }
def LitsBackCardSaid : Prop := Claim7.holds Tryd.pinned (.plain (OpenSpec.ofChange litsBackSpec)) litsBackCard

/-- THE TIED CARD OF 'salvorlaw01.LitsOrder'. -/
def litsOrderCard : Claim7 := { stood := { row := litsOrderRow, standIns := [], harness := (true, "c6c32407c24256a8b3372a92e4c8ded78b2f6a7b6bfb5749d89b68466aae6005"), looks := false }, kinds := [], alts := [], laidByText := true, laidKinds := [.data, .data, .data], laidTests := true, laidLooks := .later }
def LitsOrderCardSaid : Prop := Claim7.holds Tryd.pinned (.plain (OpenSpec.ofChange litsOrderSpec)) litsOrderCard

/-- THE TIED CARD OF 'salvorlaw01.LitsWrong'. -/
def litsWrongCard : Claim7 := { stood := { row := litsWrongRow, standIns := [], harness := (true, "c6c32407c24256a8b3372a92e4c8ded78b2f6a7b6bfb5749d89b68466aae6005"), looks := false }, kinds := [], alts := [], laidByText := true, laidKinds := [.data, .data, .data], laidTests := true, laidLooks := .later }
def LitsWrongCardSaid : Prop := Claim7.holds Tryd.pinned (.plain (OpenSpec.ofChange litsWrongSpec)) litsWrongCard

/-- THE TIED CARD OF 'salvorlaw01.LitsLists'. -/
def litsListsCard : Claim7 := { stood := { row := litsListsRow, standIns := [], harness := (true, "c6c32407c24256a8b3372a92e4c8ded78b2f6a7b6bfb5749d89b68466aae6005"), looks := false }, kinds := [], alts := [], laidByText := true, laidKinds := [.data, .data, .data], laidTests := true, laidLooks := .later }
def LitsListsCardSaid : Prop := Claim7.holds Tryd.pinned (.plain (OpenSpec.ofChange litsListsSpec)) litsListsCard

/-- THE TIED CARD OF 'salvorlaw01.LitsSmall'. -/
def litsSmallCard : Claim7 := { stood := { row := litsSmallRow, standIns := [], harness := (true, "c6c32407c24256a8b3372a92e4c8ded78b2f6a7b6bfb5749d89b68466aae6005"), looks := false }, kinds := [], alts := [], laidByText := true, laidKinds := [.data, .data, .data], laidTests := true, laidLooks := .later }
def LitsSmallCardSaid : Prop := Claim7.holds Tryd.pinned (.plain (OpenSpec.ofChange litsSmallSpec)) litsSmallCard

/-- THE TIED CARD OF 'salvorlaw01.LitsVars'. -/
def litsVarsCard : Claim7 := { stood := { row := litsVarsRow, standIns := [], harness := (true, "c6c32407c24256a8b3372a92e4c8ded78b2f6a7b6bfb5749d89b68466aae6005"), looks := false }, kinds := [], alts := [], laidByText := true, laidKinds := [.data, .data, .data], laidTests := true, laidLooks := .later }
def LitsVarsCardSaid : Prop := Claim7.holds Tryd.pinned (.plain (OpenSpec.ofChange litsVarsSpec)) litsVarsCard

/-- THE SECOND FORM's CARD OF 'salvorlaw01.LitsTells'. -/
def litsTellsUptoCard : Claim7 := { stood := { row := litsTellsUptoRow, standIns := [], harness := (true, "c6c32407c24256a8b3372a92e4c8ded78b2f6a7b6bfb5749d89b68466aae6005"), looks := false }, kinds := [], alts := [], laidByText := true, laidKinds := [.data, .data, .data], laidTests := true, laidLooks := .later }
def LitsTellsUptoCardSaid : Prop := Claim7.holds Tryd.pinned (.plain (OpenSpec.upto litsTellsSpec)) litsTellsUptoCard

/-- THE SECOND FORM's CARD OF 'salvorlaw01.LitsReads'. -/
def litsReadsUptoCard : Claim7 := { stood := { row := litsReadsUptoRow, standIns := [], harness := (true, "c6c32407c24256a8b3372a92e4c8ded78b2f6a7b6bfb5749d89b68466aae6005"), looks := false }, kinds := [], alts := [], laidByText := true, laidKinds := [.data, .data, .data], laidTests := true, laidLooks := .later }
def LitsReadsUptoCardSaid : Prop := Claim7.holds Tryd.pinned (.plain (OpenSpec.upto litsReadsSpec)) litsReadsUptoCard

/-- THE SECOND FORM's CARD OF 'salvorlaw01.LitsNeg'. -/
def litsNegUptoCard : Claim7 := { stood := { row := litsNegUptoRow, standIns := [], harness := (true, "c6c32407c24256a8b3372a92e4c8ded78b2f6a7b6bfb5749d89b68466aae6005"), looks := false }, kinds := [], alts := [], laidByText := true, laidKinds := [.data, .data, .data], laidTests := true, laidLooks := .later }
def LitsNegUptoCardSaid : Prop := Claim7.holds Tryd.pinned (.plain (OpenSpec.upto litsNegSpec)) litsNegUptoCard

/-- THE SECOND FORM's CARD OF 'salvorlaw01.LitsBack'. -/
def litsBackUptoCard : Claim7 := { stood := { row := litsBackUptoRow, standIns := [], harness := (true, "c6c32407c24256a8b3372a92e4c8ded78b2f6a7b6bfb5749d89b68466aae6005"), looks := false }, kinds := [], alts := [], laidByText := true, laidKinds := [.data, .data, .data], laidTests := true, laidLooks := .later }
def LitsBackUptoCardSaid : Prop := Claim7.holds Tryd.pinned (.plain (OpenSpec.upto litsBackSpec)) litsBackUptoCard

/-- THE SECOND FORM's CARD OF 'salvorlaw01.LitsOrder'. -/
def litsOrderUptoCard : Claim7 := { stood := { row := litsOrderUptoRow, standIns := [], harness := (true, "c6c32407c24256a8b3372a92e4c8ded78b2f6a7b6bfb5749d89b68466aae6005"), looks := false }, kinds := [], alts := [], laidByText := true, laidKinds := [.data, .data, .data], laidTests := true, laidLooks := .later }
def LitsOrderUptoCardSaid : Prop := Claim7.holds Tryd.pinned (.plain (OpenSpec.upto litsOrderSpec)) litsOrderUptoCard

/-- THE SECOND FORM's CARD OF 'salvorlaw01.LitsWrong'. -/
def litsWrongUptoCard : Claim7 := { stood := { row := litsWrongUptoRow, standIns := [], harness := (true, "c6c32407c24256a8b3372a92e4c8ded78b2f6a7b6bfb5749d89b68466aae6005"), looks := false }, kinds := [], alts := [], laidByText := true, laidKinds := [.data, .data, .data], laidTests := true, laidLooks := .later }
def LitsWrongUptoCardSaid : Prop := Claim7.holds Tryd.pinned (.plain (OpenSpec.upto litsWrongSpec)) litsWrongUptoCard

/-- THE SECOND FORM's CARD OF 'salvorlaw01.LitsLists'. -/
def litsListsUptoCard : Claim7 := { stood := { row := litsListsUptoRow, standIns := [], harness := (true, "c6c32407c24256a8b3372a92e4c8ded78b2f6a7b6bfb5749d89b68466aae6005"), looks := false }, kinds := [], alts := [], laidByText := true, laidKinds := [.data, .data, .data], laidTests := true, laidLooks := .later }
def LitsListsUptoCardSaid : Prop := Claim7.holds Tryd.pinned (.plain (OpenSpec.upto litsListsSpec)) litsListsUptoCard

/-- THE SECOND FORM's CARD OF 'salvorlaw01.LitsSmall'. -/
def litsSmallUptoCard : Claim7 := { stood := { row := litsSmallUptoRow, standIns := [], harness := (true, "c6c32407c24256a8b3372a92e4c8ded78b2f6a7b6bfb5749d89b68466aae6005"), looks := false }, kinds := [], alts := [], laidByText := true, laidKinds := [.data, .data, .data], laidTests := true, laidLooks := .later }
def LitsSmallUptoCardSaid : Prop := Claim7.holds Tryd.pinned (.plain (OpenSpec.upto litsSmallSpec)) litsSmallUptoCard

/-- THE SECOND FORM's CARD OF 'salvorlaw01.LitsVars'. -/
def litsVarsUptoCard : Claim7 := { stood := { row := litsVarsUptoRow, standIns := [], harness := (true, "c6c32407c24256a8b3372a92e4c8ded78b2f6a7b6bfb5749d89b68466aae6005"), looks := false }, kinds := [], alts := [], laidByText := true, laidKinds := [.data, .data, .data], laidTests := true, laidLooks := .later }
def LitsVarsUptoCardSaid : Prop := Claim7.holds Tryd.pinned (.plain (OpenSpec.upto litsVarsSpec)) litsVarsUptoCard
end Rows
end Go.Proofs.YthpdndkfdiphmaaDoor
