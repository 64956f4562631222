/-
  NARROWER THAN 'FOR EVERY INPUT', by the rows' own cells (each row's printed sentence says how): CheckNames: laid · CheckWrong: laid · CheckCalls: laid · CheckWidths: loops, laid · CheckPlaces: laid · CheckWiths: laid · CheckStays: laid.
  DERIVED. THE GIVEN ROWS OF THIS SEAT. 7 by the template 'for every input the law returns true; each argument reads behind the call as it read before'; 0 by the template 'total and deterministic' (their statements: YthcboallnbaimaaGreatDoorTotals.lean).
  GIVEN WITH THE SEED: the statements are not yours to turn. If you find one false, say at which input.
  Laid BY PROGRAM, IN A SANDBOX (cutbox-rows.mjs): the forced cells as the released guide's own fill.sh prints them over the translation f4fb708dd03097dc… (all of the seat's roots in one cut). By AI agents, Wed Nov 11 2026. No macro, syntax, notation, axiom, sorry.
-/
import Derived.Test.YthcboallnbaimaaGreatDoorChecked
import GoSem.PinnedTables
import GoSem.Claim
import GoSem.ClaimJoined
import GoSem.ClaimMapViews
import Derived.JoinedTies
import Derived.KernelRfl
namespace Go.Proofs.YthcboallnbaimaaGreatDoor
/- THE CELL 'sum', in the pinned program and in every row, IS THE sha256 OF THE DUMP (.gsa) THAT YthcboallnbaimaaGreatDoorProg.lean LOADS. Nothing in Lean hashes anything: it is a label: what it is worth is what the hold of that sum in a sandbox is worth. -/
noncomputable def Tryz.pinned : Pinned := { name := "ythcboallnbaimaagreatdoor", sum := "f4fb708dd03097dcf02bbd16e4326137ab656e140ffffaefd70bf340a28bc750", checked := Tryz.checked }
namespace Rows
def none {H : Type} : Left H := { results := [], args := [] }

/- WHAT THE LISTED PACKAGE-LEVEL VARIABLES READ AS WHEN THE CALL BEGINS. Each datum BY PROGRAM (the guide's laid-datum.mjs) off the statement by which the dump's own 'gosem.cut.vars' lays the variable. In a bare row this is a premise. The card (YthcboallnbaimaaGreatDoorCards.lean) ties it to the program's text. -/
def laid_unicode_utf8_acceptRanges {H : Type} : DataW H := .agg [.agg [.lit (.int .u8 128), .lit (.int .u8 191)], .agg [.lit (.int .u8 160), .lit (.int .u8 191)], .agg [.lit (.int .u8 128), .lit (.int .u8 159)], .agg [.lit (.int .u8 144), .lit (.int .u8 191)], .agg [.lit (.int .u8 128), .lit (.int .u8 143)], .agg [.lit (.int .u8 0), .lit (.int .u8 0)], .agg [.lit (.int .u8 0), .lit (.int .u8 0)], .agg [.lit (.int .u8 0), .lit (.int .u8 0)], .agg [.lit (.int .u8 0), .lit (.int .u8 0)], .agg [.lit (.int .u8 0), .lit (.int .u8 0)], .agg [.lit (.int .u8 0), .lit (.int .u8 0)], .agg [.lit (.int .u8 0), .lit (.int .u8 0)], .agg [.lit (.int .u8 0), .lit (.int .u8 0)], .agg [.lit (.int .u8 0), .lit (.int .u8 0)], .agg [.lit (.int .u8 0), .lit (.int .u8 0)], .agg [.lit (.int .u8 0), .lit (.int .u8 0)]]
/-- One of Go's own tables, pinned by name: the form's constant. -/
def laid_unicode_utf8_first : DataW Unit := Go.Pinned.utf8First

/-- 'salvorlaw32.CheckNames': WHATEVER THE INPUT: true; the input reads as it did. -/
def checkNamesSpec : ChangeSpec := { name := "checkNames", fn := fun _ => fun
  | [d] => { results := [.lit (.bool true)], args := [d] }
  | _ => none }
def checkNamesRow : OpenClaim := { program := "ythcboallnbaimaagreatdoor", sum := "f4fb708dd03097dcf02bbd16e4326137ab656e140ffffaefd70bf340a28bc750", func := "salvor/salvorlaw32.CheckNames", spec := "checkNames", inPlace := ["internal/bytealg.IndexByteString", "internal/bytealg.IndexString"], unfollowed := true, recurses := true, named := ["internal/bytealg.MaxLen", "unicode/utf8.first", "unicode/utf8.acceptRanges"], apart := false, laid := [("unicode/utf8.acceptRanges", laid_unicode_utf8_acceptRanges), ("unicode/utf8.first", laid_unicode_utf8_first)] }
def CheckNamesSaid : Prop := checkNamesRow.holds Tryz.pinned (OpenSpec.ofChange checkNamesSpec)

/-- ITS FALSE NEIGHBOUR: 'it returns false'. Refute it at one input. -/
def checkNamesWrong : ChangeSpec := { name := "checkNames", fn := fun _ => fun
  | [d] => { results := [.lit (.bool false)], args := [d] }
  | _ => none }
def CheckNamesWrongFalsely : Prop := checkNamesRow.holds Tryz.pinned (OpenSpec.ofChange checkNamesWrong)

/-- 'salvorlaw32.CheckWrong': WHATEVER THE INPUT: true; the input reads as it did. -/
def checkWrongSpec : ChangeSpec := { name := "checkWrong", fn := fun _ => fun
  | [d1, d2, d3] => { results := [.lit (.bool true)], args := [d1, d2, d3] }
  | _ => none }
def checkWrongRow : OpenClaim := { program := "ythcboallnbaimaagreatdoor", sum := "f4fb708dd03097dcf02bbd16e4326137ab656e140ffffaefd70bf340a28bc750", func := "salvor/salvorlaw32.CheckWrong", spec := "checkWrong", inPlace := ["internal/bytealg.IndexByteString", "internal/bytealg.IndexString"], unfollowed := true, recurses := true, named := ["internal/bytealg.MaxLen", "unicode/utf8.first", "unicode/utf8.acceptRanges"], apart := false, laid := [("unicode/utf8.acceptRanges", laid_unicode_utf8_acceptRanges), ("unicode/utf8.first", laid_unicode_utf8_first)] }
def CheckWrongSaid : Prop := checkWrongRow.holds Tryz.pinned (OpenSpec.ofChange checkWrongSpec)

/-- ITS FALSE NEIGHBOUR: 'it returns false'. Refute it at one input. -/
def checkWrongWrong : ChangeSpec := { name := "checkWrong", fn := fun _ => fun
  | [d1, d2, d3] => { results := [.lit (.bool false)], args := [d1, d2, d3] }
  | _ => none }
def CheckWrongWrongFalsely : Prop := checkWrongRow.holds Tryz.pinned (OpenSpec.ofChange checkWrongWrong)

/-- 'salvorlaw32.CheckCalls': WHATEVER THE INPUT: true; the input reads as it did. -/
def checkCallsSpec : ChangeSpec := { name := "checkCalls", fn := fun _ => fun
  | [d1, d2, d3] => { results := [.lit (.bool true)], args := [d1, d2, d3] }
  | _ => none }
def checkCallsRow : OpenClaim := { program := "ythcboallnbaimaagreatdoor", sum := "f4fb708dd03097dcf02bbd16e4326137ab656e140ffffaefd70bf340a28bc750", func := "salvor/salvorlaw32.CheckCalls", spec := "checkCalls", inPlace := ["internal/bytealg.IndexByteString", "internal/bytealg.IndexString"], unfollowed := true, recurses := true, named := ["internal/bytealg.MaxLen", "unicode/utf8.first", "unicode/utf8.acceptRanges"], apart := false, laid := [("unicode/utf8.acceptRanges", laid_unicode_utf8_acceptRanges), ("unicode/utf8.first", laid_unicode_utf8_first)] }
def CheckCallsSaid : Prop := checkCallsRow.holds Tryz.pinned (OpenSpec.ofChange checkCallsSpec)

/-- ITS FALSE NEIGHBOUR: 'it returns false'. Refute it at one input. -/
def checkCallsWrong : ChangeSpec := { name := "checkCalls", fn := fun _ => fun
  | [d1, d2, d3] => { results := [.lit (.bool false)], args := [d1, d2, d3] }
  | _ => none }
def CheckCallsWrongFalsely : Prop := checkCallsRow.holds Tryz.pinned (OpenSpec.ofChange checkCallsWrong)

/-- 'salvorlaw32.CheckWidths': WHATEVER THE INPUT: true; the input reads as it did. -/
def checkWidthsSpec : ChangeSpec := { name := "checkWidths", fn := fun _ => fun
  | [d1, d2, d3] => { results := [.lit (.bool true)], args := [d1, d2, d3] }
  | _ => none }
def checkWidthsRow : OpenClaim := { program := "ythcboallnbaimaagreatdoor", sum := "f4fb708dd03097dcf02bbd16e4326137ab656e140ffffaefd70bf340a28bc750", func := "salvor/salvorlaw32.CheckWidths", spec := "checkWidths", inPlace := ["internal/bytealg.IndexByteString", "internal/bytealg.IndexString"], unfollowed := true, recurses := true, named := ["internal/bytealg.MaxLen", "unicode/utf8.first", "unicode/utf8.acceptRanges"], loops := true, apart := false, laid := [("unicode/utf8.acceptRanges", laid_unicode_utf8_acceptRanges), ("unicode/utf8.first", laid_unicode_utf8_first)] }
def CheckWidthsSaid : Prop := checkWidthsRow.holds Tryz.pinned (OpenSpec.ofChange checkWidthsSpec)

/-- ITS FALSE NEIGHBOUR: 'it returns false'. Refute it at one input. -/
def checkWidthsWrong : ChangeSpec := { name := "checkWidths", fn := fun _ => fun
  | [d1, d2, d3] => { results := [.lit (.bool false)], args := [d1, d2, d3] }
  | _ => none }
def CheckWidthsWrongFalsely : Prop := checkWidthsRow.holds Tryz.pinned (OpenSpec.ofChange checkWidthsWrong)

/-- 'salvorlaw32.CheckPlaces': WHATEVER THE INPUT: true; the input reads as it did. -/
def checkPlacesSpec : ChangeSpec := { name := "checkPlaces", fn := fun _ => fun
  | [d1, d2] => { results := [.lit (.bool true)], args := [d1, d2] }
  | _ => none }
def checkPlacesRow : OpenClaim := { program := "ythcboallnbaimaagreatdoor", sum := "f4fb708dd03097dcf02bbd16e4326137ab656e140ffffaefd70bf340a28bc750", func := "salvor/salvorlaw32.CheckPlaces", spec := "checkPlaces", inPlace := ["internal/bytealg.IndexByteString", "internal/bytealg.IndexString"], unfollowed := true, recurses := true, named := ["internal/bytealg.MaxLen", "unicode/utf8.first", "unicode/utf8.acceptRanges"], apart := false, laid := [("unicode/utf8.acceptRanges", laid_unicode_utf8_acceptRanges), ("unicode/utf8.first", laid_unicode_utf8_first)] }
def CheckPlacesSaid : Prop := checkPlacesRow.holds Tryz.pinned (OpenSpec.ofChange checkPlacesSpec)

/-- ITS FALSE NEIGHBOUR: 'it returns false'. Refute it at one input. -/
def checkPlacesWrong : ChangeSpec := { name := "checkPlaces", fn := fun _ => fun
  | [d1, d2] => { results := [.lit (.bool false)], args := [d1, d2] }
  | _ => none }
def CheckPlacesWrongFalsely : Prop := checkPlacesRow.holds Tryz.pinned (OpenSpec.ofChange checkPlacesWrong)

/-- 'salvorlaw32.CheckWiths': WHATEVER THE INPUT: true; the input reads as it did. -/
def checkWithsSpec : ChangeSpec := { name := "checkWiths", fn := fun _ => fun
  | [d1, d2] => { results := [.lit (.bool true)], args := [d1, d2] }
  | _ => none }
def checkWithsRow : OpenClaim := { program := "ythcboallnbaimaagreatdoor", sum := "f4fb708dd03097dcf02bbd16e4326137ab656e140ffffaefd70bf340a28bc750", func := "salvor/salvorlaw32.CheckWiths", spec := "checkWiths", inPlace := ["internal/bytealg.IndexByteString", "internal/bytealg.IndexString"], unfollowed := true, recurses := true, named := ["internal/bytealg.MaxLen", "unicode/utf8.first", "unicode/utf8.acceptRanges"], apart := false, laid := [("unicode/utf8.acceptRanges", laid_unicode_utf8_acceptRanges), ("unicode/utf8.first", laid_unicode_utf8_first)] }
def CheckWithsSaid : Prop := checkWithsRow.holds Tryz.pinned (OpenSpec.ofChange checkWithsSpec)

/-- ITS FALSE NEIGHBOUR: 'it returns false'. Refute it at one input. -/
def checkWithsWrong : ChangeSpec := { name := "checkWiths", fn := fun _ => fun
  | [d1, d2] => { results := [.lit (.bool false)], args := [d1, d2] }
  | _ => none }
def CheckWithsWrongFalsely : Prop := checkWithsRow.holds Tryz.pinned (OpenSpec.ofChange checkWithsWrong)

/-- 'salvorlaw32.CheckStays': WHATEVER THE INPUT: true; the input reads as it did. -/
def checkStaysSpec : ChangeSpec := { name := "checkStays", fn := fun _ => fun
  | [d1, d2, d3] => { results := [.lit (.bool true)], args := [d1, d2, d3] }
  | _ => none }
def checkStaysRow : OpenClaim := { program := "ythcboallnbaimaagreatdoor", sum := "f4fb708dd03097dcf02bbd16e4326137ab656e140ffffaefd70bf340a28bc750", func := "salvor/salvorlaw32.CheckStays", spec := "checkStays", inPlace := ["internal/bytealg.IndexByteString", "internal/bytealg.IndexString"], unfollowed := true, recurses := true, named := ["internal/bytealg.MaxLen", "unicode/utf8.first", "unicode/utf8.acceptRanges"], apart := false, laid := [("unicode/utf8.acceptRanges", laid_unicode_utf8_acceptRanges), ("unicode/utf8.first", laid_unicode_utf8_first)] }
def CheckStaysSaid : Prop := checkStaysRow.holds Tryz.pinned (OpenSpec.ofChange checkStaysSpec)

/-- ITS FALSE NEIGHBOUR: 'it returns false'. Refute it at one input. -/
def checkStaysWrong : ChangeSpec := { name := "checkStays", fn := fun _ => fun
  | [d1, d2, d3] => { results := [.lit (.bool false)], args := [d1, d2, d3] }
  | _ => none }
def CheckStaysWrongFalsely : Prop := checkStaysRow.holds Tryz.pinned (OpenSpec.ofChange checkStaysWrong)

/- THE SECOND FORM. 'bulk': how many values and letters a reading holds, each counted each time it is reached (what is shared counts as often as it is met; a slice's spare places count too). A statement '..UptoSaid' is the law's where the arguments, and the package variables that the reading takes, are together of bulk at most 1048576: NARROWER than '..Said'. Prove '..Said' where nothing that the law and all that it calls make is longer than what came in: it says more and counts as full. Else prove '..UptoSaid'. A law counts once. -/
mutual
def uptoBulk {H : Type} : DataW H → Nat
  | .lit (.string bytes) => bytes.length + 1
  | .lit _ => 1
  | .nil => 1
  | .ptr d => uptoBulk d + 1
  | .slice elems spare => uptoBulkAll elems + uptoBulkAll spare + 1
  | .agg parts => uptoBulkAll parts + 1
  | .iface _ d => uptoBulk d + 1
  | .map entries => uptoBulkEntries entries + 1
  | .held _ => 1
def uptoBulkAll {H : Type} : List (DataW H) → Nat
  | [] => 0
  | d :: r => uptoBulk d + uptoBulkAll r
def uptoBulkEntries {H : Type} : List (Lit × DataW H) → Nat
  | [] => 0
  | x :: r => uptoBulkEntry x + uptoBulkEntries r
def uptoBulkEntry {H : Type} : Lit × DataW H → Nat
  | (.string bytes, d) => bytes.length + uptoBulk d + 1
  | (_, d) => uptoBulk d + 1
 end
def uptoSmall : (H : Type) → List (DataW H) → Bool := fun _ ds => decide (uptoBulkAll ds ≤ 1048576)
def OpenSpec.upto (s : _root_.Go.ChangeSpec) : _root_.Go.OpenSpec := { _root_.Go.OpenSpec.ofChange s with cond := some uptoSmall }

/-- 'salvorlaw32.CheckNames', WHERE WHAT IT READS IS OF BULK AT MOST 1048576: true; the input reads as it did. -/
def checkNamesUptoRow : OpenClaim := { program := "ythcboallnbaimaagreatdoor", sum := "f4fb708dd03097dcf02bbd16e4326137ab656e140ffffaefd70bf340a28bc750", func := "salvor/salvorlaw32.CheckNames", spec := "checkNames", inPlace := ["internal/bytealg.IndexByteString", "internal/bytealg.IndexString"], unfollowed := true, recurses := true, named := ["internal/bytealg.MaxLen", "unicode/utf8.first", "unicode/utf8.acceptRanges"], apart := false, laid := [("unicode/utf8.acceptRanges", laid_unicode_utf8_acceptRanges), ("unicode/utf8.first", laid_unicode_utf8_first)], narrowed := true }
def CheckNamesUptoSaid : Prop := checkNamesUptoRow.holds Tryz.pinned (OpenSpec.upto checkNamesSpec)

/-- 'salvorlaw32.CheckWrong', WHERE WHAT IT READS IS OF BULK AT MOST 1048576: true; the input reads as it did. -/
def checkWrongUptoRow : OpenClaim := { program := "ythcboallnbaimaagreatdoor", sum := "f4fb708dd03097dcf02bbd16e4326137ab656e140ffffaefd70bf340a28bc750", func := "salvor/salvorlaw32.CheckWrong", spec := "checkWrong", inPlace := ["internal/bytealg.IndexByteString", "internal/bytealg.IndexString"], unfollowed := true, recurses := true, named := ["internal/bytealg.MaxLen", "unicode/utf8.first", "unicode/utf8.acceptRanges"], apart := false, laid := [("unicode/utf8.acceptRanges", laid_unicode_utf8_acceptRanges), ("unicode/utf8.first", laid_unicode_utf8_first)], narrowed := true }
def CheckWrongUptoSaid : Prop := checkWrongUptoRow.holds Tryz.pinned (OpenSpec.upto checkWrongSpec)

/-- 'salvorlaw32.CheckCalls', WHERE WHAT IT READS IS OF BULK AT MOST 1048576: true; the input reads as it did. -/
def checkCallsUptoRow : OpenClaim := { program := "ythcboallnbaimaagreatdoor", sum := "f4fb708dd03097dcf02bbd16e4326137ab656e140ffffaefd70bf340a28bc750", func := "salvor/salvorlaw32.CheckCalls", spec := "checkCalls", inPlace := ["internal/bytealg.IndexByteString", "internal/bytealg.IndexString"], unfollowed := true, recurses := true, named := ["internal/bytealg.MaxLen", "unicode/utf8.first", "unicode/utf8.acceptRanges"], apart := false, laid := [("unicode/utf8.acceptRanges", laid_unicode_utf8_acceptRanges), ("unicode/utf8.first", laid_unicode_utf8_first)], narrowed := true }
def CheckCallsUptoSaid : Prop := checkCallsUptoRow.holds Tryz.pinned (OpenSpec.upto checkCallsSpec)

/-- 'salvorlaw32.CheckWidths', WHERE WHAT IT READS IS OF BULK AT MOST 1048576: true; the input reads as it did. -/
def checkWidthsUptoRow : OpenClaim := { program := "ythcboallnbaimaagreatdoor", sum := "f4fb708dd03097dcf02bbd16e4326137ab656e140ffffaefd70bf340a28bc750", func := "salvor/salvorlaw32.CheckWidths", spec := "checkWidths", inPlace := ["internal/bytealg.IndexByteString", "internal/bytealg.IndexString"], unfollowed := true, recurses := true, named := ["internal/bytealg.MaxLen", "unicode/utf8.first", "unicode/utf8.acceptRanges"], loops := true, apart := false, laid := [("unicode/utf8.acceptRanges", laid_unicode_utf8_acceptRanges), ("unicode/utf8.first", laid_unicode_utf8_first)], narrowed := true }
def CheckWidthsUptoSaid : Prop := checkWidthsUptoRow.holds Tryz.pinned (OpenSpec.upto checkWidthsSpec)

/-- 'salvorlaw32.CheckPlaces', WHERE WHAT IT READS IS OF BULK AT MOST 1048576: true; the input reads as it did. -/
def checkPlacesUptoRow : OpenClaim := { program := "ythcboallnbaimaagreatdoor", sum := "f4fb708dd03097dcf02bbd16e4326137ab656e140ffffaefd70bf340a28bc750", func := "salvor/salvorlaw32.CheckPlaces", spec := "checkPlaces", inPlace := ["internal/bytealg.IndexByteString", "internal/bytealg.IndexString"], unfollowed := true, recurses := true, named := ["internal/bytealg.MaxLen", "unicode/utf8.first", "unicode/utf8.acceptRanges"], apart := false, laid := [("unicode/utf8.acceptRanges", laid_unicode_utf8_acceptRanges), ("unicode/utf8.first", laid_unicode_utf8_first)], narrowed := true }
def CheckPlacesUptoSaid : Prop := checkPlacesUptoRow.holds Tryz.pinned (OpenSpec.upto checkPlacesSpec)

/-- 'salvorlaw32.CheckWiths', WHERE WHAT IT READS IS OF BULK AT MOST 1048576: true; the input reads as it did. -/
def checkWithsUptoRow : OpenClaim := { program := "ythcboallnbaimaagreatdoor", sum := "f4fb708dd03097dcf02bbd16e4326137ab656e140ffffaefd70bf340a28bc750", func := "salvor/salvorlaw32.CheckWiths", spec := "checkWiths", inPlace := ["internal/bytealg.IndexByteString", "internal/bytealg.IndexString"], unfollowed := true, recurses := true, named := ["internal/bytealg.MaxLen", "unicode/utf8.first", "unicode/utf8.acceptRanges"], apart := false, laid := [("unicode/utf8.acceptRanges", laid_unicode_utf8_acceptRanges), ("unicode/utf8.first", laid_unicode_utf8_first)], narrowed := true }
def CheckWithsUptoSaid : Prop := checkWithsUptoRow.holds Tryz.pinned (OpenSpec.upto checkWithsSpec)

/-- 'salvorlaw32.CheckStays', WHERE WHAT IT READS IS OF BULK AT MOST 1048576: true; the input reads as it did. -/
def checkStaysUptoRow : OpenClaim := { program := "ythcboallnbaimaagreatdoor", sum := "f4fb708dd03097dcf02bbd16e4326137ab656e140ffffaefd70bf340a28bc750", func := "salvor/salvorlaw32.CheckStays", spec := "checkStays", inPlace := ["internal/bytealg.IndexByteString", "internal/bytealg.IndexString"], unfollowed := true, recurses := true, named := ["internal/bytealg.MaxLen", "unicode/utf8.first", "unicode/utf8.acceptRanges"], apart := false, laid := [("unicode/utf8.acceptRanges", laid_unicode_utf8_acceptRanges), ("unicode/utf8.first", laid_unicode_utf8_first)], narrowed := true }
def CheckStaysUptoSaid : Prop := checkStaysUptoRow.holds Tryz.pinned (OpenSpec.upto checkStaysSpec)

end Rows
end Go.Proofs.YthcboallnbaimaaGreatDoor
