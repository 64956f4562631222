/-
  NARROWER THAN 'FOR EVERY INPUT', by the rows' own cells (each row's printed sentence says how): InlineNames: laid · UnrollPasses: loops, laid · InlineCalls: laid · UnrollWrong: laid · InlineFree: laid · UnrollSmall: laid · UnrollCounts: laid · UnrollFree: laid · InlineSmall: laid · InlineWrong: laid · InlineOrders: laid.
  DERIVED. THE GIVEN ROWS OF THIS SEAT. 11 by the template 'for every input the law returns true; each argument reads behind the call as it read before'; 0 by the template 'total and deterministic' (their statements: YtepacjkacjabbaaGreatDoorTotals.lean).
  GIVEN WITH THE SEED: the statements are not yours to turn. If you find one false, say at which input.
  Laid BY PROGRAM, IN A SANDBOX (cutbox-rows.mjs): the forced cells as the released guide's own fill.sh prints them over the translation 7bc4a54753eab665… (all of the seat's roots in one cut). By AI agents, Wed Nov 11 2026. No macro, syntax, notation, axiom, sorry.
-/
import Derived.Test.YtepacjkacjabbaaGreatDoorChecked
import GoSem.PinnedTables
import GoSem.Claim
import GoSem.ClaimJoined
import GoSem.ClaimMapViews
import Derived.JoinedTies
import Derived.KernelRfl
namespace Go.Proofs.YtepacjkacjabbaaGreatDoor
/- THE CELL 'sum', in the pinned program and in every row, IS THE sha256 OF THE DUMP (.gsa) THAT YtepacjkacjabbaaGreatDoorProg.lean LOADS. Nothing in Lean hashes anything: it is a label: what it is worth is what the hold of that sum in a sandbox is worth. -/
noncomputable def Tryz.pinned : Pinned := { name := "ytepacjkacjabbaagreatdoor", sum := "7bc4a54753eab665713876c0bf5c4a8dbd26fecf7285af6c92533b6f395b155e", checked := Tryz.checked }
namespace Rows
def none {H : Type} : Left H := { results := [], args := [] }

/- WHAT THE LISTED PACKAGE-LEVEL VARIABLES READ AS WHEN THE CALL BEGINS. Each datum BY PROGRAM (the guide's laid-datum.mjs) off the statement by which the dump's own 'gosem.cut.vars' lays the variable. In a bare row this is a premise. The card (YtepacjkacjabbaaGreatDoorCards.lean) ties it to the program's text. -/
def laid_unicode_utf8_acceptRanges {H : Type} : DataW H := .agg [.agg [.lit (.int .u8 128), .lit (.int .u8 191)], .agg [.lit (.int .u8 160), .lit (.int .u8 191)], .agg [.lit (.int .u8 128), .lit (.int .u8 159)], .agg [.lit (.int .u8 144), .lit (.int .u8 191)], .agg [.lit (.int .u8 128), .lit (.int .u8 143)], .agg [.lit (.int .u8 0), .lit (.int .u8 0)], .agg [.lit (.int .u8 0), .lit (.int .u8 0)], .agg [.lit (.int .u8 0), .lit (.int .u8 0)], .agg [.lit (.int .u8 0), .lit (.int .u8 0)], .agg [.lit (.int .u8 0), .lit (.int .u8 0)], .agg [.lit (.int .u8 0), .lit (.int .u8 0)], .agg [.lit (.int .u8 0), .lit (.int .u8 0)], .agg [.lit (.int .u8 0), .lit (.int .u8 0)], .agg [.lit (.int .u8 0), .lit (.int .u8 0)], .agg [.lit (.int .u8 0), .lit (.int .u8 0)], .agg [.lit (.int .u8 0), .lit (.int .u8 0)]]
/-- One of Go's own tables, pinned by name: the form's constant. -/
def laid_unicode_utf8_first : DataW Unit := Go.Pinned.utf8First

/-- 'salvorlaw33.InlineNames': WHATEVER THE INPUT: true; the input reads as it did. -/
def inlineNamesSpec : ChangeSpec := { name := "inlineNames", fn := fun _ => fun
  | [d1, d2] => { results := [.lit (.bool true)], args := [d1, d2] }
  | _ => none }
def inlineNamesRow : OpenClaim := { program := "ytepacjkacjabbaagreatdoor", sum := "7bc4a54753eab665713876c0bf5c4a8dbd26fecf7285af6c92533b6f395b155e", func := "salvor/salvorlaw33.InlineNames", spec := "inlineNames", inPlace := ["internal/bytealg.IndexByteString", "internal/bytealg.IndexString"], unfollowed := true, recurses := true, named := ["internal/bytealg.MaxLen", "unicode/utf8.first", "unicode/utf8.acceptRanges"], apart := false, laid := [("unicode/utf8.acceptRanges", laid_unicode_utf8_acceptRanges), ("unicode/utf8.first", laid_unicode_utf8_first)] }
def InlineNamesSaid : Prop := inlineNamesRow.holds Tryz.pinned (OpenSpec.ofChange inlineNamesSpec)

/-- ITS FALSE NEIGHBOUR: 'it returns false'. Refute it at one input. -/
def inlineNamesWrong : ChangeSpec := { name := "inlineNames", fn := fun _ => fun
  | [d1, d2] => { results := [.lit (.bool false)], args := [d1, d2] }
  | _ => none }
def InlineNamesWrongFalsely : Prop := inlineNamesRow.holds Tryz.pinned (OpenSpec.ofChange inlineNamesWrong)

/-- 'salvorlaw38.UnrollPasses': WHATEVER THE INPUT: true; the input reads as it did. -/
def unrollPassesSpec : ChangeSpec := { name := "unrollPasses", fn := fun _ => fun
  | [d] => { results := [.lit (.bool true)], args := [d] }
  | _ => none }
def unrollPassesRow : OpenClaim := { program := "ytepacjkacjabbaagreatdoor", sum := "7bc4a54753eab665713876c0bf5c4a8dbd26fecf7285af6c92533b6f395b155e", func := "salvor/salvorlaw38.UnrollPasses", spec := "unrollPasses", inPlace := ["internal/bytealg.IndexByteString", "internal/bytealg.IndexString"], unfollowed := true, recurses := true, named := ["internal/bytealg.MaxLen", "unicode/utf8.first", "unicode/utf8.acceptRanges"], loops := true, apart := false, laid := [("unicode/utf8.acceptRanges", laid_unicode_utf8_acceptRanges), ("unicode/utf8.first", laid_unicode_utf8_first)] }
def UnrollPassesSaid : Prop := unrollPassesRow.holds Tryz.pinned (OpenSpec.ofChange unrollPassesSpec)

/-- ITS FALSE NEIGHBOUR: 'it returns false'. Refute it at one input. -/
def unrollPassesWrong : ChangeSpec := { name := "unrollPasses", fn := fun _ => fun
  | [d] => { results := [.lit (.bool false)], args := [d] }
  | _ => none }
def UnrollPassesWrongFalsely : Prop := unrollPassesRow.holds Tryz.pinned (OpenSpec.ofChange unrollPassesWrong)

/-- 'salvorlaw33.InlineCalls': WHATEVER THE INPUT: true; the input reads as it did. -/
def inlineCallsSpec : ChangeSpec := { name := "inlineCalls", fn := fun _ => fun
  | [d1, d2] => { results := [.lit (.bool true)], args := [d1, d2] }
  | _ => none }
def inlineCallsRow : OpenClaim := { program := "ytepacjkacjabbaagreatdoor", sum := "7bc4a54753eab665713876c0bf5c4a8dbd26fecf7285af6c92533b6f395b155e", func := "salvor/salvorlaw33.InlineCalls", spec := "inlineCalls", inPlace := ["internal/bytealg.IndexByteString", "internal/bytealg.IndexString"], unfollowed := true, recurses := true, named := ["internal/bytealg.MaxLen", "unicode/utf8.first", "unicode/utf8.acceptRanges"], apart := false, laid := [("unicode/utf8.acceptRanges", laid_unicode_utf8_acceptRanges), ("unicode/utf8.first", laid_unicode_utf8_first)] }
def InlineCallsSaid : Prop := inlineCallsRow.holds Tryz.pinned (OpenSpec.ofChange inlineCallsSpec)

/-- ITS FALSE NEIGHBOUR: 'it returns false'. Refute it at one input. -/
def inlineCallsWrong : ChangeSpec := { name := "inlineCalls", fn := fun _ => fun
  | [d1, d2] => { results := [.lit (.bool false)], args := [d1, d2] }
  | _ => none }
def InlineCallsWrongFalsely : Prop := inlineCallsRow.holds Tryz.pinned (OpenSpec.ofChange inlineCallsWrong)

/-- 'salvorlaw38.UnrollWrong': WHATEVER THE INPUT: true; the input reads as it did. -/
def unrollWrongSpec : ChangeSpec := { name := "unrollWrong", fn := fun _ => fun
  | [d1, d2, d3] => { results := [.lit (.bool true)], args := [d1, d2, d3] }
  | _ => none }
def unrollWrongRow : OpenClaim := { program := "ytepacjkacjabbaagreatdoor", sum := "7bc4a54753eab665713876c0bf5c4a8dbd26fecf7285af6c92533b6f395b155e", func := "salvor/salvorlaw38.UnrollWrong", spec := "unrollWrong", inPlace := ["internal/bytealg.IndexByteString", "internal/bytealg.IndexString"], unfollowed := true, recurses := true, named := ["internal/bytealg.MaxLen", "unicode/utf8.first", "unicode/utf8.acceptRanges"], apart := false, laid := [("unicode/utf8.acceptRanges", laid_unicode_utf8_acceptRanges), ("unicode/utf8.first", laid_unicode_utf8_first)] }
def UnrollWrongSaid : Prop := unrollWrongRow.holds Tryz.pinned (OpenSpec.ofChange unrollWrongSpec)

/-- ITS FALSE NEIGHBOUR: 'it returns false'. Refute it at one input. -/
def unrollWrongWrong : ChangeSpec := { name := "unrollWrong", fn := fun _ => fun
  | [d1, d2, d3] => { results := [.lit (.bool false)], args := [d1, d2, d3] }
  | _ => none }
def UnrollWrongWrongFalsely : Prop := unrollWrongRow.holds Tryz.pinned (OpenSpec.ofChange unrollWrongWrong)

/-- 'salvorlaw33.InlineFree': WHATEVER THE INPUT: true; the input reads as it did. -/
def inlineFreeSpec : ChangeSpec := { name := "inlineFree", fn := fun _ => fun
  | [d1, d2] => { results := [.lit (.bool true)], args := [d1, d2] }
  | _ => none }
def inlineFreeRow : OpenClaim := { program := "ytepacjkacjabbaagreatdoor", sum := "7bc4a54753eab665713876c0bf5c4a8dbd26fecf7285af6c92533b6f395b155e", func := "salvor/salvorlaw33.InlineFree", spec := "inlineFree", inPlace := ["internal/bytealg.IndexByteString", "internal/bytealg.IndexString"], unfollowed := true, recurses := true, named := ["internal/bytealg.MaxLen", "unicode/utf8.first", "unicode/utf8.acceptRanges"], apart := false, laid := [("unicode/utf8.acceptRanges", laid_unicode_utf8_acceptRanges), ("unicode/utf8.first", laid_unicode_utf8_first)] }
def InlineFreeSaid : Prop := inlineFreeRow.holds Tryz.pinned (OpenSpec.ofChange inlineFreeSpec)

/-- ITS FALSE NEIGHBOUR: 'it returns false'. Refute it at one input. -/
def inlineFreeWrong : ChangeSpec := { name := "inlineFree", fn := fun _ => fun
  | [d1, d2] => { results := [.lit (.bool false)], args := [d1, d2] }
  | _ => none }
def InlineFreeWrongFalsely : Prop := inlineFreeRow.holds Tryz.pinned (OpenSpec.ofChange inlineFreeWrong)

/-- 'salvorlaw38.UnrollSmall': WHATEVER THE INPUT: true; the input reads as it did. -/
def unrollSmallSpec : ChangeSpec := { name := "unrollSmall", fn := fun _ => fun
  | [] => { results := [.lit (.bool true)], args := [] }
  | _ => none }
def unrollSmallRow : OpenClaim := { program := "ytepacjkacjabbaagreatdoor", sum := "7bc4a54753eab665713876c0bf5c4a8dbd26fecf7285af6c92533b6f395b155e", func := "salvor/salvorlaw38.UnrollSmall", spec := "unrollSmall", inPlace := ["internal/bytealg.IndexByteString", "internal/bytealg.IndexString"], unfollowed := true, recurses := true, named := ["internal/bytealg.MaxLen", "unicode/utf8.first", "unicode/utf8.acceptRanges"], apart := false, laid := [("unicode/utf8.acceptRanges", laid_unicode_utf8_acceptRanges), ("unicode/utf8.first", laid_unicode_utf8_first)] }
def UnrollSmallSaid : Prop := unrollSmallRow.holds Tryz.pinned (OpenSpec.ofChange unrollSmallSpec)

/-- ITS FALSE NEIGHBOUR: 'it returns false'. Refute it at one input. -/
def unrollSmallWrong : ChangeSpec := { name := "unrollSmall", fn := fun _ => fun
  | [] => { results := [.lit (.bool false)], args := [] }
  | _ => none }
def UnrollSmallWrongFalsely : Prop := unrollSmallRow.holds Tryz.pinned (OpenSpec.ofChange unrollSmallWrong)

/-- 'salvorlaw38.UnrollCounts': WHATEVER THE INPUT: true; the input reads as it did. -/
def unrollCountsSpec : ChangeSpec := { name := "unrollCounts", fn := fun _ => fun
  | [d1, d2, d3] => { results := [.lit (.bool true)], args := [d1, d2, d3] }
  | _ => none }
def unrollCountsRow : OpenClaim := { program := "ytepacjkacjabbaagreatdoor", sum := "7bc4a54753eab665713876c0bf5c4a8dbd26fecf7285af6c92533b6f395b155e", func := "salvor/salvorlaw38.UnrollCounts", spec := "unrollCounts", inPlace := ["internal/bytealg.IndexByteString", "internal/bytealg.IndexString"], unfollowed := true, recurses := true, named := ["internal/bytealg.MaxLen", "unicode/utf8.first", "unicode/utf8.acceptRanges"], apart := false, laid := [("unicode/utf8.acceptRanges", laid_unicode_utf8_acceptRanges), ("unicode/utf8.first", laid_unicode_utf8_first)] }
def UnrollCountsSaid : Prop := unrollCountsRow.holds Tryz.pinned (OpenSpec.ofChange unrollCountsSpec)

/-- ITS FALSE NEIGHBOUR: 'it returns false'. Refute it at one input. -/
def unrollCountsWrong : ChangeSpec := { name := "unrollCounts", fn := fun _ => fun
  | [d1, d2, d3] => { results := [.lit (.bool false)], args := [d1, d2, d3] }
  | _ => none }
def UnrollCountsWrongFalsely : Prop := unrollCountsRow.holds Tryz.pinned (OpenSpec.ofChange unrollCountsWrong)

/-- 'salvorlaw38.UnrollFree': WHATEVER THE INPUT: true; the input reads as it did. -/
def unrollFreeSpec : ChangeSpec := { name := "unrollFree", fn := fun _ => fun
  | [d1, d2] => { results := [.lit (.bool true)], args := [d1, d2] }
  | _ => none }
def unrollFreeRow : OpenClaim := { program := "ytepacjkacjabbaagreatdoor", sum := "7bc4a54753eab665713876c0bf5c4a8dbd26fecf7285af6c92533b6f395b155e", func := "salvor/salvorlaw38.UnrollFree", spec := "unrollFree", inPlace := ["internal/bytealg.IndexByteString", "internal/bytealg.IndexString"], unfollowed := true, recurses := true, named := ["internal/bytealg.MaxLen", "unicode/utf8.first", "unicode/utf8.acceptRanges"], apart := false, laid := [("unicode/utf8.acceptRanges", laid_unicode_utf8_acceptRanges), ("unicode/utf8.first", laid_unicode_utf8_first)] }
def UnrollFreeSaid : Prop := unrollFreeRow.holds Tryz.pinned (OpenSpec.ofChange unrollFreeSpec)

/-- ITS FALSE NEIGHBOUR: 'it returns false'. Refute it at one input. -/
def unrollFreeWrong : ChangeSpec := { name := "unrollFree", fn := fun _ => fun
  | [d1, d2] => { results := [.lit (.bool false)], args := [d1, d2] }
  | _ => none }
def UnrollFreeWrongFalsely : Prop := unrollFreeRow.holds Tryz.pinned (OpenSpec.ofChange unrollFreeWrong)

/-- 'salvorlaw33.InlineSmall': WHATEVER THE INPUT: true; the input reads as it did. -/
def inlineSmallSpec : ChangeSpec := { name := "inlineSmall", fn := fun _ => fun
  | [] => { results := [.lit (.bool true)], args := [] }
  | _ => none }
def inlineSmallRow : OpenClaim := { program := "ytepacjkacjabbaagreatdoor", sum := "7bc4a54753eab665713876c0bf5c4a8dbd26fecf7285af6c92533b6f395b155e", func := "salvor/salvorlaw33.InlineSmall", spec := "inlineSmall", inPlace := ["internal/bytealg.IndexByteString", "internal/bytealg.IndexString"], unfollowed := true, recurses := true, named := ["internal/bytealg.MaxLen", "unicode/utf8.first", "unicode/utf8.acceptRanges"], apart := false, laid := [("unicode/utf8.acceptRanges", laid_unicode_utf8_acceptRanges), ("unicode/utf8.first", laid_unicode_utf8_first)] }
def InlineSmallSaid : Prop := inlineSmallRow.holds Tryz.pinned (OpenSpec.ofChange inlineSmallSpec)

/-- ITS FALSE NEIGHBOUR: 'it returns false'. Refute it at one input. -/
def inlineSmallWrong : ChangeSpec := { name := "inlineSmall", fn := fun _ => fun
  | [] => { results := [.lit (.bool false)], args := [] }
  | _ => none }
def InlineSmallWrongFalsely : Prop := inlineSmallRow.holds Tryz.pinned (OpenSpec.ofChange inlineSmallWrong)

/-- 'salvorlaw33.InlineWrong': WHATEVER THE INPUT: true; the input reads as it did. -/
def inlineWrongSpec : ChangeSpec := { name := "inlineWrong", fn := fun _ => fun
  | [d1, d2, d3] => { results := [.lit (.bool true)], args := [d1, d2, d3] }
  | _ => none }
def inlineWrongRow : OpenClaim := { program := "ytepacjkacjabbaagreatdoor", sum := "7bc4a54753eab665713876c0bf5c4a8dbd26fecf7285af6c92533b6f395b155e", func := "salvor/salvorlaw33.InlineWrong", spec := "inlineWrong", inPlace := ["internal/bytealg.IndexByteString", "internal/bytealg.IndexString"], unfollowed := true, recurses := true, named := ["internal/bytealg.MaxLen", "unicode/utf8.first", "unicode/utf8.acceptRanges"], apart := false, laid := [("unicode/utf8.acceptRanges", laid_unicode_utf8_acceptRanges), ("unicode/utf8.first", laid_unicode_utf8_first)] }
def InlineWrongSaid : Prop := inlineWrongRow.holds Tryz.pinned (OpenSpec.ofChange inlineWrongSpec)

/-- ITS FALSE NEIGHBOUR: 'it returns false'. Refute it at one input. -/
def inlineWrongWrong : ChangeSpec := { name := "inlineWrong", fn := fun _ => fun
  | [d1, d2, d3] => { results := [.lit (.bool false)], args := [d1, d2, d3] }
  | _ => none }
def InlineWrongWrongFalsely : Prop := inlineWrongRow.holds Tryz.pinned (OpenSpec.ofChange inlineWrongWrong)

/-- 'salvorlaw33.InlineOrders': WHATEVER THE INPUT: true; the input reads as it did. -/
def inlineOrdersSpec : ChangeSpec := { name := "inlineOrders", fn := fun _ => fun
  | [d1, d2] => { results := [.lit (.bool true)], args := [d1, d2] }
  | _ => none }
def inlineOrdersRow : OpenClaim := { program := "ytepacjkacjabbaagreatdoor", sum := "7bc4a54753eab665713876c0bf5c4a8dbd26fecf7285af6c92533b6f395b155e", func := "salvor/salvorlaw33.InlineOrders", spec := "inlineOrders", inPlace := ["internal/bytealg.IndexByteString", "internal/bytealg.IndexString"], unfollowed := true, recurses := true, named := ["internal/bytealg.MaxLen", "unicode/utf8.first", "unicode/utf8.acceptRanges"], apart := false, laid := [("unicode/utf8.acceptRanges", laid_unicode_utf8_acceptRanges), ("unicode/utf8.first", laid_unicode_utf8_first)] }
def InlineOrdersSaid : Prop := inlineOrdersRow.holds Tryz.pinned (OpenSpec.ofChange inlineOrdersSpec)

/-- ITS FALSE NEIGHBOUR: 'it returns false'. Refute it at one input. -/
def inlineOrdersWrong : ChangeSpec := { name := "inlineOrders", fn := fun _ => fun
  | [d1, d2] => { results := [.lit (.bool false)], args := [d1, d2] }
  | _ => none }
def InlineOrdersWrongFalsely : Prop := inlineOrdersRow.holds Tryz.pinned (OpenSpec.ofChange inlineOrdersWrong)

/- THE SECOND FORM. 'bulk': how many values and letters a reading holds, each counted each time it is reached (what is shared counts as often as it is met; a slice's spare places count too). A statement '..UptoSaid' is the law's where the arguments, and the package variables that the reading takes, are together of bulk at most 1048576: NARROWER than '..Said'. Prove '..Said' where nothing that the law and all that it calls make is longer than what came in: it says more and counts as full. Else prove '..UptoSaid'. A law counts once. -/
mutual
def uptoBulk {H : Type} : DataW H → Nat
  | .lit (.string bytes) => bytes.length + 1
  | .lit _ => 1
  | .nil => 1
  | .ptr d => uptoBulk d + 1
  | .slice elems spare => uptoBulkAll elems + uptoBulkAll spare + 1
  | .agg parts => uptoBulkAll parts + 1
  | .iface _ d => uptoBulk d + 1
  | .map entries => uptoBulkEntries entries + 1
  | .held _ => 1
def uptoBulkAll {H : Type} : List (DataW H) → Nat
  | [] => 0
  | d :: r => uptoBulk d + uptoBulkAll r
def uptoBulkEntries {H : Type} : List (Lit × DataW H) → Nat
  | [] => 0
  | x :: r => uptoBulkEntry x + uptoBulkEntries r
def uptoBulkEntry {H : Type} : Lit × DataW H → Nat
  | (.string bytes, d) => bytes.length + uptoBulk d + 1
  | (_, d) => uptoBulk d + 1
 end
def uptoSmall : (H : Type) → List (DataW H) → Bool := fun _ ds => decide (uptoBulkAll ds ≤ 1048576)
def OpenSpec.upto (s : _root_.Go.ChangeSpec) : _root_.Go.OpenSpec := { _root_.Go.OpenSpec.ofChange s with cond := some uptoSmall }

/-- 'salvorlaw33.InlineNames', WHERE WHAT IT READS IS OF BULK AT MOST 1048576: true; the input reads as it did. -/
def inlineNamesUptoRow : OpenClaim := { program := "ytepacjkacjabbaagreatdoor", sum := "7bc4a54753eab665713876c0bf5c4a8dbd26fecf7285af6c92533b6f395b155e", func := "salvor/salvorlaw33.InlineNames", spec := "inlineNames", inPlace := ["internal/bytealg.IndexByteString", "internal/bytealg.IndexString"], unfollowed := true, recurses := true, named := ["internal/bytealg.MaxLen", "unicode/utf8.first", "unicode/utf8.acceptRanges"], apart := false, laid := [("unicode/utf8.acceptRanges", laid_unicode_utf8_acceptRanges), ("unicode/utf8.first", laid_unicode_utf8_first)], narrowed := true }
def InlineNamesUptoSaid : Prop := inlineNamesUptoRow.holds Tryz.pinned (OpenSpec.upto inlineNamesSpec)

/-- 'salvorlaw38.UnrollPasses', WHERE WHAT IT READS IS OF BULK AT MOST 1048576: true; the input reads as it did. -/
def unrollPassesUptoRow : OpenClaim := { program := "ytepacjkacjabbaagreatdoor", sum := "7bc4a54753eab665713876c0bf5c4a8dbd26fecf7285af6c92533b6f395b155e", func := "salvor/salvorlaw38.UnrollPasses", spec := "unrollPasses", inPlace := ["internal/bytealg.IndexByteString", "internal/bytealg.IndexString"], unfollowed := true, recurses := true, named := ["internal/bytealg.MaxLen", "unicode/utf8.first", "unicode/utf8.acceptRanges"], loops := true, apart := false, laid := [("unicode/utf8.acceptRanges", laid_unicode_utf8_acceptRanges), ("unicode/utf8.first", laid_unicode_utf8_first)], narrowed := true }
def UnrollPassesUptoSaid : Prop := unrollPassesUptoRow.holds Tryz.pinned (OpenSpec.upto unrollPassesSpec)

/-- 'salvorlaw33.InlineCalls', WHERE WHAT IT READS IS OF BULK AT MOST 1048576: true; the input reads as it did. -/
def inlineCallsUptoRow : OpenClaim := { program := "ytepacjkacjabbaagreatdoor", sum := "7bc4a54753eab665713876c0bf5c4a8dbd26fecf7285af6c92533b6f395b155e", func := "salvor/salvorlaw33.InlineCalls", spec := "inlineCalls", inPlace := ["internal/bytealg.IndexByteString", "internal/bytealg.IndexString"], unfollowed := true, recurses := true, named := ["internal/bytealg.MaxLen", "unicode/utf8.first", "unicode/utf8.acceptRanges"], apart := false, laid := [("unicode/utf8.acceptRanges", laid_unicode_utf8_acceptRanges), ("unicode/utf8.first", laid_unicode_utf8_first)], narrowed := true }
def InlineCallsUptoSaid : Prop := inlineCallsUptoRow.holds Tryz.pinned (OpenSpec.upto inlineCallsSpec)

/-- 'salvorlaw38.UnrollWrong', WHERE WHAT IT READS IS OF BULK AT MOST 1048576: true; the input reads as it did. -/
def unrollWrongUptoRow : OpenClaim := { program := "ytepacjkacjabbaagreatdoor", sum := "7bc4a54753eab665713876c0bf5c4a8dbd26fecf7285af6c92533b6f395b155e", func := "salvor/salvorlaw38.UnrollWrong", spec := "unrollWrong", inPlace := ["internal/bytealg.IndexByteString", "internal/bytealg.IndexString"], unfollowed := true, recurses := true, named := ["internal/bytealg.MaxLen", "unicode/utf8.first", "unicode/utf8.acceptRanges"], apart := false, laid := [("unicode/utf8.acceptRanges", laid_unicode_utf8_acceptRanges), ("unicode/utf8.first", laid_unicode_utf8_first)], narrowed := true }
def UnrollWrongUptoSaid : Prop := unrollWrongUptoRow.holds Tryz.pinned (OpenSpec.upto unrollWrongSpec)

/-- 'salvorlaw33.InlineFree', WHERE WHAT IT READS IS OF BULK AT MOST 1048576: true; the input reads as it did. -/
def inlineFreeUptoRow : OpenClaim := { program := "ytepacjkacjabbaagreatdoor", sum := "7bc4a54753eab665713876c0bf5c4a8dbd26fecf7285af6c92533b6f395b155e", func := "salvor/salvorlaw33.InlineFree", spec := "inlineFree", inPlace := ["internal/bytealg.IndexByteString", "internal/bytealg.IndexString"], unfollowed := true, recurses := true, named := ["internal/bytealg.MaxLen", "unicode/utf8.first", "unicode/utf8.acceptRanges"], apart := false, laid := [("unicode/utf8.acceptRanges", laid_unicode_utf8_acceptRanges), ("unicode/utf8.first", laid_unicode_utf8_first)], narrowed := true }
def InlineFreeUptoSaid : Prop := inlineFreeUptoRow.holds Tryz.pinned (OpenSpec.upto inlineFreeSpec)

/-- 'salvorlaw38.UnrollSmall', WHERE WHAT IT READS IS OF BULK AT MOST 1048576: true; the input reads as it did. -/
def unrollSmallUptoRow : OpenClaim := { program := "ytepacjkacjabbaagreatdoor", sum := "7bc4a54753eab665713876c0bf5c4a8dbd26fecf7285af6c92533b6f395b155e", func := "salvor/salvorlaw38.UnrollSmall", spec := "unrollSmall", inPlace := ["internal/bytealg.IndexByteString", "internal/bytealg.IndexString"], unfollowed := true, recurses := true, named := ["internal/bytealg.MaxLen", "unicode/utf8.first", "unicode/utf8.acceptRanges"], apart := false, laid := [("unicode/utf8.acceptRanges", laid_unicode_utf8_acceptRanges), ("unicode/utf8.first", laid_unicode_utf8_first)], narrowed := true }
def UnrollSmallUptoSaid : Prop := unrollSmallUptoRow.holds Tryz.pinned (OpenSpec.upto unrollSmallSpec)

/-- 'salvorlaw38.UnrollCounts', WHERE WHAT IT READS IS OF BULK AT MOST 1048576: true; the input reads as it did. -/
def unrollCountsUptoRow : OpenClaim := { program := "ytepacjkacjabbaagreatdoor", sum := "7bc4a54753eab665713876c0bf5c4a8dbd26fecf7285af6c92533b6f395b155e", func := "salvor/salvorlaw38.UnrollCounts", spec := "unrollCounts", inPlace := ["internal/bytealg.IndexByteString", "internal/bytealg.IndexString"], unfollowed := true, recurses := true, named := ["internal/bytealg.MaxLen", "unicode/utf8.first", "unicode/utf8.acceptRanges"], apart := false, laid := [("unicode/utf8.acceptRanges", laid_unicode_utf8_acceptRanges), ("unicode/utf8.first", laid_unicode_utf8_first)], narrowed := true }
def UnrollCountsUptoSaid : Prop := unrollCountsUptoRow.holds Tryz.pinned (OpenSpec.upto unrollCountsSpec)

/-- 'salvorlaw38.UnrollFree', WHERE WHAT IT READS IS OF BULK AT MOST 1048576: true; the input reads as it did. -/
def unrollFreeUptoRow : OpenClaim := { program := "ytepacjkacjabbaagreatdoor", sum := "7bc4a54753eab665713876c0bf5c4a8dbd26fecf7285af6c92533b6f395b155e", func := "salvor/salvorlaw38.UnrollFree", spec := "unrollFree", inPlace := ["internal/bytealg.IndexByteString", "internal/bytealg.IndexString"], unfollowed := true, recurses := true, named := ["internal/bytealg.MaxLen", "unicode/utf8.first", "unicode/utf8.acceptRanges"], apart := false, laid := [("unicode/utf8.acceptRanges", laid_unicode_utf8_acceptRanges), ("unicode/utf8.first", laid_unicode_utf8_first)], narrowed := true }
def UnrollFreeUptoSaid : Prop := unrollFreeUptoRow.holds Tryz.pinned (OpenSpec.upto unrollFreeSpec)

/-- 'salvorlaw33.InlineSmall', WHERE WHAT IT READS IS OF BULK AT MOST 1048576: true; the input reads as it did. -/
def inlineSmallUptoRow : OpenClaim := { program := "ytepacjkacjabbaagreatdoor", sum := "7bc4a54753eab665713876c0bf5c4a8dbd26fecf7285af6c92533b6f395b155e", func := "salvor/salvorlaw33.InlineSmall", spec := "inlineSmall", inPlace := ["internal/bytealg.IndexByteString", "internal/bytealg.IndexString"], unfollowed := true, recurses := true, named := ["internal/bytealg.MaxLen", "unicode/utf8.first", "unicode/utf8.acceptRanges"], apart := false, laid := [("unicode/utf8.acceptRanges", laid_unicode_utf8_acceptRanges), ("unicode/utf8.first", laid_unicode_utf8_first)], narrowed := true }
def InlineSmallUptoSaid : Prop := inlineSmallUptoRow.holds Tryz.pinned (OpenSpec.upto inlineSmallSpec)

/-- 'salvorlaw33.InlineWrong', WHERE WHAT IT READS IS OF BULK AT MOST 1048576: true; the input reads as it did. -/
def inlineWrongUptoRow : OpenClaim := { program := "ytepacjkacjabbaagreatdoor", sum := "7bc4a54753eab665713876c0bf5c4a8dbd26fecf7285af6c92533b6f395b155e", func := "salvor/salvorlaw33.InlineWrong", spec := "inlineWrong", inPlace := ["internal/bytealg.IndexByteString", "internal/bytealg.IndexString"], unfollowed := true, recurses := true, named := ["internal/bytealg.MaxLen", "unicode/utf8.first", "unicode/utf8.acceptRanges"], apart := false, laid := [("unicode/utf8.acceptRanges", laid_unicode_utf8_acceptRanges), ("unicode/utf8.first", laid_unicode_utf8_first)], narrowed := true }
def InlineWrongUptoSaid : Prop := inlineWrongUptoRow.holds Tryz.pinned (OpenSpec.upto inlineWrongSpec)

/-- 'salvorlaw33.InlineOrders', WHERE WHAT IT READS IS OF BULK AT MOST 1048576: true; the input reads as it did. -/
def inlineOrdersUptoRow : OpenClaim := { program := "ytepacjkacjabbaagreatdoor", sum := "7bc4a54753eab665713876c0bf5c4a8dbd26fecf7285af6c92533b6f395b155e", func := "salvor/salvorlaw33.InlineOrders", spec := "inlineOrders", inPlace := ["internal/bytealg.IndexByteString", "internal/bytealg.IndexString"], unfollowed := true, recurses := true, named := ["internal/bytealg.MaxLen", "unicode/utf8.first", "unicode/utf8.acceptRanges"], apart := false, laid := [("unicode/utf8.acceptRanges", laid_unicode_utf8_acceptRanges), ("unicode/utf8.first", laid_unicode_utf8_first)], narrowed := true }
def InlineOrdersUptoSaid : Prop := inlineOrdersUptoRow.holds Tryz.pinned (OpenSpec.upto inlineOrdersSpec)

end Rows
end Go.Proofs.YtepacjkacjabbaaGreatDoor
