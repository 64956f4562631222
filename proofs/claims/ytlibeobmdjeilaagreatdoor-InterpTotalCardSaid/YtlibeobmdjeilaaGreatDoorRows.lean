/-
  NARROWER THAN 'FOR EVERY INPUT', by the rows' own cells (each row's printed sentence says how): InterpLoops: laid · InterpTotal: laid · InterpStops: laid · InterpRecovers: laid · InterpWrong: laid · InterpSmall: laid · ShrinkerMeasures: laid · ShrinkerOrder: laid · ReplayFlushes: laid · ReplayWrong: laid · ReplayTextsBack: laid · ReplayTexts: laid.
  DERIVED. THE GIVEN ROWS OF THIS SEAT. 12 by the template 'for every input the law returns true; each argument reads behind the call as it read before'; 0 by the template 'total and deterministic' (their statements: YtlibeobmdjeilaaGreatDoorTotals.lean).
  GIVEN WITH THE SEED: the statements are not yours to turn. If you find one false, say at which input.
  Laid BY PROGRAM, IN A SANDBOX (cutbox-rows.mjs): the forced cells as the released guide's own fill.sh prints them over the translation 159742763e9ab835… (all of the seat's roots in one cut). By AI agents, Wed Nov 11 2026. No macro, syntax, notation, axiom, sorry.
-/
import Derived.Test.YtlibeobmdjeilaaGreatDoorChecked
import GoSem.PinnedTables
import GoSem.Claim
import GoSem.ClaimJoined
import GoSem.ClaimMapViews
import Derived.JoinedTies
import Derived.KernelRfl
namespace Go.Proofs.YtlibeobmdjeilaaGreatDoor
/- THE CELL 'sum', in the pinned program and in every row, IS THE sha256 OF THE DUMP (.gsa) THAT YtlibeobmdjeilaaGreatDoorProg.lean LOADS. Nothing in Lean hashes anything: it is a label: what it is worth is what the hold of that sum in a sandbox is worth. -/
noncomputable def Tryz.pinned : Pinned := { name := "ytlibeobmdjeilaagreatdoor", sum := "159742763e9ab83558ccce2cad805e00786c40ff20013b658a6e9e23f81fbbb1", checked := Tryz.checked }
namespace Rows
def none {H : Type} : Left H := { results := [], args := [] }

/- WHAT THE LISTED PACKAGE-LEVEL VARIABLES READ AS WHEN THE CALL BEGINS. Each datum BY PROGRAM (the guide's laid-datum.mjs) off the statement by which the dump's own 'gosem.cut.vars' lays the variable. In a bare row this is a premise. The card (YtlibeobmdjeilaaGreatDoorCards.lean) ties it to the program's text. -/
def laid_unicode_utf8_acceptRanges {H : Type} : DataW H := .agg [.agg [.lit (.int .u8 128), .lit (.int .u8 191)], .agg [.lit (.int .u8 160), .lit (.int .u8 191)], .agg [.lit (.int .u8 128), .lit (.int .u8 159)], .agg [.lit (.int .u8 144), .lit (.int .u8 191)], .agg [.lit (.int .u8 128), .lit (.int .u8 143)], .agg [.lit (.int .u8 0), .lit (.int .u8 0)], .agg [.lit (.int .u8 0), .lit (.int .u8 0)], .agg [.lit (.int .u8 0), .lit (.int .u8 0)], .agg [.lit (.int .u8 0), .lit (.int .u8 0)], .agg [.lit (.int .u8 0), .lit (.int .u8 0)], .agg [.lit (.int .u8 0), .lit (.int .u8 0)], .agg [.lit (.int .u8 0), .lit (.int .u8 0)], .agg [.lit (.int .u8 0), .lit (.int .u8 0)], .agg [.lit (.int .u8 0), .lit (.int .u8 0)], .agg [.lit (.int .u8 0), .lit (.int .u8 0)], .agg [.lit (.int .u8 0), .lit (.int .u8 0)]]
/-- One of Go's own tables, pinned by name: the form's constant. -/
def laid_unicode_utf8_first : DataW Unit := Go.Pinned.utf8First
def laid_math_bits_deBruijn32tab {H : Type} : DataW H := .agg [.lit (.int .u8 0), .lit (.int .u8 1), .lit (.int .u8 28), .lit (.int .u8 2), .lit (.int .u8 29), .lit (.int .u8 14), .lit (.int .u8 24), .lit (.int .u8 3), .lit (.int .u8 30), .lit (.int .u8 22), .lit (.int .u8 20), .lit (.int .u8 15), .lit (.int .u8 25), .lit (.int .u8 17), .lit (.int .u8 4), .lit (.int .u8 8), .lit (.int .u8 31), .lit (.int .u8 27), .lit (.int .u8 13), .lit (.int .u8 23), .lit (.int .u8 21), .lit (.int .u8 19), .lit (.int .u8 16), .lit (.int .u8 7), .lit (.int .u8 26), .lit (.int .u8 12), .lit (.int .u8 18), .lit (.int .u8 6), .lit (.int .u8 11), .lit (.int .u8 5), .lit (.int .u8 10), .lit (.int .u8 9)]
def laid_math_bits_deBruijn64tab {H : Type} : DataW H := .agg [.lit (.int .u8 0), .lit (.int .u8 1), .lit (.int .u8 56), .lit (.int .u8 2), .lit (.int .u8 57), .lit (.int .u8 49), .lit (.int .u8 28), .lit (.int .u8 3), .lit (.int .u8 61), .lit (.int .u8 58), .lit (.int .u8 42), .lit (.int .u8 50), .lit (.int .u8 38), .lit (.int .u8 29), .lit (.int .u8 17), .lit (.int .u8 4), .lit (.int .u8 62), .lit (.int .u8 47), .lit (.int .u8 59), .lit (.int .u8 36), .lit (.int .u8 45), .lit (.int .u8 43), .lit (.int .u8 51), .lit (.int .u8 22), .lit (.int .u8 53), .lit (.int .u8 39), .lit (.int .u8 33), .lit (.int .u8 30), .lit (.int .u8 24), .lit (.int .u8 18), .lit (.int .u8 12), .lit (.int .u8 5), .lit (.int .u8 63), .lit (.int .u8 55), .lit (.int .u8 48), .lit (.int .u8 27), .lit (.int .u8 60), .lit (.int .u8 41), .lit (.int .u8 37), .lit (.int .u8 16), .lit (.int .u8 46), .lit (.int .u8 35), .lit (.int .u8 44), .lit (.int .u8 21), .lit (.int .u8 52), .lit (.int .u8 32), .lit (.int .u8 23), .lit (.int .u8 11), .lit (.int .u8 54), .lit (.int .u8 26), .lit (.int .u8 40), .lit (.int .u8 15), .lit (.int .u8 34), .lit (.int .u8 20), .lit (.int .u8 31), .lit (.int .u8 10), .lit (.int .u8 25), .lit (.int .u8 14), .lit (.int .u8 19), .lit (.int .u8 9), .lit (.int .u8 13), .lit (.int .u8 8), .lit (.int .u8 7), .lit (.int .u8 6)]
def laid_internal_strconv_uint64pow10 {H : Type} : DataW H := .agg [.lit (.int .u64 1), .lit (.int .u64 10), .lit (.int .u64 100), .lit (.int .u64 1000), .lit (.int .u64 10000), .lit (.int .u64 100000), .lit (.int .u64 1000000), .lit (.int .u64 10000000), .lit (.int .u64 100000000), .lit (.int .u64 1000000000), .lit (.int .u64 10000000000), .lit (.int .u64 100000000000), .lit (.int .u64 1000000000000), .lit (.int .u64 10000000000000), .lit (.int .u64 100000000000000), .lit (.int .u64 1000000000000000), .lit (.int .u64 10000000000000000), .lit (.int .u64 100000000000000000), .lit (.int .u64 1000000000000000000), .lit (.int .u64 10000000000000000000)]
def laid_strconv_ErrRange {H : Type} : DataW H := .iface "*errors.errorString" (.ptr (.agg [.lit (.string [118, 97, 108, 117, 101, 32, 111, 117, 116, 32, 111, 102, 32, 114, 97, 110, 103, 101])]))
def laid_strconv_ErrSyntax {H : Type} : DataW H := .iface "*errors.errorString" (.ptr (.agg [.lit (.string [105, 110, 118, 97, 108, 105, 100, 32, 115, 121, 110, 116, 97, 120])]))

/-- 'salvorlaw36.InterpLoops': WHATEVER THE INPUT: true; the input reads as it did. -/
def interpLoopsSpec : ChangeSpec := { name := "interpLoops", fn := fun _ => fun
  | [d1, d2] => { results := [.lit (.bool true)], args := [d1, d2] }
  | _ => none }
def interpLoopsRow : OpenClaim := { program := "ytlibeobmdjeilaagreatdoor", sum := "159742763e9ab83558ccce2cad805e00786c40ff20013b658a6e9e23f81fbbb1", func := "salvor/salvorlaw36.InterpLoops", spec := "interpLoops", inPlace := ["internal/bytealg.IndexByteString", "internal/bytealg.IndexString"], unfollowed := true, recurses := true, named := ["internal/bytealg.MaxLen", "unicode/utf8.first", "unicode/utf8.acceptRanges"], apart := false, laid := [("unicode/utf8.acceptRanges", laid_unicode_utf8_acceptRanges), ("unicode/utf8.first", laid_unicode_utf8_first)] }
def InterpLoopsSaid : Prop := interpLoopsRow.holds Tryz.pinned (OpenSpec.ofChange interpLoopsSpec)

/-- ITS FALSE NEIGHBOUR: 'it returns false'. Refute it at one input. -/
def interpLoopsWrong : ChangeSpec := { name := "interpLoops", fn := fun _ => fun
  | [d1, d2] => { results := [.lit (.bool false)], args := [d1, d2] }
  | _ => none }
def InterpLoopsWrongFalsely : Prop := interpLoopsRow.holds Tryz.pinned (OpenSpec.ofChange interpLoopsWrong)

/-- 'salvorlaw36.InterpTotal': WHATEVER THE INPUT: true; the input reads as it did. -/
def interpTotalSpec : ChangeSpec := { name := "interpTotal", fn := fun _ => fun
  | [d1, d2, d3] => { results := [.lit (.bool true)], args := [d1, d2, d3] }
  | _ => none }
def interpTotalRow : OpenClaim := { program := "ytlibeobmdjeilaagreatdoor", sum := "159742763e9ab83558ccce2cad805e00786c40ff20013b658a6e9e23f81fbbb1", func := "salvor/salvorlaw36.InterpTotal", spec := "interpTotal", inPlace := ["internal/bytealg.IndexByteString", "internal/bytealg.IndexString"], unfollowed := true, recurses := true, named := ["internal/bytealg.MaxLen", "unicode/utf8.first", "unicode/utf8.acceptRanges"], apart := false, laid := [("unicode/utf8.acceptRanges", laid_unicode_utf8_acceptRanges), ("unicode/utf8.first", laid_unicode_utf8_first)] }
def InterpTotalSaid : Prop := interpTotalRow.holds Tryz.pinned (OpenSpec.ofChange interpTotalSpec)

/-- ITS FALSE NEIGHBOUR: 'it returns false'. Refute it at one input. -/
def interpTotalWrong : ChangeSpec := { name := "interpTotal", fn := fun _ => fun
  | [d1, d2, d3] => { results := [.lit (.bool false)], args := [d1, d2, d3] }
  | _ => none }
def InterpTotalWrongFalsely : Prop := interpTotalRow.holds Tryz.pinned (OpenSpec.ofChange interpTotalWrong)

/-- 'salvorlaw36.InterpStops': WHATEVER THE INPUT: true; the input reads as it did. -/
def interpStopsSpec : ChangeSpec := { name := "interpStops", fn := fun _ => fun
  | [d1, d2, d3] => { results := [.lit (.bool true)], args := [d1, d2, d3] }
  | _ => none }
def interpStopsRow : OpenClaim := { program := "ytlibeobmdjeilaagreatdoor", sum := "159742763e9ab83558ccce2cad805e00786c40ff20013b658a6e9e23f81fbbb1", func := "salvor/salvorlaw36.InterpStops", spec := "interpStops", inPlace := ["internal/bytealg.IndexByteString", "internal/bytealg.IndexString"], unfollowed := true, recurses := true, named := ["internal/bytealg.MaxLen", "unicode/utf8.first", "unicode/utf8.acceptRanges"], apart := false, laid := [("unicode/utf8.acceptRanges", laid_unicode_utf8_acceptRanges), ("unicode/utf8.first", laid_unicode_utf8_first)] }
def InterpStopsSaid : Prop := interpStopsRow.holds Tryz.pinned (OpenSpec.ofChange interpStopsSpec)

/-- ITS FALSE NEIGHBOUR: 'it returns false'. Refute it at one input. -/
def interpStopsWrong : ChangeSpec := { name := "interpStops", fn := fun _ => fun
  | [d1, d2, d3] => { results := [.lit (.bool false)], args := [d1, d2, d3] }
  | _ => none }
def InterpStopsWrongFalsely : Prop := interpStopsRow.holds Tryz.pinned (OpenSpec.ofChange interpStopsWrong)

/-- 'salvorlaw36.InterpRecovers': WHATEVER THE INPUT: true; the input reads as it did. -/
def interpRecoversSpec : ChangeSpec := { name := "interpRecovers", fn := fun _ => fun
  | [d1, d2, d3, d4] => { results := [.lit (.bool true)], args := [d1, d2, d3, d4] }
  | _ => none }
def interpRecoversRow : OpenClaim := { program := "ytlibeobmdjeilaagreatdoor", sum := "159742763e9ab83558ccce2cad805e00786c40ff20013b658a6e9e23f81fbbb1", func := "salvor/salvorlaw36.InterpRecovers", spec := "interpRecovers", inPlace := ["internal/bytealg.IndexByteString", "internal/bytealg.IndexString"], unfollowed := true, recurses := true, named := ["internal/bytealg.MaxLen", "unicode/utf8.first", "unicode/utf8.acceptRanges"], apart := false, laid := [("unicode/utf8.acceptRanges", laid_unicode_utf8_acceptRanges), ("unicode/utf8.first", laid_unicode_utf8_first)] }
def InterpRecoversSaid : Prop := interpRecoversRow.holds Tryz.pinned (OpenSpec.ofChange interpRecoversSpec)

/-- ITS FALSE NEIGHBOUR: 'it returns false'. Refute it at one input. -/
def interpRecoversWrong : ChangeSpec := { name := "interpRecovers", fn := fun _ => fun
  | [d1, d2, d3, d4] => { results := [.lit (.bool false)], args := [d1, d2, d3, d4] }
  | _ => none }
def InterpRecoversWrongFalsely : Prop := interpRecoversRow.holds Tryz.pinned (OpenSpec.ofChange interpRecoversWrong)

/-- 'salvorlaw36.InterpWrong': WHATEVER THE INPUT: true; the input reads as it did. -/
def interpWrongSpec : ChangeSpec := { name := "interpWrong", fn := fun _ => fun
  | [d1, d2] => { results := [.lit (.bool true)], args := [d1, d2] }
  | _ => none }
def interpWrongRow : OpenClaim := { program := "ytlibeobmdjeilaagreatdoor", sum := "159742763e9ab83558ccce2cad805e00786c40ff20013b658a6e9e23f81fbbb1", func := "salvor/salvorlaw36.InterpWrong", spec := "interpWrong", inPlace := ["internal/bytealg.IndexByteString", "internal/bytealg.IndexString"], unfollowed := true, recurses := true, named := ["internal/bytealg.MaxLen", "unicode/utf8.first", "unicode/utf8.acceptRanges"], apart := false, laid := [("unicode/utf8.acceptRanges", laid_unicode_utf8_acceptRanges), ("unicode/utf8.first", laid_unicode_utf8_first)] }
def InterpWrongSaid : Prop := interpWrongRow.holds Tryz.pinned (OpenSpec.ofChange interpWrongSpec)

/-- ITS FALSE NEIGHBOUR: 'it returns false'. Refute it at one input. -/
def interpWrongWrong : ChangeSpec := { name := "interpWrong", fn := fun _ => fun
  | [d1, d2] => { results := [.lit (.bool false)], args := [d1, d2] }
  | _ => none }
def InterpWrongWrongFalsely : Prop := interpWrongRow.holds Tryz.pinned (OpenSpec.ofChange interpWrongWrong)

/-- 'salvorlaw36.InterpSmall': WHATEVER THE INPUT: true; the input reads as it did. -/
def interpSmallSpec : ChangeSpec := { name := "interpSmall", fn := fun _ => fun
  | [] => { results := [.lit (.bool true)], args := [] }
  | _ => none }
def interpSmallRow : OpenClaim := { program := "ytlibeobmdjeilaagreatdoor", sum := "159742763e9ab83558ccce2cad805e00786c40ff20013b658a6e9e23f81fbbb1", func := "salvor/salvorlaw36.InterpSmall", spec := "interpSmall", inPlace := ["internal/bytealg.IndexByteString", "internal/bytealg.IndexString"], unfollowed := true, recurses := true, named := ["internal/bytealg.MaxLen", "unicode/utf8.first", "unicode/utf8.acceptRanges"], apart := false, laid := [("unicode/utf8.acceptRanges", laid_unicode_utf8_acceptRanges), ("unicode/utf8.first", laid_unicode_utf8_first)] }
def InterpSmallSaid : Prop := interpSmallRow.holds Tryz.pinned (OpenSpec.ofChange interpSmallSpec)

/-- ITS FALSE NEIGHBOUR: 'it returns false'. Refute it at one input. -/
def interpSmallWrong : ChangeSpec := { name := "interpSmall", fn := fun _ => fun
  | [] => { results := [.lit (.bool false)], args := [] }
  | _ => none }
def InterpSmallWrongFalsely : Prop := interpSmallRow.holds Tryz.pinned (OpenSpec.ofChange interpSmallWrong)

/-- 'salvorlaw43.ShrinkerMeasures': WHATEVER THE INPUT: true; the input reads as it did. -/
def shrinkerMeasuresSpec : ChangeSpec := { name := "shrinkerMeasures", fn := fun _ => fun
  | [d1, d2, d3, d4] => { results := [.lit (.bool true)], args := [d1, d2, d3, d4] }
  | _ => none }
def shrinkerMeasuresRow : OpenClaim := { program := "ytlibeobmdjeilaagreatdoor", sum := "159742763e9ab83558ccce2cad805e00786c40ff20013b658a6e9e23f81fbbb1", func := "salvor/salvorlaw43.ShrinkerMeasures", spec := "shrinkerMeasures", inPlace := ["internal/bytealg.IndexByteString", "internal/bytealg.IndexString", "internal/abi.NoEscape"], unfollowed := true, recurses := true, named := ["internal/bytealg.MaxLen", "unicode/utf8.first", "unicode/utf8.acceptRanges", "internal/strconv.uint64pow10", "math/bits.deBruijn32tab", "math/bits.deBruijn64tab"], apart := false, laid := [("math/bits.deBruijn32tab", laid_math_bits_deBruijn32tab), ("math/bits.deBruijn64tab", laid_math_bits_deBruijn64tab), ("internal/strconv.uint64pow10", laid_internal_strconv_uint64pow10), ("unicode/utf8.acceptRanges", laid_unicode_utf8_acceptRanges), ("unicode/utf8.first", laid_unicode_utf8_first)] }
def ShrinkerMeasuresSaid : Prop := shrinkerMeasuresRow.holds Tryz.pinned (OpenSpec.ofChange shrinkerMeasuresSpec)

/-- ITS FALSE NEIGHBOUR: 'it returns false'. Refute it at one input. -/
def shrinkerMeasuresWrong : ChangeSpec := { name := "shrinkerMeasures", fn := fun _ => fun
  | [d1, d2, d3, d4] => { results := [.lit (.bool false)], args := [d1, d2, d3, d4] }
  | _ => none }
def ShrinkerMeasuresWrongFalsely : Prop := shrinkerMeasuresRow.holds Tryz.pinned (OpenSpec.ofChange shrinkerMeasuresWrong)

/-- 'salvorlaw43.ShrinkerOrder': WHATEVER THE INPUT: true; the input reads as it did. -/
def shrinkerOrderSpec : ChangeSpec := { name := "shrinkerOrder", fn := fun _ => fun
  | [d1, d2, d3, d4] => { results := [.lit (.bool true)], args := [d1, d2, d3, d4] }
  | _ => none }
def shrinkerOrderRow : OpenClaim := { program := "ytlibeobmdjeilaagreatdoor", sum := "159742763e9ab83558ccce2cad805e00786c40ff20013b658a6e9e23f81fbbb1", func := "salvor/salvorlaw43.ShrinkerOrder", spec := "shrinkerOrder", inPlace := ["internal/bytealg.IndexByteString", "internal/bytealg.IndexString", "internal/abi.NoEscape"], unfollowed := true, recurses := true, named := ["internal/bytealg.MaxLen", "unicode/utf8.first", "unicode/utf8.acceptRanges", "internal/strconv.uint64pow10", "math/bits.deBruijn32tab", "math/bits.deBruijn64tab"], apart := false, laid := [("math/bits.deBruijn32tab", laid_math_bits_deBruijn32tab), ("math/bits.deBruijn64tab", laid_math_bits_deBruijn64tab), ("internal/strconv.uint64pow10", laid_internal_strconv_uint64pow10), ("unicode/utf8.acceptRanges", laid_unicode_utf8_acceptRanges), ("unicode/utf8.first", laid_unicode_utf8_first)] }
def ShrinkerOrderSaid : Prop := shrinkerOrderRow.holds Tryz.pinned (OpenSpec.ofChange shrinkerOrderSpec)

/-- ITS FALSE NEIGHBOUR: 'it returns false'. Refute it at one input. -/
def shrinkerOrderWrong : ChangeSpec := { name := "shrinkerOrder", fn := fun _ => fun
  | [d1, d2, d3, d4] => { results := [.lit (.bool false)], args := [d1, d2, d3, d4] }
  | _ => none }
def ShrinkerOrderWrongFalsely : Prop := shrinkerOrderRow.holds Tryz.pinned (OpenSpec.ofChange shrinkerOrderWrong)

/-- 'salvorlaw37.ReplayFlushes': WHATEVER THE INPUT: true; the input reads as it did. -/
def replayFlushesSpec : ChangeSpec := { name := "replayFlushes", fn := fun _ => fun
  | [d1, d2] => { results := [.lit (.bool true)], args := [d1, d2] }
  | _ => none }
def replayFlushesRow : OpenClaim := { program := "ytlibeobmdjeilaagreatdoor", sum := "159742763e9ab83558ccce2cad805e00786c40ff20013b658a6e9e23f81fbbb1", func := "salvor/salvorlaw37.ReplayFlushes", spec := "replayFlushes", inPlace := ["internal/bytealg.IndexByteString", "internal/bytealg.IndexString", "internal/abi.NoEscape", "internal/bytealg.CountString"], unfollowed := true, recurses := true, named := ["internal/bytealg.MaxLen", "unicode/utf8.first", "unicode/utf8.acceptRanges", "internal/strconv.uint64pow10", "math/bits.deBruijn32tab", "math/bits.deBruijn64tab", "strconv.ErrSyntax", "strconv.ErrRange"], apart := false, laid := [("math/bits.deBruijn32tab", laid_math_bits_deBruijn32tab), ("math/bits.deBruijn64tab", laid_math_bits_deBruijn64tab), ("internal/strconv.uint64pow10", laid_internal_strconv_uint64pow10), ("unicode/utf8.acceptRanges", laid_unicode_utf8_acceptRanges), ("strconv.ErrRange", laid_strconv_ErrRange), ("strconv.ErrSyntax", laid_strconv_ErrSyntax), ("unicode/utf8.first", laid_unicode_utf8_first)] }
def ReplayFlushesSaid : Prop := replayFlushesRow.holds Tryz.pinned (OpenSpec.ofChange replayFlushesSpec)

/-- ITS FALSE NEIGHBOUR: 'it returns false'. Refute it at one input. -/
def replayFlushesWrong : ChangeSpec := { name := "replayFlushes", fn := fun _ => fun
  | [d1, d2] => { results := [.lit (.bool false)], args := [d1, d2] }
  | _ => none }
def ReplayFlushesWrongFalsely : Prop := replayFlushesRow.holds Tryz.pinned (OpenSpec.ofChange replayFlushesWrong)

/-- 'salvorlaw37.ReplayWrong': WHATEVER THE INPUT: true; the input reads as it did. -/
def replayWrongSpec : ChangeSpec := { name := "replayWrong", fn := fun _ => fun
  | [d1, d2, d3] => { results := [.lit (.bool true)], args := [d1, d2, d3] }
  | _ => none }
def replayWrongRow : OpenClaim := { program := "ytlibeobmdjeilaagreatdoor", sum := "159742763e9ab83558ccce2cad805e00786c40ff20013b658a6e9e23f81fbbb1", func := "salvor/salvorlaw37.ReplayWrong", spec := "replayWrong", inPlace := ["internal/bytealg.IndexByteString", "internal/bytealg.IndexString", "internal/abi.NoEscape", "internal/bytealg.CountString"], unfollowed := true, recurses := true, named := ["internal/bytealg.MaxLen", "unicode/utf8.first", "unicode/utf8.acceptRanges", "internal/strconv.uint64pow10", "math/bits.deBruijn32tab", "math/bits.deBruijn64tab", "strconv.ErrSyntax", "strconv.ErrRange"], apart := false, laid := [("math/bits.deBruijn32tab", laid_math_bits_deBruijn32tab), ("math/bits.deBruijn64tab", laid_math_bits_deBruijn64tab), ("internal/strconv.uint64pow10", laid_internal_strconv_uint64pow10), ("unicode/utf8.acceptRanges", laid_unicode_utf8_acceptRanges), ("strconv.ErrRange", laid_strconv_ErrRange), ("strconv.ErrSyntax", laid_strconv_ErrSyntax), ("unicode/utf8.first", laid_unicode_utf8_first)] }
def ReplayWrongSaid : Prop := replayWrongRow.holds Tryz.pinned (OpenSpec.ofChange replayWrongSpec)

/-- ITS FALSE NEIGHBOUR: 'it returns false'. Refute it at one input. -/
def replayWrongWrong : ChangeSpec := { name := "replayWrong", fn := fun _ => fun
  | [d1, d2, d3] => { results := [.lit (.bool false)], args := [d1, d2, d3] }
  | _ => none }
def ReplayWrongWrongFalsely : Prop := replayWrongRow.holds Tryz.pinned (OpenSpec.ofChange replayWrongWrong)

/-- 'salvorlaw37.ReplayTextsBack': WHATEVER THE INPUT: true; the input reads as it did. -/
def replayTextsBackSpec : ChangeSpec := { name := "replayTextsBack", fn := fun _ => fun
  | [d1, d2] => { results := [.lit (.bool true)], args := [d1, d2] }
  | _ => none }
def replayTextsBackRow : OpenClaim := { program := "ytlibeobmdjeilaagreatdoor", sum := "159742763e9ab83558ccce2cad805e00786c40ff20013b658a6e9e23f81fbbb1", func := "salvor/salvorlaw37.ReplayTextsBack", spec := "replayTextsBack", inPlace := ["internal/bytealg.IndexByteString", "internal/bytealg.IndexString", "internal/abi.NoEscape", "internal/bytealg.CountString"], unfollowed := true, recurses := true, named := ["internal/bytealg.MaxLen", "unicode/utf8.first", "unicode/utf8.acceptRanges", "internal/strconv.uint64pow10", "math/bits.deBruijn32tab", "math/bits.deBruijn64tab", "strconv.ErrSyntax", "strconv.ErrRange"], apart := false, laid := [("math/bits.deBruijn32tab", laid_math_bits_deBruijn32tab), ("math/bits.deBruijn64tab", laid_math_bits_deBruijn64tab), ("internal/strconv.uint64pow10", laid_internal_strconv_uint64pow10), ("unicode/utf8.acceptRanges", laid_unicode_utf8_acceptRanges), ("strconv.ErrRange", laid_strconv_ErrRange), ("strconv.ErrSyntax", laid_strconv_ErrSyntax), ("unicode/utf8.first", laid_unicode_utf8_first)] }
def ReplayTextsBackSaid : Prop := replayTextsBackRow.holds Tryz.pinned (OpenSpec.ofChange replayTextsBackSpec)

/-- ITS FALSE NEIGHBOUR: 'it returns false'. Refute it at one input. -/
def replayTextsBackWrong : ChangeSpec := { name := "replayTextsBack", fn := fun _ => fun
  | [d1, d2] => { results := [.lit (.bool false)], args := [d1, d2] }
  | _ => none }
def ReplayTextsBackWrongFalsely : Prop := replayTextsBackRow.holds Tryz.pinned (OpenSpec.ofChange replayTextsBackWrong)

/-- 'salvorlaw37.ReplayTexts': WHATEVER THE INPUT: true; the input reads as it did. -/
def replayTextsSpec : ChangeSpec := { name := "replayTexts", fn := fun _ => fun
  | [d1, d2, d3] => { results := [.lit (.bool true)], args := [d1, d2, d3] }
  | _ => none }
def replayTextsRow : OpenClaim := { program := "ytlibeobmdjeilaagreatdoor", sum := "159742763e9ab83558ccce2cad805e00786c40ff20013b658a6e9e23f81fbbb1", func := "salvor/salvorlaw37.ReplayTexts", spec := "replayTexts", inPlace := ["internal/abi.NoEscape", "internal/bytealg.CountString", "internal/bytealg.IndexByteString", "internal/bytealg.IndexString"], unfollowed := true, recurses := true, named := ["internal/strconv.uint64pow10", "math/bits.deBruijn32tab", "math/bits.deBruijn64tab", "unicode/utf8.first", "unicode/utf8.acceptRanges", "internal/bytealg.MaxLen", "strconv.ErrSyntax", "strconv.ErrRange"], apart := false, laid := [("math/bits.deBruijn32tab", laid_math_bits_deBruijn32tab), ("math/bits.deBruijn64tab", laid_math_bits_deBruijn64tab), ("internal/strconv.uint64pow10", laid_internal_strconv_uint64pow10), ("unicode/utf8.acceptRanges", laid_unicode_utf8_acceptRanges), ("strconv.ErrRange", laid_strconv_ErrRange), ("strconv.ErrSyntax", laid_strconv_ErrSyntax), ("unicode/utf8.first", laid_unicode_utf8_first)] }
def ReplayTextsSaid : Prop := replayTextsRow.holds Tryz.pinned (OpenSpec.ofChange replayTextsSpec)

/-- ITS FALSE NEIGHBOUR: 'it returns false'. Refute it at one input. -/
def replayTextsWrong : ChangeSpec := { name := "replayTexts", fn := fun _ => fun
  | [d1, d2, d3] => { results := [.lit (.bool false)], args := [d1, d2, d3] }
  | _ => none }
def ReplayTextsWrongFalsely : Prop := replayTextsRow.holds Tryz.pinned (OpenSpec.ofChange replayTextsWrong)

/- THE SECOND FORM. 'bulk': how many values and letters a reading holds, each counted each time it is reached (what is shared counts as often as it is met; a slice's spare places count too). A statement '..UptoSaid' is the law's where the arguments, and the package variables that the reading takes, are together of bulk at most 1048576: NARROWER than '..Said'. Prove '..Said' where nothing that the law and all that it calls make is longer than what came in: it says more and counts as full. Else prove '..UptoSaid'. A law counts once. -/
mutual
def uptoBulk {H : Type} : DataW H → Nat
  | .lit (.string bytes) => bytes.length + 1
  | .lit _ => 1
  | .nil => 1
  | .ptr d => uptoBulk d + 1
  | .slice elems spare => uptoBulkAll elems + uptoBulkAll spare + 1
  | .agg parts => uptoBulkAll parts + 1
  | .iface _ d => uptoBulk d + 1
  | .map entries => uptoBulkEntries entries + 1
  | .held _ => 1
def uptoBulkAll {H : Type} : List (DataW H) → Nat
  | [] => 0
  | d :: r => uptoBulk d + uptoBulkAll r
def uptoBulkEntries {H : Type} : List (Lit × DataW H) → Nat
  | [] => 0
  | x :: r => uptoBulkEntry x + uptoBulkEntries r
def uptoBulkEntry {H : Type} : Lit × DataW H → Nat
  | (.string bytes, d) => bytes.length + uptoBulk d + 1
  | (_, d) => uptoBulk d + 1
 end
def uptoSmall : (H : Type) → List (DataW H) → Bool := fun _ ds => decide (uptoBulkAll ds ≤ 1048576)
def OpenSpec.upto (s : _root_.Go.ChangeSpec) : _root_.Go.OpenSpec := { _root_.Go.OpenSpec.ofChange s with cond := some uptoSmall }

/-- 'salvorlaw36.InterpLoops', WHERE WHAT IT READS IS OF BULK AT MOST 1048576: true; the input reads as it did. -/
def interpLoopsUptoRow : OpenClaim := { program := "ytlibeobmdjeilaagreatdoor", sum := "159742763e9ab83558ccce2cad805e00786c40ff20013b658a6e9e23f81fbbb1", func := "salvor/salvorlaw36.InterpLoops", spec := "interpLoops", inPlace := ["internal/bytealg.IndexByteString", "internal/bytealg.IndexString"], unfollowed := true, recurses := true, named := ["internal/bytealg.MaxLen", "unicode/utf8.first", "unicode/utf8.acceptRanges"], apart := false, laid := [("unicode/utf8.acceptRanges", laid_unicode_utf8_acceptRanges), ("unicode/utf8.first", laid_unicode_utf8_first)], narrowed := true }
def InterpLoopsUptoSaid : Prop := interpLoopsUptoRow.holds Tryz.pinned (OpenSpec.upto interpLoopsSpec)

/-- 'salvorlaw36.InterpTotal', WHERE WHAT IT READS IS OF BULK AT MOST 1048576: true; the input reads as it did. -/
def interpTotalUptoRow : OpenClaim := { program := "ytlibeobmdjeilaagreatdoor", sum := "159742763e9ab83558ccce2cad805e00786c40ff20013b658a6e9e23f81fbbb1", func := "salvor/salvorlaw36.InterpTotal", spec := "interpTotal", inPlace := ["internal/bytealg.IndexByteString", "internal/bytealg.IndexString"], unfollowed := true, recurses := true, named := ["internal/bytealg.MaxLen", "unicode/utf8.first", "unicode/utf8.acceptRanges"], apart := false, laid := [("unicode/utf8.acceptRanges", laid_unicode_utf8_acceptRanges), ("unicode/utf8.first", laid_unicode_utf8_first)], narrowed := true }
def InterpTotalUptoSaid : Prop := interpTotalUptoRow.holds Tryz.pinned (OpenSpec.upto interpTotalSpec)

/-- 'salvorlaw36.InterpStops', WHERE WHAT IT READS IS OF BULK AT MOST 1048576: true; the input reads as it did. -/
def interpStopsUptoRow : OpenClaim := { program := "ytlibeobmdjeilaagreatdoor", sum := "159742763e9ab83558ccce2cad805e00786c40ff20013b658a6e9e23f81fbbb1", func := "salvor/salvorlaw36.InterpStops", spec := "interpStops", inPlace := ["internal/bytealg.IndexByteString", "internal/bytealg.IndexString"], unfollowed := true, recurses := true, named := ["internal/bytealg.MaxLen", "unicode/utf8.first", "unicode/utf8.acceptRanges"], apart := false, laid := [("unicode/utf8.acceptRanges", laid_unicode_utf8_acceptRanges), ("unicode/utf8.first", laid_unicode_utf8_first)], narrowed := true }
def InterpStopsUptoSaid : Prop := interpStopsUptoRow.holds Tryz.pinned (OpenSpec.upto interpStopsSpec)

/-- 'salvorlaw36.InterpRecovers', WHERE WHAT IT READS IS OF BULK AT MOST 1048576: true; the input reads as it did. -/
def interpRecoversUptoRow : OpenClaim := { program := "ytlibeobmdjeilaagreatdoor", sum := "159742763e9ab83558ccce2cad805e00786c40ff20013b658a6e9e23f81fbbb1", func := "salvor/salvorlaw36.InterpRecovers", spec := "interpRecovers", inPlace := ["internal/bytealg.IndexByteString", "internal/bytealg.IndexString"], unfollowed := true, recurses := true, named := ["internal/bytealg.MaxLen", "unicode/utf8.first", "unicode/utf8.acceptRanges"], apart := false, laid := [("unicode/utf8.acceptRanges", laid_unicode_utf8_acceptRanges), ("unicode/utf8.first", laid_unicode_utf8_first)], narrowed := true }
def InterpRecoversUptoSaid : Prop := interpRecoversUptoRow.holds Tryz.pinned (OpenSpec.upto interpRecoversSpec)

/-- 'salvorlaw36.InterpWrong', WHERE WHAT IT READS IS OF BULK AT MOST 1048576: true; the input reads as it did. -/
def interpWrongUptoRow : OpenClaim := { program := "ytlibeobmdjeilaagreatdoor", sum := "159742763e9ab83558ccce2cad805e00786c40ff20013b658a6e9e23f81fbbb1", func := "salvor/salvorlaw36.InterpWrong", spec := "interpWrong", inPlace := ["internal/bytealg.IndexByteString", "internal/bytealg.IndexString"], unfollowed := true, recurses := true, named := ["internal/bytealg.MaxLen", "unicode/utf8.first", "unicode/utf8.acceptRanges"], apart := false, laid := [("unicode/utf8.acceptRanges", laid_unicode_utf8_acceptRanges), ("unicode/utf8.first", laid_unicode_utf8_first)], narrowed := true }
def InterpWrongUptoSaid : Prop := interpWrongUptoRow.holds Tryz.pinned (OpenSpec.upto interpWrongSpec)

/-- 'salvorlaw36.InterpSmall', WHERE WHAT IT READS IS OF BULK AT MOST 1048576: true; the input reads as it did. -/
def interpSmallUptoRow : OpenClaim := { program := "ytlibeobmdjeilaagreatdoor", sum := "159742763e9ab83558ccce2cad805e00786c40ff20013b658a6e9e23f81fbbb1", func := "salvor/salvorlaw36.InterpSmall", spec := "interpSmall", inPlace := ["internal/bytealg.IndexByteString", "internal/bytealg.IndexString"], unfollowed := true, recurses := true, named := ["internal/bytealg.MaxLen", "unicode/utf8.first", "unicode/utf8.acceptRanges"], apart := false, laid := [("unicode/utf8.acceptRanges", laid_unicode_utf8_acceptRanges), ("unicode/utf8.first", laid_unicode_utf8_first)], narrowed := true }
def InterpSmallUptoSaid : Prop := interpSmallUptoRow.holds Tryz.pinned (OpenSpec.upto interpSmallSpec)

/-- 'salvorlaw43.ShrinkerMeasures', WHERE WHAT IT READS IS OF BULK AT MOST 1048576: true; the input reads as it did. -/
def shrinkerMeasuresUptoRow : OpenClaim := { program := "ytlibeobmdjeilaagreatdoor", sum := "159742763e9ab83558ccce2cad805e00786c40ff20013b658a6e9e23f81fbbb1", func := "salvor/salvorlaw43.ShrinkerMeasures", spec := "shrinkerMeasures", inPlace := ["internal/bytealg.IndexByteString", "internal/bytealg.IndexString", "internal/abi.NoEscape"], unfollowed := true, recurses := true, named := ["internal/bytealg.MaxLen", "unicode/utf8.first", "unicode/utf8.acceptRanges", "internal/strconv.uint64pow10", "math/bits.deBruijn32tab", "math/bits.deBruijn64tab"], apart := false, laid := [("math/bits.deBruijn32tab", laid_math_bits_deBruijn32tab), ("math/bits.deBruijn64tab", laid_math_bits_deBruijn64tab), ("internal/strconv.uint64pow10", laid_internal_strconv_uint64pow10), ("unicode/utf8.acceptRanges", laid_unicode_utf8_acceptRanges), ("unicode/utf8.first", laid_unicode_utf8_first)], narrowed := true }
def ShrinkerMeasuresUptoSaid : Prop := shrinkerMeasuresUptoRow.holds Tryz.pinned (OpenSpec.upto shrinkerMeasuresSpec)

/-- 'salvorlaw43.ShrinkerOrder', WHERE WHAT IT READS IS OF BULK AT MOST 1048576: true; the input reads as it did. -/
def shrinkerOrderUptoRow : OpenClaim := { program := "ytlibeobmdjeilaagreatdoor", sum := "159742763e9ab83558ccce2cad805e00786c40ff20013b658a6e9e23f81fbbb1", func := "salvor/salvorlaw43.ShrinkerOrder", spec := "shrinkerOrder", inPlace := ["internal/bytealg.IndexByteString", "internal/bytealg.IndexString", "internal/abi.NoEscape"], unfollowed := true, recurses := true, named := ["internal/bytealg.MaxLen", "unicode/utf8.first", "unicode/utf8.acceptRanges", "internal/strconv.uint64pow10", "math/bits.deBruijn32tab", "math/bits.deBruijn64tab"], apart := false, laid := [("math/bits.deBruijn32tab", laid_math_bits_deBruijn32tab), ("math/bits.deBruijn64tab", laid_math_bits_deBruijn64tab), ("internal/strconv.uint64pow10", laid_internal_strconv_uint64pow10), ("unicode/utf8.acceptRanges", laid_unicode_utf8_acceptRanges), ("unicode/utf8.first", laid_unicode_utf8_first)], narrowed := true }
def ShrinkerOrderUptoSaid : Prop := shrinkerOrderUptoRow.holds Tryz.pinned (OpenSpec.upto shrinkerOrderSpec)

/-- 'salvorlaw37.ReplayFlushes', WHERE WHAT IT READS IS OF BULK AT MOST 1048576: true; the input reads as it did. -/
def replayFlushesUptoRow : OpenClaim := { program := "ytlibeobmdjeilaagreatdoor", sum := "159742763e9ab83558ccce2cad805e00786c40ff20013b658a6e9e23f81fbbb1", func := "salvor/salvorlaw37.ReplayFlushes", spec := "replayFlushes", inPlace := ["internal/bytealg.IndexByteString", "internal/bytealg.IndexString", "internal/abi.NoEscape", "internal/bytealg.CountString"], unfollowed := true, recurses := true, named := ["internal/bytealg.MaxLen", "unicode/utf8.first", "unicode/utf8.acceptRanges", "internal/strconv.uint64pow10", "math/bits.deBruijn32tab", "math/bits.deBruijn64tab", "strconv.ErrSyntax", "strconv.ErrRange"], apart := false, laid := [("math/bits.deBruijn32tab", laid_math_bits_deBruijn32tab), ("math/bits.deBruijn64tab", laid_math_bits_deBruijn64tab), ("internal/strconv.uint64pow10", laid_internal_strconv_uint64pow10), ("unicode/utf8.acceptRanges", laid_unicode_utf8_acceptRanges), ("strconv.ErrRange", laid_strconv_ErrRange), ("strconv.ErrSyntax", laid_strconv_ErrSyntax), ("unicode/utf8.first", laid_unicode_utf8_first)], narrowed := true }
def ReplayFlushesUptoSaid : Prop := replayFlushesUptoRow.holds Tryz.pinned (OpenSpec.upto replayFlushesSpec)

/-- 'salvorlaw37.ReplayWrong', WHERE WHAT IT READS IS OF BULK AT MOST 1048576: true; the input reads as it did. -/
def replayWrongUptoRow : OpenClaim := { program := "ytlibeobmdjeilaagreatdoor", sum := "159742763e9ab83558ccce2cad805e00786c40ff20013b658a6e9e23f81fbbb1", func := "salvor/salvorlaw37.ReplayWrong", spec := "replayWrong", inPlace := ["internal/bytealg.IndexByteString", "internal/bytealg.IndexString", "internal/abi.NoEscape", "internal/bytealg.CountString"], unfollowed := true, recurses := true, named := ["internal/bytealg.MaxLen", "unicode/utf8.first", "unicode/utf8.acceptRanges", "internal/strconv.uint64pow10", "math/bits.deBruijn32tab", "math/bits.deBruijn64tab", "strconv.ErrSyntax", "strconv.ErrRange"], apart := false, laid := [("math/bits.deBruijn32tab", laid_math_bits_deBruijn32tab), ("math/bits.deBruijn64tab", laid_math_bits_deBruijn64tab), ("internal/strconv.uint64pow10", laid_internal_strconv_uint64pow10), ("unicode/utf8.acceptRanges", laid_unicode_utf8_acceptRanges), ("strconv.ErrRange", laid_strconv_ErrRange), ("strconv.ErrSyntax", laid_strconv_ErrSyntax), ("unicode/utf8.first", laid_unicode_utf8_first)], narrowed := true }
def ReplayWrongUptoSaid : Prop := replayWrongUptoRow.holds Tryz.pinned (OpenSpec.upto replayWrongSpec)

/-- 'salvorlaw37.ReplayTextsBack', WHERE WHAT IT READS IS OF BULK AT MOST 1048576: true; the input reads as it did. -/
def replayTextsBackUptoRow : OpenClaim := { program := "ytlibeobmdjeilaagreatdoor", sum := "159742763e9ab83558ccce2cad805e00786c40ff20013b658a6e9e23f81fbbb1", func := "salvor/salvorlaw37.ReplayTextsBack", spec := "replayTextsBack", inPlace := ["internal/bytealg.IndexByteString", "internal/bytealg.IndexString", "internal/abi.NoEscape", "internal/bytealg.CountString"], unfollowed := true, recurses := true, named := ["internal/bytealg.MaxLen", "unicode/utf8.first", "unicode/utf8.acceptRanges", "internal/strconv.uint64pow10", "math/bits.deBruijn32tab", "math/bits.deBruijn64tab", "strconv.ErrSyntax", "strconv.ErrRange"], apart := false, laid := [("math/bits.deBruijn32tab", laid_math_bits_deBruijn32tab), ("math/bits.deBruijn64tab", laid_math_bits_deBruijn64tab), ("internal/strconv.uint64pow10", laid_internal_strconv_uint64pow10), ("unicode/utf8.acceptRanges", laid_unicode_utf8_acceptRanges), ("strconv.ErrRange", laid_strconv_ErrRange), ("strconv.ErrSyntax", laid_strconv_ErrSyntax), ("unicode/utf8.first", laid_unicode_utf8_first)], narrowed := true }
def ReplayTextsBackUptoSaid : Prop := replayTextsBackUptoRow.holds Tryz.pinned (OpenSpec.upto replayTextsBackSpec)

/-- 'salvorlaw37.ReplayTexts', WHERE WHAT IT READS IS OF BULK AT MOST 1048576: true; the input reads as it did. -/
def replayTextsUptoRow : OpenClaim := { program := "ytlibeobmdjeilaagreatdoor", sum := "159742763e9ab83558ccce2cad805e00786c40ff20013b658a6e9e23f81fbbb1", func := "salvor/salvorlaw37.ReplayTexts", spec := "replayTexts", inPlace := ["internal/abi.NoEscape", "internal/bytealg.CountString", "internal/bytealg.IndexByteString", "internal/bytealg.IndexString"], unfollowed := true, recurses := true, named := ["internal/strconv.uint64pow10", "math/bits.deBruijn32tab", "math/bits.deBruijn64tab", "unicode/utf8.first", "unicode/utf8.acceptRanges", "internal/bytealg.MaxLen", "strconv.ErrSyntax", "strconv.ErrRange"], apart := false, laid := [("math/bits.deBruijn32tab", laid_math_bits_deBruijn32tab), ("math/bits.deBruijn64tab", laid_math_bits_deBruijn64tab), ("internal/strconv.uint64pow10", laid_internal_strconv_uint64pow10), ("unicode/utf8.acceptRanges", laid_unicode_utf8_acceptRanges), ("strconv.ErrRange", laid_strconv_ErrRange), ("strconv.ErrSyntax", laid_strconv_ErrSyntax), ("unicode/utf8.first", laid_unicode_utf8_first)], narrowed := true }
def ReplayTextsUptoSaid : Prop := replayTextsUptoRow.holds Tryz.pinned (OpenSpec.upto replayTextsSpec)

end Rows
end Go.Proofs.YtlibeobmdjeilaaGreatDoor
