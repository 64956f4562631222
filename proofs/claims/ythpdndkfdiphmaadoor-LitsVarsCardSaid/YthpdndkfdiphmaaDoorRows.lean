/-
  NARROWER THAN 'FOR EVERY INPUT', by the rows' own cells (each row's printed sentence says how): LitsTells: laid · LitsReads: laid · LitsNeg: laid · LitsBack: laid · LitsOrder: laid · LitsWrong: laid · LitsLists: laid · LitsSmall: laid · LitsVars: laid.
  DERIVED. THE GIVEN ROWS OF THIS SEAT. 9 by the template 'for every input the law returns true; each argument reads behind the call as it read before'; 0 by the template 'total and deterministic' (their statements: YthpdndkfdiphmaaDoorTotals.lean).
  GIVEN WITH THE SEED: the statements are not yours to turn. If you find one false, say at which input.
  Laid BY PROGRAM, IN A SANDBOX (cutbox-rows.mjs): the forced cells as the released guide's own fill.sh prints them over the translation 8bb5f8d0b1f2dbc9… (all of the seat's roots in one cut). By AI agents, Wed Nov 11 2026. No macro, syntax, notation, axiom, sorry.
-/
import Derived.Test.YthpdndkfdiphmaaDoorChecked
import GoSem.Claim
import GoSem.ClaimJoined
import GoSem.ClaimMapViews
import Derived.JoinedTies
import Derived.KernelRfl
namespace Go.Proofs.YthpdndkfdiphmaaDoor
/- THE CELL 'sum', in the pinned program and in every row, IS THE sha256 OF THE DUMP (.gsa) THAT YthpdndkfdiphmaaDoorProg.lean LOADS. Nothing in Lean hashes anything: it is a label: what it is worth is what the hold of that sum in a sandbox is worth. -/
noncomputable def Tryd.pinned : Pinned := { name := "ythpdndkfdiphmaadoor", sum := "8bb5f8d0b1f2dbc947677751bafed5d2094934ee87a4300a5a148904a2f4d6b8", checked := Tryd.checked }
namespace Rows
def none {H : Type} : Left H := { results := [], args := [] }

/- WHAT THE LISTED PACKAGE-LEVEL VARIABLES READ AS WHEN THE CALL BEGINS. Each datum BY PROGRAM (the guide's laid-datum.mjs) off the statement by which the dump's own 'gosem.cut.vars' lays the variable. In a bare row this is a premise. The card (YthpdndkfdiphmaaDoorCards.lean) ties it to the program's text. -/
def laid_math_bits_deBruijn32tab {H : Type} : DataW H := .agg [.lit (.int .u8 0), .lit (.int .u8 1), .lit (.int .u8 28), .lit (.int .u8 2), .lit (.int .u8 29), .lit (.int .u8 14), .lit (.int .u8 24), .lit (.int .u8 3), .lit (.int .u8 30), .lit (.int .u8 22), .lit (.int .u8 20), .lit (.int .u8 15), .lit (.int .u8 25), .lit (.int .u8 17), .lit (.int .u8 4), .lit (.int .u8 8), .lit (.int .u8 31), .lit (.int .u8 27), .lit (.int .u8 13), .lit (.int .u8 23), .lit (.int .u8 21), .lit (.int .u8 19), .lit (.int .u8 16), .lit (.int .u8 7), .lit (.int .u8 26), .lit (.int .u8 12), .lit (.int .u8 18), .lit (.int .u8 6), .lit (.int .u8 11), .lit (.int .u8 5), .lit (.int .u8 10), .lit (.int .u8 9)]
def laid_math_bits_deBruijn64tab {H : Type} : DataW H := .agg [.lit (.int .u8 0), .lit (.int .u8 1), .lit (.int .u8 56), .lit (.int .u8 2), .lit (.int .u8 57), .lit (.int .u8 49), .lit (.int .u8 28), .lit (.int .u8 3), .lit (.int .u8 61), .lit (.int .u8 58), .lit (.int .u8 42), .lit (.int .u8 50), .lit (.int .u8 38), .lit (.int .u8 29), .lit (.int .u8 17), .lit (.int .u8 4), .lit (.int .u8 62), .lit (.int .u8 47), .lit (.int .u8 59), .lit (.int .u8 36), .lit (.int .u8 45), .lit (.int .u8 43), .lit (.int .u8 51), .lit (.int .u8 22), .lit (.int .u8 53), .lit (.int .u8 39), .lit (.int .u8 33), .lit (.int .u8 30), .lit (.int .u8 24), .lit (.int .u8 18), .lit (.int .u8 12), .lit (.int .u8 5), .lit (.int .u8 63), .lit (.int .u8 55), .lit (.int .u8 48), .lit (.int .u8 27), .lit (.int .u8 60), .lit (.int .u8 41), .lit (.int .u8 37), .lit (.int .u8 16), .lit (.int .u8 46), .lit (.int .u8 35), .lit (.int .u8 44), .lit (.int .u8 21), .lit (.int .u8 52), .lit (.int .u8 32), .lit (.int .u8 23), .lit (.int .u8 11), .lit (.int .u8 54), .lit (.int .u8 26), .lit (.int .u8 40), .lit (.int .u8 15), .lit (.int .u8 34), .lit (.int .u8 20), .lit (.int .u8 31), .lit (.int .u8 10), .lit (.int .u8 25), .lit (.int .u8 14), .lit (.int .u8 19), .lit (.int .u8 9), .lit (.int .u8 13), .lit (.int .u8 8), .lit (.int .u8 7), .lit (.int .u8 6)]
def laid_internal_strconv_uint64pow10 {H : Type} : DataW H := .agg [.lit (.int .u64 1), .lit (.int .u64 10), .lit (.int .u64 100), .lit (.int .u64 1000), .lit (.int .u64 10000), .lit (.int .u64 100000), .lit (.int .u64 1000000), .lit (.int .u64 10000000), .lit (.int .u64 100000000), .lit (.int .u64 1000000000), .lit (.int .u64 10000000000), .lit (.int .u64 100000000000), .lit (.int .u64 1000000000000), .lit (.int .u64 10000000000000), .lit (.int .u64 100000000000000), .lit (.int .u64 1000000000000000), .lit (.int .u64 10000000000000000), .lit (.int .u64 100000000000000000), .lit (.int .u64 1000000000000000000), .lit (.int .u64 10000000000000000000)]

/-- 'salvorlaw01.LitsTells': WHATEVER THE INPUT: true; the input reads as it did. -/
def litsTellsSpec : ChangeSpec := { name := "litsTells", fn := fun _ => fun
  | [d1, d2, d3] => { results := [.lit (.bool true)], args := [d1, d2, d3] }
  | _ => none }
def litsTellsRow : OpenClaim := { program := "ythpdndkfdiphmaadoor", sum := "8bb5f8d0b1f2dbc947677751bafed5d2094934ee87a4300a5a148904a2f4d6b8", func := "salvor/salvorlaw01.LitsTells", spec := "litsTells", inPlace := ["slices.overlaps[int]"], unfollowed := true, recurses := true, named := ["internal/strconv.uint64pow10", "math/bits.deBruijn32tab", "math/bits.deBruijn64tab"], apart := false, laid := [("math/bits.deBruijn32tab", laid_math_bits_deBruijn32tab), ("math/bits.deBruijn64tab", laid_math_bits_deBruijn64tab), ("internal/strconv.uint64pow10", laid_internal_strconv_uint64pow10)] }
def LitsTellsSaid : Prop := litsTellsRow.holds Tryd.pinned (OpenSpec.ofChange litsTellsSpec)

/-- ITS FALSE NEIGHBOUR: 'it returns false'. Refute it at one input. -/
def litsTellsWrong : ChangeSpec := { name := "litsTells", fn := fun _ => fun
  | [d1, d2, d3] => { results := [.lit (.bool false)], args := [d1, d2, d3] }
  | _ => none }
def LitsTellsWrongFalsely : Prop := litsTellsRow.holds Tryd.pinned (OpenSpec.ofChange litsTellsWrong)

/-- 'salvorlaw01.LitsReads': WHATEVER THE INPUT: true; the input reads as it did. -/
def litsReadsSpec : ChangeSpec := { name := "litsReads", fn := fun _ => fun
  | [d] => { results := [.lit (.bool true)], args := [d] }
  | _ => none }
def litsReadsRow : OpenClaim := { program := "ythpdndkfdiphmaadoor", sum := "8bb5f8d0b1f2dbc947677751bafed5d2094934ee87a4300a5a148904a2f4d6b8", func := "salvor/salvorlaw01.LitsReads", spec := "litsReads", inPlace := ["slices.overlaps[int]"], unfollowed := true, recurses := true, named := ["internal/strconv.uint64pow10", "math/bits.deBruijn32tab", "math/bits.deBruijn64tab"], apart := false, laid := [("math/bits.deBruijn32tab", laid_math_bits_deBruijn32tab), ("math/bits.deBruijn64tab", laid_math_bits_deBruijn64tab), ("internal/strconv.uint64pow10", laid_internal_strconv_uint64pow10)] }
def LitsReadsSaid : Prop := litsReadsRow.holds Tryd.pinned (OpenSpec.ofChange litsReadsSpec)

/-- ITS FALSE NEIGHBOUR: 'it returns false'. Refute it at one input. -/
def litsReadsWrong : ChangeSpec := { name := "litsReads", fn := fun _ => fun
  | [d] => { results := [.lit (.bool false)], args := [d] }
  | _ => none }
def LitsReadsWrongFalsely : Prop := litsReadsRow.holds Tryd.pinned (OpenSpec.ofChange litsReadsWrong)

/-- 'salvorlaw01.LitsNeg': WHATEVER THE INPUT: true; the input reads as it did. -/
def litsNegSpec : ChangeSpec := { name := "litsNeg", fn := fun _ => fun
  | [d] => { results := [.lit (.bool true)], args := [d] }
  | _ => none }
def litsNegRow : OpenClaim := { program := "ythpdndkfdiphmaadoor", sum := "8bb5f8d0b1f2dbc947677751bafed5d2094934ee87a4300a5a148904a2f4d6b8", func := "salvor/salvorlaw01.LitsNeg", spec := "litsNeg", inPlace := ["slices.overlaps[int]"], unfollowed := true, recurses := true, named := ["internal/strconv.uint64pow10", "math/bits.deBruijn32tab", "math/bits.deBruijn64tab"], apart := false, laid := [("math/bits.deBruijn32tab", laid_math_bits_deBruijn32tab), ("math/bits.deBruijn64tab", laid_math_bits_deBruijn64tab), ("internal/strconv.uint64pow10", laid_internal_strconv_uint64pow10)] }
def LitsNegSaid : Prop := litsNegRow.holds Tryd.pinned (OpenSpec.ofChange litsNegSpec)

/-- ITS FALSE NEIGHBOUR: 'it returns false'. Refute it at one input. -/
def litsNegWrong : ChangeSpec := { name := "litsNeg", fn := fun _ => fun
  | [d] => { results := [.lit (.bool false)], args := [d] }
  | _ => none }
def LitsNegWrongFalsely : Prop := litsNegRow.holds Tryd.pinned (OpenSpec.ofChange litsNegWrong)

/-- 'salvorlaw01.LitsBack': WHATEVER THE INPUT: true; the input reads as it did. -/
def litsBackSpec : ChangeSpec := { name := "litsBack", fn := fun _ => fun
  | [d1, d2] => { results := [.lit (.bool true)], args := [d1, d2] }
  | _ => none }
def litsBackRow : OpenClaim := { program := "ythpdndkfdiphmaadoor", sum := "8bb5f8d0b1f2dbc947677751bafed5d2094934ee87a4300a5a148904a2f4d6b8", func := "salvor/salvorlaw01.LitsBack", spec := "litsBack", inPlace := ["slices.overlaps[int]"], unfollowed := true, recurses := true, named := ["internal/strconv.uint64pow10", "math/bits.deBruijn32tab", "math/bits.deBruijn64tab"], apart := false, laid := [("math/bits.deBruijn32tab", laid_math_bits_deBruijn32tab), ("math/bits.deBruijn64tab", laid_math_bits_deBruijn64tab), ("internal/strconv.uint64pow10", laid_internal_strconv_uint64pow10)] }
def LitsBackSaid : Prop := litsBackRow.holds Tryd.pinned (OpenSpec.ofChange litsBackSpec)

/-- ITS FALSE NEIGHBOUR: 'it returns false'. Refute it at one input. -/
def litsBackWrong : ChangeSpec := { name := "litsBack", fn := fun _ => fun
  | [d1, d2] => { results := [.lit (.bool false)], args := [d1, d2] }
  | _ => none }
def LitsBackWrongFalsely : Prop := litsBackRow.holds Tryd.pinned (OpenSpec.ofChange litsBackWrong)

/-- 'salvorlaw01.LitsOrder': WHATEVER THE INPUT: true; the input reads as it did. -/
def litsOrderSpec : ChangeSpec := { name := "litsOrder", fn := fun _ => fun
  | [d1, d2, d3] => { results := [.lit (.bool true)], args := [d1, d2, d3] }
  | _ => none }
def litsOrderRow : OpenClaim := { program := "ythpdndkfdiphmaadoor", sum := "8bb5f8d0b1f2dbc947677751bafed5d2094934ee87a4300a5a148904a2f4d6b8", func := "salvor/salvorlaw01.LitsOrder", spec := "litsOrder", inPlace := ["slices.overlaps[int]"], unfollowed := true, recurses := true, named := ["internal/strconv.uint64pow10", "math/bits.deBruijn32tab", "math/bits.deBruijn64tab"], apart := false, laid := [("math/bits.deBruijn32tab", laid_math_bits_deBruijn32tab), ("math/bits.deBruijn64tab", laid_math_bits_deBruijn64tab), ("internal/strconv.uint64pow10", laid_internal_strconv_uint64pow10)] }
def LitsOrderSaid : Prop := litsOrderRow.holds Tryd.pinned (OpenSpec.ofChange litsOrderSpec)

/-- ITS FALSE NEIGHBOUR: 'it returns false'. Refute it at one input. -/
def litsOrderWrong : ChangeSpec := { name := "litsOrder", fn := fun _ => fun
  | [d1, d2, d3] => { results := [.lit (.bool false)], args := [d1, d2, d3] }
  | _ => none }
def LitsOrderWrongFalsely : Prop := litsOrderRow.holds Tryd.pinned (OpenSpec.ofChange litsOrderWrong)

/-- 'salvorlaw01.LitsWrong': WHATEVER THE INPUT: true; the input reads as it did. -/
def litsWrongSpec : ChangeSpec := { name := "litsWrong", fn := fun _ => fun
  | [d1, d2] => { results := [.lit (.bool true)], args := [d1, d2] }
  | _ => none }
def litsWrongRow : OpenClaim := { program := "ythpdndkfdiphmaadoor", sum := "8bb5f8d0b1f2dbc947677751bafed5d2094934ee87a4300a5a148904a2f4d6b8", func := "salvor/salvorlaw01.LitsWrong", spec := "litsWrong", inPlace := ["slices.overlaps[int]"], unfollowed := true, recurses := true, named := ["internal/strconv.uint64pow10", "math/bits.deBruijn32tab", "math/bits.deBruijn64tab"], apart := false, laid := [("math/bits.deBruijn32tab", laid_math_bits_deBruijn32tab), ("math/bits.deBruijn64tab", laid_math_bits_deBruijn64tab), ("internal/strconv.uint64pow10", laid_internal_strconv_uint64pow10)] }
def LitsWrongSaid : Prop := litsWrongRow.holds Tryd.pinned (OpenSpec.ofChange litsWrongSpec)

/-- ITS FALSE NEIGHBOUR: 'it returns false'. Refute it at one input. -/
def litsWrongWrong : ChangeSpec := { name := "litsWrong", fn := fun _ => fun
  | [d1, d2] => { results := [.lit (.bool false)], args := [d1, d2] }
  | _ => none }
def LitsWrongWrongFalsely : Prop := litsWrongRow.holds Tryd.pinned (OpenSpec.ofChange litsWrongWrong)

/-- 'salvorlaw01.LitsLists': WHATEVER THE INPUT: true; the input reads as it did. -/
def litsListsSpec : ChangeSpec := { name := "litsLists", fn := fun _ => fun
  | [d] => { results := [.lit (.bool true)], args := [d] }
  | _ => none }
def litsListsRow : OpenClaim := { program := "ythpdndkfdiphmaadoor", sum := "8bb5f8d0b1f2dbc947677751bafed5d2094934ee87a4300a5a148904a2f4d6b8", func := "salvor/salvorlaw01.LitsLists", spec := "litsLists", inPlace := ["slices.overlaps[int]"], unfollowed := true, recurses := true, named := ["internal/strconv.uint64pow10", "math/bits.deBruijn32tab", "math/bits.deBruijn64tab"], apart := false, laid := [("math/bits.deBruijn32tab", laid_math_bits_deBruijn32tab), ("math/bits.deBruijn64tab", laid_math_bits_deBruijn64tab), ("internal/strconv.uint64pow10", laid_internal_strconv_uint64pow10)] }
def LitsListsSaid : Prop := litsListsRow.holds Tryd.pinned (OpenSpec.ofChange litsListsSpec)

/-- ITS FALSE NEIGHBOUR: 'it returns false'. Refute it at one input. -/
def litsListsWrong : ChangeSpec := { name := "litsLists", fn := fun _ => fun
  | [d] => { results := [.lit (.bool false)], args := [d] }
  | _ => none }
def LitsListsWrongFalsely : Prop := litsListsRow.holds Tryd.pinned (OpenSpec.ofChange litsListsWrong)

/-- 'salvorlaw01.LitsSmall': WHATEVER THE INPUT: true; the input reads as it did. -/
def litsSmallSpec : ChangeSpec := { name := "litsSmall", fn := fun _ => fun
  | [] => { results := [.lit (.bool true)], args := [] }
  | _ => none }
def litsSmallRow : OpenClaim := { program := "ythpdndkfdiphmaadoor", sum := "8bb5f8d0b1f2dbc947677751bafed5d2094934ee87a4300a5a148904a2f4d6b8", func := "salvor/salvorlaw01.LitsSmall", spec := "litsSmall", inPlace := ["slices.overlaps[int]"], unfollowed := true, recurses := true, named := ["internal/strconv.uint64pow10", "math/bits.deBruijn32tab", "math/bits.deBruijn64tab"], apart := false, laid := [("math/bits.deBruijn32tab", laid_math_bits_deBruijn32tab), ("math/bits.deBruijn64tab", laid_math_bits_deBruijn64tab), ("internal/strconv.uint64pow10", laid_internal_strconv_uint64pow10)] }
def LitsSmallSaid : Prop := litsSmallRow.holds Tryd.pinned (OpenSpec.ofChange litsSmallSpec)

/-- ITS FALSE NEIGHBOUR: 'it returns false'. Refute it at one input. -/
def litsSmallWrong : ChangeSpec := { name := "litsSmall", fn := fun _ => fun
  | [] => { results := [.lit (.bool false)], args := [] }
  | _ => none }
def LitsSmallWrongFalsely : Prop := litsSmallRow.holds Tryd.pinned (OpenSpec.ofChange litsSmallWrong)

/-- 'salvorlaw01.LitsVars': WHATEVER THE INPUT: true; the input reads as it did. -/
def litsVarsSpec : ChangeSpec := { name := "litsVars", fn := fun _ => fun
  | [d1, d2] => { results := [.lit (.bool true)], args := [d1, d2] }
  | _ => none }
def litsVarsRow : OpenClaim := { program := "ythpdndkfdiphmaadoor", sum := "8bb5f8d0b1f2dbc947677751bafed5d2094934ee87a4300a5a148904a2f4d6b8", func := "salvor/salvorlaw01.LitsVars", spec := "litsVars", inPlace := ["slices.overlaps[int]"], unfollowed := true, recurses := true, named := ["internal/strconv.uint64pow10", "math/bits.deBruijn32tab", "math/bits.deBruijn64tab"], apart := false, laid := [("math/bits.deBruijn32tab", laid_math_bits_deBruijn32tab), ("math/bits.deBruijn64tab", laid_math_bits_deBruijn64tab), ("internal/strconv.uint64pow10", laid_internal_strconv_uint64pow10)] }
def LitsVarsSaid : Prop := litsVarsRow.holds Tryd.pinned (OpenSpec.ofChange litsVarsSpec)

/-- ITS FALSE NEIGHBOUR: 'it returns false'. Refute it at one input. -/
def litsVarsWrong : ChangeSpec := { name := "litsVars", fn := fun _ => fun
  | [d1, d2] => { results := [.lit (.bool false)], args := [d1, d2] }
  | _ => none }
def LitsVarsWrongFalsely : Prop := litsVarsRow.holds Tryd.pinned (OpenSpec.ofChange litsVarsWrong)

/- THE SECOND FORM. 'bulk': how many values and letters a reading holds, each counted each time it is reached (what is shared counts as often as it is met; a slice's spare places count too). A statement '..UptoSaid' is the law's where the arguments, and the package variables that the reading takes, are together of bulk at most 1048576: NARROWER than '..Said'. Prove '..Said' where nothing that the law and all that it calls make is longer than what came in: it says more and counts as full. Else prove '..UptoSaid'. A law counts once. -/
mutual
def uptoBulk {H : Type} : DataW H → Nat
  | .lit (.string bytes) => bytes.length + 1
  | .lit _ => 1
  | .nil => 1
  | .ptr d => uptoBulk d + 1
  | .slice elems spare => uptoBulkAll elems + uptoBulkAll spare + 1
  | .agg parts => uptoBulkAll parts + 1
  | .iface _ d => uptoBulk d + 1
  | .map entries => uptoBulkEntries entries + 1
  | .held _ => 1
def uptoBulkAll {H : Type} : List (DataW H) → Nat
  | [] => 0
  | d :: r => uptoBulk d + uptoBulkAll r
def uptoBulkEntries {H : Type} : List (Lit × DataW H) → Nat
  | [] => 0
  | x :: r => uptoBulkEntry x + uptoBulkEntries r
def uptoBulkEntry {H : Type} : Lit × DataW H → Nat
  | (.string bytes, d) => bytes.length + uptoBulk d + 1
  | (_, d) => uptoBulk d + 1
 end
def uptoSmall : (H : Type) → List (DataW H) → Bool := fun _ ds => decide (uptoBulkAll ds ≤ 1048576)
def OpenSpec.upto (s : _root_.Go.ChangeSpec) : _root_.Go.OpenSpec := { _root_.Go.OpenSpec.ofChange s with cond := some uptoSmall }

/-- 'salvorlaw01.LitsTells', WHERE WHAT IT READS IS OF BULK AT MOST 1048576: true; the input reads as it did. -/
def litsTellsUptoRow : OpenClaim := { program := "ythpdndkfdiphmaadoor", sum := "8bb5f8d0b1f2dbc947677751bafed5d2094934ee87a4300a5a148904a2f4d6b8", func := "salvor/salvorlaw01.LitsTells", spec := "litsTells", inPlace := ["slices.overlaps[int]"], unfollowed := true, recurses := true, named := ["internal/strconv.uint64pow10", "math/bits.deBruijn32tab", "math/bits.deBruijn64tab"], apart := false, laid := [("math/bits.deBruijn32tab", laid_math_bits_deBruijn32tab), ("math/bits.deBruijn64tab", laid_math_bits_deBruijn64tab), ("internal/strconv.uint64pow10", laid_internal_strconv_uint64pow10)], narrowed := true }
def LitsTellsUptoSaid : Prop := litsTellsUptoRow.holds Tryd.pinned (OpenSpec.upto litsTellsSpec)

/-- 'salvorlaw01.LitsReads', WHERE WHAT IT READS IS OF BULK AT MOST 1048576: true; the input reads as it did. -/
def litsReadsUptoRow : OpenClaim := { program := "ythpdndkfdiphmaadoor", sum := "8bb5f8d0b1f2dbc947677751bafed5d2094934ee87a4300a5a148904a2f4d6b8", func := "salvor/salvorlaw01.LitsReads", spec := "litsReads", inPlace := ["slices.overlaps[int]"], unfollowed := true, recurses := true, named := ["internal/strconv.uint64pow10", "math/bits.deBruijn32tab", "math/bits.deBruijn64tab"], apart := false, laid := [("math/bits.deBruijn32tab", laid_math_bits_deBruijn32tab), ("math/bits.deBruijn64tab", laid_math_bits_deBruijn64tab), ("internal/strconv.uint64pow10", laid_internal_strconv_uint64pow10)], narrowed := true }
def LitsReadsUptoSaid : Prop := litsReadsUptoRow.holds Tryd.pinned (OpenSpec.upto litsReadsSpec)

/-- 'salvorlaw01.LitsNeg', WHERE WHAT IT READS IS OF BULK AT MOST 1048576: true; the input reads as it did. -/
def litsNegUptoRow : OpenClaim := { program := "ythpdndkfdiphmaadoor", sum := "8bb5f8d0b1f2dbc947677751bafed5d2094934ee87a4300a5a148904a2f4d6b8", func := "salvor/salvorlaw01.LitsNeg", spec := "litsNeg", inPlace := ["slices.overlaps[int]"], unfollowed := true, recurses := true, named := ["internal/strconv.uint64pow10", "math/bits.deBruijn32tab", "math/bits.deBruijn64tab"], apart := false, laid := [("math/bits.deBruijn32tab", laid_math_bits_deBruijn32tab), ("math/bits.deBruijn64tab", laid_math_bits_deBruijn64tab), ("internal/strconv.uint64pow10", laid_internal_strconv_uint64pow10)], narrowed := true }
def LitsNegUptoSaid : Prop := litsNegUptoRow.holds Tryd.pinned (OpenSpec.upto litsNegSpec)

/-- 'salvorlaw01.LitsBack', WHERE WHAT IT READS IS OF BULK AT MOST 1048576: true; the input reads as it did. -/
def litsBackUptoRow : OpenClaim := { program := "ythpdndkfdiphmaadoor", sum := "8bb5f8d0b1f2dbc947677751bafed5d2094934ee87a4300a5a148904a2f4d6b8", func := "salvor/salvorlaw01.LitsBack", spec := "litsBack", inPlace := ["slices.overlaps[int]"], unfollowed := true, recurses := true, named := ["internal/strconv.uint64pow10", "math/bits.deBruijn32tab", "math/bits.deBruijn64tab"], apart := false, laid := [("math/bits.deBruijn32tab", laid_math_bits_deBruijn32tab), ("math/bits.deBruijn64tab", laid_math_bits_deBruijn64tab), ("internal/strconv.uint64pow10", laid_internal_strconv_uint64pow10)], narrowed := true }
def LitsBackUptoSaid : Prop := litsBackUptoRow.holds Tryd.pinned (OpenSpec.upto litsBackSpec)

/-- 'salvorlaw01.LitsOrder', WHERE WHAT IT READS IS OF BULK AT MOST 1048576: true; the input reads as it did. -/
def litsOrderUptoRow : OpenClaim := { program := "ythpdndkfdiphmaadoor", sum := "8bb5f8d0b1f2dbc947677751bafed5d2094934ee87a4300a5a148904a2f4d6b8", func := "salvor/salvorlaw01.LitsOrder", spec := "litsOrder", inPlace := ["slices.overlaps[int]"], unfollowed := true, recurses := true, named := ["internal/strconv.uint64pow10", "math/bits.deBruijn32tab", "math/bits.deBruijn64tab"], apart := false, laid := [("math/bits.deBruijn32tab", laid_math_bits_deBruijn32tab), ("math/bits.deBruijn64tab", laid_math_bits_deBruijn64tab), ("internal/strconv.uint64pow10", laid_internal_strconv_uint64pow10)], narrowed := true }
def LitsOrderUptoSaid : Prop := litsOrderUptoRow.holds Tryd.pinned (OpenSpec.upto litsOrderSpec)

/-- 'salvorlaw01.LitsWrong', WHERE WHAT IT READS IS OF BULK AT MOST 1048576: true; the input reads as it did. -/
def litsWrongUptoRow : OpenClaim := { program := "ythpdndkfdiphmaadoor", sum := "8bb5f8d0b1f2dbc947677751bafed5d2094934ee87a4300a5a148904a2f4d6b8", func := "salvor/salvorlaw01.LitsWrong", spec := "litsWrong", inPlace := ["slices.overlaps[int]"], unfollowed := true, recurses := true, named := ["internal/strconv.uint64pow10", "math/bits.deBruijn32tab", "math/bits.deBruijn64tab"], apart := false, laid := [("math/bits.deBruijn32tab", laid_math_bits_deBruijn32tab), ("math/bits.deBruijn64tab", laid_math_bits_deBruijn64tab), ("internal/strconv.uint64pow10", laid_internal_strconv_uint64pow10)], narrowed := true }
def LitsWrongUptoSaid : Prop := litsWrongUptoRow.holds Tryd.pinned (OpenSpec.upto litsWrongSpec)

/-- 'salvorlaw01.LitsLists', WHERE WHAT IT READS IS OF BULK AT MOST 1048576: true; the input reads as it did. -/
def litsListsUptoRow : OpenClaim := { program := "ythpdndkfdiphmaadoor", sum := "8bb5f8d0b1f2dbc947677751bafed5d2094934ee87a4300a5a148904a2f4d6b8", func := "salvor/salvorlaw01.LitsLists", spec := "litsLists", inPlace := ["slices.overlaps[int]"], unfollowed := true, recurses := true, named := ["internal/strconv.uint64pow10", "math/bits.deBruijn32tab", "math/bits.deBruijn64tab"], apart := false, laid := [("math/bits.deBruijn32tab", laid_math_bits_deBruijn32tab), ("math/bits.deBruijn64tab", laid_math_bits_deBruijn64tab), ("internal/strconv.uint64pow10", laid_internal_strconv_uint64pow10)], narrowed := true }
def LitsListsUptoSaid : Prop := litsListsUptoRow.holds Tryd.pinned (OpenSpec.upto litsListsSpec)

/-- 'salvorlaw01.LitsSmall', WHERE WHAT IT READS IS OF BULK AT MOST 1048576: true; the input reads as it did. -/
def litsSmallUptoRow : OpenClaim := { program := "ythpdndkfdiphmaadoor", sum := "8bb5f8d0b1f2dbc947677751bafed5d2094934ee87a4300a5a148904a2f4d6b8", func := "salvor/salvorlaw01.LitsSmall", spec := "litsSmall", inPlace := ["slices.overlaps[int]"], unfollowed := true, recurses := true, named := ["internal/strconv.uint64pow10", "math/bits.deBruijn32tab", "math/bits.deBruijn64tab"], apart := false, laid := [("math/bits.deBruijn32tab", laid_math_bits_deBruijn32tab), ("math/bits.deBruijn64tab", laid_math_bits_deBruijn64tab), ("internal/strconv.uint64pow10", laid_internal_strconv_uint64pow10)], narrowed := true }
def LitsSmallUptoSaid : Prop := litsSmallUptoRow.holds Tryd.pinned (OpenSpec.upto litsSmallSpec)

/-- 'salvorlaw01.LitsVars', WHERE WHAT IT READS IS OF BULK AT MOST 1048576: true; the input reads as it did. -/
def litsVarsUptoRow : OpenClaim := { program := "ythpdndkfdiphmaadoor", sum := "8bb5f8d0b1f2dbc947677751bafed5d2094934ee87a4300a5a148904a2f4d6b8", func := "salvor/salvorlaw01.LitsVars", spec := "litsVars", inPlace := ["slices.overlaps[int]"], unfollowed := true, recurses := true, named := ["internal/strconv.uint64pow10", "math/bits.deBruijn32tab", "math/bits.deBruijn64tab"], apart := false, laid := [("math/bits.deBruijn32tab", laid_math_bits_deBruijn32tab), ("math/bits.deBruijn64tab", laid_math_bits_deBruijn64tab), ("internal/strconv.uint64pow10", laid_internal_strconv_uint64pow10)], narrowed := true }
def LitsVarsUptoSaid : Prop := litsVarsUptoRow.holds Tryd.pinned (OpenSpec.upto litsVarsSpec)

end Rows
end Go.Proofs.YthpdndkfdiphmaaDoor
