/-
  No cell of these rows narrows 'for every input' (looked for: loops, veiled, ifaces, maps, wideKeys, modest, calm, conditions, laid).
  DERIVED. THE GIVEN ROWS OF THIS SEAT. 10 by the template 'for every input the law returns true; each argument reads behind the call as it read before'; 0 by the template 'total and deterministic' (their statements: YtcpcoomkapblcaaTotals.lean).
  GIVEN WITH THE SEED: the statements are not yours to turn. If you find one false, say at which input.
  Laid BY PROGRAM, IN A SANDBOX (cutbox-rows.mjs): the forced cells as the released guide's own fill.sh prints them over the translation 2cc9ed9cfa45dd7a… (all of the seat's roots in one cut). By AI agents, Wed Nov 11 2026. No macro, syntax, notation, axiom, sorry.
-/
import Derived.Test.YtcpcoomkapblcaaChecked
import GoSem.Claim
import GoSem.ClaimJoined
import GoSem.ClaimMapViews
import Derived.JoinedTies
import Derived.KernelRfl
namespace Go.Proofs.Ytcpcoomkapblcaa
/- THE CELL 'sum', in the pinned program and in every row, IS THE sha256 OF THE DUMP (.gsa) THAT YtcpcoomkapblcaaProg.lean LOADS. Nothing in Lean hashes anything: it is a label: what it is worth is what the hold of that sum in a sandbox is worth. -/
noncomputable def Try.pinned : Pinned := { name := "ytcpcoomkapblcaa", sum := "2cc9ed9cfa45dd7a20782b675666c08b42d3c3ce661408ce753f5e3c70de9ea3", checked := Try.checked }
namespace Rows
def none {H : Type} : Left H := { results := [], args := [] }

/-- 'salvorlaw16.ReduceTimes': WHATEVER THE INPUT: true; the input reads as it did. -/
def reduceTimesSpec : ChangeSpec := { name := "reduceTimes", fn := fun _ => fun
  | [d1, d2, d3] => { results := [.lit (.bool true)], args := [d1, d2, d3] }
  | _ => none }
def reduceTimesRow : OpenClaim := { program := "ytcpcoomkapblcaa", sum := "2cc9ed9cfa45dd7a20782b675666c08b42d3c3ce661408ce753f5e3c70de9ea3", func := "salvor/salvorlaw16.ReduceTimes", spec := "reduceTimes", unfollowed := true, recurses := true, apart := false }
def ReduceTimesSaid : Prop := reduceTimesRow.holds Try.pinned (OpenSpec.ofChange reduceTimesSpec)

/-- ITS FALSE NEIGHBOUR: 'it returns false'. Refute it at one input. -/
def reduceTimesWrong : ChangeSpec := { name := "reduceTimes", fn := fun _ => fun
  | [d1, d2, d3] => { results := [.lit (.bool false)], args := [d1, d2, d3] }
  | _ => none }
def ReduceTimesWrongFalsely : Prop := reduceTimesRow.holds Try.pinned (OpenSpec.ofChange reduceTimesWrong)

/-- 'salvorlaw16.ReduceAgain': WHATEVER THE INPUT: true; the input reads as it did. -/
def reduceAgainSpec : ChangeSpec := { name := "reduceAgain", fn := fun _ => fun
  | [d1, d2] => { results := [.lit (.bool true)], args := [d1, d2] }
  | _ => none }
def reduceAgainRow : OpenClaim := { program := "ytcpcoomkapblcaa", sum := "2cc9ed9cfa45dd7a20782b675666c08b42d3c3ce661408ce753f5e3c70de9ea3", func := "salvor/salvorlaw16.ReduceAgain", spec := "reduceAgain", unfollowed := true, recurses := true, apart := false }
def ReduceAgainSaid : Prop := reduceAgainRow.holds Try.pinned (OpenSpec.ofChange reduceAgainSpec)

/-- ITS FALSE NEIGHBOUR: 'it returns false'. Refute it at one input. -/
def reduceAgainWrong : ChangeSpec := { name := "reduceAgain", fn := fun _ => fun
  | [d1, d2] => { results := [.lit (.bool false)], args := [d1, d2] }
  | _ => none }
def ReduceAgainWrongFalsely : Prop := reduceAgainRow.holds Try.pinned (OpenSpec.ofChange reduceAgainWrong)

/-- 'salvorlaw16.ReduceDue': WHATEVER THE INPUT: true; the input reads as it did. -/
def reduceDueSpec : ChangeSpec := { name := "reduceDue", fn := fun _ => fun
  | [d1, d2, d3] => { results := [.lit (.bool true)], args := [d1, d2, d3] }
  | _ => none }
def reduceDueRow : OpenClaim := { program := "ytcpcoomkapblcaa", sum := "2cc9ed9cfa45dd7a20782b675666c08b42d3c3ce661408ce753f5e3c70de9ea3", func := "salvor/salvorlaw16.ReduceDue", spec := "reduceDue", unfollowed := true, recurses := true, apart := false }
def ReduceDueSaid : Prop := reduceDueRow.holds Try.pinned (OpenSpec.ofChange reduceDueSpec)

/-- ITS FALSE NEIGHBOUR: 'it returns false'. Refute it at one input. -/
def reduceDueWrong : ChangeSpec := { name := "reduceDue", fn := fun _ => fun
  | [d1, d2, d3] => { results := [.lit (.bool false)], args := [d1, d2, d3] }
  | _ => none }
def ReduceDueWrongFalsely : Prop := reduceDueRow.holds Try.pinned (OpenSpec.ofChange reduceDueWrong)

/-- 'salvorlaw16.ReduceHalf': WHATEVER THE INPUT: true; the input reads as it did. -/
def reduceHalfSpec : ChangeSpec := { name := "reduceHalf", fn := fun _ => fun
  | [d1, d2, d3] => { results := [.lit (.bool true)], args := [d1, d2, d3] }
  | _ => none }
def reduceHalfRow : OpenClaim := { program := "ytcpcoomkapblcaa", sum := "2cc9ed9cfa45dd7a20782b675666c08b42d3c3ce661408ce753f5e3c70de9ea3", func := "salvor/salvorlaw16.ReduceHalf", spec := "reduceHalf", unfollowed := true, recurses := true, apart := false }
def ReduceHalfSaid : Prop := reduceHalfRow.holds Try.pinned (OpenSpec.ofChange reduceHalfSpec)

/-- ITS FALSE NEIGHBOUR: 'it returns false'. Refute it at one input. -/
def reduceHalfWrong : ChangeSpec := { name := "reduceHalf", fn := fun _ => fun
  | [d1, d2, d3] => { results := [.lit (.bool false)], args := [d1, d2, d3] }
  | _ => none }
def ReduceHalfWrongFalsely : Prop := reduceHalfRow.holds Try.pinned (OpenSpec.ofChange reduceHalfWrong)

/-- 'salvorlaw16.ReduceWrong': WHATEVER THE INPUT: true; the input reads as it did. -/
def reduceWrongSpec : ChangeSpec := { name := "reduceWrong", fn := fun _ => fun
  | [d1, d2, d3] => { results := [.lit (.bool true)], args := [d1, d2, d3] }
  | _ => none }
def reduceWrongRow : OpenClaim := { program := "ytcpcoomkapblcaa", sum := "2cc9ed9cfa45dd7a20782b675666c08b42d3c3ce661408ce753f5e3c70de9ea3", func := "salvor/salvorlaw16.ReduceWrong", spec := "reduceWrong", unfollowed := true, recurses := true, apart := false }
def ReduceWrongSaid : Prop := reduceWrongRow.holds Try.pinned (OpenSpec.ofChange reduceWrongSpec)

/-- ITS FALSE NEIGHBOUR: 'it returns false'. Refute it at one input. -/
def reduceWrongWrong : ChangeSpec := { name := "reduceWrong", fn := fun _ => fun
  | [d1, d2, d3] => { results := [.lit (.bool false)], args := [d1, d2, d3] }
  | _ => none }
def ReduceWrongWrongFalsely : Prop := reduceWrongRow.holds Try.pinned (OpenSpec.ofChange reduceWrongWrong)

/-- 'salvorlaw16.ReduceUses': WHATEVER THE INPUT: true; the input reads as it did. -/
def reduceUsesSpec : ChangeSpec := { name := "reduceUses", fn := fun _ => fun
  | [d1, d2, d3, d4] => { results := [.lit (.bool true)], args := [d1, d2, d3, d4] }
  | _ => none }
def reduceUsesRow : OpenClaim := { program := "ytcpcoomkapblcaa", sum := "2cc9ed9cfa45dd7a20782b675666c08b42d3c3ce661408ce753f5e3c70de9ea3", func := "salvor/salvorlaw16.ReduceUses", spec := "reduceUses", unfollowed := true, recurses := true, apart := false }
def ReduceUsesSaid : Prop := reduceUsesRow.holds Try.pinned (OpenSpec.ofChange reduceUsesSpec)

/-- ITS FALSE NEIGHBOUR: 'it returns false'. Refute it at one input. -/
def reduceUsesWrong : ChangeSpec := { name := "reduceUses", fn := fun _ => fun
  | [d1, d2, d3, d4] => { results := [.lit (.bool false)], args := [d1, d2, d3, d4] }
  | _ => none }
def ReduceUsesWrongFalsely : Prop := reduceUsesRow.holds Try.pinned (OpenSpec.ofChange reduceUsesWrong)

/-- 'salvorlaw16.ReducePlays': WHATEVER THE INPUT: true; the input reads as it did. -/
def reducePlaysSpec : ChangeSpec := { name := "reducePlays", fn := fun _ => fun
  | [d] => { results := [.lit (.bool true)], args := [d] }
  | _ => none }
def reducePlaysRow : OpenClaim := { program := "ytcpcoomkapblcaa", sum := "2cc9ed9cfa45dd7a20782b675666c08b42d3c3ce661408ce753f5e3c70de9ea3", func := "salvor/salvorlaw16.ReducePlays", spec := "reducePlays", unfollowed := true, recurses := true, apart := false }
def ReducePlaysSaid : Prop := reducePlaysRow.holds Try.pinned (OpenSpec.ofChange reducePlaysSpec)

/-- ITS FALSE NEIGHBOUR: 'it returns false'. Refute it at one input. -/
def reducePlaysWrong : ChangeSpec := { name := "reducePlays", fn := fun _ => fun
  | [d] => { results := [.lit (.bool false)], args := [d] }
  | _ => none }
def ReducePlaysWrongFalsely : Prop := reducePlaysRow.holds Try.pinned (OpenSpec.ofChange reducePlaysWrong)

/-- 'salvorlaw16.ReduceSorts': WHATEVER THE INPUT: true; the input reads as it did. -/
def reduceSortsSpec : ChangeSpec := { name := "reduceSorts", fn := fun _ => fun
  | [d] => { results := [.lit (.bool true)], args := [d] }
  | _ => none }
def reduceSortsRow : OpenClaim := { program := "ytcpcoomkapblcaa", sum := "2cc9ed9cfa45dd7a20782b675666c08b42d3c3ce661408ce753f5e3c70de9ea3", func := "salvor/salvorlaw16.ReduceSorts", spec := "reduceSorts", unfollowed := true, recurses := true, apart := false }
def ReduceSortsSaid : Prop := reduceSortsRow.holds Try.pinned (OpenSpec.ofChange reduceSortsSpec)

/-- ITS FALSE NEIGHBOUR: 'it returns false'. Refute it at one input. -/
def reduceSortsWrong : ChangeSpec := { name := "reduceSorts", fn := fun _ => fun
  | [d] => { results := [.lit (.bool false)], args := [d] }
  | _ => none }
def ReduceSortsWrongFalsely : Prop := reduceSortsRow.holds Try.pinned (OpenSpec.ofChange reduceSortsWrong)

/-- 'salvorlaw16.ReduceOrder': WHATEVER THE INPUT: true; the input reads as it did. -/
def reduceOrderSpec : ChangeSpec := { name := "reduceOrder", fn := fun _ => fun
  | [d1, d2, d3] => { results := [.lit (.bool true)], args := [d1, d2, d3] }
  | _ => none }
def reduceOrderRow : OpenClaim := { program := "ytcpcoomkapblcaa", sum := "2cc9ed9cfa45dd7a20782b675666c08b42d3c3ce661408ce753f5e3c70de9ea3", func := "salvor/salvorlaw16.ReduceOrder", spec := "reduceOrder", unfollowed := true, recurses := true, apart := false }
def ReduceOrderSaid : Prop := reduceOrderRow.holds Try.pinned (OpenSpec.ofChange reduceOrderSpec)

/-- ITS FALSE NEIGHBOUR: 'it returns false'. Refute it at one input. -/
def reduceOrderWrong : ChangeSpec := { name := "reduceOrder", fn := fun _ => fun
  | [d1, d2, d3] => { results := [.lit (.bool false)], args := [d1, d2, d3] }
  | _ => none }
def ReduceOrderWrongFalsely : Prop := reduceOrderRow.holds Try.pinned (OpenSpec.ofChange reduceOrderWrong)

/-- 'salvorlaw16.ReduceSmall': WHATEVER THE INPUT: true; the input reads as it did. -/
def reduceSmallSpec : ChangeSpec := { name := "reduceSmall", fn := fun _ => fun
  | [] => { results := [.lit (.bool true)], args := [] }
  | _ => none }
def reduceSmallRow : OpenClaim := { program := "ytcpcoomkapblcaa", sum := "2cc9ed9cfa45dd7a20782b675666c08b42d3c3ce661408ce753f5e3c70de9ea3", func := "salvor/salvorlaw16.ReduceSmall", spec := "reduceSmall", unfollowed := true, recurses := true, apart := false }
def ReduceSmallSaid : Prop := reduceSmallRow.holds Try.pinned (OpenSpec.ofChange reduceSmallSpec)

/-- ITS FALSE NEIGHBOUR: 'it returns false'. Refute it at one input. -/
def reduceSmallWrong : ChangeSpec := { name := "reduceSmall", fn := fun _ => fun
  | [] => { results := [.lit (.bool false)], args := [] }
  | _ => none }
def ReduceSmallWrongFalsely : Prop := reduceSmallRow.holds Try.pinned (OpenSpec.ofChange reduceSmallWrong)

/- THE SECOND FORM. 'bulk': how many values and letters a reading holds, each counted each time it is reached (what is shared counts as often as it is met; a slice's spare places count too). A statement '..UptoSaid' is the law's where the arguments, and the package variables that the reading takes, are together of bulk at most 1048576: NARROWER than '..Said'. Prove '..Said' where nothing that the law and all that it calls make is longer than what came in: it says more and counts as full. Else prove '..UptoSaid'. A law counts once. -/
mutual
def uptoBulk {H : Type} : DataW H → Nat
  | .lit (.string bytes) => bytes.length + 1
  | .lit _ => 1
  | .nil => 1
  | .ptr d => uptoBulk d + 1
  | .slice elems spare => uptoBulkAll elems + uptoBulkAll spare + 1
  | .agg parts => uptoBulkAll parts + 1
  | .iface _ d => uptoBulk d + 1
  | .map entries => uptoBulkEntries entries + 1
  | .held _ => 1
def uptoBulkAll {H : Type} : List (DataW H) → Nat
  | [] => 0
  | d :: r => uptoBulk d + uptoBulkAll r
def uptoBulkEntries {H : Type} : List (Lit × DataW H) → Nat
  | [] => 0
  | x :: r => uptoBulkEntry x + uptoBulkEntries r
def uptoBulkEntry {H : Type} : Lit × DataW H → Nat
  | (.string bytes, d) => bytes.length + uptoBulk d + 1
  | (_, d) => uptoBulk d + 1
 end
def uptoSmall : (H : Type) → List (DataW H) → Bool := fun _ ds => decide (uptoBulkAll ds ≤ 1048576)
def OpenSpec.upto (s : _root_.Go.ChangeSpec) : _root_.Go.OpenSpec := { _root_.Go.OpenSpec.ofChange s with cond := some uptoSmall }

/-- 'salvorlaw16.ReduceTimes', WHERE WHAT IT READS IS OF BULK AT MOST 1048576: true; the input reads as it did. -/
def reduceTimesUptoRow : OpenClaim := { program := "ytcpcoomkapblcaa", sum := "2cc9ed9cfa45dd7a20782b675666c08b42d3c3ce661408ce753f5e3c70de9ea3", func := "salvor/salvorlaw16.ReduceTimes", spec := "reduceTimes", unfollowed := true, recurses := true, apart := false, narrowed := true }
def ReduceTimesUptoSaid : Prop := reduceTimesUptoRow.holds Try.pinned (OpenSpec.upto reduceTimesSpec)

/-- 'salvorlaw16.ReduceAgain', WHERE WHAT IT READS IS OF BULK AT MOST 1048576: true; the input reads as it did. -/
def reduceAgainUptoRow : OpenClaim := { program := "ytcpcoomkapblcaa", sum := "2cc9ed9cfa45dd7a20782b675666c08b42d3c3ce661408ce753f5e3c70de9ea3", func := "salvor/salvorlaw16.ReduceAgain", spec := "reduceAgain", unfollowed := true, recurses := true, apart := false, narrowed := true }
def ReduceAgainUptoSaid : Prop := reduceAgainUptoRow.holds Try.pinned (OpenSpec.upto reduceAgainSpec)

/-- 'salvorlaw16.ReduceDue', WHERE WHAT IT READS IS OF BULK AT MOST 1048576: true; the input reads as it did. -/
def reduceDueUptoRow : OpenClaim := { program := "ytcpcoomkapblcaa", sum := "2cc9ed9cfa45dd7a20782b675666c08b42d3c3ce661408ce753f5e3c70de9ea3", func := "salvor/salvorlaw16.ReduceDue", spec := "reduceDue", unfollowed := true, recurses := true, apart := false, narrowed := true }
def ReduceDueUptoSaid : Prop := reduceDueUptoRow.holds Try.pinned (OpenSpec.upto reduceDueSpec)

/-- 'salvorlaw16.ReduceHalf', WHERE WHAT IT READS IS OF BULK AT MOST 1048576: true; the input reads as it did. -/
def reduceHalfUptoRow : OpenClaim := { program := "ytcpcoomkapblcaa", sum := "2cc9ed9cfa45dd7a20782b675666c08b42d3c3ce661408ce753f5e3c70de9ea3", func := "salvor/salvorlaw16.ReduceHalf", spec := "reduceHalf", unfollowed := true, recurses := true, apart := false, narrowed := true }
def ReduceHalfUptoSaid : Prop := reduceHalfUptoRow.holds Try.pinned (OpenSpec.upto reduceHalfSpec)

/-- 'salvorlaw16.ReduceWrong', WHERE WHAT IT READS IS OF BULK AT MOST 1048576: true; the input reads as it did. -/
def reduceWrongUptoRow : OpenClaim := { program := "ytcpcoomkapblcaa", sum := "2cc9ed9cfa45dd7a20782b675666c08b42d3c3ce661408ce753f5e3c70de9ea3", func := "salvor/salvorlaw16.ReduceWrong", spec := "reduceWrong", unfollowed := true, recurses := true, apart := false, narrowed := true }
def ReduceWrongUptoSaid : Prop := reduceWrongUptoRow.holds Try.pinned (OpenSpec.upto reduceWrongSpec)

/-- 'salvorlaw16.ReduceUses', WHERE WHAT IT READS IS OF BULK AT MOST 1048576: true; the input reads as it did. -/
def reduceUsesUptoRow : OpenClaim := { program := "ytcpcoomkapblcaa", sum := "2cc9ed9cfa45dd7a20782b675666c08b42d3c3ce661408ce753f5e3c70de9ea3", func := "salvor/salvorlaw16.ReduceUses", spec := "reduceUses", unfollowed := true, recurses := true, apart := false, narrowed := true }
def ReduceUsesUptoSaid : Prop := reduceUsesUptoRow.holds Try.pinned (OpenSpec.upto reduceUsesSpec)

/-- 'salvorlaw16.ReducePlays', WHERE WHAT IT READS IS OF BULK AT MOST 1048576: true; the input reads as it did. -/
def reducePlaysUptoRow : OpenClaim := { program := "ytcpcoomkapblcaa", sum := "2cc9ed9cfa45dd7a20782b675666c08b42d3c3ce661408ce753f5e3c70de9ea3", func := "salvor/salvorlaw16.ReducePlays", spec := "reducePlays", unfollowed := true, recurses := true, apart := false, narrowed := true }
def ReducePlaysUptoSaid : Prop := reducePlaysUptoRow.holds Try.pinned (OpenSpec.upto reducePlaysSpec)

/-- 'salvorlaw16.ReduceSorts', WHERE WHAT IT READS IS OF BULK AT MOST 1048576: true; the input reads as it did. -/
def reduceSortsUptoRow : OpenClaim := { program := "ytcpcoomkapblcaa", sum := "2cc9ed9cfa45dd7a20782b675666c08b42d3c3ce661408ce753f5e3c70de9ea3", func := "salvor/salvorlaw16.ReduceSorts", spec := "reduceSorts", unfollowed := true, recurses := true, apart := false, narrowed := true }
def ReduceSortsUptoSaid : Prop := reduceSortsUptoRow.holds Try.pinned (OpenSpec.upto reduceSortsSpec)

/-- 'salvorlaw16.ReduceOrder', WHERE WHAT IT READS IS OF BULK AT MOST 1048576: true; the input reads as it did. -/
def reduceOrderUptoRow : OpenClaim := { program := "ytcpcoomkapblcaa", sum := "2cc9ed9cfa45dd7a20782b675666c08b42d3c3ce661408ce753f5e3c70de9ea3", func := "salvor/salvorlaw16.ReduceOrder", spec := "reduceOrder", unfollowed := true, recurses := true, apart := false, narrowed := true }
def ReduceOrderUptoSaid : Prop := reduceOrderUptoRow.holds Try.pinned (OpenSpec.upto reduceOrderSpec)

/-- 'salvorlaw16.ReduceSmall', WHERE WHAT IT READS IS OF BULK AT MOST 1048576: true; the input reads as it did. -/
def reduceSmallUptoRow : OpenClaim := { program := "ytcpcoomkapblcaa", sum := "2cc9ed9cfa45dd7a20782b675666c08b42d3c3ce661408ce753f5e3c70de9ea3", func := "salvor/salvorlaw16.ReduceSmall", spec := "reduceSmall", unfollowed := true, recurses := true, apart := false, narrowed := true }
def ReduceSmallUptoSaid : Prop := reduceSmallUptoRow.holds Try.pinned (OpenSpec.upto reduceSmallSpec)

end Rows
end Go.Proofs.Ytcpcoomkapblcaa
