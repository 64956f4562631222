/- The law InterpTotal: its programs, what is behind its numbers, what it is told. -/
import Derived.Test.YtlibeobmdjeilaaGreatDoorPG
import Derived.Test.YtlibeobmdjeilaaGreatDoorPN
import Derived.Test.YtlibeobmdjeilaaGreatDoorPO
import Derived.KernelRfl
set_option linter.all false
namespace Go.Proofs.YtlibeobmdjeilaaGreatDoor
open Go Go.RowKit Go.Proofs.YtlibeobmdjeilaaGreatDoor.Ex
set_option maxRecDepth 1000000
noncomputable section
/-- The law's program, by its size and its word. -/
noncomputable def keyT (k x : Int) : Key := ⟨[(.agg [(.int .i64 k), (.int .i64 4), (.sl 1 0 1 (.ex 1)), (.sl 2 0 1 (.ex 1)), (.sl 3 0 1 (.ex 1)), (.sl 4 0 1 (.ex 1)), (.int .u8 1), (.int .u8 0), (.int .u32 1), (.int .i64 1), (.str []), .nsl, .nsl, .nsl, (.sl 5 0 4 (.ex 4)), .nsl, (.int .u8 6), (.int .u8 13), (.int .u32 0), (.int .i64 0), (.str []), (.sl 12 0 2 (.ex 2))])],
  [(0, [(.str [120]), (.int .i64 4), (.int .i64 0)]), (0, [(.str [103]), (.int .i64 4), (.int .i64 0)]), (0, [(.str [118]), (.int .i64 4), (.int .i64 0)]), (0, [(.str [97]), (.int .i64 4), (.int .i64 k)]),
  (0, [(.int .u8 3), (.str []), (.sl 6 0 2 (.ex 2)), (.int .i64 0), .nsl, .nsl, (.int .u8 2), (.str [97]), (.sl 7 0 2 (.ex 2)), (.int .i64 0), .nsl, .nsl, (.int .u8 1), (.str [118]), (.sl 8 0 1 (.ex 1)), (.int .i64 0), .nsl, .nsl, (.int .u8 1), (.str [103]), (.sl 10 0 1 (.ex 1)), (.int .i64 0), .nsl, .nsl]),
  (0, [(.int .u8 2), (.int .u8 0), (.int .u32 0), (.int .i64 0), (.str [120]), .nsl, (.int .u8 1), (.int .u8 0), (.int .u32 x), (.int .i64 4), (.str []), .nsl]), (0, [(.int .u8 2), (.int .u8 0), (.int .u32 0), (.int .i64 0), (.str [120]), .nsl, (.int .u8 1), (.int .u8 0), (.int .u32 x), (.int .i64 4), (.str []), .nsl]),
  (0, [(.int .u8 3), (.int .u8 0), (.int .u32 0), (.int .i64 0), (.str [97]), (.sl 9 0 1 (.ex 1))]), (0, [(.int .u8 2), (.int .u8 0), (.int .u32 0), (.int .i64 0), (.str [120]), .nsl]), (0, [(.int .u8 4), (.int .u8 0), (.int .u32 0), (.int .i64 0), (.str []), (.sl 11 0 1 (.ex 1))]), (0, [(.int .u8 2), (.int .u8 0), (.int .u32 0), (.int .i64 0), (.str [120]), .nsl]),
  (0, [(.int .u8 4), (.int .u8 0), (.int .u32 0), (.int .i64 0), (.str []), (.sl 13 0 1 (.ex 1)), (.int .u8 2), (.int .u8 0), (.int .u32 0), (.int .i64 0), (.str [103]), .nsl]), (0, [(.int .u8 1), (.int .u8 0), (.int .u32 0), (.int .i64 1), (.str []), .nsl])]⟩
noncomputable abbrev orcB : Nat → List XV → St → Option XV := orcT 404 405 isName
noncomputable abbrev ctxK : Ctx := ctxN 14 Tryz.prog [62] orcB
theorem orcB_ok {fl : Nat} : OrcF Tryz.prog fl orcB := orcT_ok (C := ctxN fl Tryz.prog [62] orcB) rfl cut36 nm36 (fun s sep m w hs hm => Tryz.strings_Cut s sep m w hs hm) (fun w s hs hm => isName_any w s hs hm)
theorem right_fn : fnB Tryz.prog 123 = true := by kernel_rfl
theorem keyT_ones (k x : Int) : onesB (keyT k x).rows = true := rfl
noncomputable def orcL (k x : Int) : Nat → List XV → St → Option XV := orc2 (memo 123 true [keyT k x]) orcB
noncomputable abbrev ctxL (k x : Int) : Ctx := ctx1 Tryz.prog [62] (orcL k x)
noncomputable def rest3 : Code → Code
  | .seq _ (.seq _ (.seq _ c)) => c
  | c => c
noncomputable def restL : Code := match Tryz.f4.body with
  | some c => rest3 c
  | none => .skip
noncomputable def tmL (k i x : Int) : T XV := (((T.leaf.set (some (.bool false)) 6).set (some (.int .i64 k)) 7).set (some (.int .u32 i)) 8).set (some (.int .u32 x)) 9
noncomputable abbrev nL : Nat := Tryz.f4.ntmps
noncomputable def runL (m k i x : Int) : Bool := tailB (ctxL k x) Tryz.f4 nL (ycode restL ⟨ctxL k x, Y (ctxL k x) 100000 200 true, Y (ctxL k x) 100000 200 false, 100000, none, nL⟩ (tmL k i x) [] (S1 m))
noncomputable def runsL (m k x : Int) (l : List Nat) : Bool := l.all fun i => runL m k (.ofNat i) x
/-- The program is right: reckoned. -/
noncomputable def rightL (m k x : Int) : Bool := isB true (Y ctxK 100000 200 true 123 (keyT k x).args (S0 m (keyT k x).rows))
theorem key_ok {k x : Int} (h : ∀ m, rightL m k x = true) : KeyOk Tryz.prog 123 (keyT k x) true :=
  keyOk (k := keyT k x) eqs36 (orcB_ok (fl := 14)) names36 mixed36 h
end
end Go.Proofs.YtlibeobmdjeilaaGreatDoor
