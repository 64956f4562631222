/- The law InterpLoops: its sixteen programs are right: reckoned, each once. -/
import Derived.Test.YtlibeobmdjeilaaGreatDoorPG
import Derived.Test.YtlibeobmdjeilaaGreatDoorPN
import Derived.Test.YtlibeobmdjeilaaGreatDoorPO
import Derived.KernelRfl
set_option linter.all false
namespace Go.Proofs.YtlibeobmdjeilaaGreatDoor
open Go Go.RowKit Go.Proofs.YtlibeobmdjeilaaGreatDoor.Ex
set_option maxRecDepth 1000000
noncomputable section
/-- The law's program, by its bound. -/
noncomputable def keyL (k : Int) : Key := ⟨[(.agg [(.int .i64 2), (.int .i64 4), (.sl 1 0 1 (.ex 1)), (.sl 2 0 1 (.ex 1)), (.sl 3 0 1 (.ex 1)), .nsl, (.int .u8 1), (.int .u8 0), (.int .u32 1), (.int .i64 1), (.str []), .nsl, .nsl, .nsl, (.sl 4 0 2 (.ex 2)), .nsl, (.int .u8 6), (.int .u8 13), (.int .u32 0), (.int .i64 0), (.str []), (.sl 12 0 2 (.ex 2))])],
  [(0, [(.str [120]), (.int .i64 4), (.int .i64 0)]),
  (0, [(.str [103]), (.int .i64 4), (.int .i64 0)]),
  (0, [(.str [118]), (.int .i64 4), (.int .i64 0)]),
  (0, [(.int .u8 7), (.str []), (.sl 5 0 1 (.ex 1)), (.int .i64 k), (.sl 7 0 2 (.ex 2)), .nsl, (.int .u8 3), (.str []), (.sl 11 0 2 (.ex 2)), (.int .i64 0), .nsl, .nsl]),
  (0, [(.int .u8 6), (.int .u8 15), (.int .u32 0), (.int .i64 0), (.str []), (.sl 6 0 2 (.ex 2))]),
  (0, [(.int .u8 2), (.int .u8 0), (.int .u32 0), (.int .i64 0), (.str [118]), .nsl, (.int .u8 2), (.int .u8 0), (.int .u32 0), (.int .i64 0), (.str [120]), .nsl]),
  (0, [(.int .u8 1), (.str [118]), (.sl 8 0 1 (.ex 1)), (.int .i64 0), .nsl, .nsl, (.int .u8 3), (.str []), (.sl 10 0 2 (.ex 2)), (.int .i64 0), .nsl, .nsl]),
  (0, [(.int .u8 6), (.int .u8 3), (.int .u32 0), (.int .i64 0), (.str []), (.sl 9 0 2 (.ex 2))]),
  (0, [(.int .u8 2), (.int .u8 0), (.int .u32 0), (.int .i64 0), (.str [118]), .nsl, (.int .u8 1), (.int .u8 0), (.int .u32 1), (.int .i64 4), (.str []), .nsl]),
  (0, [(.int .u8 1), (.int .u8 0), (.int .u32 0), (.int .i64 1), (.str []), .nsl, (.int .u8 2), (.int .u8 0), (.int .u32 0), (.int .i64 0), (.str [118]), .nsl]),
  (0, [(.int .u8 1), (.int .u8 0), (.int .u32 1), (.int .i64 1), (.str []), .nsl, (.int .u8 1), (.int .u8 0), (.int .u32 7), (.int .i64 4), (.str []), .nsl]),
  (0, [(.int .u8 4), (.int .u8 0), (.int .u32 0), (.int .i64 0), (.str []), (.sl 13 0 1 (.ex 1)), (.int .u8 2), (.int .u8 0), (.int .u32 0), (.int .i64 0), (.str [103]), .nsl]),
  (0, [(.int .u8 1), (.int .u8 0), (.int .u32 0), (.int .i64 1), (.str []), .nsl])]⟩
noncomputable abbrev orcB : Nat → List XV → St → Option XV := orcT 404 405 isName
noncomputable abbrev ctxK : Ctx := ctxN 14 Tryz.prog [62] orcB
theorem orcB_ok {fl : Nat} : OrcF Tryz.prog fl orcB := orcT_ok (C := ctxN fl Tryz.prog [62] orcB) rfl cut36 nm36 (fun s sep m w hs hm => Tryz.strings_Cut s sep m w hs hm) (fun w s hs hm => isName_any w s hs hm)
theorem keyR0 (m : Int) : isB true (Y ctxK 100000 200 true 123 (keyL 1).args (S0 m (keyL 1).rows)) = true := by kernel_rfl
theorem keyR1 (m : Int) : isB true (Y ctxK 100000 200 true 123 (keyL 2).args (S0 m (keyL 2).rows)) = true := by kernel_rfl
theorem keyR2 (m : Int) : isB true (Y ctxK 100000 200 true 123 (keyL 3).args (S0 m (keyL 3).rows)) = true := by kernel_rfl
theorem keyR3 (m : Int) : isB true (Y ctxK 100000 200 true 123 (keyL 4).args (S0 m (keyL 4).rows)) = true := by kernel_rfl
theorem keyR4 (m : Int) : isB true (Y ctxK 100000 200 true 123 (keyL 5).args (S0 m (keyL 5).rows)) = true := by kernel_rfl
theorem keyR5 (m : Int) : isB true (Y ctxK 100000 200 true 123 (keyL 6).args (S0 m (keyL 6).rows)) = true := by kernel_rfl
theorem keyR6 (m : Int) : isB true (Y ctxK 100000 200 true 123 (keyL 7).args (S0 m (keyL 7).rows)) = true := by kernel_rfl
theorem keyR7 (m : Int) : isB true (Y ctxK 100000 200 true 123 (keyL 8).args (S0 m (keyL 8).rows)) = true := by kernel_rfl
theorem keyR8 (m : Int) : isB true (Y ctxK 100000 200 true 123 (keyL 9).args (S0 m (keyL 9).rows)) = true := by kernel_rfl
theorem keyR9 (m : Int) : isB true (Y ctxK 100000 200 true 123 (keyL 10).args (S0 m (keyL 10).rows)) = true := by kernel_rfl
theorem keyR10 (m : Int) : isB true (Y ctxK 100000 200 true 123 (keyL 11).args (S0 m (keyL 11).rows)) = true := by kernel_rfl
theorem keyR11 (m : Int) : isB true (Y ctxK 100000 200 true 123 (keyL 12).args (S0 m (keyL 12).rows)) = true := by kernel_rfl
theorem keyR12 (m : Int) : isB true (Y ctxK 100000 200 true 123 (keyL 13).args (S0 m (keyL 13).rows)) = true := by kernel_rfl
theorem keyR13 (m : Int) : isB true (Y ctxK 100000 200 true 123 (keyL 14).args (S0 m (keyL 14).rows)) = true := by kernel_rfl
theorem keyR14 (m : Int) : isB true (Y ctxK 100000 200 true 123 (keyL 15).args (S0 m (keyL 15).rows)) = true := by kernel_rfl
theorem keyR15 (m : Int) : isB true (Y ctxK 100000 200 true 123 (keyL 16).args (S0 m (keyL 16).rows)) = true := by kernel_rfl
theorem right_fn : fnB Tryz.prog 123 = true := by kernel_rfl
theorem key_ok {k : Int} (h : ∀ m, isB true (Y ctxK 100000 200 true 123 (keyL k).args (S0 m (keyL k).rows)) = true) : KeyOk Tryz.prog 123 (keyL k) true :=
  keyOk (k := keyL k) eqs36 (orcB_ok (fl := 14)) names36 mixed36 h
theorem keyL_ok : ∀ k : Nat, k < 16 → KeyOk Tryz.prog 123 (keyL ((k : Int) + 1)) true
  | 0, _ => by rw [show (((0 : Nat) : Int) + 1) = 1 from rfl]; exact key_ok keyR0
  | 1, _ => by rw [show (((1 : Nat) : Int) + 1) = 2 from rfl]; exact key_ok keyR1
  | 2, _ => by rw [show (((2 : Nat) : Int) + 1) = 3 from rfl]; exact key_ok keyR2
  | 3, _ => by rw [show (((3 : Nat) : Int) + 1) = 4 from rfl]; exact key_ok keyR3
  | 4, _ => by rw [show (((4 : Nat) : Int) + 1) = 5 from rfl]; exact key_ok keyR4
  | 5, _ => by rw [show (((5 : Nat) : Int) + 1) = 6 from rfl]; exact key_ok keyR5
  | 6, _ => by rw [show (((6 : Nat) : Int) + 1) = 7 from rfl]; exact key_ok keyR6
  | 7, _ => by rw [show (((7 : Nat) : Int) + 1) = 8 from rfl]; exact key_ok keyR7
  | 8, _ => by rw [show (((8 : Nat) : Int) + 1) = 9 from rfl]; exact key_ok keyR8
  | 9, _ => by rw [show (((9 : Nat) : Int) + 1) = 10 from rfl]; exact key_ok keyR9
  | 10, _ => by rw [show (((10 : Nat) : Int) + 1) = 11 from rfl]; exact key_ok keyR10
  | 11, _ => by rw [show (((11 : Nat) : Int) + 1) = 12 from rfl]; exact key_ok keyR11
  | 12, _ => by rw [show (((12 : Nat) : Int) + 1) = 13 from rfl]; exact key_ok keyR12
  | 13, _ => by rw [show (((13 : Nat) : Int) + 1) = 14 from rfl]; exact key_ok keyR13
  | 14, _ => by rw [show (((14 : Nat) : Int) + 1) = 15 from rfl]; exact key_ok keyR14
  | 15, _ => by rw [show (((15 : Nat) : Int) + 1) = 16 from rfl]; exact key_ok keyR15
  | k + 16, h => absurd h (by omega)
theorem keyL_ones (k : Int) : onesB (keyL k).rows = true := rfl
noncomputable def orcL (k : Int) : Nat → List XV → St → Option XV := orc2 (memo 123 true [keyL k]) orcB
noncomputable abbrev ctxL (k : Int) : Ctx := ctx1 Tryz.prog [62] (orcL k)
noncomputable def rest3 : Code → Code
  | .seq _ (.seq _ (.seq _ c)) => c
  | c => c
noncomputable def restL : Code := match Tryz.f3.body with
  | some c => rest3 c
  | none => .skip
noncomputable def tmL (n k : Int) : T XV := ((T.leaf.set (some (.bool false)) 4).set (some (.int .u32 n)) 5).set (some (.int .i64 k)) 6
noncomputable abbrev nL : Nat := Tryz.f3.ntmps
noncomputable def runL (m k n : Int) : Bool := tailB (ctxL k) Tryz.f3 nL (ycode restL ⟨ctxL k, Y (ctxL k) 100000 200 true, Y (ctxL k) 100000 200 false, 100000, none, nL⟩ (tmL n k) [] (S1 m))
noncomputable def runsL (m k : Int) (l : List Nat) : Bool := l.all fun n => runL m k (.ofNat n)
end
end Go.Proofs.YtlibeobmdjeilaaGreatDoor
