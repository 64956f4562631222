/- The law InterpLoops: runs, reckoned (0). -/
import Derived.Test.YtlibeobmdjeilaaGreatDoorLK
set_option linter.all false
namespace Go.Proofs.YtlibeobmdjeilaaGreatDoor
open Go Go.RowKit Go.Proofs.YtlibeobmdjeilaaGreatDoor.Ex
set_option maxRecDepth 1000000
theorem runsL2_0 (m : Int) : runsL m 2 [0, 1, 2, 3, 4, 5, 6, 7] = true := by kernel_rfl
theorem runsL3_2 (m : Int) : runsL m 3 [12, 13, 14, 15] = true := by kernel_rfl
theorem runsL4_2 (m : Int) : runsL m 4 [12, 13, 14, 15] = true := by kernel_rfl
theorem runsL9_1 (m : Int) : runsL m 9 [8, 9, 10, 11] = true := by kernel_rfl
theorem runsL11_0 (m : Int) : runsL m 11 [0, 1, 2, 3, 4, 5, 6, 7] = true := by kernel_rfl
theorem runsL11_2 (m : Int) : runsL m 11 [12, 13, 14, 15] = true := by kernel_rfl
theorem runsL13_1 (m : Int) : runsL m 13 [8, 9, 10, 11] = true := by kernel_rfl
theorem runsL16_2 (m : Int) : runsL m 16 [12, 13, 14, 15] = true := by kernel_rfl
end Go.Proofs.YtlibeobmdjeilaaGreatDoor
