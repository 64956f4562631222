/- The law InterpLoops: runs, reckoned (3). -/
import Derived.Test.YtlibeobmdjeilaaGreatDoorLK
set_option linter.all false
namespace Go.Proofs.YtlibeobmdjeilaaGreatDoor
open Go Go.RowKit Go.Proofs.YtlibeobmdjeilaaGreatDoor.Ex
set_option maxRecDepth 1000000
theorem runsL3_1 (m : Int) : runsL m 3 [8, 9, 10, 11] = true := by kernel_rfl
theorem runsL4_1 (m : Int) : runsL m 4 [8, 9, 10, 11] = true := by kernel_rfl
theorem runsL7_0 (m : Int) : runsL m 7 [0, 1, 2, 3, 4, 5, 6, 7] = true := by kernel_rfl
theorem runsL8_1 (m : Int) : runsL m 8 [8, 9, 10, 11] = true := by kernel_rfl
theorem runsL9_2 (m : Int) : runsL m 9 [12, 13, 14, 15] = true := by kernel_rfl
theorem runsL13_0 (m : Int) : runsL m 13 [0, 1, 2, 3, 4, 5, 6, 7] = true := by kernel_rfl
theorem runsL13_2 (m : Int) : runsL m 13 [12, 13, 14, 15] = true := by kernel_rfl
theorem runsL15_1 (m : Int) : runsL m 15 [8, 9, 10, 11] = true := by kernel_rfl
end Go.Proofs.YtlibeobmdjeilaaGreatDoor
