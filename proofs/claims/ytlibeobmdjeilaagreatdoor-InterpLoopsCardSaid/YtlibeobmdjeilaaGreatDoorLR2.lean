/- The law InterpLoops: runs, reckoned (2). -/
import Derived.Test.YtlibeobmdjeilaaGreatDoorLK
set_option linter.all false
namespace Go.Proofs.YtlibeobmdjeilaaGreatDoor
open Go Go.RowKit Go.Proofs.YtlibeobmdjeilaaGreatDoor.Ex
set_option maxRecDepth 1000000
theorem runsL1_1 (m : Int) : runsL m 1 [8, 9, 10, 11] = true := by kernel_rfl
theorem runsL3_0 (m : Int) : runsL m 3 [0, 1, 2, 3, 4, 5, 6, 7] = true := by kernel_rfl
theorem runsL6_0 (m : Int) : runsL m 6 [0, 1, 2, 3, 4, 5, 6, 7] = true := by kernel_rfl
theorem runsL6_1 (m : Int) : runsL m 6 [8, 9, 10, 11] = true := by kernel_rfl
theorem runsL7_2 (m : Int) : runsL m 7 [12, 13, 14, 15] = true := by kernel_rfl
theorem runsL12_0 (m : Int) : runsL m 12 [0, 1, 2, 3, 4, 5, 6, 7] = true := by kernel_rfl
theorem runsL14_1 (m : Int) : runsL m 14 [8, 9, 10, 11] = true := by kernel_rfl
theorem runsL14_2 (m : Int) : runsL m 14 [12, 13, 14, 15] = true := by kernel_rfl
end Go.Proofs.YtlibeobmdjeilaaGreatDoor
