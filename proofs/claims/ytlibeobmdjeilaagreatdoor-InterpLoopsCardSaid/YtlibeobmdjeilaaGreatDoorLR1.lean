/- The law InterpLoops: runs, reckoned (1). -/
import Derived.Test.YtlibeobmdjeilaaGreatDoorLK
set_option linter.all false
namespace Go.Proofs.YtlibeobmdjeilaaGreatDoor
open Go Go.RowKit Go.Proofs.YtlibeobmdjeilaaGreatDoor.Ex
set_option maxRecDepth 1000000
theorem runsL1_0 (m : Int) : runsL m 1 [0, 1, 2, 3, 4, 5, 6, 7] = true := by kernel_rfl
theorem runsL2_1 (m : Int) : runsL m 2 [8, 9, 10, 11] = true := by kernel_rfl
theorem runsL5_0 (m : Int) : runsL m 5 [0, 1, 2, 3, 4, 5, 6, 7] = true := by kernel_rfl
theorem runsL6_2 (m : Int) : runsL m 6 [12, 13, 14, 15] = true := by kernel_rfl
theorem runsL10_0 (m : Int) : runsL m 10 [0, 1, 2, 3, 4, 5, 6, 7] = true := by kernel_rfl
theorem runsL10_1 (m : Int) : runsL m 10 [8, 9, 10, 11] = true := by kernel_rfl
theorem runsL15_2 (m : Int) : runsL m 15 [12, 13, 14, 15] = true := by kernel_rfl
theorem runsL16_1 (m : Int) : runsL m 16 [8, 9, 10, 11] = true := by kernel_rfl
end Go.Proofs.YtlibeobmdjeilaaGreatDoor
