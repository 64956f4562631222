/- The law InterpLoops: runs, reckoned (5). -/
import Derived.Test.YtlibeobmdjeilaaGreatDoorLK
set_option linter.all false
namespace Go.Proofs.YtlibeobmdjeilaaGreatDoor
open Go Go.RowKit Go.Proofs.YtlibeobmdjeilaaGreatDoor.Ex
set_option maxRecDepth 1000000
theorem runsL1_2 (m : Int) : runsL m 1 [12, 13, 14, 15] = true := by kernel_rfl
theorem runsL5_1 (m : Int) : runsL m 5 [8, 9, 10, 11] = true := by kernel_rfl
theorem runsL8_2 (m : Int) : runsL m 8 [12, 13, 14, 15] = true := by kernel_rfl
theorem runsL9_0 (m : Int) : runsL m 9 [0, 1, 2, 3, 4, 5, 6, 7] = true := by kernel_rfl
theorem runsL10_2 (m : Int) : runsL m 10 [12, 13, 14, 15] = true := by kernel_rfl
theorem runsL12_1 (m : Int) : runsL m 12 [8, 9, 10, 11] = true := by kernel_rfl
theorem runsL15_0 (m : Int) : runsL m 15 [0, 1, 2, 3, 4, 5, 6, 7] = true := by kernel_rfl
theorem runsL16_0 (m : Int) : runsL m 16 [0, 1, 2, 3, 4, 5, 6, 7] = true := by kernel_rfl
end Go.Proofs.YtlibeobmdjeilaaGreatDoor
