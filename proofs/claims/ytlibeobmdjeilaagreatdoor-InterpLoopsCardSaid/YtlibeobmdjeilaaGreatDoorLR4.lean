/- The law InterpLoops: runs, reckoned (4). -/
import Derived.Test.YtlibeobmdjeilaaGreatDoorLK
set_option linter.all false
namespace Go.Proofs.YtlibeobmdjeilaaGreatDoor
open Go Go.RowKit Go.Proofs.YtlibeobmdjeilaaGreatDoor.Ex
set_option maxRecDepth 1000000
theorem runsL2_2 (m : Int) : runsL m 2 [12, 13, 14, 15] = true := by kernel_rfl
theorem runsL4_0 (m : Int) : runsL m 4 [0, 1, 2, 3, 4, 5, 6, 7] = true := by kernel_rfl
theorem runsL5_2 (m : Int) : runsL m 5 [12, 13, 14, 15] = true := by kernel_rfl
theorem runsL7_1 (m : Int) : runsL m 7 [8, 9, 10, 11] = true := by kernel_rfl
theorem runsL8_0 (m : Int) : runsL m 8 [0, 1, 2, 3, 4, 5, 6, 7] = true := by kernel_rfl
theorem runsL11_1 (m : Int) : runsL m 11 [8, 9, 10, 11] = true := by kernel_rfl
theorem runsL12_2 (m : Int) : runsL m 12 [12, 13, 14, 15] = true := by kernel_rfl
theorem runsL14_0 (m : Int) : runsL m 14 [0, 1, 2, 3, 4, 5, 6, 7] = true := by kernel_rfl
end Go.Proofs.YtlibeobmdjeilaaGreatDoor
