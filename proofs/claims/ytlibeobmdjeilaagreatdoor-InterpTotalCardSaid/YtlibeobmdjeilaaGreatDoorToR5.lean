/- The law InterpTotal: programs and runs, reckoned (size 3, words from 8). -/
import Derived.Test.YtlibeobmdjeilaaGreatDoorToK
set_option linter.all false
namespace Go.Proofs.YtlibeobmdjeilaaGreatDoor
open Go Go.RowKit Go.Proofs.YtlibeobmdjeilaaGreatDoor.Ex
set_option maxRecDepth 1000000
theorem tk3_8 (m : Int) : rightL m 3 8 = true := by kernel_rfl
theorem tr3_8 (m : Int) : runsL m 3 8 [0, 1, 2, 3, 4, 5, 6, 7, 8, 9, 10, 11, 12, 13, 14, 15] = true := by kernel_rfl
theorem tk3_9 (m : Int) : rightL m 3 9 = true := by kernel_rfl
theorem tr3_9 (m : Int) : runsL m 3 9 [0, 1, 2, 3, 4, 5, 6, 7, 8, 9, 10, 11, 12, 13, 14, 15] = true := by kernel_rfl
theorem tk3_10 (m : Int) : rightL m 3 10 = true := by kernel_rfl
theorem tr3_10 (m : Int) : runsL m 3 10 [0, 1, 2, 3, 4, 5, 6, 7, 8, 9, 10, 11, 12, 13, 14, 15] = true := by kernel_rfl
theorem tk3_11 (m : Int) : rightL m 3 11 = true := by kernel_rfl
theorem tr3_11 (m : Int) : runsL m 3 11 [0, 1, 2, 3, 4, 5, 6, 7, 8, 9, 10, 11, 12, 13, 14, 15] = true := by kernel_rfl
theorem tk3_12 (m : Int) : rightL m 3 12 = true := by kernel_rfl
theorem tr3_12 (m : Int) : runsL m 3 12 [0, 1, 2, 3, 4, 5, 6, 7, 8, 9, 10, 11, 12, 13, 14, 15] = true := by kernel_rfl
theorem tk3_13 (m : Int) : rightL m 3 13 = true := by kernel_rfl
theorem tr3_13 (m : Int) : runsL m 3 13 [0, 1, 2, 3, 4, 5, 6, 7, 8, 9, 10, 11, 12, 13, 14, 15] = true := by kernel_rfl
theorem tk3_14 (m : Int) : rightL m 3 14 = true := by kernel_rfl
theorem tr3_14 (m : Int) : runsL m 3 14 [0, 1, 2, 3, 4, 5, 6, 7, 8, 9, 10, 11, 12, 13, 14, 15] = true := by kernel_rfl
theorem tk3_15 (m : Int) : rightL m 3 15 = true := by kernel_rfl
theorem tr3_15 (m : Int) : runsL m 3 15 [0, 1, 2, 3, 4, 5, 6, 7, 8, 9, 10, 11, 12, 13, 14, 15] = true := by kernel_rfl
end Go.Proofs.YtlibeobmdjeilaaGreatDoor
