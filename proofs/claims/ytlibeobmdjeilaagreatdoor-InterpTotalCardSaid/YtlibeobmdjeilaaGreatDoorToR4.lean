/- The law InterpTotal: programs and runs, reckoned (size 3, words from 0). -/
import Derived.Test.YtlibeobmdjeilaaGreatDoorToK
set_option linter.all false
namespace Go.Proofs.YtlibeobmdjeilaaGreatDoor
open Go Go.RowKit Go.Proofs.YtlibeobmdjeilaaGreatDoor.Ex
set_option maxRecDepth 1000000
theorem tk3_0 (m : Int) : rightL m 3 0 = true := by kernel_rfl
theorem tr3_0 (m : Int) : runsL m 3 0 [0, 1, 2, 3, 4, 5, 6, 7, 8, 9, 10, 11, 12, 13, 14, 15] = true := by kernel_rfl
theorem tk3_1 (m : Int) : rightL m 3 1 = true := by kernel_rfl
theorem tr3_1 (m : Int) : runsL m 3 1 [0, 1, 2, 3, 4, 5, 6, 7, 8, 9, 10, 11, 12, 13, 14, 15] = true := by kernel_rfl
theorem tk3_2 (m : Int) : rightL m 3 2 = true := by kernel_rfl
theorem tr3_2 (m : Int) : runsL m 3 2 [0, 1, 2, 3, 4, 5, 6, 7, 8, 9, 10, 11, 12, 13, 14, 15] = true := by kernel_rfl
theorem tk3_3 (m : Int) : rightL m 3 3 = true := by kernel_rfl
theorem tr3_3 (m : Int) : runsL m 3 3 [0, 1, 2, 3, 4, 5, 6, 7, 8, 9, 10, 11, 12, 13, 14, 15] = true := by kernel_rfl
theorem tk3_4 (m : Int) : rightL m 3 4 = true := by kernel_rfl
theorem tr3_4 (m : Int) : runsL m 3 4 [0, 1, 2, 3, 4, 5, 6, 7, 8, 9, 10, 11, 12, 13, 14, 15] = true := by kernel_rfl
theorem tk3_5 (m : Int) : rightL m 3 5 = true := by kernel_rfl
theorem tr3_5 (m : Int) : runsL m 3 5 [0, 1, 2, 3, 4, 5, 6, 7, 8, 9, 10, 11, 12, 13, 14, 15] = true := by kernel_rfl
theorem tk3_6 (m : Int) : rightL m 3 6 = true := by kernel_rfl
theorem tr3_6 (m : Int) : runsL m 3 6 [0, 1, 2, 3, 4, 5, 6, 7, 8, 9, 10, 11, 12, 13, 14, 15] = true := by kernel_rfl
theorem tk3_7 (m : Int) : rightL m 3 7 = true := by kernel_rfl
theorem tr3_7 (m : Int) : runsL m 3 7 [0, 1, 2, 3, 4, 5, 6, 7, 8, 9, 10, 11, 12, 13, 14, 15] = true := by kernel_rfl
end Go.Proofs.YtlibeobmdjeilaaGreatDoor
