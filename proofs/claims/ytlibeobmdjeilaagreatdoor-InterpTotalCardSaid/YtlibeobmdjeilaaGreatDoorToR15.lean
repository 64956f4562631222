/- The law InterpTotal: programs and runs, reckoned (size 8, words from 8). -/
import Derived.Test.YtlibeobmdjeilaaGreatDoorToK
set_option linter.all false
namespace Go.Proofs.YtlibeobmdjeilaaGreatDoor
open Go Go.RowKit Go.Proofs.YtlibeobmdjeilaaGreatDoor.Ex
set_option maxRecDepth 1000000
theorem tk8_8 (m : Int) : rightL m 8 8 = true := by kernel_rfl
theorem tr8_8 (m : Int) : runsL m 8 8 [0, 1, 2, 3, 4, 5, 6, 7, 8, 9, 10, 11, 12, 13, 14, 15] = true := by kernel_rfl
theorem tk8_9 (m : Int) : rightL m 8 9 = true := by kernel_rfl
theorem tr8_9 (m : Int) : runsL m 8 9 [0, 1, 2, 3, 4, 5, 6, 7, 8, 9, 10, 11, 12, 13, 14, 15] = true := by kernel_rfl
theorem tk8_10 (m : Int) : rightL m 8 10 = true := by kernel_rfl
theorem tr8_10 (m : Int) : runsL m 8 10 [0, 1, 2, 3, 4, 5, 6, 7, 8, 9, 10, 11, 12, 13, 14, 15] = true := by kernel_rfl
theorem tk8_11 (m : Int) : rightL m 8 11 = true := by kernel_rfl
theorem tr8_11 (m : Int) : runsL m 8 11 [0, 1, 2, 3, 4, 5, 6, 7, 8, 9, 10, 11, 12, 13, 14, 15] = true := by kernel_rfl
theorem tk8_12 (m : Int) : rightL m 8 12 = true := by kernel_rfl
theorem tr8_12 (m : Int) : runsL m 8 12 [0, 1, 2, 3, 4, 5, 6, 7, 8, 9, 10, 11, 12, 13, 14, 15] = true := by kernel_rfl
theorem tk8_13 (m : Int) : rightL m 8 13 = true := by kernel_rfl
theorem tr8_13 (m : Int) : runsL m 8 13 [0, 1, 2, 3, 4, 5, 6, 7, 8, 9, 10, 11, 12, 13, 14, 15] = true := by kernel_rfl
theorem tk8_14 (m : Int) : rightL m 8 14 = true := by kernel_rfl
theorem tr8_14 (m : Int) : runsL m 8 14 [0, 1, 2, 3, 4, 5, 6, 7, 8, 9, 10, 11, 12, 13, 14, 15] = true := by kernel_rfl
theorem tk8_15 (m : Int) : rightL m 8 15 = true := by kernel_rfl
theorem tr8_15 (m : Int) : runsL m 8 15 [0, 1, 2, 3, 4, 5, 6, 7, 8, 9, 10, 11, 12, 13, 14, 15] = true := by kernel_rfl
end Go.Proofs.YtlibeobmdjeilaaGreatDoor
