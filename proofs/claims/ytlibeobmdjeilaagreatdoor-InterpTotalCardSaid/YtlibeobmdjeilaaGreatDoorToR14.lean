/- The law InterpTotal: programs and runs, reckoned (size 8, words from 0). -/
import Derived.Test.YtlibeobmdjeilaaGreatDoorToK
set_option linter.all false
namespace Go.Proofs.YtlibeobmdjeilaaGreatDoor
open Go Go.RowKit Go.Proofs.YtlibeobmdjeilaaGreatDoor.Ex
set_option maxRecDepth 1000000
theorem tk8_0 (m : Int) : rightL m 8 0 = true := by kernel_rfl
theorem tr8_0 (m : Int) : runsL m 8 0 [0, 1, 2, 3, 4, 5, 6, 7, 8, 9, 10, 11, 12, 13, 14, 15] = true := by kernel_rfl
theorem tk8_1 (m : Int) : rightL m 8 1 = true := by kernel_rfl
theorem tr8_1 (m : Int) : runsL m 8 1 [0, 1, 2, 3, 4, 5, 6, 7, 8, 9, 10, 11, 12, 13, 14, 15] = true := by kernel_rfl
theorem tk8_2 (m : Int) : rightL m 8 2 = true := by kernel_rfl
theorem tr8_2 (m : Int) : runsL m 8 2 [0, 1, 2, 3, 4, 5, 6, 7, 8, 9, 10, 11, 12, 13, 14, 15] = true := by kernel_rfl
theorem tk8_3 (m : Int) : rightL m 8 3 = true := by kernel_rfl
theorem tr8_3 (m : Int) : runsL m 8 3 [0, 1, 2, 3, 4, 5, 6, 7, 8, 9, 10, 11, 12, 13, 14, 15] = true := by kernel_rfl
theorem tk8_4 (m : Int) : rightL m 8 4 = true := by kernel_rfl
theorem tr8_4 (m : Int) : runsL m 8 4 [0, 1, 2, 3, 4, 5, 6, 7, 8, 9, 10, 11, 12, 13, 14, 15] = true := by kernel_rfl
theorem tk8_5 (m : Int) : rightL m 8 5 = true := by kernel_rfl
theorem tr8_5 (m : Int) : runsL m 8 5 [0, 1, 2, 3, 4, 5, 6, 7, 8, 9, 10, 11, 12, 13, 14, 15] = true := by kernel_rfl
theorem tk8_6 (m : Int) : rightL m 8 6 = true := by kernel_rfl
theorem tr8_6 (m : Int) : runsL m 8 6 [0, 1, 2, 3, 4, 5, 6, 7, 8, 9, 10, 11, 12, 13, 14, 15] = true := by kernel_rfl
theorem tk8_7 (m : Int) : rightL m 8 7 = true := by kernel_rfl
theorem tr8_7 (m : Int) : runsL m 8 7 [0, 1, 2, 3, 4, 5, 6, 7, 8, 9, 10, 11, 12, 13, 14, 15] = true := by kernel_rfl
end Go.Proofs.YtlibeobmdjeilaaGreatDoor
