/- The law InterpTotal: programs and runs, reckoned (size 6, words from 0). -/
import Derived.Test.YtlibeobmdjeilaaGreatDoorToK
set_option linter.all false
namespace Go.Proofs.YtlibeobmdjeilaaGreatDoor
open Go Go.RowKit Go.Proofs.YtlibeobmdjeilaaGreatDoor.Ex
set_option maxRecDepth 1000000
theorem tk6_0 (m : Int) : rightL m 6 0 = true := by kernel_rfl
theorem tr6_0 (m : Int) : runsL m 6 0 [0, 1, 2, 3, 4, 5, 6, 7, 8, 9, 10, 11, 12, 13, 14, 15] = true := by kernel_rfl
theorem tk6_1 (m : Int) : rightL m 6 1 = true := by kernel_rfl
theorem tr6_1 (m : Int) : runsL m 6 1 [0, 1, 2, 3, 4, 5, 6, 7, 8, 9, 10, 11, 12, 13, 14, 15] = true := by kernel_rfl
theorem tk6_2 (m : Int) : rightL m 6 2 = true := by kernel_rfl
theorem tr6_2 (m : Int) : runsL m 6 2 [0, 1, 2, 3, 4, 5, 6, 7, 8, 9, 10, 11, 12, 13, 14, 15] = true := by kernel_rfl
theorem tk6_3 (m : Int) : rightL m 6 3 = true := by kernel_rfl
theorem tr6_3 (m : Int) : runsL m 6 3 [0, 1, 2, 3, 4, 5, 6, 7, 8, 9, 10, 11, 12, 13, 14, 15] = true := by kernel_rfl
theorem tk6_4 (m : Int) : rightL m 6 4 = true := by kernel_rfl
theorem tr6_4 (m : Int) : runsL m 6 4 [0, 1, 2, 3, 4, 5, 6, 7, 8, 9, 10, 11, 12, 13, 14, 15] = true := by kernel_rfl
theorem tk6_5 (m : Int) : rightL m 6 5 = true := by kernel_rfl
theorem tr6_5 (m : Int) : runsL m 6 5 [0, 1, 2, 3, 4, 5, 6, 7, 8, 9, 10, 11, 12, 13, 14, 15] = true := by kernel_rfl
theorem tk6_6 (m : Int) : rightL m 6 6 = true := by kernel_rfl
theorem tr6_6 (m : Int) : runsL m 6 6 [0, 1, 2, 3, 4, 5, 6, 7, 8, 9, 10, 11, 12, 13, 14, 15] = true := by kernel_rfl
theorem tk6_7 (m : Int) : rightL m 6 7 = true := by kernel_rfl
theorem tr6_7 (m : Int) : runsL m 6 7 [0, 1, 2, 3, 4, 5, 6, 7, 8, 9, 10, 11, 12, 13, 14, 15] = true := by kernel_rfl
end Go.Proofs.YtlibeobmdjeilaaGreatDoor
