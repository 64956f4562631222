/- The law InterpTotal: programs and runs, reckoned (size 6, words from 8). -/
import Derived.Test.YtlibeobmdjeilaaGreatDoorToK
set_option linter.all false
namespace Go.Proofs.YtlibeobmdjeilaaGreatDoor
open Go Go.RowKit Go.Proofs.YtlibeobmdjeilaaGreatDoor.Ex
set_option maxRecDepth 1000000
theorem tk6_8 (m : Int) : rightL m 6 8 = true := by kernel_rfl
theorem tr6_8 (m : Int) : runsL m 6 8 [0, 1, 2, 3, 4, 5, 6, 7, 8, 9, 10, 11, 12, 13, 14, 15] = true := by kernel_rfl
theorem tk6_9 (m : Int) : rightL m 6 9 = true := by kernel_rfl
theorem tr6_9 (m : Int) : runsL m 6 9 [0, 1, 2, 3, 4, 5, 6, 7, 8, 9, 10, 11, 12, 13, 14, 15] = true := by kernel_rfl
theorem tk6_10 (m : Int) : rightL m 6 10 = true := by kernel_rfl
theorem tr6_10 (m : Int) : runsL m 6 10 [0, 1, 2, 3, 4, 5, 6, 7, 8, 9, 10, 11, 12, 13, 14, 15] = true := by kernel_rfl
theorem tk6_11 (m : Int) : rightL m 6 11 = true := by kernel_rfl
theorem tr6_11 (m : Int) : runsL m 6 11 [0, 1, 2, 3, 4, 5, 6, 7, 8, 9, 10, 11, 12, 13, 14, 15] = true := by kernel_rfl
theorem tk6_12 (m : Int) : rightL m 6 12 = true := by kernel_rfl
theorem tr6_12 (m : Int) : runsL m 6 12 [0, 1, 2, 3, 4, 5, 6, 7, 8, 9, 10, 11, 12, 13, 14, 15] = true := by kernel_rfl
theorem tk6_13 (m : Int) : rightL m 6 13 = true := by kernel_rfl
theorem tr6_13 (m : Int) : runsL m 6 13 [0, 1, 2, 3, 4, 5, 6, 7, 8, 9, 10, 11, 12, 13, 14, 15] = true := by kernel_rfl
theorem tk6_14 (m : Int) : rightL m 6 14 = true := by kernel_rfl
theorem tr6_14 (m : Int) : runsL m 6 14 [0, 1, 2, 3, 4, 5, 6, 7, 8, 9, 10, 11, 12, 13, 14, 15] = true := by kernel_rfl
theorem tk6_15 (m : Int) : rightL m 6 15 = true := by kernel_rfl
theorem tr6_15 (m : Int) : runsL m 6 15 [0, 1, 2, 3, 4, 5, 6, 7, 8, 9, 10, 11, 12, 13, 14, 15] = true := by kernel_rfl
end Go.Proofs.YtlibeobmdjeilaaGreatDoor
