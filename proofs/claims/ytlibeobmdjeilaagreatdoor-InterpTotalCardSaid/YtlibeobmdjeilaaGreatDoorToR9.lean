/- The law InterpTotal: programs and runs, reckoned (size 5, words from 8). -/
import Derived.Test.YtlibeobmdjeilaaGreatDoorToK
set_option linter.all false
namespace Go.Proofs.YtlibeobmdjeilaaGreatDoor
open Go Go.RowKit Go.Proofs.YtlibeobmdjeilaaGreatDoor.Ex
set_option maxRecDepth 1000000
theorem tk5_8 (m : Int) : rightL m 5 8 = true := by kernel_rfl
theorem tr5_8 (m : Int) : runsL m 5 8 [0, 1, 2, 3, 4, 5, 6, 7, 8, 9, 10, 11, 12, 13, 14, 15] = true := by kernel_rfl
theorem tk5_9 (m : Int) : rightL m 5 9 = true := by kernel_rfl
theorem tr5_9 (m : Int) : runsL m 5 9 [0, 1, 2, 3, 4, 5, 6, 7, 8, 9, 10, 11, 12, 13, 14, 15] = true := by kernel_rfl
theorem tk5_10 (m : Int) : rightL m 5 10 = true := by kernel_rfl
theorem tr5_10 (m : Int) : runsL m 5 10 [0, 1, 2, 3, 4, 5, 6, 7, 8, 9, 10, 11, 12, 13, 14, 15] = true := by kernel_rfl
theorem tk5_11 (m : Int) : rightL m 5 11 = true := by kernel_rfl
theorem tr5_11 (m : Int) : runsL m 5 11 [0, 1, 2, 3, 4, 5, 6, 7, 8, 9, 10, 11, 12, 13, 14, 15] = true := by kernel_rfl
theorem tk5_12 (m : Int) : rightL m 5 12 = true := by kernel_rfl
theorem tr5_12 (m : Int) : runsL m 5 12 [0, 1, 2, 3, 4, 5, 6, 7, 8, 9, 10, 11, 12, 13, 14, 15] = true := by kernel_rfl
theorem tk5_13 (m : Int) : rightL m 5 13 = true := by kernel_rfl
theorem tr5_13 (m : Int) : runsL m 5 13 [0, 1, 2, 3, 4, 5, 6, 7, 8, 9, 10, 11, 12, 13, 14, 15] = true := by kernel_rfl
theorem tk5_14 (m : Int) : rightL m 5 14 = true := by kernel_rfl
theorem tr5_14 (m : Int) : runsL m 5 14 [0, 1, 2, 3, 4, 5, 6, 7, 8, 9, 10, 11, 12, 13, 14, 15] = true := by kernel_rfl
theorem tk5_15 (m : Int) : rightL m 5 15 = true := by kernel_rfl
theorem tr5_15 (m : Int) : runsL m 5 15 [0, 1, 2, 3, 4, 5, 6, 7, 8, 9, 10, 11, 12, 13, 14, 15] = true := by kernel_rfl
end Go.Proofs.YtlibeobmdjeilaaGreatDoor
