/- The law InterpTotal: programs and runs, reckoned (size 5, words from 0). -/
import Derived.Test.YtlibeobmdjeilaaGreatDoorToK
set_option linter.all false
namespace Go.Proofs.YtlibeobmdjeilaaGreatDoor
open Go Go.RowKit Go.Proofs.YtlibeobmdjeilaaGreatDoor.Ex
set_option maxRecDepth 1000000
theorem tk5_0 (m : Int) : rightL m 5 0 = true := by kernel_rfl
theorem tr5_0 (m : Int) : runsL m 5 0 [0, 1, 2, 3, 4, 5, 6, 7, 8, 9, 10, 11, 12, 13, 14, 15] = true := by kernel_rfl
theorem tk5_1 (m : Int) : rightL m 5 1 = true := by kernel_rfl
theorem tr5_1 (m : Int) : runsL m 5 1 [0, 1, 2, 3, 4, 5, 6, 7, 8, 9, 10, 11, 12, 13, 14, 15] = true := by kernel_rfl
theorem tk5_2 (m : Int) : rightL m 5 2 = true := by kernel_rfl
theorem tr5_2 (m : Int) : runsL m 5 2 [0, 1, 2, 3, 4, 5, 6, 7, 8, 9, 10, 11, 12, 13, 14, 15] = true := by kernel_rfl
theorem tk5_3 (m : Int) : rightL m 5 3 = true := by kernel_rfl
theorem tr5_3 (m : Int) : runsL m 5 3 [0, 1, 2, 3, 4, 5, 6, 7, 8, 9, 10, 11, 12, 13, 14, 15] = true := by kernel_rfl
theorem tk5_4 (m : Int) : rightL m 5 4 = true := by kernel_rfl
theorem tr5_4 (m : Int) : runsL m 5 4 [0, 1, 2, 3, 4, 5, 6, 7, 8, 9, 10, 11, 12, 13, 14, 15] = true := by kernel_rfl
theorem tk5_5 (m : Int) : rightL m 5 5 = true := by kernel_rfl
theorem tr5_5 (m : Int) : runsL m 5 5 [0, 1, 2, 3, 4, 5, 6, 7, 8, 9, 10, 11, 12, 13, 14, 15] = true := by kernel_rfl
theorem tk5_6 (m : Int) : rightL m 5 6 = true := by kernel_rfl
theorem tr5_6 (m : Int) : runsL m 5 6 [0, 1, 2, 3, 4, 5, 6, 7, 8, 9, 10, 11, 12, 13, 14, 15] = true := by kernel_rfl
theorem tk5_7 (m : Int) : rightL m 5 7 = true := by kernel_rfl
theorem tr5_7 (m : Int) : runsL m 5 7 [0, 1, 2, 3, 4, 5, 6, 7, 8, 9, 10, 11, 12, 13, 14, 15] = true := by kernel_rfl
end Go.Proofs.YtlibeobmdjeilaaGreatDoor
