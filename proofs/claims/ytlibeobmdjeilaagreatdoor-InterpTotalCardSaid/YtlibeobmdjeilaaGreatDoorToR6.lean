/- The law InterpTotal: programs and runs, reckoned (size 4, words from 0). -/
import Derived.Test.YtlibeobmdjeilaaGreatDoorToK
set_option linter.all false
namespace Go.Proofs.YtlibeobmdjeilaaGreatDoor
open Go Go.RowKit Go.Proofs.YtlibeobmdjeilaaGreatDoor.Ex
set_option maxRecDepth 1000000
theorem tk4_0 (m : Int) : rightL m 4 0 = true := by kernel_rfl
theorem tr4_0 (m : Int) : runsL m 4 0 [0, 1, 2, 3, 4, 5, 6, 7, 8, 9, 10, 11, 12, 13, 14, 15] = true := by kernel_rfl
theorem tk4_1 (m : Int) : rightL m 4 1 = true := by kernel_rfl
theorem tr4_1 (m : Int) : runsL m 4 1 [0, 1, 2, 3, 4, 5, 6, 7, 8, 9, 10, 11, 12, 13, 14, 15] = true := by kernel_rfl
theorem tk4_2 (m : Int) : rightL m 4 2 = true := by kernel_rfl
theorem tr4_2 (m : Int) : runsL m 4 2 [0, 1, 2, 3, 4, 5, 6, 7, 8, 9, 10, 11, 12, 13, 14, 15] = true := by kernel_rfl
theorem tk4_3 (m : Int) : rightL m 4 3 = true := by kernel_rfl
theorem tr4_3 (m : Int) : runsL m 4 3 [0, 1, 2, 3, 4, 5, 6, 7, 8, 9, 10, 11, 12, 13, 14, 15] = true := by kernel_rfl
theorem tk4_4 (m : Int) : rightL m 4 4 = true := by kernel_rfl
theorem tr4_4 (m : Int) : runsL m 4 4 [0, 1, 2, 3, 4, 5, 6, 7, 8, 9, 10, 11, 12, 13, 14, 15] = true := by kernel_rfl
theorem tk4_5 (m : Int) : rightL m 4 5 = true := by kernel_rfl
theorem tr4_5 (m : Int) : runsL m 4 5 [0, 1, 2, 3, 4, 5, 6, 7, 8, 9, 10, 11, 12, 13, 14, 15] = true := by kernel_rfl
theorem tk4_6 (m : Int) : rightL m 4 6 = true := by kernel_rfl
theorem tr4_6 (m : Int) : runsL m 4 6 [0, 1, 2, 3, 4, 5, 6, 7, 8, 9, 10, 11, 12, 13, 14, 15] = true := by kernel_rfl
theorem tk4_7 (m : Int) : rightL m 4 7 = true := by kernel_rfl
theorem tr4_7 (m : Int) : runsL m 4 7 [0, 1, 2, 3, 4, 5, 6, 7, 8, 9, 10, 11, 12, 13, 14, 15] = true := by kernel_rfl
end Go.Proofs.YtlibeobmdjeilaaGreatDoor
