/- The law InterpTotal: programs and runs, reckoned (size 4, words from 8). -/
import Derived.Test.YtlibeobmdjeilaaGreatDoorToK
set_option linter.all false
namespace Go.Proofs.YtlibeobmdjeilaaGreatDoor
open Go Go.RowKit Go.Proofs.YtlibeobmdjeilaaGreatDoor.Ex
set_option maxRecDepth 1000000
theorem tk4_8 (m : Int) : rightL m 4 8 = true := by kernel_rfl
theorem tr4_8 (m : Int) : runsL m 4 8 [0, 1, 2, 3, 4, 5, 6, 7, 8, 9, 10, 11, 12, 13, 14, 15] = true := by kernel_rfl
theorem tk4_9 (m : Int) : rightL m 4 9 = true := by kernel_rfl
theorem tr4_9 (m : Int) : runsL m 4 9 [0, 1, 2, 3, 4, 5, 6, 7, 8, 9, 10, 11, 12, 13, 14, 15] = true := by kernel_rfl
theorem tk4_10 (m : Int) : rightL m 4 10 = true := by kernel_rfl
theorem tr4_10 (m : Int) : runsL m 4 10 [0, 1, 2, 3, 4, 5, 6, 7, 8, 9, 10, 11, 12, 13, 14, 15] = true := by kernel_rfl
theorem tk4_11 (m : Int) : rightL m 4 11 = true := by kernel_rfl
theorem tr4_11 (m : Int) : runsL m 4 11 [0, 1, 2, 3, 4, 5, 6, 7, 8, 9, 10, 11, 12, 13, 14, 15] = true := by kernel_rfl
theorem tk4_12 (m : Int) : rightL m 4 12 = true := by kernel_rfl
theorem tr4_12 (m : Int) : runsL m 4 12 [0, 1, 2, 3, 4, 5, 6, 7, 8, 9, 10, 11, 12, 13, 14, 15] = true := by kernel_rfl
theorem tk4_13 (m : Int) : rightL m 4 13 = true := by kernel_rfl
theorem tr4_13 (m : Int) : runsL m 4 13 [0, 1, 2, 3, 4, 5, 6, 7, 8, 9, 10, 11, 12, 13, 14, 15] = true := by kernel_rfl
theorem tk4_14 (m : Int) : rightL m 4 14 = true := by kernel_rfl
theorem tr4_14 (m : Int) : runsL m 4 14 [0, 1, 2, 3, 4, 5, 6, 7, 8, 9, 10, 11, 12, 13, 14, 15] = true := by kernel_rfl
theorem tk4_15 (m : Int) : rightL m 4 15 = true := by kernel_rfl
theorem tr4_15 (m : Int) : runsL m 4 15 [0, 1, 2, 3, 4, 5, 6, 7, 8, 9, 10, 11, 12, 13, 14, 15] = true := by kernel_rfl
end Go.Proofs.YtlibeobmdjeilaaGreatDoor
