/- The law InterpTotal: programs and runs, reckoned (size 7, words from 0). -/
import Derived.Test.YtlibeobmdjeilaaGreatDoorToK
set_option linter.all false
namespace Go.Proofs.YtlibeobmdjeilaaGreatDoor
open Go Go.RowKit Go.Proofs.YtlibeobmdjeilaaGreatDoor.Ex
set_option maxRecDepth 1000000
theorem tk7_0 (m : Int) : rightL m 7 0 = true := by kernel_rfl
theorem tr7_0 (m : Int) : runsL m 7 0 [0, 1, 2, 3, 4, 5, 6, 7, 8, 9, 10, 11, 12, 13, 14, 15] = true := by kernel_rfl
theorem tk7_1 (m : Int) : rightL m 7 1 = true := by kernel_rfl
theorem tr7_1 (m : Int) : runsL m 7 1 [0, 1, 2, 3, 4, 5, 6, 7, 8, 9, 10, 11, 12, 13, 14, 15] = true := by kernel_rfl
theorem tk7_2 (m : Int) : rightL m 7 2 = true := by kernel_rfl
theorem tr7_2 (m : Int) : runsL m 7 2 [0, 1, 2, 3, 4, 5, 6, 7, 8, 9, 10, 11, 12, 13, 14, 15] = true := by kernel_rfl
theorem tk7_3 (m : Int) : rightL m 7 3 = true := by kernel_rfl
theorem tr7_3 (m : Int) : runsL m 7 3 [0, 1, 2, 3, 4, 5, 6, 7, 8, 9, 10, 11, 12, 13, 14, 15] = true := by kernel_rfl
theorem tk7_4 (m : Int) : rightL m 7 4 = true := by kernel_rfl
theorem tr7_4 (m : Int) : runsL m 7 4 [0, 1, 2, 3, 4, 5, 6, 7, 8, 9, 10, 11, 12, 13, 14, 15] = true := by kernel_rfl
theorem tk7_5 (m : Int) : rightL m 7 5 = true := by kernel_rfl
theorem tr7_5 (m : Int) : runsL m 7 5 [0, 1, 2, 3, 4, 5, 6, 7, 8, 9, 10, 11, 12, 13, 14, 15] = true := by kernel_rfl
theorem tk7_6 (m : Int) : rightL m 7 6 = true := by kernel_rfl
theorem tr7_6 (m : Int) : runsL m 7 6 [0, 1, 2, 3, 4, 5, 6, 7, 8, 9, 10, 11, 12, 13, 14, 15] = true := by kernel_rfl
theorem tk7_7 (m : Int) : rightL m 7 7 = true := by kernel_rfl
theorem tr7_7 (m : Int) : runsL m 7 7 [0, 1, 2, 3, 4, 5, 6, 7, 8, 9, 10, 11, 12, 13, 14, 15] = true := by kernel_rfl
end Go.Proofs.YtlibeobmdjeilaaGreatDoor
