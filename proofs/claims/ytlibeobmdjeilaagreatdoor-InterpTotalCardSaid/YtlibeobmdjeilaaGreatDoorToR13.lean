/- The law InterpTotal: programs and runs, reckoned (size 7, words from 8). -/
import Derived.Test.YtlibeobmdjeilaaGreatDoorToK
set_option linter.all false
namespace Go.Proofs.YtlibeobmdjeilaaGreatDoor
open Go Go.RowKit Go.Proofs.YtlibeobmdjeilaaGreatDoor.Ex
set_option maxRecDepth 1000000
theorem tk7_8 (m : Int) : rightL m 7 8 = true := by kernel_rfl
theorem tr7_8 (m : Int) : runsL m 7 8 [0, 1, 2, 3, 4, 5, 6, 7, 8, 9, 10, 11, 12, 13, 14, 15] = true := by kernel_rfl
theorem tk7_9 (m : Int) : rightL m 7 9 = true := by kernel_rfl
theorem tr7_9 (m : Int) : runsL m 7 9 [0, 1, 2, 3, 4, 5, 6, 7, 8, 9, 10, 11, 12, 13, 14, 15] = true := by kernel_rfl
theorem tk7_10 (m : Int) : rightL m 7 10 = true := by kernel_rfl
theorem tr7_10 (m : Int) : runsL m 7 10 [0, 1, 2, 3, 4, 5, 6, 7, 8, 9, 10, 11, 12, 13, 14, 15] = true := by kernel_rfl
theorem tk7_11 (m : Int) : rightL m 7 11 = true := by kernel_rfl
theorem tr7_11 (m : Int) : runsL m 7 11 [0, 1, 2, 3, 4, 5, 6, 7, 8, 9, 10, 11, 12, 13, 14, 15] = true := by kernel_rfl
theorem tk7_12 (m : Int) : rightL m 7 12 = true := by kernel_rfl
theorem tr7_12 (m : Int) : runsL m 7 12 [0, 1, 2, 3, 4, 5, 6, 7, 8, 9, 10, 11, 12, 13, 14, 15] = true := by kernel_rfl
theorem tk7_13 (m : Int) : rightL m 7 13 = true := by kernel_rfl
theorem tr7_13 (m : Int) : runsL m 7 13 [0, 1, 2, 3, 4, 5, 6, 7, 8, 9, 10, 11, 12, 13, 14, 15] = true := by kernel_rfl
theorem tk7_14 (m : Int) : rightL m 7 14 = true := by kernel_rfl
theorem tr7_14 (m : Int) : runsL m 7 14 [0, 1, 2, 3, 4, 5, 6, 7, 8, 9, 10, 11, 12, 13, 14, 15] = true := by kernel_rfl
theorem tk7_15 (m : Int) : rightL m 7 15 = true := by kernel_rfl
theorem tr7_15 (m : Int) : runsL m 7 15 [0, 1, 2, 3, 4, 5, 6, 7, 8, 9, 10, 11, 12, 13, 14, 15] = true := by kernel_rfl
end Go.Proofs.YtlibeobmdjeilaaGreatDoor
