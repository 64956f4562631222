/- The law InterpTotal: programs and runs, reckoned (size 2, words from 8). -/
import Derived.Test.YtlibeobmdjeilaaGreatDoorToK
set_option linter.all false
namespace Go.Proofs.YtlibeobmdjeilaaGreatDoor
open Go Go.RowKit Go.Proofs.YtlibeobmdjeilaaGreatDoor.Ex
set_option maxRecDepth 1000000
theorem tk2_8 (m : Int) : rightL m 2 8 = true := by kernel_rfl
theorem tr2_8 (m : Int) : runsL m 2 8 [0, 1, 2, 3, 4, 5, 6, 7, 8, 9, 10, 11, 12, 13, 14, 15] = true := by kernel_rfl
theorem tk2_9 (m : Int) : rightL m 2 9 = true := by kernel_rfl
theorem tr2_9 (m : Int) : runsL m 2 9 [0, 1, 2, 3, 4, 5, 6, 7, 8, 9, 10, 11, 12, 13, 14, 15] = true := by kernel_rfl
theorem tk2_10 (m : Int) : rightL m 2 10 = true := by kernel_rfl
theorem tr2_10 (m : Int) : runsL m 2 10 [0, 1, 2, 3, 4, 5, 6, 7, 8, 9, 10, 11, 12, 13, 14, 15] = true := by kernel_rfl
theorem tk2_11 (m : Int) : rightL m 2 11 = true := by kernel_rfl
theorem tr2_11 (m : Int) : runsL m 2 11 [0, 1, 2, 3, 4, 5, 6, 7, 8, 9, 10, 11, 12, 13, 14, 15] = true := by kernel_rfl
theorem tk2_12 (m : Int) : rightL m 2 12 = true := by kernel_rfl
theorem tr2_12 (m : Int) : runsL m 2 12 [0, 1, 2, 3, 4, 5, 6, 7, 8, 9, 10, 11, 12, 13, 14, 15] = true := by kernel_rfl
theorem tk2_13 (m : Int) : rightL m 2 13 = true := by kernel_rfl
theorem tr2_13 (m : Int) : runsL m 2 13 [0, 1, 2, 3, 4, 5, 6, 7, 8, 9, 10, 11, 12, 13, 14, 15] = true := by kernel_rfl
theorem tk2_14 (m : Int) : rightL m 2 14 = true := by kernel_rfl
theorem tr2_14 (m : Int) : runsL m 2 14 [0, 1, 2, 3, 4, 5, 6, 7, 8, 9, 10, 11, 12, 13, 14, 15] = true := by kernel_rfl
theorem tk2_15 (m : Int) : rightL m 2 15 = true := by kernel_rfl
theorem tr2_15 (m : Int) : runsL m 2 15 [0, 1, 2, 3, 4, 5, 6, 7, 8, 9, 10, 11, 12, 13, 14, 15] = true := by kernel_rfl
end Go.Proofs.YtlibeobmdjeilaaGreatDoor
