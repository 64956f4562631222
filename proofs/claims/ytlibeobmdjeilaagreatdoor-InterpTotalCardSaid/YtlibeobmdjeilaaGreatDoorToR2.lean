/- The law InterpTotal: programs and runs, reckoned (size 2, words from 0). -/
import Derived.Test.YtlibeobmdjeilaaGreatDoorToK
set_option linter.all false
namespace Go.Proofs.YtlibeobmdjeilaaGreatDoor
open Go Go.RowKit Go.Proofs.YtlibeobmdjeilaaGreatDoor.Ex
set_option maxRecDepth 1000000
theorem tk2_0 (m : Int) : rightL m 2 0 = true := by kernel_rfl
theorem tr2_0 (m : Int) : runsL m 2 0 [0, 1, 2, 3, 4, 5, 6, 7, 8, 9, 10, 11, 12, 13, 14, 15] = true := by kernel_rfl
theorem tk2_1 (m : Int) : rightL m 2 1 = true := by kernel_rfl
theorem tr2_1 (m : Int) : runsL m 2 1 [0, 1, 2, 3, 4, 5, 6, 7, 8, 9, 10, 11, 12, 13, 14, 15] = true := by kernel_rfl
theorem tk2_2 (m : Int) : rightL m 2 2 = true := by kernel_rfl
theorem tr2_2 (m : Int) : runsL m 2 2 [0, 1, 2, 3, 4, 5, 6, 7, 8, 9, 10, 11, 12, 13, 14, 15] = true := by kernel_rfl
theorem tk2_3 (m : Int) : rightL m 2 3 = true := by kernel_rfl
theorem tr2_3 (m : Int) : runsL m 2 3 [0, 1, 2, 3, 4, 5, 6, 7, 8, 9, 10, 11, 12, 13, 14, 15] = true := by kernel_rfl
theorem tk2_4 (m : Int) : rightL m 2 4 = true := by kernel_rfl
theorem tr2_4 (m : Int) : runsL m 2 4 [0, 1, 2, 3, 4, 5, 6, 7, 8, 9, 10, 11, 12, 13, 14, 15] = true := by kernel_rfl
theorem tk2_5 (m : Int) : rightL m 2 5 = true := by kernel_rfl
theorem tr2_5 (m : Int) : runsL m 2 5 [0, 1, 2, 3, 4, 5, 6, 7, 8, 9, 10, 11, 12, 13, 14, 15] = true := by kernel_rfl
theorem tk2_6 (m : Int) : rightL m 2 6 = true := by kernel_rfl
theorem tr2_6 (m : Int) : runsL m 2 6 [0, 1, 2, 3, 4, 5, 6, 7, 8, 9, 10, 11, 12, 13, 14, 15] = true := by kernel_rfl
theorem tk2_7 (m : Int) : rightL m 2 7 = true := by kernel_rfl
theorem tr2_7 (m : Int) : runsL m 2 7 [0, 1, 2, 3, 4, 5, 6, 7, 8, 9, 10, 11, 12, 13, 14, 15] = true := by kernel_rfl
end Go.Proofs.YtlibeobmdjeilaaGreatDoor
