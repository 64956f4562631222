/- The law InterpTotal: programs and runs, reckoned (size 1, words from 0). -/
import Derived.Test.YtlibeobmdjeilaaGreatDoorToK
set_option linter.all false
namespace Go.Proofs.YtlibeobmdjeilaaGreatDoor
open Go Go.RowKit Go.Proofs.YtlibeobmdjeilaaGreatDoor.Ex
set_option maxRecDepth 1000000
theorem tk1_0 (m : Int) : rightL m 1 0 = true := by kernel_rfl
theorem tr1_0 (m : Int) : runsL m 1 0 [0, 1, 2, 3, 4, 5, 6, 7, 8, 9, 10, 11, 12, 13, 14, 15] = true := by kernel_rfl
theorem tk1_1 (m : Int) : rightL m 1 1 = true := by kernel_rfl
theorem tr1_1 (m : Int) : runsL m 1 1 [0, 1, 2, 3, 4, 5, 6, 7, 8, 9, 10, 11, 12, 13, 14, 15] = true := by kernel_rfl
theorem tk1_2 (m : Int) : rightL m 1 2 = true := by kernel_rfl
theorem tr1_2 (m : Int) : runsL m 1 2 [0, 1, 2, 3, 4, 5, 6, 7, 8, 9, 10, 11, 12, 13, 14, 15] = true := by kernel_rfl
theorem tk1_3 (m : Int) : rightL m 1 3 = true := by kernel_rfl
theorem tr1_3 (m : Int) : runsL m 1 3 [0, 1, 2, 3, 4, 5, 6, 7, 8, 9, 10, 11, 12, 13, 14, 15] = true := by kernel_rfl
theorem tk1_4 (m : Int) : rightL m 1 4 = true := by kernel_rfl
theorem tr1_4 (m : Int) : runsL m 1 4 [0, 1, 2, 3, 4, 5, 6, 7, 8, 9, 10, 11, 12, 13, 14, 15] = true := by kernel_rfl
theorem tk1_5 (m : Int) : rightL m 1 5 = true := by kernel_rfl
theorem tr1_5 (m : Int) : runsL m 1 5 [0, 1, 2, 3, 4, 5, 6, 7, 8, 9, 10, 11, 12, 13, 14, 15] = true := by kernel_rfl
theorem tk1_6 (m : Int) : rightL m 1 6 = true := by kernel_rfl
theorem tr1_6 (m : Int) : runsL m 1 6 [0, 1, 2, 3, 4, 5, 6, 7, 8, 9, 10, 11, 12, 13, 14, 15] = true := by kernel_rfl
theorem tk1_7 (m : Int) : rightL m 1 7 = true := by kernel_rfl
theorem tr1_7 (m : Int) : runsL m 1 7 [0, 1, 2, 3, 4, 5, 6, 7, 8, 9, 10, 11, 12, 13, 14, 15] = true := by kernel_rfl
end Go.Proofs.YtlibeobmdjeilaaGreatDoor
