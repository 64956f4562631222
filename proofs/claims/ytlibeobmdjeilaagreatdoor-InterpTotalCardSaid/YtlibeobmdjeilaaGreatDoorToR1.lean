/- The law InterpTotal: programs and runs, reckoned (size 1, words from 8). -/
import Derived.Test.YtlibeobmdjeilaaGreatDoorToK
set_option linter.all false
namespace Go.Proofs.YtlibeobmdjeilaaGreatDoor
open Go Go.RowKit Go.Proofs.YtlibeobmdjeilaaGreatDoor.Ex
set_option maxRecDepth 1000000
theorem tk1_8 (m : Int) : rightL m 1 8 = true := by kernel_rfl
theorem tr1_8 (m : Int) : runsL m 1 8 [0, 1, 2, 3, 4, 5, 6, 7, 8, 9, 10, 11, 12, 13, 14, 15] = true := by kernel_rfl
theorem tk1_9 (m : Int) : rightL m 1 9 = true := by kernel_rfl
theorem tr1_9 (m : Int) : runsL m 1 9 [0, 1, 2, 3, 4, 5, 6, 7, 8, 9, 10, 11, 12, 13, 14, 15] = true := by kernel_rfl
theorem tk1_10 (m : Int) : rightL m 1 10 = true := by kernel_rfl
theorem tr1_10 (m : Int) : runsL m 1 10 [0, 1, 2, 3, 4, 5, 6, 7, 8, 9, 10, 11, 12, 13, 14, 15] = true := by kernel_rfl
theorem tk1_11 (m : Int) : rightL m 1 11 = true := by kernel_rfl
theorem tr1_11 (m : Int) : runsL m 1 11 [0, 1, 2, 3, 4, 5, 6, 7, 8, 9, 10, 11, 12, 13, 14, 15] = true := by kernel_rfl
theorem tk1_12 (m : Int) : rightL m 1 12 = true := by kernel_rfl
theorem tr1_12 (m : Int) : runsL m 1 12 [0, 1, 2, 3, 4, 5, 6, 7, 8, 9, 10, 11, 12, 13, 14, 15] = true := by kernel_rfl
theorem tk1_13 (m : Int) : rightL m 1 13 = true := by kernel_rfl
theorem tr1_13 (m : Int) : runsL m 1 13 [0, 1, 2, 3, 4, 5, 6, 7, 8, 9, 10, 11, 12, 13, 14, 15] = true := by kernel_rfl
theorem tk1_14 (m : Int) : rightL m 1 14 = true := by kernel_rfl
theorem tr1_14 (m : Int) : runsL m 1 14 [0, 1, 2, 3, 4, 5, 6, 7, 8, 9, 10, 11, 12, 13, 14, 15] = true := by kernel_rfl
theorem tk1_15 (m : Int) : rightL m 1 15 = true := by kernel_rfl
theorem tr1_15 (m : Int) : runsL m 1 15 [0, 1, 2, 3, 4, 5, 6, 7, 8, 9, 10, 11, 12, 13, 14, 15] = true := by kernel_rfl
end Go.Proofs.YtlibeobmdjeilaaGreatDoor
