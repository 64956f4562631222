/- The executor and what it leans on (PO): told in wip/x. -/
import Derived.Test.YtlibeobmdjeilaaGreatDoorPG
import Derived.Test.YtlibeobmdjeilaaGreatDoorPN
import Derived.KernelRfl
set_option linter.all false
namespace Go.Proofs.YtlibeobmdjeilaaGreatDoor
open Go Go.RowKit Go.Proofs.YtlibeobmdjeilaaGreatDoor.Ex
set_option maxRecDepth 1000000
theorem eqs36 : eqsOk Tryz.prog [62] = true := by kernel_rfl
theorem names36 : Ex.namesB Tryz.prog.funcs.toList = true := by kernel_rfl
theorem mixed36 : Tryz.prog.follows .mixedOrders = true := by kernel_rfl
theorem cut36 : fnB Tryz.prog 404 = true := by kernel_rfl
theorem nm36 : fnB Tryz.prog 405 = true := by kernel_rfl
theorem run36 (m : Int) : isTrue (Y (ctx1 Tryz.prog [62] (orcT 404 405 isName)) 100000 200 true 15 [] (S1 m)) = true := by kernel_rfl
theorem awake36_any (w : World) (hw : MxRow w) : Calls Tryz.prog 15 #[] w fun o w' => o = .returned (.bool true) ∧ Below w.heap.size w w' :=
  closedY [62] eqs36 names36 mixed36 cut36 nm36 (fun s sep m w hs hm => Tryz.strings_Cut s sep m w hs hm) (fun w s hs hm => isName_any w s hs hm) (args := []) (us := []) (fun _ => rfl) run36 w hw
end Go.Proofs.YtlibeobmdjeilaaGreatDoor
