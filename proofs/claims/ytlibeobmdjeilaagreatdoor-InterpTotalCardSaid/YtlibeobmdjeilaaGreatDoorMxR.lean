/- Block 0 begins with an int: kept below, and out of the shape of a started program. -/
import Derived.Test.YtlibeobmdjeilaaGreatDoorPO
import Derived.WalkMore
set_option linter.all false
namespace Go.Proofs.YtlibeobmdjeilaaGreatDoor
open Go Go.RowKit Go.Proofs.YtlibeobmdjeilaaGreatDoor.Ex
theorem MxRow.on {w w' : World} (h : MxRow w) (hb : Below w.heap.size w w') : MxRow w' := by
  obtain ⟨arr, ty, m, h0, h1⟩ := h
  exact ⟨arr, ty, m, (hb.block 0 (Array.getElem?_eq_some_iff.1 h0).1).trans h0, h1⟩
theorem mxRow_shaped {W : World} (h : W.ShapedOpen Tryz.prog) : MxRow W := by
  obtain ⟨m, hm⟩ : ∃ m, W.cell? ⟨0, 0, none⟩ = some (.int .i64 m) := Tryz.laysM144.s1_3 W h
  obtain ⟨cs, hc, _⟩ := h.1 0 #[.int .i64 0] 3 (of_decide_eq_true (by kernel_rfl)) (by kernel_rfl)
  refine ⟨cs, 3, m, hc, ?_⟩
  simpa [World.cell?, hc] using hm
end Go.Proofs.YtlibeobmdjeilaaGreatDoor
