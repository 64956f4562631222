/- An argument that is a slice of int32s reads as a list. -/
import Derived.Test.YthpdndkfdiphmaaDoorRow
import Derived.Test.YthpdndkfdiphmaaDoorVarsM
namespace Go.Proofs.YthpdndkfdiphmaaDoor
open Go Go.RowKit Go.WideShapes Go.ChangeShapes
theorem cellsI32 : Tryd.prog.cellsOf 21 = 1 := by kernel_rfl
set_option maxRecDepth 100000 in
theorem rdI32_of_arg {H : Type} {enc : TypeId × Value → H} {W : World} {base : Nat} {v : Value} {d : DataW H} {p : List MemPlace}
    (hval : Value.okWide Tryd.prog W .any base 54 v) (h : DataW.Trod enc Tryd.prog W 0 (fun _ => true) true 54 v d p) : ∃ zs, RdJ W.heap.size W v zs ∧ zs.length ≤ maxLen := by
  obtain ⟨a0, len, cap, rfl⟩ := okWide_slice Tryd.underlying54 hval
  obtain ⟨fuel, hf⟩ := h
  rcases open_ints Tryd.underlying54 Tryd.underlying21 cellsI32 hf with ⟨hcs, hx⟩ | ⟨a, len', cap', zs, hcs, _, hl, hm, hz, hx, hcell, hwz⟩
  · injection hcs with e
    injection e with e1 e2 e3
    subst e1 e2 e3
    exact ⟨[], ⟨none, 0, rfl, Nat.le_refl _, fun h => absurd h (by simp)⟩, by simp⟩
  · injection hcs with e
    injection e with e1 e2 e3
    subst e1 e2 e3
    simp only [if_true] at hz
    have hlen : (zs.take len).length = len := by rw [List.length_take]; omega
    refine ⟨zs.take len, ⟨some a, cap, by rw [hlen], by omega, fun h0 => ?_⟩, by omega⟩
    obtain ⟨b, off, rfl, hc⟩ := Go.ints_at hcell (by omega)
    have hb : b < W.heap.size := by
      have := hc 0 (by omega)
      rcases Nat.lt_or_ge b W.heap.size with h1 | h1
      · exact h1
      · simp [World.cell?, Array.getElem?_eq_none h1] at this
    refine ⟨b, off, rfl, hb, fun j hj => ?_⟩
    have hj' : j < zs.length := by rw [hlen] at hj; omega
    have hj2 : j < len := by omega
    have e : (zs.take len)[j]?.getD 0 = zs[j] := by simp [List.getElem?_take_of_lt hj2, hj']
    have hw := hwz zs[j] (List.getElem_mem hj')
    rw [e]
    refine ⟨by rw [hc j hj']; simp [hj'], ?_⟩
    simp only [Lit.wf, Bool.and_eq_true, decide_eq_true_eq] at hw
    have e1 : IntKind.min .i32 = -2147483648 := by kernel_rfl
    have e2 : IntKind.max .i32 = 2147483647 := by kernel_rfl
    rw [e1, e2] at hw
    exact hw
end Go.Proofs.YthpdndkfdiphmaaDoor
