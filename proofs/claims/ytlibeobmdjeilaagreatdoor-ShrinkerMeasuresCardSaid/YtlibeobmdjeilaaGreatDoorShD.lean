/- Measures: shrinker.Compare; schedules: replay.Copy, shrinker.Of. -/
import Derived.Test.YtlibeobmdjeilaaGreatDoorShC
set_option linter.all false
namespace Go.Proofs.YtlibeobmdjeilaaGreatDoor
open Go Go.RowKit
theorem cell_new (w : World) (cs : Array Value) (t : TypeId) (k : Nat) {v : Value} (h : cs[k]? = some v) : (w.alloc (.cells cs t)).drew.cell? ⟨w.heap.size, k, none⟩ = some v := by
  have h1 : (w.alloc (.cells cs t)).drew.heap[w.heap.size]? = some (.cells cs t (0, 0)) := heap_alloc_new w _
  rw [Lib.cell_of_heap h1]
  exact h
set_option maxRecDepth 1000000 in
set_option maxHeartbeats 4000000 in
theorem cmpM_any (a b : MsI) (w : World) : Calls Tryz.prog 51 #[msV a, msV b] w fun o w' => o = .returned (.int .i64 (cmpM a b)) ∧ Below w.heap.size w w' := by
  obtain ⟨a0, a1, a2⟩ := a
  obtain ⟨b0, b1, b2⟩ := b
  go_enter Tryz.func51, Tryz.ntmps51
  go_wp2_with fail
  obtain ⟨w1, hw1⟩ : ∃ w1, (w.alloc (.cells #[.int .i64 a0, .int .i64 a1, .int .i64 a2] 95)).alloc (.cells #[.int .i64 b0, .int .i64 b1, .int .i64 b2] 95) = w1 := ⟨_, rfl⟩
  have hb1 : Below w.heap.size w w1 := by rw [← hw1]; exact ((Below.refl _ _).alloc (Nat.le_refl _) _).alloc (by simp) _
  have hA : w1.heap[w.heap.size]? = some (.cells #[.int .i64 a0, .int .i64 a1, .int .i64 a2] 95 (0, 0)) := by rw [← hw1, Lib.alloc_old _ _ _ (by simp)]; exact heap_alloc_new w _
  have hB : w1.heap[w.heap.size + 1]? = some (.cells #[.int .i64 b0, .int .i64 b1, .int .i64 b2] 95 (0, 0)) := by rw [← hw1, ← World.size_alloc w (.cells #[.int .i64 a0, .int .i64 a1, .int .i64 a2] 95)]; exact heap_alloc_new _ _
  have hS : ∀ W : World, Below w1.heap.size w1 W → W.cell? ⟨w.heap.size, 0, none⟩ = some (.int .i64 a0) ∧ W.cell? ⟨w.heap.size, 1, none⟩ = some (.int .i64 a1) ∧ W.cell? ⟨w.heap.size, 2, none⟩ = some (.int .i64 a2) ∧ W.cell? ⟨w.heap.size + 1, 0, none⟩ = some (.int .i64 b0) ∧ W.cell? ⟨w.heap.size + 1, 1, none⟩ = some (.int .i64 b1) ∧ W.cell? ⟨w.heap.size + 1, 2, none⟩ = some (.int .i64 b2) ∧ Below w1.heap.size w1 W := by
    intro W hb
    have h1 := (hb.block _ (Array.getElem?_eq_some_iff.1 hA).1).trans hA
    have h2 := (hb.block _ (Array.getElem?_eq_some_iff.1 hB).1).trans hB
    refine ⟨?_, ?_, ?_, ?_, ?_, ?_, hb⟩
    · rw [Lib.cell_of_heap h1]; rfl
    · rw [Lib.cell_of_heap h1]; rfl
    · rw [Lib.cell_of_heap h1]; rfl
    · rw [Lib.cell_of_heap h2]; rfl
    · rw [Lib.cell_of_heap h2]; rfl
    · rw [Lib.cell_of_heap h2]; rfl
  have HS := Lib.hid hS
  have HB1 := Lib.hid hb1
  obtain ⟨c0, c1, c2, d0, d1, d2, -⟩ := hS w1 (Below.refl _ _)
  rw [hw1]
  clear hw1 hA hB hS hb1
  go_region_held3 (fun W => W.cell? ⟨w.heap.size, 0, none⟩ = some (.int .i64 a0) ∧ W.cell? ⟨w.heap.size, 1, none⟩ = some (.int .i64 a1) ∧ W.cell? ⟨w.heap.size, 2, none⟩ = some (.int .i64 a2) ∧ W.cell? ⟨w.heap.size + 1, 0, none⟩ = some (.int .i64 b0) ∧ W.cell? ⟨w.heap.size + 1, 1, none⟩ = some (.int .i64 b1) ∧ W.cell? ⟨w.heap.size + 1, 2, none⟩ = some (.int .i64 b2) ∧ Below w1.heap.size w1 W) ((refine HS.out _ ?_; first | assumption | exact Below.refl _ _ | exact (Below.refl _ _).drew | exact ((Below.refl _ _).alloc (Nat.le_refl _) _).drew))
    (first
      | (go_at_call 121; refine (cmpI_any _ _ _).mono ?_; rintro o8 w8 ⟨rfl, rfl⟩)
      | (go_at_call 120; refine (or_any _ _ _ _ _ (cell_new _ _ _ 0 rfl) (cell_new _ _ _ 1 rfl) (cell_new _ _ _ 2 rfl)).mono ?_; rintro o7 w7 ⟨rfl, rfl⟩)
      | fail)
  all_goals
    go_wp2_with fail
    go_ret
    exact ⟨rfl, HB1.out.trans ((by first | assumption | exact Below.refl _ _ | exact (Below.refl _ _).drew | exact ((Below.refl _ _).alloc (Nat.le_refl _) _).drew : Below w1.heap.size w1 _).mono HB1.out.size)⟩
end Go.Proofs.YtlibeobmdjeilaaGreatDoor
