import Derived.Test.YtcpcoomkapblcaaTab
open Go Go.RowKit
namespace Go.Proofs.Ytcpcoomkapblcaa
theorem heap_set4 {w : World} {p i : Nat} {v : Value} {cs : Array Value} {t : TypeId} (h : w.heap[p]? = some (.cells cs t)) : (w.setCell ⟨p, i, none⟩ v).heap[p]? = some (.cells (cs.setIfInBounds i v) t) := heap_set_same h
def newOk (first step : Int) : Prop := 1 ≤ first ∧ first ≤ 1048576 ∧ 0 ≤ step ∧ step ≤ 1048576
instance (a b : Int) : Decidable (newOk a b) := by unfold newOk; infer_instance
theorem newTimes_ok (first step : Int) (w : World) (h : newOk first step) :
    Calls Try.prog 20 #[.int .i64 first, .int .i64 step] w fun e w' => ∃ t, e = .returned (.tuple #[.pointer (some ⟨w.heap.size, 0, none⟩), .int .i64 0]) ∧ w' = w.alloc (.cells #[.int .i64 first, .int .i64 step, .int .i64 first, .int .i64 0] t) := by
  obtain ⟨h1, h2, h3, h4⟩ := h
  go_enter Try.func20, Try.ntmps20
  go_wp2
  all_goals first
    | (exfalso; omega)
    | (go_ret2; exact ⟨_, rfl, rfl⟩)
theorem newTimes_bad (first step : Int) (w : World) (h : ¬ newOk first step) :
    Calls Try.prog 20 #[.int .i64 first, .int .i64 step] w fun e w' => e = .returned (.tuple #[.pointer none, .int .i64 2]) ∧ w = w' := by
  unfold newOk at h
  go_enter Try.func20, Try.ntmps20
  go_wp2
  all_goals first
    | (exfalso; omega)
    | (go_ret2; exact ⟨rfl, rfl⟩)
theorem left_any (w : World) (p : Nat) (c : Int) (h : w.cell? ⟨p, 2, none⟩ = some (.int .i64 c)) :
    Calls Try.prog 21 #[.pointer (some ⟨p, 0, none⟩)] w fun e w' => e = .returned (.int .i64 c) ∧ w = w' := by
  go_enter Try.func21, Try.ntmps21
  go_wp2
  go_ret
  exact ⟨rfl, rfl⟩
theorem count_any (w : World) (p : Nat) (d : Int) (h : w.cell? ⟨p, 3, none⟩ = some (.int .i64 d)) :
    Calls Try.prog 23 #[.pointer (some ⟨p, 0, none⟩)] w fun e w' => e = .returned (.int .i64 d) ∧ w = w' := by
  go_enter Try.func23, Try.ntmps23
  go_wp2
  go_ret
  exact ⟨rfl, rfl⟩
/-- Times: wait, step, left, count. -/
structure Ti where
  a : Int
  b : Int
  c : Int
  d : Int
def Tim (w : World) (p : Nat) (s : Ti) (t : TypeId) : Prop := w.heap[p]? = some (.cells #[.int .i64 s.a, .int .i64 s.b, .int .i64 s.c, .int .i64 s.d] t)
/-- A conflict: the times then, whether a reduction is due, the error. -/
def conR (s : Ti) : Ti × Bool × Int :=
  if s.c = 1 ∧ 1099511627776 - s.b < s.a then (s, false, 4) else if 1 < s.c then (⟨s.a, s.b, s.c - 1, s.d⟩, false, 0) else (⟨s.a + s.b, s.b, s.a + s.b, s.d + 1⟩, true, 0)
set_option maxRecDepth 1000000 in
set_option maxHeartbeats 2000000 in
theorem conflict_any (w : World) (p : Nat) (s : Ti) (t : TypeId) (h : Tim w p s t) (hb : 0 ≤ s.b ∧ s.b ≤ 1048576) (ha : 1 ≤ s.a ∧ s.a ≤ 1099511627776) (hc : 1 ≤ s.c ∧ s.c ≤ 1099511627776) (hd : 0 ≤ s.d ∧ s.d ≤ 1000000) :
    Calls Try.prog 22 #[.pointer (some ⟨p, 0, none⟩)] w fun e w' => e = .returned (.tuple #[.bool (conR s).2.1, .int .i64 (conR s).2.2]) ∧ Tim w' p (conR s).1 t ∧ But p p w w' := by
  obtain ⟨a, b, c, d⟩ := s
  simp only [] at hb ha hc hd
  unfold Tim at h
  simp only [] at h
  have c0 : w.cell? ⟨p, 0, none⟩ = some (.int .i64 a) := by simp [World.cell?, h]
  have c1 : w.cell? ⟨p, 1, none⟩ = some (.int .i64 b) := by simp [World.cell?, h]
  have c2 : w.cell? ⟨p, 2, none⟩ = some (.int .i64 c) := by simp [World.cell?, h]
  have c3 : w.cell? ⟨p, 3, none⟩ = some (.int .i64 d) := by simp [World.cell?, h]
  have f0 : ∀ o, w.frozen? ⟨p, o, none⟩ = false := fun o => by simp [World.frozen?, h]
  have g0 := f0 0
  have g2 := f0 2
  have g3 := f0 3
  clear f0
  by_cases hc1 : c = 1
  · subst hc1
    by_cases hfull : 1099511627776 - b < a
    · have hR : conR ⟨a, b, 1, d⟩ = (⟨a, b, 1, d⟩, false, 4) := by unfold conR; rw [if_pos ⟨rfl, hfull⟩]
      go_enter Try.func22, Try.ntmps22
      go_wp2
      go_region
      all_goals go_wp2
      go_ret2
      rw [hR]
      exact ⟨rfl, h, ⟨rfl, rfl, rfl, Nat.le_refl _, fun _ _ _ _ => rfl⟩⟩
    · have hR : conR ⟨a, b, 1, d⟩ = (⟨a + b, b, a + b, d + 1⟩, true, 0) := by unfold conR; rw [if_neg (fun hh => hfull hh.2), if_neg (by simp)]
      go_enter Try.func22, Try.ntmps22
      go_wp2
      go_region
      all_goals go_wp2
      all_goals try (go_region; go_wp2)
      go_ret2
      rw [hR]
      refine ⟨rfl, ?_, ⟨rfl, rfl, rfl, by simp, fun k hk hp _ => ?_⟩⟩
      · exact heap_set_same (heap_set_same (heap_set_same (heap_set_same h)))
      · exact (heap_setCell_other _ _ _ _ hp).trans ((heap_setCell_other _ _ _ _ hp).trans ((heap_setCell_other _ _ _ _ hp).trans (heap_setCell_other _ _ _ _ hp)))
  · have hcd : decide (c = 1) = false := by simp [hc1]
    have hcb : (c == 1) = false := by simp [hc1]
    have hR : conR ⟨a, b, c, d⟩ = (⟨a, b, c - 1, d⟩, false, 0) := by unfold conR; rw [if_neg (fun hh => hc1 hh.1), if_pos (by simp; omega)]
    go_enter Try.func22, Try.ntmps22
    go_wp2
    go_region
    all_goals go_wp2
    go_ret2
    rw [hR]
    refine ⟨rfl, heap_set_same h, ⟨rfl, rfl, rfl, by simp, fun k hk hp _ => heap_setCell_other _ _ _ _ hp⟩⟩
end Go.Proofs.Ytcpcoomkapblcaa
