import Derived.Test.YtcpcoomkapblcaaSortI
open Go Go.RowKit Go.Lib Go.Shelf
namespace Go.Proofs.Ytcpcoomkapblcaa
theorem Ext.below {w w' : World} (h : Ext w w') : Below w.heap.size w w' := by
  obtain ⟨q, os, rfl⟩ := h
  refine ⟨rfl, rfl, rfl, by simp [Go.Sort.grow, World.drewN], fun k hk => ?_⟩
  simp only [Go.Sort.grow, World.drewN]
  exact Array.getElem?_append_left hk
theorem better_any (x y : Inf) (w : World) :
    Calls Try.prog 27 #[.agg #[.int .i64 x.id, .int .i64 x.lev, .int .i64 x.used], .agg #[.int .i64 y.id, .int .i64 y.lev, .int .i64 y.used]] w fun e w' => e = .returned (.bool (bt x y)) ∧ Below w.heap.size w w' := by
  have hlt := lt_cf x y
  unfold ltOf at hlt
  go_enter Try.func27, Try.ntmps27
  go_wp2_with fail
  refine (compare_any x.id x.lev x.used y.id y.lev y.used _).mono ?_
  rintro e w' ⟨rfl, hx⟩
  go_wp2
  go_ret
  refine ⟨?_, ((((Below.refl _ w).alloc (Nat.le_refl _) _).alloc (by simp) _)).trans (hx.below.mono (by simp; omega))⟩
  rw [← hlt]
  rfl
end Go.Proofs.Ytcpcoomkapblcaa
