/- lits.Greatest over the iterator. -/
import Derived.RangeFuncNested
import Derived.RangeFuncBound
import Derived.RangeFuncCalls
import Derived.Shelf.RegionOpen
import Derived.Test.YthpdndkfdiphmaaDoorIter
namespace Go.Proofs.YthpdndkfdiphmaaDoor
open Go Go.RowKit Go.Shelf
attribute [local go_sem] Oper.semAt_some
def grl (l : List Int) : Int := l.foldl (fun a b => if a < b then b else a) 0
theorem grl_snoc (l : List Int) (x : Int) : grl (l ++ [x]) = if grl l < x then x else grl l := by unfold grl; rw [List.foldl_append]; rfl
theorem RdI.form {n₀ : Nat} {W : World} {sv : Value} {zs : List Int} (h : RdI n₀ W sv zs) : ∃ A n c, sv = .slice A n c := by
  obtain ⟨A, c, e, _⟩ := h; exact ⟨A, _, c, e⟩
set_option maxRecDepth 100000 in
set_option maxHeartbeats 1000000 in
theorem Greatest_any (v : Value) (zs : List Int) (hlen : zs.length ≤ 1000000) (w : World) (hI : RdI w.heap.size w v zs) :
    Calls Tryd.prog 26 #[v] w fun e w' => e = .returned (.int .i64 (grl (vl zs))) ∧ Below w.heap.size w w' := by
  refine (callsIn_wide (n := 5)).1 ?_
  obtain ⟨A, m, c, rfl⟩ := hI.form
  refine callsIn_of_wp_marks Tryd.func26 rfl trivial ?_ rfl
  simp only [Tryd.ntmps26, List.size_toArray, List.length_cons, List.length_nil, Nat.reduceAdd, Nat.reduceSub, Array.replicate_succ, Array.replicate_zero, List.push_toArray, List.append_toArray, List.nil_append, List.cons_append]
  gi_wp2_with (refine ⟨trivial, ?_⟩; gi_at_call 52; refine (callsIn_wide.2 (variables_any _ _ ⟨_, _, _, rfl⟩)).mono ?_; rintro e w' ⟨rfl, rfl⟩)
  have hs := Boxed.new w 3 (.int .i64 0)
  have hb := (Boxed.new (w.alloc (.cells #[.int .i64 0] 3)) 43 (.slice A m c)).cell
  rw [World.size_alloc] at hb
  have hI2 : RdI w.heap.size ((w.alloc (.cells #[.int .i64 0] 3)).alloc (.cells #[.slice A m c] 43)) (.slice A m c) zs := hI.below (((Below.refl _ w).alloc (Nat.le_refl _) _).alloc (by simp) _)
  refine wpIn_rangeFunc_ownF rfl (by omega) (gf := 67) (lb := #[.pointer (some ⟨w.heap.size + 1, 0, none⟩)]) rfl trivial (enters_of Tryd.func67 (by kernel_rfl) rfl)
    (vars_stops _ (by omega) (w.heap.size + 1) w.heap.size (.slice A m c) zs hlen _ (by simp) (by simp; omega) hb hI2) belowK_t (belowK_b (by simp; omega)) (Below.refl _ _) (fun _ => rfl)
    (fun pre W => Boxed W w.heap.size 3 (.int .i64 (grl pre)) ∧ Below w.heap.size w W)
    (fun _ _ _ => False)
    (OwnFrom.and (Own.from (boxed_own _ _ _) _) (ownFrom_below (Nat.le_refl _) (by simp; omega)))
    (fun _ _ _ _ _ hs _ _ => hs)
    ⟨hs.alloc _, ((Below.refl _ w).alloc (Nat.le_refl _) _).alloc (by simp) _⟩
    (fun x => { tmps := #[.slice A m c, undef, .int .i64 0, .pointer (some ⟨w.heap.size, 0, none⟩), .int .i64 x, .slice A m c, .func (.func 67) #[] #[.pointer (some ⟨w.heap.size + 1, 0, none⟩)], .int .i64 x, undef, undef, undef, undef], defers := [] }) ?assign ?body ?done ?stop
  case assign =>
    intro l x W K hK
    gi_wp2
    exact hK
  case body =>
    rintro l pre x W ⟨hx, hB⟩ _
    have hc := hx.cell
    have hf := hx.frozen
    by_cases hlt : grl pre < x
    · have hg := grl_snoc pre x
      rw [if_pos hlt] at hg
      have Hg := Lib.hid hg; clear hg
      gi_wp2
      exact ⟨KeepsOthers.setCell _ _ _, (Below.refl w.heap.size W).setCell (p := ⟨w.heap.size, 0, none⟩) (Nat.le_refl _) _, by rw [Hg.out]; exact hx.set _, hB.setCell (p := ⟨w.heap.size, 0, none⟩) (Nat.le_refl _) _⟩
    · have hg := grl_snoc pre x
      rw [if_neg hlt] at hg
      have Hg := Lib.hid hg; clear hg
      gi_wp2
      exact ⟨KeepsOthers.setCell _ _ _, (Below.refl w.heap.size W).setCell (p := ⟨w.heap.size, 0, none⟩) (Nat.le_refl _) _, by rw [Hg.out]; exact hx.set _, hB.setCell (p := ⟨w.heap.size, 0, none⟩) (Nat.le_refl _) _⟩
  case done =>
    rintro D ys W hD rfl ⟨hx, hB⟩ hK
    have hc := hx.cell
    gi_wp2
    refine ⟨by simp, .inl ⟨_, _, rfl, run_takeDeferred hK, ?_⟩⟩
    exact ⟨_, results_tmp rfl _ _ _, rfl, hB.trans (belowK_b (w := w) (Nat.le_refl _) W D _ _ (by simp at hD; omega) hK rfl rfl)⟩
  case stop =>
    rintro D c pre W hD _ h _
    exact h.elim
end Go.Proofs.YthpdndkfdiphmaaDoor
