import Derived.Test.YtcpcoomkapblcaaProg
import Derived.WalkKit
import Derived.Lib.Hide
import Derived.Handy
import Derived.Laws.EntriesVeiled
import Derived.Laws.StructEq
import Derived.Sort.Grow
import Derived.Deep.Draws
namespace Go.Proofs.Ytcpcoomkapblcaa
open Go Go.RowKit Go.Sort
theorem ri {k : IntKind} {a b : Int} (h : a = b) : Ending.returned (.int k a) = .returned (.int k b) := by rw [h]
theorem rb {a b : Bool} (h : a = b) : Ending.returned (.bool a) = Ending.returned (.bool b) := by rw [h]
def cmpI (a b : Int) : Int := if a < b then -1 else if b < a then 1 else 0
theorem cmpInt_any (a b : Int) (w : World) : Calls Try.prog 71 #[.int .i64 a, .int .i64 b] w fun e w' => e = .returned (.int .i64 (cmpI a b)) ∧ w = w' := by
  rcases Int.lt_trichotomy a b with hab | hab | hab
  · have h2 : ¬ b < a := by omega
    go_enter Try.func71, Try.ntmps71
    go_wp2
    all_goals
      go_ret
      exact ⟨ri (by unfold cmpI; simp [hab]), rfl⟩
  · subst hab
    go_enter Try.func71, Try.ntmps71
    go_wp2
    all_goals
      go_ret
      exact ⟨ri (by unfold cmpI; simp), rfl⟩
  · have h2 : ¬ a < b := by omega
    go_enter Try.func71, Try.ntmps71
    go_wp2
    all_goals
      go_ret
      exact ⟨ri (by unfold cmpI; simp [hab, h2]), rfl⟩
/-- The worlds that a call reaches which only lays blocks and draws. -/
def Ext (w w' : World) : Prop := ∃ (q : Nat) (os : Array Obj), w' = grow (w.drewN q) os
theorem Ext.refl {w : World} : Ext w w := ⟨0, #[], by simp [World.drewN_zero]⟩
theorem Ext.alloc {w w' : World} {o : Obj} (h : Ext w w') : Ext w (w'.alloc o) := by
  obtain ⟨q, os, rfl⟩ := h
  exact ⟨q, os ++ #[o], by rw [alloc_eq_grow, grow_grow]⟩
theorem Ext.drew {w w' : World} (h : Ext w w') : Ext w w'.drew := by
  obtain ⟨q, os, rfl⟩ := h
  exact ⟨q + 1, os, rfl⟩
theorem Ext.trans {w w' w'' : World} (h : Ext w w') (h' : Ext w' w'') : Ext w w'' := by
  obtain ⟨q, os, rfl⟩ := h
  obtain ⟨p, ps, rfl⟩ := h'
  exact ⟨q + p, os ++ ps, by rw [← grow_grow]; show grow (grow ((w.drewN q).drewN p) os) ps = _; rw [World.drewN_drewN]⟩
def CmpPost (c : Int) (w : World) (e : Ending) (w' : World) : Prop := e = .returned (.int .i64 c) ∧ Ext w w'
def cmpInf (a1 a2 a3 b1 b2 b3 : Int) : Int := if a2 = b2 then (if a3 = b3 then cmpI b1 a1 else cmpI b3 a3) else cmpI a2 b2
set_option maxRecDepth 1000000 in
set_option maxHeartbeats 1000000 in
theorem compare_any (a1 a2 a3 b1 b2 b3 : Int) (w : World) :
    Calls Try.prog 51 #[.agg #[.int .i64 a1, .int .i64 a2, .int .i64 a3], .agg #[.int .i64 b1, .int .i64 b2, .int .i64 b3]] w (CmpPost (cmpInf a1 a2 a3 b1 b2 b3) w) := by
  by_cases h2 : a2 = b2
  · subst h2
    by_cases h3 : a3 = b3
    · subst h3
      by_cases h1 : a1 = b1
      · subst h1
        go_enter Try.func51, Try.ntmps51
        go_wp2
        go_step3
        go_wp2
        rw [Exit.noGoto_ret]; go_ret
        refine ⟨ri (by unfold cmpInf cmpI; (repeat' split) <;> omega), ?_⟩; repeat (first | exact Ext.refl | refine Ext.alloc ?_)
      · go_enter Try.func51, Try.ntmps51
        go_wp2
        go_step3
        go_wp2
        go_step3
        go_wp2
        go_rounds 4
        all_goals
          rw [Exit.noGoto_ret]; go_ret
          refine ⟨ri (by unfold cmpInf cmpI; (repeat' split) <;> omega), ?_⟩; repeat (first | exact Ext.refl | refine Ext.alloc ?_)
    · go_enter Try.func51, Try.ntmps51
      go_wp2
      go_step3
      go_wp2
      go_step3
      go_wp2
      go_rounds 4
      all_goals
        rw [Exit.noGoto_ret]; go_ret
        refine ⟨ri (by unfold cmpInf cmpI; (repeat' split) <;> omega), ?_⟩; repeat (first | exact Ext.refl | refine Ext.alloc ?_)
  · go_enter Try.func51, Try.ntmps51
    go_wp2
    go_step3
    go_wp2
    go_step3
    go_wp2
    go_rounds 4
    all_goals
      rw [Exit.noGoto_ret]; go_ret
      refine ⟨ri (by unfold cmpInf cmpI; (repeat' split) <;> omega), ?_⟩; repeat (first | exact Ext.refl | refine Ext.alloc ?_)
end Go.Proofs.Ytcpcoomkapblcaa
