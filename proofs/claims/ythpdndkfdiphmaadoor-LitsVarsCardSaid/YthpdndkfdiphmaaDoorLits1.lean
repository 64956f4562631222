/- The contracts of the scalar functions of package lits and of its reference: plain integer functions. -/
import Derived.Test.YthpdndkfdiphmaaDoorProg
import Derived.WalkKit
import Derived.Lib.Hide
namespace Go.Proofs.YthpdndkfdiphmaaDoor
open Go Go.RowKit
theorem rb {a b : Bool} (h : a = b) : Ending.returned (.bool a) = Ending.returned (.bool b) := by rw [h]
theorem ri {k : IntKind} {a b : Int} (h : a = b) : Ending.returned (.int k a) = .returned (.int k b) := by rw [h]
theorem ri2 {k j : IntKind} {a b c d : Int} (h : a = b) (h' : c = d) : Ending.returned (.tuple #[.int k a, .int j c]) = .returned (.tuple #[.int k b, .int j d]) := by rw [h, h']
def LRight (l : Int) : Bool := decide (l ≠ 0 ∧ -1048576 ≤ l ∧ l ≤ 1048576)
def LVar (l : Int) : Int := if LRight l then (if l < 0 then -l else l) else 0
def LNegated (l : Int) : Bool := LRight l && decide (l < 0)
def LNeg (l : Int) : Int := if LRight l then -l else 0
def LIdx (l : Int) : Int := if LRight l then (if l < 0 then 2 * (-l - 1) + 1 else 2 * (l - 1)) else 0
def LErr (b : Bool) : Int := if b then 0 else 10
def LOfOk (v : Int) : Bool := decide (1 ≤ v ∧ v ≤ 1048576)
def LOf (v : Int) (n : Bool) : Int := if LOfOk v then (if n then -v else v) else 0
def LAtOk (i : Int) : Bool := decide (0 ≤ i ∧ i < 2097152)
def LAt (i : Int) : Int := if LAtOk i then (if i % 2 = 1 then -(i / 2 + 1) else i / 2 + 1) else 0
theorem LRight_t {l : Int} (h : LRight l = true) : l ≠ 0 ∧ -1048576 ≤ l ∧ l ≤ 1048576 := of_decide_eq_true h
theorem LRight_f {l : Int} (h : LRight l = false) : l = 0 ∨ l < -1048576 ∨ 1048576 < l := by
  have := of_decide_eq_false h; omega
theorem LOfOk_t {l : Int} (h : LOfOk l = true) : 1 ≤ l ∧ l ≤ 1048576 := of_decide_eq_true h
theorem LOfOk_f {l : Int} (h : LOfOk l = false) : l < 1 ∨ 1048576 < l := by
  have := of_decide_eq_false h; omega
def cmpI (a b : Int) : Int := if a < b then -1 else if b < a then 1 else 0
def LCmp (a b : Int) : Int := if LRight a then (if LRight b then cmpI (LIdx a) (LIdx b) else 1) else (if LRight b then -1 else cmpI a b)

theorem Right_any (l : Int) (w : World) : Calls Tryd.prog 18 #[.int .i64 l] w fun e w' => e = .returned (.bool (LRight l)) ∧ w = w' := by
  go_enter Tryd.func18, Tryd.ntmps18
  go_wp2
  all_goals
    go_ret
    exact ⟨rb (by unfold LRight; rw [Bool.eq_iff_iff]; simp; try omega), rfl⟩
theorem RRight_any (l : Int) (w : World) : Calls Tryd.prog 42 #[.int .i64 l] w fun e w' => e = .returned (.bool (LRight l)) ∧ w = w' := by
  go_enter Tryd.func42, Tryd.ntmps42
  go_wp2
  all_goals
    go_ret
    exact ⟨rb (by unfold LRight; rw [Bool.eq_iff_iff]; simp; try omega), rfl⟩
theorem Var_any (l : Int) (w : World) : Calls Tryd.prog 19 #[.int .i64 l] w fun e w' => e = .returned (.int .i64 (LVar l)) ∧ w = w' := by
  cases hR : LRight l
  · go_enter Tryd.func19, Tryd.ntmps19
    go_wp2_with (go_at_call 18; refine (Right_any _ _).mono ?_; rintro e w' ⟨rfl, rfl⟩)
    go_ret
    exact ⟨ri (by unfold LVar; simp [hR]), rfl⟩
  · obtain ⟨h0, h1, h2⟩ := LRight_t hR
    go_enter Tryd.func19, Tryd.ntmps19
    go_wp2_with (go_at_call 18; refine (Right_any _ _).mono ?_; rintro e w' ⟨rfl, rfl⟩)
    all_goals
      go_ret
      exact ⟨ri (by unfold LVar; simp only [hR, if_true]; omega), rfl⟩
theorem RVar_any (l : Int) (w : World) : Calls Tryd.prog 43 #[.int .i64 l] w fun e w' => e = .returned (.int .i64 (LVar l)) ∧ w = w' := by
  cases hR : LRight l
  · go_enter Tryd.func43, Tryd.ntmps43
    go_wp2_with (go_at_call 42; refine (RRight_any _ _).mono ?_; rintro e w' ⟨rfl, rfl⟩)
    go_ret
    exact ⟨ri (by unfold LVar; simp [hR]), rfl⟩
  · obtain ⟨h0, h1, h2⟩ := LRight_t hR
    go_enter Tryd.func43, Tryd.ntmps43
    go_wp2_with (go_at_call 42; refine (RRight_any _ _).mono ?_; rintro e w' ⟨rfl, rfl⟩)
    all_goals
      go_ret
      exact ⟨ri (by unfold LVar; simp only [hR, if_true]; omega), rfl⟩
theorem Negated_any (l : Int) (w : World) : Calls Tryd.prog 20 #[.int .i64 l] w fun e w' => e = .returned (.bool (LNegated l)) ∧ w = w' := by
  cases hR : LRight l
  all_goals
    go_enter Tryd.func20, Tryd.ntmps20
    go_wp2_with (go_at_call 18; refine (Right_any _ _).mono ?_; rintro e w' ⟨rfl, rfl⟩)
    go_ret
    exact ⟨rb (by unfold LNegated; simp [hR]), rfl⟩
theorem Neg_any (l : Int) (w : World) : Calls Tryd.prog 16 #[.int .i64 l] w fun e w' => e = .returned (.int .i64 (LNeg l)) ∧ w = w' := by
  cases hR : LRight l
  · go_enter Tryd.func16, Tryd.ntmps16
    go_wp2_with (go_at_call 18; refine (Right_any _ _).mono ?_; rintro e w' ⟨rfl, rfl⟩)
    go_ret
    exact ⟨ri (by unfold LNeg; simp [hR]), rfl⟩
  · obtain ⟨h0, h1, h2⟩ := LRight_t hR
    go_enter Tryd.func16, Tryd.ntmps16
    go_wp2_with (go_at_call 18; refine (Right_any _ _).mono ?_; rintro e w' ⟨rfl, rfl⟩)
    go_ret
    exact ⟨ri (by unfold LNeg; simp only [hR, if_true]), rfl⟩
theorem Index_any (l : Int) (w : World) : Calls Tryd.prog 17 #[.int .i64 l] w fun e w' => e = .returned (.tuple #[.int .i64 (LIdx l), .int .i64 (LErr (LRight l))]) ∧ w = w' := by
  cases hR : LRight l
  · go_enter Tryd.func17, Tryd.ntmps17
    go_wp2_with (go_at_call 18; refine (Right_any _ _).mono ?_; rintro e w' ⟨rfl, rfl⟩)
    go_ret2
    exact ⟨ri2 (by unfold LIdx; simp [hR]) rfl, rfl⟩
  · obtain ⟨h0, h1, h2⟩ := LRight_t hR
    have hv : LVar l = if l < 0 then -l else l := by unfold LVar; simp [hR]
    have hv1 : 1 ≤ LVar l := by rw [hv]; omega
    have hv2 : LVar l ≤ 1048576 := by rw [hv]; omega
    have Hv := Lib.hid hv; clear hv
    go_enter Tryd.func17, Tryd.ntmps17
    go_wp2_with (first | (go_at_call 18; refine (Right_any _ _).mono ?_; rintro e w' ⟨rfl, rfl⟩) | (go_at_call 19; refine (Var_any _ _).mono ?_; rintro e w' ⟨rfl, rfl⟩))
    all_goals
      go_ret2
      exact ⟨ri2 (by unfold LIdx; simp only [hR, if_true]; rw [Hv.out]; omega) rfl, rfl⟩
def RIdx (l : Int) : Int := if LRight l then LIdx l else -1
theorem RIndex_any (l : Int) (w : World) : Calls Tryd.prog 44 #[.int .i64 l] w fun e w' => e = .returned (.int .i64 (RIdx l)) ∧ w = w' := by
  cases hR : LRight l
  · go_enter Tryd.func44, Tryd.ntmps44
    go_wp2_with (go_at_call 42; refine (RRight_any _ _).mono ?_; rintro e w' ⟨rfl, rfl⟩)
    go_ret
    exact ⟨ri (by unfold RIdx; simp [hR]), rfl⟩
  · obtain ⟨h0, h1, h2⟩ := LRight_t hR
    go_enter Tryd.func44, Tryd.ntmps44
    go_wp2_with (go_at_call 42; refine (RRight_any _ _).mono ?_; rintro e w' ⟨rfl, rfl⟩)
    all_goals
      go_ret
      exact ⟨ri (by unfold RIdx LIdx; simp only [hR, if_true]; omega), rfl⟩
theorem Of_any (v : Int) (n : Bool) (w : World) : Calls Tryd.prog 24 #[.int .i64 v, .bool n] w fun e w' => e = .returned (.tuple #[.int .i64 (LOf v n), .int .i64 (LErr (LOfOk v))]) ∧ w = w' := by
  cases hR : LOfOk v
  · rcases LOfOk_f hR with h0 | h0
    all_goals
      go_enter Tryd.func24, Tryd.ntmps24
      go_wp2
      all_goals
        go_ret2
        exact ⟨ri2 (by unfold LOf; simp [hR]) rfl, rfl⟩
  · obtain ⟨h0, h1⟩ := LOfOk_t hR
    cases n
    all_goals
      go_enter Tryd.func24, Tryd.ntmps24
      go_wp2
      go_ret2
      exact ⟨ri2 (by unfold LOf; simp [hR]) rfl, rfl⟩
end Go.Proofs.YthpdndkfdiphmaaDoor
