/- The contracts of cmp.Compare at int and at lits.Lit, of lits.Compare, lits.At and of the reference's Compare, At, Var. -/
import Derived.Test.YthpdndkfdiphmaaDoorLits1
namespace Go.Proofs.YthpdndkfdiphmaaDoor
open Go Go.RowKit
theorem cmpInt_any (a b : Int) (w : World) : Calls Tryd.prog 50 #[.int .i64 a, .int .i64 b] w fun e w' => e = .returned (.int .i64 (cmpI a b)) ∧ w = w' := by
  rcases Int.lt_trichotomy a b with hab | hab | hab
  · have h2 : ¬ b < a := by omega
    go_enter Tryd.func50, Tryd.ntmps50
    go_wp2
    all_goals
      go_ret
      exact ⟨ri (by unfold cmpI; simp [hab]), rfl⟩
  · subst hab
    go_enter Tryd.func50, Tryd.ntmps50
    go_wp2
    all_goals
      go_ret
      exact ⟨ri (by unfold cmpI; simp), rfl⟩
  · have h2 : ¬ a < b := by omega
    go_enter Tryd.func50, Tryd.ntmps50
    go_wp2
    all_goals
      go_ret
      exact ⟨ri (by unfold cmpI; simp [hab, h2]), rfl⟩
theorem cmpLit_any (a b : Int) (w : World) : Calls Tryd.prog 51 #[.int .i64 a, .int .i64 b] w fun e w' => e = .returned (.int .i64 (cmpI a b)) ∧ w = w' := by
  rcases Int.lt_trichotomy a b with hab | hab | hab
  · have h2 : ¬ b < a := by omega
    go_enter Tryd.func51, Tryd.ntmps51
    go_wp2
    all_goals
      go_ret
      exact ⟨ri (by unfold cmpI; simp [hab]), rfl⟩
  · subst hab
    go_enter Tryd.func51, Tryd.ntmps51
    go_wp2
    all_goals
      go_ret
      exact ⟨ri (by unfold cmpI; simp), rfl⟩
  · have h2 : ¬ a < b := by omega
    go_enter Tryd.func51, Tryd.ntmps51
    go_wp2
    all_goals
      go_ret
      exact ⟨ri (by unfold cmpI; simp [hab, h2]), rfl⟩
theorem Compare_any (a b : Int) (w : World) : Calls Tryd.prog 25 #[.int .i64 a, .int .i64 b] w fun e w' => e = .returned (.int .i64 (LCmp a b)) ∧ w = w' := by
  have hta : LErr true = 0 := rfl
  have hfa : LErr false = 10 := rfl
  cases hA : LRight a <;> cases hB : LRight b
  all_goals
    go_enter Tryd.func25, Tryd.ntmps25
    go_wp2_with (first
      | (go_at_call 17; refine (Index_any _ _).mono ?_; rintro e w' ⟨rfl, rfl⟩)
      | (go_at_call 50; refine (cmpInt_any _ _ _).mono ?_; rintro e w' ⟨rfl, rfl⟩)
      | (go_at_call 51; refine (cmpLit_any _ _ _).mono ?_; rintro e w' ⟨rfl, rfl⟩))
    go_ret
    exact ⟨ri (by unfold LCmp; simp [hA, hB]), rfl⟩
theorem LAtOk_t {l : Int} (h : LAtOk l = true) : 0 ≤ l ∧ l < 2097152 := of_decide_eq_true h
theorem LAtOk_f {l : Int} (h : LAtOk l = false) : l < 0 ∨ 2097152 ≤ l := by
  have := of_decide_eq_false h; omega
theorem LAt_of {i : Int} (h0 : 0 ≤ i) (h1 : i < 2097152) (b : Bool) (hb : (i % 2 == 1) = b) : LOf (i / 2 + 1) b = LAt i ∧ LOfOk (i / 2 + 1) = true ∧ LAtOk i = true := by
  have hk : LOfOk (i / 2 + 1) = true := decide_eq_true (by omega)
  have ha : LAtOk i = true := decide_eq_true (by omega)
  refine ⟨?_, hk, ha⟩
  unfold LOf LAt
  rw [if_pos hk, if_pos ha]
  cases b
  · rw [if_neg (by simp), if_neg (by simpa using hb)]
  · rw [if_pos rfl, if_pos (by simpa using hb)]
theorem At_any (i : Int) (w : World) : Calls Tryd.prog 21 #[.int .i64 i] w fun e w' => e = .returned (.tuple #[.int .i64 (LAt i), .int .i64 (LErr (LAtOk i))]) ∧ w = w' := by
  cases hR : LAtOk i
  · rcases LAtOk_f hR with h0 | h0
    all_goals
      go_enter Tryd.func21, Tryd.ntmps21
      go_wp2
      all_goals
        go_ret2
        exact ⟨ri2 (by unfold LAt; simp [hR]) rfl, rfl⟩
  · obtain ⟨h0, h1⟩ := LAtOk_t hR
    obtain ⟨e1, e2, e3⟩ := LAt_of h0 h1 _ rfl
    have E1 := Lib.hid e1; clear e1
    have E2 := Lib.hid e2; clear e2
    have E3 := Lib.hid e3; clear e3
    have HR := Lib.hid hR; clear hR
    go_enter Tryd.func21, Tryd.ntmps21
    go_wp2_with (go_at_call 24; refine (Of_any _ _ _).mono ?_; rintro e w' ⟨rfl, rfl⟩)
    go_ret2
    exact ⟨ri2 E1.out (by rw [E2.out]), rfl⟩
theorem RAt_any (i : Int) (w : World) : Calls Tryd.prog 45 #[.int .i64 i] w fun e w' => e = .returned (.int .i64 (LAt i)) ∧ w = w' := by
  cases hR : LAtOk i
  · rcases LAtOk_f hR with h0 | h0
    all_goals
      go_enter Tryd.func45, Tryd.ntmps45
      go_wp2
      all_goals
        go_ret
        exact ⟨ri (by unfold LAt; simp [hR]), rfl⟩
  · obtain ⟨h0, h1⟩ := LAtOk_t hR
    cases hO : (i % 2 == 1)
    all_goals
      go_enter Tryd.func45, Tryd.ntmps45
      go_wp2
      go_ret
      exact ⟨ri (by unfold LAt; rw [if_pos hR]; first | rw [if_pos (by simpa using hO)] | rw [if_neg (by simpa using hO)]), rfl⟩
theorem RIdx_lt {a : Int} : RIdx a < 0 ↔ LRight a = false := by
  unfold RIdx LIdx
  cases h : LRight a
  · simp
  · obtain ⟨h0, h1, h2⟩ := LRight_t h
    simp; split <;> omega
theorem RIdx_pos {a : Int} (h : LRight a = true) : RIdx a = LIdx a := by unfold RIdx; rw [if_pos h]
theorem RIdx_bd (a : Int) : -1 ≤ RIdx a ∧ RIdx a < 2097152 := by
  unfold RIdx LIdx
  cases h : LRight a
  · simp
  · obtain ⟨h0, h1, h2⟩ := LRight_t h
    simp; split <;> omega
theorem RCompare_any (a b : Int) (w : World) : Calls Tryd.prog 46 #[.int .i64 a, .int .i64 b] w fun e w' => e = .returned (.int .i64 (LCmp a b)) ∧ w = w' := by
  have fin : LCmp a b = if RIdx a < 0 ∧ RIdx b < 0 then cmpI a b else cmpI (RIdx a) (RIdx b) := by
    have ba := RIdx_bd a
    have bb := RIdx_bd b
    have la := RIdx_lt (a := a)
    have lb := RIdx_lt (a := b)
    have pa := RIdx_pos (a := a)
    have pb := RIdx_pos (a := b)
    unfold LCmp cmpI
    generalize RIdx a = x at *
    generalize RIdx b = y at *
    cases hA : LRight a <;> cases hB : LRight b <;> simp only [hA, hB, if_true, if_false, Bool.false_eq_true, forall_const, iff_true, iff_false, reduceCtorEq] at la lb pa pb ⊢
    all_goals (repeat' split)
    all_goals omega
  obtain ⟨ha1, ha2⟩ := RIdx_bd a
  obtain ⟨hb1, hb2⟩ := RIdx_bd b
  have Fin := Lib.hid fin; clear fin
  go_enter Tryd.func46, Tryd.ntmps46
  go_wp2_with (go_at_call 44; refine (RIndex_any _ _).mono ?_; rintro e w' ⟨rfl, rfl⟩)
  all_goals
    go_ret
    exact ⟨ri (by rw [Fin.out]; unfold cmpI; repeat' split <;> omega), rfl⟩
end Go.Proofs.YthpdndkfdiphmaaDoor
