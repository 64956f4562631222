/- check's smallest functions. -/
import Derived.Test.YthcboallnbaimaaGreatDoorProg
import Derived.WalkKit
import Derived.Test.YthcboallnbaimaaGreatDoorCheckP
import Derived.Lib.Hide
import Derived.Handy
namespace Go.Proofs.YthcboallnbaimaaGreatDoor
open Go Go.RowKit
theorem wide_any (n : Int) (w : World) : Calls Tryz.prog 106 #[.int .i64 n] w fun o w' => o = .returned (.bool (wideW n)) ∧ w = w' := by
  by_cases h1 : 1 ≤ n
  · by_cases h2 : n ≤ 16
    · have e : wideW n = true := decide_eq_true ⟨h1, h2⟩
      rw [e]
      go_enter Tryz.func106, Tryz.ntmps106
      go_wp2
      go_ret
      exact ⟨by simp, rfl⟩
    · have e : wideW n = false := decide_eq_false (fun h => h2 h.2)
      rw [e]
      go_enter Tryz.func106, Tryz.ntmps106
      go_wp2
      go_ret
      exact ⟨by simp, rfl⟩
  · have e : wideW n = false := decide_eq_false (fun h => h1 h.1)
    rw [e]
    go_enter Tryz.func106, Tryz.ntmps106
    go_wp2
    go_ret
    exact ⟨by simp, rfl⟩
theorem differ_any (a b : Int) (w : World) : Calls Tryz.prog 108 #[.int .i64 a, .int .i64 b] w fun o w' => o = .returned (.bool (differW a b)) ∧ w = w' := by
  have HA := Lib.hid (wide_any a w)
  have HB := Lib.hid (wide_any b w)
  have hd : differW a b = (wideW a && wideW b && decide (a ≠ b)) := rfl
  rw [hd]
  clear hd
  cases h1 : wideW a with
  | false =>
    rw [h1] at HA
    clear h1 HB
    go_enter Tryz.func108, Tryz.ntmps108
    go_wp2_with fail
    refine HA.out.mono ?_
    rintro o w1 ⟨rfl, rfl⟩
    go_wp2_with fail
    go_ret
    exact ⟨by simp, rfl⟩
  | true =>
    rw [h1] at HA
    clear h1
    cases h2 : wideW b with
    | false =>
      rw [h2] at HB
      clear h2
      go_enter Tryz.func108, Tryz.ntmps108
      go_wp2_with fail
      refine HA.out.mono ?_
      rintro o w1 ⟨rfl, rfl⟩
      go_wp2_with fail
      refine HB.out.mono ?_
      rintro o w2 ⟨rfl, rfl⟩
      go_wp2_with fail
      go_ret
      exact ⟨by simp, rfl⟩
    | true =>
      rw [h2] at HB
      clear h2
      go_enter Tryz.func108, Tryz.ntmps108
      go_wp2_with fail
      refine HA.out.mono ?_
      rintro o w1 ⟨rfl, rfl⟩
      go_wp2_with fail
      refine HB.out.mono ?_
      rintro o w2 ⟨rfl, rfl⟩
      go_wp2_with fail
      go_ret
      exact ⟨by simp [bne, BEq.beq], rfl⟩
theorem most_any (n : Int) (w : World) : Calls Tryz.prog 107 #[.int .i64 n] w fun o w' => o = .returned (.tuple #[.int .u32 (mostW n), .int .i64 (mostE n)]) ∧ w = w' := by
  by_cases h : 1 ≤ n ∧ n ≤ 16
  · rcases (show n = 1 ∨ n = 2 ∨ n = 3 ∨ n = 4 ∨ n = 5 ∨ n = 6 ∨ n = 7 ∨ n = 8 ∨ n = 9 ∨ n = 10 ∨ n = 11 ∨ n = 12 ∨ n = 13 ∨ n = 14 ∨ n = 15 ∨ n = 16 by omega) with rfl | rfl | rfl | rfl | rfl | rfl | rfl | rfl | rfl | rfl | rfl | rfl | rfl | rfl | rfl | rfl
    all_goals
      clear h
      go_enter Tryz.func107, Tryz.ntmps107
      go_wp2
      go_returns
      exact ⟨by kernel_rfl, rfl⟩
  · have e1 : mostW n = 0 := if_neg (by simp [wideW]; omega)
    have e2 : mostE n = 220 := if_neg (by simp [wideW]; omega)
    rw [e1, e2]
    clear e1 e2
    by_cases h1 : n < 1
    · have hd : decide (n < 1) = true := decide_eq_true h1
      clear h h1
      go_enter Tryz.func107, Tryz.ntmps107
      go_wp2
      go_returns
      exact ⟨rfl, rfl⟩
    · have hd : decide (n < 1) = false := decide_eq_false h1
      have hd2 : decide (16 < n) = true := decide_eq_true (by omega)
      clear h h1
      go_enter Tryz.func107, Tryz.ntmps107
      go_wp2
      go_returns
      exact ⟨rfl, rfl⟩
end Go.Proofs.YthcboallnbaimaaGreatDoor
