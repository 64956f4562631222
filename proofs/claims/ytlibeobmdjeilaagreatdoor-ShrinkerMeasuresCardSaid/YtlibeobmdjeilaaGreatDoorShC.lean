/- Measures: cmp.Compare, cmp.Or, shrinker.Compare. -/
import Derived.Test.YtlibeobmdjeilaaGreatDoorShB
import Derived.Deep.RegionHeld3
import Derived.Lib.Builder
set_option linter.all false
namespace Go.Proofs.YtlibeobmdjeilaaGreatDoor
open Go Go.RowKit
def cmpI (a b : Int) : Int := if a < b then -1 else if b < a then 1 else 0
def orI (x y z : Int) : Int := if x ≠ 0 then x else if y ≠ 0 then y else z
abbrev MsI : Type := Int × Int × Int
abbrev msV (m : MsI) : Value := .agg #[.int .i64 m.1, .int .i64 m.2.1, .int .i64 m.2.2]
def cmpM (a b : MsI) : Int := orI (cmpI a.1 b.1) (cmpI a.2.1 b.2.1) (cmpI a.2.2 b.2.2)
theorem nan_any (x : Int) (w : World) : Calls Tryz.prog 199 #[.int .i64 x] w fun o w' => o = .returned (.bool false) ∧ w = w' := by
  have h : (x == x) = true := by simp
  go_enter Tryz.func199, Tryz.ntmps199
  go_wp2_with fail
  go_ret
  exact ⟨rfl, rfl⟩
theorem cmpI_any (x y : Int) (w : World) : Calls Tryz.prog 121 #[.int .i64 x, .int .i64 y] w fun o w' => o = .returned (.int .i64 (cmpI x y)) ∧ w = w' := by
  have hc : (x < y ∧ cmpI x y = -1) ∨ (¬ x < y ∧ y < x ∧ cmpI x y = 1) ∨ (¬ x < y ∧ ¬ y < x ∧ cmpI x y = 0) := by
    unfold cmpI
    by_cases h1 : x < y
    · exact .inl ⟨h1, if_pos h1⟩
    · by_cases h2 : y < x
      · exact .inr (.inl ⟨h1, h2, by rw [if_neg h1, if_pos h2]⟩)
      · exact .inr (.inr ⟨h1, h2, by rw [if_neg h1, if_neg h2]⟩)
  rcases hc with ⟨h1, hc⟩ | ⟨h1, h2, hc⟩ | ⟨h1, h2, hc⟩ <;>
  · have HC := Lib.hid hc
    clear hc
    go_enter Tryz.func121, Tryz.ntmps121
    go_wp2_with (first | (go_at_call 199; refine (nan_any _ _).mono ?_; rintro o w' ⟨rfl, rfl⟩) | fail)
    go_ret
    exact ⟨by rw [HC.out]; rfl, rfl⟩
set_option maxRecDepth 1000000 in
theorem or_any (b : Nat) (x y z : Int) (w : World) (h0 : w.cell? ⟨b, 0, none⟩ = some (.int .i64 x)) (h1 : w.cell? ⟨b, 1, none⟩ = some (.int .i64 y)) (h2 : w.cell? ⟨b, 2, none⟩ = some (.int .i64 z)) :
    Calls Tryz.prog 120 #[.slice (some ⟨b, 0, none⟩) 3 3] w fun o w' => o = .returned (.int .i64 (orI x y z)) ∧ w = w' := by
  have hc : ((x == 0) = false ∧ orI x y z = x) ∨ ((x == 0) = true ∧ (y == 0) = false ∧ orI x y z = y) ∨ ((x == 0) = true ∧ (y == 0) = true ∧ orI x y z = z) := by
    unfold orI
    by_cases h1 : x = 0
    · by_cases h2 : y = 0
      · exact .inr (.inr ⟨by simpa using h1, by simpa using h2, by rw [if_neg (by omega), if_neg (by omega)]⟩)
      · exact .inr (.inl ⟨by simpa using h1, by simpa using h2, by rw [if_neg (by omega), if_pos h2]⟩)
    · exact .inl ⟨by simpa using h1, if_pos h1⟩
  have hz : ((z == 0) = true ∧ z = 0) ∨ (z == 0) = false := by
    by_cases h : z = 0
    · exact .inl ⟨by simpa using h, h⟩
    · exact .inr (by simpa using h)
  rcases hc with ⟨e1, hc⟩ | ⟨e1, e2, hc⟩ | ⟨e1, e2, hc⟩
  · have HC := Lib.hid hc
    clear hc hz
    go_enter Tryz.func120, Tryz.ntmps120
    go_wp2_with fail
    refine wp_loop_rounds 4 ?_; repeat any_goals (rw [rounds_succ]; go_wp2_with fail)
    all_goals (go_wp2_with fail; go_ret; exact ⟨by rw [HC.out]; rfl, rfl⟩)
  · have HC := Lib.hid hc
    clear hc hz
    go_enter Tryz.func120, Tryz.ntmps120
    go_wp2_with fail
    refine wp_loop_rounds 4 ?_; repeat any_goals (rw [rounds_succ]; go_wp2_with fail)
    all_goals (go_wp2_with fail; go_ret; exact ⟨by rw [HC.out]; rfl, rfl⟩)
  · have HC := Lib.hid hc
    clear hc
    rcases hz with ⟨e3, rfl⟩ | e3
    · clear e3
      go_enter Tryz.func120, Tryz.ntmps120
      go_wp2_with fail
      refine wp_loop_rounds 4 ?_; repeat any_goals (rw [rounds_succ]; go_wp2_with fail)
      all_goals (go_wp2_with fail; go_ret; exact ⟨by rw [HC.out]; rfl, rfl⟩)
    · go_enter Tryz.func120, Tryz.ntmps120
      go_wp2_with fail
      refine wp_loop_rounds 4 ?_; repeat any_goals (rw [rounds_succ]; go_wp2_with fail)
      all_goals (go_wp2_with fail; go_ret; exact ⟨by rw [HC.out]; rfl, rfl⟩)
end Go.Proofs.YtlibeobmdjeilaaGreatDoor
