/- LitsNeg: the literal that Made makes of a number; the walk of the law. -/
import Derived.Test.YthpdndkfdiphmaaDoorAwake
import Derived.WalkLawsBesides
namespace Go.Proofs.YthpdndkfdiphmaaDoor
open Go Go.RowKit
def SomeLit (w : World) (e : Ending) (w' : World) : Prop := ∃ l : Int, LRight l = true ∧ e = .returned (.int .i64 l) ∧ w = w'
theorem Made_any (n : Int) (w : World) (h1 : -2147483648 ≤ n) (h2 : n ≤ 2147483647) : Calls Tryd.prog 15 #[.int .i32 n] w (SomeLit w) := by
  go_enter Tryd.func15, Tryd.ntmps15
  go_wp2
  all_goals
    go_ret
    exact ⟨_, decide_eq_true (by omega), rfl, rfl⟩
theorem neg_facts (l : Int) (h : LRight l = true) : LRight (-l) = true ∧ LNeg l = -l ∧ LNeg (-l) = l ∧ LVar (-l) = LVar l ∧ LNegated (-l) = !LNegated l ∧ LIdx l = 2 * (LVar l - 1) + (if LNegated l then 1 else 0) ∧ LIdx (-l) = 2 * (LVar l - 1) + (if LNegated l then 0 else 1) ∧ 1 ≤ LVar l ∧ LVar l ≤ 1048576 := by
  obtain ⟨h0, h1, h2⟩ := LRight_t h
  have hr : LRight (-l) = true := decide_eq_true (by omega)
  have hv : LVar l = if l < 0 then -l else l := by unfold LVar; rw [if_pos h]
  have hv' : LVar (-l) = LVar l := by rw [hv]; unfold LVar; rw [if_pos hr]; repeat' split <;> omega
  have hn : LNegated l = decide (l < 0) := by unfold LNegated; rw [h]; rfl
  have hn' : LNegated (-l) = decide (-l < 0) := by unfold LNegated; rw [hr]; rfl
  refine ⟨hr, ?_, ?_, hv', ?_, ?_, ?_, ?_, ?_⟩
  · unfold LNeg; rw [if_pos h]
  · unfold LNeg; rw [if_pos hr]; omega
  · rw [hn, hn']; by_cases hl : l < 0
    · rw [decide_eq_true hl, decide_eq_false (by omega)]; rfl
    · rw [decide_eq_false hl, decide_eq_true (by omega)]; rfl
  · rw [hv, hn]; unfold LIdx; rw [if_pos h]; by_cases hl : l < 0 <;> simp [hl]
  · rw [hv, hn]; unfold LIdx; rw [if_pos hr]; by_cases hl : l < 0
    · simp [hl]; omega
    · simp [hl]; omega
  · rw [hv]; split <;> omega
  · rw [hv]; split <;> omega
set_option maxRecDepth 100000 in
set_option maxHeartbeats 1000000 in
theorem LitsNeg_any (n : Int) (w : World) (h1 : -2147483648 ≤ n) (h2 : n ≤ 2147483647) (ht : Tb w) : Calls Tryd.prog 5 #[.int .i32 n] w fun e w' => e = .returned (.bool true) ∧ Below w.heap.size w w' := by
  have Ht := Lib.hid ht; clear ht
  go_enter Tryd.func5, Tryd.ntmps5
  go_wp2_with (go_at_call 15; refine (Made_any _ _ h1 h2).mono ?_; rintro e w' ⟨l, hR, rfl, rfl⟩)
  have hte : LErr true = 0 := rfl
  obtain ⟨f1, f2, f3, f4, f5, f6, f7, f8, f9⟩ := neg_facts l hR
  obtain ⟨h0, h3, h4⟩ := LRight_t hR
  have hne : (-l != l) = true := by rw [bne_iff_ne]; omega
  have F1 := Lib.hid f1; have F2 := Lib.hid f2; have F3 := Lib.hid f3; have F4 := Lib.hid f4
  clear f1 f2 f3 f4
  have HR := Lib.hid hR; clear hR
  generalize hu : LVar l = u at *
  generalize hi : LIdx l = i at *
  generalize hk : LIdx (-l) = k at *
  have HU := Lib.hid hu; have HI := Lib.hid hi; have HK := Lib.hid hk
  clear hu hi hk
  cases hN : LNegated l
  all_goals
    rw [hN] at f5 f6 f7
    have e1 : (i / 2 == k / 2) = true := by rw [f6, f7, beq_iff_eq]; simp; omega
    have e2 : (i + k == 4 * (u - 1) + 1) = true := by rw [f6, f7, beq_iff_eq]; simp; omega
    have e3 : (i % 2 == 1) = LNegated l := by rw [hN, f6]; first | (simp; done) | (simp; omega)
    have i0 : 0 ≤ i := by rw [f6]; simp; omega
    have i1 : i ≤ 2097151 := by rw [f6]; simp; omega
    have k0 : 0 ≤ k := by rw [f7]; simp; omega
    have k1 : k ≤ 2097151 := by rw [f7]; simp; omega
    rw [hN] at e3
    have F5 := Lib.hid f5
    clear f5 f6 f7
    have HN := Lib.hid hN; clear hN
    go_wp2_with (first
      | (go_at_call 16; refine (Neg_any _ _).mono ?_; rintro e w' ⟨rfl, rfl⟩; first | rw [F2.out] | rw [F3.out])
      | (go_at_call 17; refine (Index_any _ _).mono ?_; rintro e w' ⟨rfl, rfl⟩; first | rw [HI.out, HR.out, hte] | rw [HK.out, F1.out, hte])
      | (go_at_call 18; refine (Right_any _ _).mono ?_; rintro e w' ⟨rfl, rfl⟩; first | rw [HR.out] | rw [F1.out])
      | (go_at_call 19; refine (Var_any _ _).mono ?_; rintro e w' ⟨rfl, rfl⟩; first | rw [F4.out] | rw [HU.out])
      | (go_at_call 20; refine (Negated_any _ _).mono ?_; rintro e w' ⟨rfl, rfl⟩; first | rw [HN.out] | (rw [F5.out]; simp only [Bool.not_false, Bool.not_true]))
      | (go_at_call 13; refine (awake_any _ Ht.out).mono ?_; rintro e w' ⟨rfl, hb⟩))
    go_ret
    exact ⟨rfl, hb⟩
end Go.Proofs.YthpdndkfdiphmaaDoor
