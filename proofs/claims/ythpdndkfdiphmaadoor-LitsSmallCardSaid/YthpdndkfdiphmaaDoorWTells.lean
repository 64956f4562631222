/- tells, LitsTells: the walks. -/
import Derived.Test.YthpdndkfdiphmaaDoorWReads
namespace Go.Proofs.YthpdndkfdiphmaaDoor
open Go Go.RowKit
theorem LAt_ne {n : Int} (h : LAtOk n = true) : LAt n ≠ 0 := by
  have := LAtOk_t h
  unfold LAt; rw [if_pos h]; split <;> omega
set_option maxRecDepth 10000000 in
set_option maxHeartbeats 4000000 in
theorem tells_any (a b n : Int) (w : World) (ha1 : -9223372036854775808 ≤ a) (ha2 : a ≤ 9223372036854775807) (ht : Tb w) :
    Calls Tryd.prog 12 #[.int .i64 a, .int .i64 b, .int .i64 n] w fun e w' => e = .returned (.bool true) ∧ Below w.heap.size w w' := by
  have Ht := Lib.hid ht; clear ht
  have hte : LErr true = 0 := rfl
  have hfe : LErr false = 10 := rfl
  have hmx : max (-1 : Int) 0 = 0 := by decide
  -- the three ways of n
  obtain ⟨ok, at_, rr, c1, c2, c3, c4, c5, c6⟩ : ∃ ok ato rr : Bool, LOfOk n = ok ∧ LAtOk n = ato ∧ LRight n = rr ∧ (ok = true → 1 ≤ n ∧ n ≤ 1048576 ∧ rr = true ∧ ato = true) ∧ (ok = false → n < 1 ∨ (1048576 < n ∧ rr = false)) ∧ (LOf n false = (if ok then n else 0) ∧ LOf n true = (if ok then -n else 0)) := by
    refine ⟨_, _, _, rfl, rfl, rfl, ?_, ?_, ?_⟩
    · intro h
      obtain ⟨h1, h2⟩ := LOfOk_t h
      exact ⟨h1, h2, decide_eq_true (by omega), decide_eq_true (by omega)⟩
    · intro h
      rcases LOfOk_f h with h1 | h1
      · exact .inl h1
      · exact .inr ⟨h1, decide_eq_false (by omega)⟩
    · unfold LOf; cases LOfOk n <;> simp
  obtain ⟨o1, o2⟩ := c6
  have O1 := Lib.hid o1; have O2 := Lib.hid o2; have C1 := Lib.hid c1; have C2 := Lib.hid c2; have C3 := Lib.hid c3
  have hat : (LAt n != 0) = at_ := by
    rw [← c2]
    cases h : LAtOk n
    · unfold LAt; rw [h]; simp
    · rw [bne_iff_ne]; exact LAt_ne h
  clear o1 o2 c1 c2 c3
  generalize hA : LAt n = A at *
  have HA := Lib.hid hA; clear hA
  -- the two ways of a
  have hneg : LNeg a = if LRight a then -a else 0 := rfl
  have hngd : LNegated a = (LRight a && decide (a < 0)) := rfl
  have hri : RIdx a = if LRight a then LIdx a else -1 := rfl
  have hr0 : LRight a = false → LVar a = 0 ∧ LIdx a = 0 := by intro h; unfold LVar LIdx; rw [h]; simp
  have hr1 : LRight a = true → -1048576 ≤ a ∧ a ≤ 1048576 ∧ 0 ≤ LIdx a := by
    intro h
    obtain ⟨h0, h1, h2⟩ := LRight_t h
    refine ⟨h1, h2, ?_⟩
    unfold LIdx; rw [if_pos h]; split <;> omega
  have Hneg := Lib.hid hneg; have Hngd := Lib.hid hngd; have Hri := Lib.hid hri
  clear hneg hngd hri
  generalize hra : LRight a = ra at *
  have HRA := Lib.hid hra; clear hra
  have key : ∀ (N : Bool) (ng : Int) (Vr ix rx : Int), LNegated a = N → LNeg a = ng → LVar a = Vr → LIdx a = ix → RIdx a = rx →
      N = (ra && decide (a < 0)) → ng = (if ra then -a else 0) → (ra = true → rx = ix ∧ 0 ≤ ix) → (ra = false → rx = -1 ∧ ix = 0) →
      Calls Tryd.prog 12 #[.int .i64 a, .int .i64 b, .int .i64 n] w fun e w' => e = .returned (.bool true) ∧ Below w.heap.size w w' := by
    intro N ng Vr ix rx k1 k2 k3 k4 k5 k6 k7 k8 k9
    have K1 := Lib.hid k1; have K2 := Lib.hid k2; have K3 := Lib.hid k3; have K4 := Lib.hid k4; have K5 := Lib.hid k5
    clear k1 k2 k3 k4 k5
    cases ra
    · obtain ⟨rfl, rfl⟩ := k9 rfl
      simp only [Bool.false_and, Bool.false_eq_true, if_false] at k6 k7
      subst k6 k7
      clear k8 k9 hr0 hr1
      cases ok
      · simp only [Bool.false_eq_true, if_false] at O1 O2
        rcases c5 rfl with hn | ⟨hn, hn'⟩
        all_goals
          clear c4 c5
          cases at_
          all_goals
            go_enter Tryd.func12, Tryd.ntmps12
            go_wp2_with (first
              | (go_at_call 17; refine (Index_any _ _).mono ?_; rintro e w' ⟨rfl, rfl⟩; rw [K4.out, HRA.out]; first | rw [hte] | rw [hfe])
              | (go_at_call 21; refine (At_any _ _).mono ?_; rintro e w' ⟨rfl, rfl⟩; rw [HA.out, C2.out]; first | rw [hte] | rw [hfe])
              | (go_at_call 24; refine (Of_any _ _ _).mono ?_; rintro e w' ⟨rfl, rfl⟩; rw [C1.out]; (first | rw [O1.out] | rw [O2.out]); (first | rw [hte] | rw [hfe]))
              | (go_at_call 42; refine (RRight_any _ _).mono ?_; rintro e w' ⟨rfl, rfl⟩; first | rw [HRA.out] | rw [C3.out])
              | (go_at_call 18; refine (Right_any _ _).mono ?_; rintro e w' ⟨rfl, rfl⟩; rw [HRA.out])
              | (go_at_call 19; refine (Var_any _ _).mono ?_; rintro e w' ⟨rfl, rfl⟩; rw [K3.out])
              | (go_at_call 43; refine (RVar_any _ _).mono ?_; rintro e w' ⟨rfl, rfl⟩; rw [K3.out])
              | (go_at_call 20; refine (Negated_any _ _).mono ?_; rintro e w' ⟨rfl, rfl⟩; rw [K1.out])
              | (go_at_call 16; refine (Neg_any _ _).mono ?_; rintro e w' ⟨rfl, rfl⟩; rw [K2.out])
              | (go_at_call 44; refine (RIndex_any _ _).mono ?_; rintro e w' ⟨rfl, rfl⟩; rw [K5.out])
              | (go_at_call 45; refine (RAt_any _ _).mono ?_; rintro e w' ⟨rfl, rfl⟩; rw [HA.out])
              | (go_at_call 25; refine (Compare_any _ _ _).mono ?_; rintro e w' ⟨rfl, rfl⟩)
              | (go_at_call 46; refine (RCompare_any _ _ _).mono ?_; rintro e w' ⟨rfl, rfl⟩)
              | (go_at_call 23; refine (Text_any _ _ Ht.out).mono ?_; rintro e w1 ⟨rfl, hb1⟩)
              | (go_at_call 47; refine (RText_any _ _).mono ?_; rintro e w' ⟨rfl, rfl⟩))
            go_ret
            exact ⟨rfl, hb1⟩
      · simp only [if_true] at O1 O2
        obtain ⟨hn1, hn2, rfl, rfl⟩ := c4 rfl
        clear c4 c5
        go_enter Tryd.func12, Tryd.ntmps12
        go_wp2_with (first
          | (go_at_call 17; refine (Index_any _ _).mono ?_; rintro e w' ⟨rfl, rfl⟩; rw [K4.out, HRA.out]; first | rw [hte] | rw [hfe])
          | (go_at_call 21; refine (At_any _ _).mono ?_; rintro e w' ⟨rfl, rfl⟩; rw [HA.out, C2.out]; first | rw [hte] | rw [hfe])
          | (go_at_call 24; refine (Of_any _ _ _).mono ?_; rintro e w' ⟨rfl, rfl⟩; rw [C1.out]; (first | rw [O1.out] | rw [O2.out]); (first | rw [hte] | rw [hfe]))
          | (go_at_call 42; refine (RRight_any _ _).mono ?_; rintro e w' ⟨rfl, rfl⟩; first | rw [HRA.out] | rw [C3.out])
          | (go_at_call 18; refine (Right_any _ _).mono ?_; rintro e w' ⟨rfl, rfl⟩; rw [HRA.out])
          | (go_at_call 19; refine (Var_any _ _).mono ?_; rintro e w' ⟨rfl, rfl⟩; rw [K3.out])
          | (go_at_call 43; refine (RVar_any _ _).mono ?_; rintro e w' ⟨rfl, rfl⟩; rw [K3.out])
          | (go_at_call 20; refine (Negated_any _ _).mono ?_; rintro e w' ⟨rfl, rfl⟩; rw [K1.out])
          | (go_at_call 16; refine (Neg_any _ _).mono ?_; rintro e w' ⟨rfl, rfl⟩; rw [K2.out])
          | (go_at_call 44; refine (RIndex_any _ _).mono ?_; rintro e w' ⟨rfl, rfl⟩; rw [K5.out])
          | (go_at_call 45; refine (RAt_any _ _).mono ?_; rintro e w' ⟨rfl, rfl⟩; rw [HA.out])
          | (go_at_call 25; refine (Compare_any _ _ _).mono ?_; rintro e w' ⟨rfl, rfl⟩)
          | (go_at_call 46; refine (RCompare_any _ _ _).mono ?_; rintro e w' ⟨rfl, rfl⟩)
          | (go_at_call 23; refine (Text_any _ _ Ht.out).mono ?_; rintro e w1 ⟨rfl, hb1⟩)
          | (go_at_call 47; refine (RText_any _ _).mono ?_; rintro e w' ⟨rfl, rfl⟩))
        go_ret
        exact ⟨rfl, hb1⟩
    · obtain ⟨rfl, hix⟩ := k8 rfl
      obtain ⟨hb1', hb2', _⟩ := hr1 rfl
      simp only [Bool.true_and, if_true] at k6 k7
      subst k6 k7
      have hmi : max rx 0 = rx := by omega
      clear k8 k9 hr0 hr1
      cases ok
      · simp only [Bool.false_eq_true, if_false] at O1 O2
        rcases c5 rfl with hn | ⟨hn, hn'⟩
        all_goals
          clear c4 c5
          cases at_
          all_goals
            go_enter Tryd.func12, Tryd.ntmps12
            go_wp2_with (first
              | (go_at_call 17; refine (Index_any _ _).mono ?_; rintro e w' ⟨rfl, rfl⟩; rw [K4.out, HRA.out]; first | rw [hte] | rw [hfe])
              | (go_at_call 21; refine (At_any _ _).mono ?_; rintro e w' ⟨rfl, rfl⟩; rw [HA.out, C2.out]; first | rw [hte] | rw [hfe])
              | (go_at_call 24; refine (Of_any _ _ _).mono ?_; rintro e w' ⟨rfl, rfl⟩; rw [C1.out]; (first | rw [O1.out] | rw [O2.out]); (first | rw [hte] | rw [hfe]))
              | (go_at_call 42; refine (RRight_any _ _).mono ?_; rintro e w' ⟨rfl, rfl⟩; first | rw [HRA.out] | rw [C3.out])
              | (go_at_call 18; refine (Right_any _ _).mono ?_; rintro e w' ⟨rfl, rfl⟩; rw [HRA.out])
              | (go_at_call 19; refine (Var_any _ _).mono ?_; rintro e w' ⟨rfl, rfl⟩; rw [K3.out])
              | (go_at_call 43; refine (RVar_any _ _).mono ?_; rintro e w' ⟨rfl, rfl⟩; rw [K3.out])
              | (go_at_call 20; refine (Negated_any _ _).mono ?_; rintro e w' ⟨rfl, rfl⟩; rw [K1.out])
              | (go_at_call 16; refine (Neg_any _ _).mono ?_; rintro e w' ⟨rfl, rfl⟩; rw [K2.out])
              | (go_at_call 44; refine (RIndex_any _ _).mono ?_; rintro e w' ⟨rfl, rfl⟩; rw [K5.out])
              | (go_at_call 45; refine (RAt_any _ _).mono ?_; rintro e w' ⟨rfl, rfl⟩; rw [HA.out])
              | (go_at_call 25; refine (Compare_any _ _ _).mono ?_; rintro e w' ⟨rfl, rfl⟩)
              | (go_at_call 46; refine (RCompare_any _ _ _).mono ?_; rintro e w' ⟨rfl, rfl⟩)
              | (go_at_call 23; refine (Text_any _ _ Ht.out).mono ?_; rintro e w1 ⟨rfl, hb1⟩)
              | (go_at_call 47; refine (RText_any _ _).mono ?_; rintro e w' ⟨rfl, rfl⟩))
            go_ret
            exact ⟨rfl, hb1⟩
      · simp only [if_true] at O1 O2
        obtain ⟨hn1, hn2, rfl, rfl⟩ := c4 rfl
        clear c4 c5
        go_enter Tryd.func12, Tryd.ntmps12
        go_wp2_with (first
          | (go_at_call 17; refine (Index_any _ _).mono ?_; rintro e w' ⟨rfl, rfl⟩; rw [K4.out, HRA.out]; first | rw [hte] | rw [hfe])
          | (go_at_call 21; refine (At_any _ _).mono ?_; rintro e w' ⟨rfl, rfl⟩; rw [HA.out, C2.out]; first | rw [hte] | rw [hfe])
          | (go_at_call 24; refine (Of_any _ _ _).mono ?_; rintro e w' ⟨rfl, rfl⟩; rw [C1.out]; (first | rw [O1.out] | rw [O2.out]); (first | rw [hte] | rw [hfe]))
          | (go_at_call 42; refine (RRight_any _ _).mono ?_; rintro e w' ⟨rfl, rfl⟩; first | rw [HRA.out] | rw [C3.out])
          | (go_at_call 18; refine (Right_any _ _).mono ?_; rintro e w' ⟨rfl, rfl⟩; rw [HRA.out])
          | (go_at_call 19; refine (Var_any _ _).mono ?_; rintro e w' ⟨rfl, rfl⟩; rw [K3.out])
          | (go_at_call 43; refine (RVar_any _ _).mono ?_; rintro e w' ⟨rfl, rfl⟩; rw [K3.out])
          | (go_at_call 20; refine (Negated_any _ _).mono ?_; rintro e w' ⟨rfl, rfl⟩; rw [K1.out])
          | (go_at_call 16; refine (Neg_any _ _).mono ?_; rintro e w' ⟨rfl, rfl⟩; rw [K2.out])
          | (go_at_call 44; refine (RIndex_any _ _).mono ?_; rintro e w' ⟨rfl, rfl⟩; rw [K5.out])
          | (go_at_call 45; refine (RAt_any _ _).mono ?_; rintro e w' ⟨rfl, rfl⟩; rw [HA.out])
          | (go_at_call 25; refine (Compare_any _ _ _).mono ?_; rintro e w' ⟨rfl, rfl⟩)
          | (go_at_call 46; refine (RCompare_any _ _ _).mono ?_; rintro e w' ⟨rfl, rfl⟩)
          | (go_at_call 23; refine (Text_any _ _ Ht.out).mono ?_; rintro e w1 ⟨rfl, hb1⟩)
          | (go_at_call 47; refine (RText_any _ _).mono ?_; rintro e w' ⟨rfl, rfl⟩))
        go_ret
        exact ⟨rfl, hb1⟩
  refine key _ _ _ _ _ rfl rfl rfl rfl rfl ?_ ?_ ?_ ?_
  · rw [Hngd.out]
  · exact Hneg.out
  · intro h
    refine ⟨?_, (hr1 h).2.2⟩
    rw [Hri.out, if_pos h]
  · intro h
    exact ⟨by rw [Hri.out, if_neg (by rw [h]; simp)], (hr0 h).2⟩
end Go.Proofs.YthpdndkfdiphmaaDoor
