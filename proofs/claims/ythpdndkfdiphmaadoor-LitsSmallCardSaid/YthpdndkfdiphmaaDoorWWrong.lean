/- LitsTells, LitsWrong: the walks of the laws. -/
import Derived.Test.YthpdndkfdiphmaaDoorWTells
namespace Go.Proofs.YthpdndkfdiphmaaDoor
open Go Go.RowKit
set_option maxRecDepth 10000000 in
theorem LitsTells_any (a b n : Int) (w : World) (ha1 : -9223372036854775808 ≤ a) (ha2 : a ≤ 9223372036854775807) (ht : Tb w) :
    Calls Tryd.prog 3 #[.int .i64 a, .int .i64 b, .int .i64 n] w fun e w' => e = .returned (.bool true) ∧ Below w.heap.size w w' := by
  have Ht := Lib.hid ht; clear ht
  go_enter Tryd.func3, Tryd.ntmps3
  go_wp2_with (first
    | (go_at_call 12; refine (tells_any _ _ _ _ ha1 ha2 Ht.out).mono ?_; rintro e w1 ⟨rfl, hb1⟩)
    | (go_at_call 13; refine (awake_any _ (Ht.out.below hb1)).mono ?_; rintro e w2 ⟨rfl, hb2⟩))
  go_ret
  exact ⟨rfl, hb1.trans (hb2.mono hb1.size)⟩
def LMade (n : Int) : Int := if (bits BinOp.and IntKind.i32 n 1 == 1) = true then -(1 + n % 4294967296 / 2 % 1048576) else 1 + n % 4294967296 / 2 % 1048576
theorem LMade_right (n : Int) : LRight (LMade n) = true := by unfold LMade; apply decide_eq_true; split <;> omega
theorem MadeF_any (n : Int) (w : World) (h1 : -2147483648 ≤ n) (h2 : n ≤ 2147483647) : Calls Tryd.prog 15 #[.int .i32 n] w fun e w' => e = .returned (.int .i64 (LMade n)) ∧ w = w' := by
  have hL : LMade n = if (bits BinOp.and IntKind.i32 n 1 == 1) = true then -(1 + n % 4294967296 / 2 % 1048576) else 1 + n % 4294967296 / 2 % 1048576 := rfl
  have HL := Lib.hid hL; clear hL
  go_enter Tryd.func15, Tryd.ntmps15
  go_wp2
  all_goals
    go_ret
    refine ⟨?_, rfl⟩
    rw [HL.out]
    first
      | (rw [if_pos (by assumption)]; rfl)
      | (rw [if_neg (by rw [(by assumption : (bits BinOp.and IntKind.i32 n 1 == 1) = false)]; simp)]; rfl)
/-- What a number that is no literal comes to. -/
theorem bad_facts {x : Int} (h : LRight x = false) : LVar x = 0 ∧ LNegated x = false ∧ LNeg x = 0 ∧ LIdx x = 0 ∧ LText x = [] := by
  unfold LVar LNegated LNeg LIdx LText; rw [h]; simp
theorem vl_bad {x m : Int} (h : LRight x = false) (hm : LRight m = true) : vl [x, m, x] = [LVar m] := by
  unfold vl; simp [h, hm]
theorem grl_one {v : Int} (h : 1 ≤ v) : grl [v] = v := by
  show (if (0 : Int) < v then v else 0) = v
  rw [if_pos (by omega)]
theorem vset_one (v : Int) : vset [v] = [v] := by
  show insS v [] = [v]
  unfold insS; simp [insAt]
set_option maxRecDepth 10000000 in
set_option maxHeartbeats 4000000 in
theorem LitsWrong_any (n l : Int) (w : World) (hn1 : -9223372036854775808 ≤ n) (hn2 : n ≤ 9223372036854775807) (h1 : -2147483648 ≤ l) (h2 : l ≤ 2147483647) (ht : Tb w) :
    Calls Tryd.prog 8 #[.int .i64 n, .int .i32 l] w fun e w' => e = .returned (.bool true) ∧ Below w.heap.size w w' := by
  have Ht := Lib.hid ht; clear ht
  have hfe : LErr false = 10 := rfl
  have hte : LErr true = 0 := rfl
  have hM := LMade_right l
  generalize hm : LMade l = m at *
  have HM := Lib.hid hm; clear hm
  obtain ⟨f1, f2, f3, f4, f5, f6, f7, f8, f9⟩ := neg_facts m hM
  clear f1 f2 f3 f4 f5 f6 f7
  generalize hv : LVar m = v at *
  have HV := Lib.hid hv; clear hv
  have HMR := Lib.hid hM; clear hM
  go_enter Tryd.func8, Tryd.ntmps8
  go_wp2
  obtain ⟨p, hp⟩ : ∃ p, min n (-1048577) = p := ⟨_, rfl⟩
  obtain ⟨q, hq⟩ : ∃ q, max n 1048577 = q := ⟨_, rfl⟩
  have hp1 : p ≤ -1048577 := by omega
  have hq1 : 1048577 ≤ q := by omega
  have hp0 : -9223372036854775808 ≤ p := by omega
  have hq0 : q ≤ 9223372036854775807 := by omega
  rw [hp, hq]
  clear hp hq
  obtain ⟨w2, hw2⟩ : ∃ W, w.alloc (.cells #[.int .i64 0, .int .i64 p, .int .i64 q] 3) = W := ⟨_, rfl⟩
  rw [hw2]
  have hb2 : Below w.heap.size w w2 := by rw [← hw2]; exact (Below.refl _ w).alloc (Nat.le_refl _) _
  have hz2 : w.heap.size < w2.heap.size := by rw [← hw2]; simp
  have c0 : w2.cell? ⟨w.heap.size, 0, none⟩ = some (.int .i64 0) := by rw [← hw2]; simp [World.cell?_alloc_new]
  have c1 : w2.cell? ⟨w.heap.size, 1, none⟩ = some (.int .i64 p) := by rw [← hw2]; simp [World.cell?_alloc_new]
  have c2 : w2.cell? ⟨w.heap.size, 2, none⟩ = some (.int .i64 q) := by rw [← hw2]; simp [World.cell?_alloc_new]
  have C0 := Lib.hid c0; have C1 := Lib.hid c1; have C2 := Lib.hid c2
  clear c0 c1 c2 hw2
  go_loopw [4, 27] (fun r i wr => r = .bool false ∧ (∃ k : Nat, k ≤ 3 ∧ i = .int .i64 k) ∧ Below w2.heap.size w2 wr) (fun _ i _ => 3 - (intOf i).toNat)
  case atStart => exact ⟨rfl, ⟨0, by omega, rfl⟩, Below.refl _ _⟩
  case round =>
    obtain ⟨rfl, ⟨k, hk, rfl⟩, hbw⟩ := hrel
    have hw3 : Below w.heap.size w wr := hb2.trans (hbw.mono hb2.size)
    by_cases hlt : k < 3
    · obtain ⟨x, hcell, hbad, hok, hx1, hx2⟩ : ∃ x : Int, wr.cell? ⟨w.heap.size, k, none⟩ = some (.int .i64 x) ∧ LRight x = false ∧ LOfOk x = false ∧ -9223372036854775808 ≤ x ∧ x ≤ 9223372036854775807 := by
        have : k = 0 ∨ k = 1 ∨ k = 2 := by omega
        rcases this with rfl | rfl | rfl
        · exact ⟨_, (hbw.cell (p := ⟨w.heap.size, 0, none⟩) hz2).trans C0.out, rfl, rfl, by omega, by omega⟩
        · exact ⟨_, (hbw.cell (p := ⟨w.heap.size, 1, none⟩) hz2).trans C1.out, decide_eq_false (by omega), decide_eq_false (by omega), by omega, by omega⟩
        · exact ⟨_, (hbw.cell (p := ⟨w.heap.size, 2, none⟩) hz2).trans C2.out, decide_eq_false (by omega), decide_eq_false (by omega), by omega, by omega⟩
      obtain ⟨b1, b2, b3, b4, b5⟩ := bad_facts hbad
      have b6 : LOf x false = 0 ∧ LOf x true = 0 := by unfold LOf; rw [hok]; simp
      obtain ⟨b6, b7⟩ := b6
      have b8 : LCmp x m = -1 := by unfold LCmp; rw [hbad, HMR.out]; simp
      have b9 := vl_bad hbad HMR.out
      rw [HV.out] at b9
      have B1 := Lib.hid b1; have B2 := Lib.hid b2; have B3 := Lib.hid b3; have B4 := Lib.hid b4; have B5 := Lib.hid b5; have B6 := Lib.hid b6; have B7 := Lib.hid b7; have B8 := Lib.hid b8; have B9 := Lib.hid b9
      have HB := Lib.hid hbad; have HO := Lib.hid hok
      clear b1 b2 b3 b4 b5 b6 b7 b8 b9 hbad hok
      go_wp2_with (first
        | (go_at_call 17; refine (Index_any _ _).mono ?_; rintro e w' ⟨rfl, rfl⟩; rw [B4.out, HB.out, hfe])
        | (go_at_call 24; refine (Of_any _ _ _).mono ?_; rintro e w' ⟨rfl, rfl⟩; (first | rw [B6.out] | rw [B7.out]); rw [HO.out, hfe])
        | (go_at_call 18; refine (Right_any _ _).mono ?_; rintro e w' ⟨rfl, rfl⟩; rw [HB.out])
        | (go_at_call 19; refine (Var_any _ _).mono ?_; rintro e w' ⟨rfl, rfl⟩; first | rw [B1.out] | rw [HV.out])
        | (go_at_call 20; refine (Negated_any _ _).mono ?_; rintro e w' ⟨rfl, rfl⟩; rw [B2.out])
        | (go_at_call 16; refine (Neg_any _ _).mono ?_; rintro e w' ⟨rfl, rfl⟩; rw [B3.out])
        | (go_at_call 15; refine (MadeF_any _ _ h1 h2).mono ?_; rintro e w' ⟨rfl, rfl⟩; rw [HM.out])
        | (go_at_call 23; refine (Text_any _ _ (Ht.out.below hw3)).mono ?_; rintro e w4 ⟨rfl, hb4⟩; rw [B5.out]))
      have hw4 : Below w.heap.size w w4 := hw3.trans (hb4.mono hw3.size)
      have hI : RdI (w4.heap.size + 1) (w4.alloc (.cells #[.int .i64 x, .int .i64 m, .int .i64 x] 25)) (.slice (some ⟨w4.heap.size, 0, none⟩) 3 3) [x, m, x] := RdI.lit w4 [x, m, x] 25 3 (by simp)
      have hw5 : Below w.heap.size w (w4.alloc (.cells #[.int .i64 x, .int .i64 m, .int .i64 x] 25)) := hw4.alloc hw4.size _
      refine (Greatest_any _ [x, m, x] (by simp) _ (hI.more (by simp))).mono ?_
      rintro e w6 ⟨rfl, hb6⟩
      rw [B9.out, grl_one f8]
      have hz6 := hb6.size
      have hI6 : RdI (w4.heap.size + 1) w6 (.slice (some ⟨w4.heap.size, 0, none⟩) 3 3) [x, m, x] := hI.below (hb6.mono (by simp))
      have hw6 : Below w.heap.size w w6 := hw5.trans (hb6.mono hw5.size)
      go_wp2_with (first
        | (go_at_call 15; refine (MadeF_any _ _ h1 h2).mono ?_; rintro e w' ⟨rfl, rfl⟩; rw [HM.out])
        | (go_at_call 19; refine (Var_any _ _).mono ?_; rintro e w' ⟨rfl, rfl⟩; rw [HV.out]))
      refine (Vars_any _ [x, m, x] (by simp) w6 (hI6.more (by simpa using hz6))).mono ?_
      rintro e w7 ⟨v7, rfl, hown7, _, hb7⟩
      rw [B9.out, vset_one] at hown7
      have hw7 : Below w.heap.size w w7 := hw6.trans (hb7.mono hw6.size)
      go_wp2_with (first
        | (go_at_call 15; refine (MadeF_any _ _ h1 h2).mono ?_; rintro e w' ⟨rfl, rfl⟩; rw [HM.out])
        | (go_at_call 19; refine (Var_any _ _).mono ?_; rintro e w' ⟨rfl, rfl⟩; rw [HV.out]))
      have hr1 : RdI w7.heap.size (w7.alloc (.cells #[.int .i64 v] 3)) v7 [v] := (RdI.of_own hown7).below ((Below.refl _ w7).alloc (Nat.le_refl _) _)
      have hr2 : RdI (w7.heap.size + 1) (w7.alloc (.cells #[.int .i64 v] 3)) (.slice (some ⟨w7.heap.size, 0, none⟩) 1 1) [v] := RdI.lit w7 [v] 3 1 (by simp)
      refine (EqualInt_any _ _ _ _ _ [v] [v] hr1 hr2 (by simp) (by simp)).mono ?_
      rintro e w8 ⟨rfl, qq, rfl⟩
      have hbt : ([v] == [v]) = true := by simp
      rw [hbt]
      go_wp2_with (first
        | (go_at_call 15; refine (MadeF_any _ _ h1 h2).mono ?_; rintro e w' ⟨rfl, rfl⟩; rw [HM.out])
        | (go_at_call 25; refine (Compare_any _ _ _).mono ?_; rintro e w' ⟨rfl, rfl⟩; rw [B8.out]))
      have hz2' := hbw.size
      have hz4 := hb4.size
      have hz6' : w4.heap.size + 1 ≤ w6.heap.size := by simpa using hz6
      have hB8 : Below w2.heap.size w2 ((w7.alloc (.cells #[.int .i64 v] 3)).drewN qq) := by
        have g1 : Below w2.heap.size w2 w4 := hbw.trans (hb4.mono hz2')
        have g2 := g1.alloc (by omega) (.cells #[.int .i64 x, .int .i64 m, .int .i64 x] 25)
        have g3 := g2.trans (hb6.mono g2.size)
        have g4 := g3.trans (hb7.mono g3.size)
        have g5 := g4.alloc g4.size (.cells #[.int .i64 v] 3)
        exact ⟨g5.os, g5.tape, g5.output, g5.size, g5.block⟩
      go_roundw
      case rel => exact ⟨rfl, ⟨k + 1, by omega, by go_num⟩, hB8⟩
      case measure => simp [intOf]; omega
    · obtain rfl : k = 3 := by omega
      have hmin : LAtOk (min n (-1)) = false := decide_eq_false (by omega)
      have hmax : LAtOk (max n 2097152) = false := decide_eq_false (by omega)
      have hm0 : LOfOk (min n 0) = false := decide_eq_false (by omega)
      have A1 := Lib.hid hmin; have A2 := Lib.hid hmax; have A3 := Lib.hid hm0
      clear hmin hmax hm0
      go_wp2_with (first
        | (go_at_call 21; refine (At_any _ _).mono ?_; rintro e w' ⟨rfl, rfl⟩; (first | rw [A1.out] | rw [A2.out]); rw [hfe])
        | (go_at_call 24; refine (Of_any _ _ _).mono ?_; rintro e w' ⟨rfl, rfl⟩; rw [A3.out, hfe])
        | (go_at_call 13; refine (awake_any _ (Ht.out.below hw3)).mono ?_; rintro e w4 ⟨rfl, hb4⟩))
      go_ret
      exact ⟨rfl, hw3.trans (hb4.mono hw3.size)⟩
end Go.Proofs.YthpdndkfdiphmaaDoor
