/- LitsOrder: the walk of the law. -/
import Derived.Test.YthpdndkfdiphmaaDoorWNeg
import Derived.WalkLawsBesides
namespace Go.Proofs.YthpdndkfdiphmaaDoor
open Go Go.RowKit
theorem LIdx_inj {x y : Int} (hx : LRight x = true) (hy : LRight y = true) : LIdx x = LIdx y ↔ x = y := by
  obtain ⟨a0, a1, a2⟩ := LRight_t hx
  obtain ⟨b0, b1, b2⟩ := LRight_t hy
  unfold LIdx; rw [if_pos hx, if_pos hy]
  repeat' split
  all_goals omega
theorem LIdx_var {x : Int} (hx : LRight x = true) : LIdx x / 2 = LVar x - 1 ∧ LIdx (-x) / 2 = LVar x - 1 := by
  obtain ⟨f1, f2, f3, f4, f5, f6, f7, f8, f9⟩ := neg_facts x hx
  rw [f6, f7]; cases LNegated x <;> simp <;> omega
set_option maxRecDepth 100000 in
set_option maxHeartbeats 2000000 in
theorem LitsOrder_any (a b c : Int) (w : World) (ha1 : -2147483648 ≤ a) (ha2 : a ≤ 2147483647) (hb1 : -2147483648 ≤ b) (hb2 : b ≤ 2147483647) (hc1 : -2147483648 ≤ c) (hc2 : c ≤ 2147483647) (ht : Tb w) :
    Calls Tryd.prog 7 #[.int .i32 a, .int .i32 b, .int .i32 c] w fun e w' => e = .returned (.bool true) ∧ Below w.heap.size w w' := by
  have Ht := Lib.hid ht; clear ht
  go_enter Tryd.func7, Tryd.ntmps7
  go_wp2_with fail
  refine (Made_any _ _ ha1 ha2).mono ?_
  rintro e w' ⟨x, hX, rfl, rfl⟩
  go_wp2_with fail
  refine (Made_any _ _ hb1 hb2).mono ?_
  rintro e w' ⟨y, hY, rfl, rfl⟩
  go_wp2_with fail
  refine (Made_any _ _ hc1 hc2).mono ?_
  rintro e w' ⟨z, hZ, rfl, rfl⟩
  have hte : LErr true = 0 := rfl
  have cxy : LCmp x y = cmpI (LIdx x) (LIdx y) := by unfold LCmp; rw [if_pos hX, if_pos hY]
  have cyx : LCmp y x = cmpI (LIdx y) (LIdx x) := by unfold LCmp; rw [if_pos hY, if_pos hX]
  have cyz : LCmp y z = cmpI (LIdx y) (LIdx z) := by unfold LCmp; rw [if_pos hY, if_pos hZ]
  have cxz : LCmp x z = cmpI (LIdx x) (LIdx z) := by unfold LCmp; rw [if_pos hX, if_pos hZ]
  obtain ⟨n1, n2, n3, n4, n5, n6, n7, n8, n9⟩ := neg_facts x hX
  obtain ⟨m1, m2, m3, m4, m5, m6, m7, m8, m9⟩ := neg_facts z hZ
  have cnz : LCmp (-x) z = cmpI (LIdx (-x)) (LIdx z) := by unfold LCmp; rw [if_pos n1, if_pos hZ]
  obtain ⟨v1, v2⟩ := LIdx_var hX
  obtain ⟨v3, _⟩ := LIdx_var hZ
  have bi := RIdx_bd x
  have bk := RIdx_bd y
  rw [RIdx_pos hX] at bi
  rw [RIdx_pos hY] at bk
  have nz : LIdx (-x) ≠ LIdx (-z) → True := fun _ => trivial
  clear n3 n4 n5 n6 n7 m2 m3 m4 m5 m6 m7 nz
  have inj := LIdx_inj hX hY
  have HX := Lib.hid hX; have HY := Lib.hid hY; have HZ := Lib.hid hZ; have N2 := Lib.hid n2
  have Cxy := Lib.hid cxy; have Cyx := Lib.hid cyx; have Cyz := Lib.hid cyz; have Cxz := Lib.hid cxz; have Cnz := Lib.hid cnz
  clear cxy cyx cyz cxz cnz n2 hX hY hZ n1 m1
  generalize hi : LIdx x = i at *
  generalize hk : LIdx y = k at *
  generalize hj : LIdx z = j at *
  generalize hl : LIdx (-x) = l at *
  generalize hu : LVar x = u at *
  generalize hv : LVar z = v at *
  have e1 : (cmpI i k != -cmpI k i) = false := by
    have : cmpI i k = -cmpI k i := by unfold cmpI; repeat' split <;> omega
    rw [← this]; simp
  have e2 : (cmpI i k == 0) = (x == y) := by
    rw [Bool.eq_iff_iff, beq_iff_eq, beq_iff_eq, ← inj]; unfold cmpI; repeat' split
    all_goals omega
  have e3 : cmpI i k < 0 ↔ i < k := by unfold cmpI; repeat' split <;> omega
  have e4 : cmpI i k ≤ 0 → cmpI k j ≤ 0 → cmpI i j ≤ 0 := by unfold cmpI; repeat' split <;> omega
  have e5 : u ≠ v → cmpI l j = cmpI i j := by intro h; unfold cmpI; repeat' split <;> omega
  have c0 : ∀ p q : Int, -1 ≤ cmpI p q ∧ cmpI p q ≤ 1 := by intro p q; unfold cmpI; repeat' split <;> omega
  have b1 := c0 i k; have b2 := c0 k i; have b3 := c0 k j; have b4 := c0 i j; have b5 := c0 l j
  clear c0 inj v1 v2 v3
  generalize cmpI i k = p at *
  generalize cmpI k i = q at *
  generalize cmpI k j = r at *
  generalize cmpI i j = t at *
  generalize cmpI l j = g at *
  have HI := Lib.hid hi; have HK := Lib.hid hk; have HU := Lib.hid hu; have HV := Lib.hid hv; have E2 := Lib.hid e2; have E3 := Lib.hid e3; have E4 := Lib.hid e4; have E5 := Lib.hid e5
  clear hi hk hj hl hu hv e2 e3 e4 e5
  go_wp2_with (first
    | (go_at_call 17; refine (Index_any _ _).mono ?_; rintro e w' ⟨rfl, rfl⟩; first | rw [HI.out, HX.out, hte] | rw [HK.out, HY.out, hte])
    | (go_at_call 25; refine (Compare_any _ _ _).mono ?_; rintro e w' ⟨rfl, rfl⟩; first | rw [Cxy.out] | rw [Cyx.out] | rw [Cyz.out] | rw [Cxz.out])
    | (go_at_call 19; refine (Var_any _ _).mono ?_; rintro e w' ⟨rfl, rfl⟩; first | rw [HU.out] | rw [HV.out]))
  all_goals
    first
      | exact absurd E2.out (by assumption)
      | exact absurd E3.out (by assumption)
      | (exfalso
         have := E4.out (by assumption) (by assumption)
         omega)
      | (refine (awake_any _ Ht.out).mono ?_
         rintro e w1 ⟨rfl, hb1⟩
         go_wp2_with fail
         go_ret
         exact ⟨rfl, hb1⟩)
      | (have hgt := E5.out (by omega)
         subst hgt
         go_wp2_with (first
           | (go_at_call 16; refine (Neg_any _ _).mono ?_; rintro e w' ⟨rfl, rfl⟩; rw [N2.out])
           | (go_at_call 25; refine (Compare_any _ _ _).mono ?_; rintro e w' ⟨rfl, rfl⟩; first | rw [Cnz.out] | rw [Cxz.out])
           | (go_at_call 13; refine (awake_any _ Ht.out).mono ?_; rintro e w1 ⟨rfl, hb1⟩))
         go_ret
         exact ⟨rfl, hb1⟩)
end Go.Proofs.YthpdndkfdiphmaaDoor
