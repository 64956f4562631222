/- tree.light, sized, SizeExpr, SizeStmts. -/
import Derived.Test.YthcboallnbaimaaGreatDoorCountS
namespace Go.Proofs.YthcboallnbaimaaGreatDoor
open Go Go.RowKit
theorem light_any (n : Int) (w : World) : Calls Tryz.prog 81 #[.int .i64 n] w fun o w' => o = .returned (.bool (decide (n ≤ 20000))) ∧ w = w' := by
  go_enter Tryz.func81, Tryz.ntmps81
  go_wp2
  go_ret
  exact ⟨rfl, rfl⟩
def sizedN (n : Int) : Int := if n ≤ 20000 then n else 0
theorem sized_any (n : Int) (w : World) : Calls Tryz.prog 62 #[.int .i64 n] w fun o w' => o = .returned (.int .i64 (sizedN n)) ∧ w = w' := by
  by_cases h : n ≤ 20000
  · have hd : decide (n ≤ 20000) = true := decide_eq_true h
    have hL := light_any n w
    rw [hd] at hL
    have e : sizedN n = n := if_pos h
    have HL := Lib.hid hL
    clear hL
    go_enter Tryz.func62, Tryz.ntmps62
    go_wp2_with fail
    refine HL.out.mono ?_
    rintro o w1 ⟨rfl, rfl⟩
    go_wp2_with fail
    go_ret
    exact ⟨by rw [e]; rfl, rfl⟩
  · have hd : decide (n ≤ 20000) = false := decide_eq_false h
    have hL := light_any n w
    rw [hd] at hL
    have e : sizedN n = 0 := if_neg h
    have HL := Lib.hid hL
    clear hL
    go_enter Tryz.func62, Tryz.ntmps62
    go_wp2_with fail
    refine HL.out.mono ?_
    rintro o w1 ⟨rfl, rfl⟩
    go_wp2_with fail
    go_ret
    exact ⟨by rw [e]; rfl, rfl⟩
set_option maxRecDepth 1000000 in
theorem sizeExpr_any (w : World) (e : ExprV) (h : RdX w.heap.size w e) :
    Calls Tryz.prog 28 #[e.val] w fun o w' => o = .returned (.int .i64 (sizedN (cntN e.pre.length 0))) ∧ Below w.heap.size w w' := by
  have hb := fun v => (Below.refl _ w).alloc (Nat.le_refl _) (.cells v 34)
  have hC := countExpr_any (w.alloc (.cells #[.int .u8 e.kind, .int .u8 e.op, .int .u32 e.value, .int .i64 e.width, .string e.name, .slice e.sp.at_ e.subs.length e.sp.cap] 34)) e 0 ((h.stays (hb _)).more (by simp)) (by omega)
  simp only [ExprV.val, Sp.val] at hC ⊢
  have HC := Lib.hid hC
  have HB := Lib.hid (hb #[.int .u8 e.kind, .int .u8 e.op, .int .u32 e.value, .int .i64 e.width, .string e.name, .slice e.sp.at_ e.subs.length e.sp.cap])
  clear hC hb
  go_enter Tryz.func28, Tryz.ntmps28
  go_wp2_with fail
  refine HC.out.mono ?_
  rintro o w1 ⟨rfl, hb1⟩
  go_wp2_with fail
  refine (sized_any _ _).mono ?_
  rintro o w2 ⟨rfl, rfl⟩
  go_wp2_with fail
  go_ret
  exact ⟨rfl, HB.out.trans (hb1.mono HB.out.size)⟩
set_option maxRecDepth 1000000 in
theorem sizeStmts_any (w : World) (sp : Sp) (ll : List StmtV) (h : RdTs w.heap.size w sp ll) :
    Calls Tryz.prog 29 #[sp.val ll.length] w fun o w' => o = .returned (.int .i64 (sizedN (cntT (ll.flatMap StmtV.pre) 0))) ∧ Below w.heap.size w w' := by
  have hC := countStmts_any w sp ll 0 h (by omega)
  simp only [Sp.val] at hC ⊢
  have HC := Lib.hid hC
  clear hC
  go_enter Tryz.func29, Tryz.ntmps29
  go_wp2_with fail
  refine HC.out.mono ?_
  rintro o w1 ⟨rfl, hb1⟩
  go_wp2_with fail
  refine (sized_any _ _).mono ?_
  rintro o w2 ⟨rfl, rfl⟩
  go_wp2_with fail
  go_ret
  exact ⟨rfl, hb1⟩
end Go.Proofs.YthcboallnbaimaaGreatDoor
