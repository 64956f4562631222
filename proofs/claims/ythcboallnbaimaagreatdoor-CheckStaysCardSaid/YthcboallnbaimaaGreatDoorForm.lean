/- check: form. -/
import Derived.Test.YthcboallnbaimaaGreatDoorShape
namespace Go.Proofs.YthcboallnbaimaaGreatDoor
open Go Go.RowKit
/-- form, over what it looks at. -/
def formF (k bd : Int) (ne : Bool) (tn en ln : Int) : Bool :=
  if k = 1 then (decide (bd = 0) && decide (tn = 0) && decide (en = 0) && decide (ln = 1))
  else if k = 2 then (decide (bd = 0) && decide (tn = 0) && decide (en = 0) && decide (ln = 2))
  else if k = 3 then (ne && decide (bd = 0) && decide (tn = 0) && decide (en = 0) && decide (ln = 2))
  else if k = 4 then (ne && decide (bd = 0) && decide (tn = 0) && decide (en = 0) && decide (ln = 0))
  else if k = 5 then (ne && decide (bd = 0) && decide (tn = 0) && decide (en = 0) && decide (ln = 0))
  else if k = 6 then (ne && decide (bd = 0) && decide (ln = 1))
  else if k = 7 then (ne && decide (en = 0) && decide (ln = 1))
  else if k = 8 then (decide (bd = 0) && decide (tn = 0) && decide (en = 0))
  else false
theorem formF_eq (s : StmtV) : formB s = formF s.kind s.bound s.name.toList.isEmpty s.thn.length s.els.length s.exprs.length := by
  unfold formB formF
  rw [empty_iff]
  by_cases h4 : s.kind = 4
  · simp only [h4]; apply Bool.eq_iff_iff.2; simp [and_assoc]
  by_cases h5 : s.kind = 5
  · simp only [h5]; apply Bool.eq_iff_iff.2; simp [and_assoc]
  simp only [h4, h5, or_self, if_false]
  repeat' split
  all_goals first | rfl | (apply Bool.eq_iff_iff.2; simp [and_assoc]; done) | (apply Bool.eq_iff_iff.2; simp [and_assoc]; intros; omega)
set_option maxRecDepth 1000000 in
set_option maxHeartbeats 4000000 in
theorem form_any (w : World) (s : StmtV) (kk : 0 ≤ s.kind ∧ s.kind ≤ 255) (hl : s.exprs.length ≤ 2199023255552) (hl2 : s.thn.length ≤ 2199023255552) (hl3 : s.els.length ≤ 2199023255552) : Calls Tryz.prog 148 #[s.val] w fun o w' => o = .returned (.bool (formB s)) ∧ Below w.heap.size w w' := by
  rw [formF_eq]
  simp only [StmtV.val, Sp.val]
  generalize s.exprs.length = ln at *
  generalize s.thn.length = tn at *
  generalize s.els.length = en at *
  have hln : (0 : Int) ≤ (ln : Int) := by omega
  have htn : (0 : Int) ≤ (tn : Int) := by omega
  have hen : (0 : Int) ≤ (en : Int) := by omega
  generalize s.name = nm at *
  generalize s.es = es at *
  generalize s.ts = ts at *
  generalize s.os = os at *
  generalize s.kind = k at *
  generalize s.bound = bd at *
  have hsh : formF k bd nm.toList.isEmpty tn en ln = formF k bd nm.toList.isEmpty tn en ln := rfl
  conv at hsh => rhs; unfold formF
  generalize formF k bd nm.toList.isEmpty tn en ln = res at *
  have HSH := Lib.hid hsh
  clear hsh
  have hb1 : Below w.heap.size w (w.alloc (.cells #[.int .u8 k, .string nm, .slice es.at_ ln es.cap, .int .i64 bd, .slice ts.at_ tn ts.cap, .slice os.at_ en os.cap] 49)) := (Below.refl _ _).alloc (Nat.le_refl _) _
  have hB := World.alloc_heap_new w (.cells #[.int .u8 k, .string nm, .slice es.at_ ln es.cap, .int .i64 bd, .slice ts.at_ tn ts.cap, .slice os.at_ en os.cap] 49)
  have HB1 := Lib.hid hb1
  have HB := Lib.hid hB
  clear hb1 hB
  go_enter Tryz.func148, Tryz.ntmps148
  go_upto_region 1 with (fail)
  generalize w.alloc (.cells #[.int .u8 k, .string nm, .slice es.at_ ln es.cap, .int .i64 bd, .slice ts.at_ tn ts.cap, .slice os.at_ en os.cap] 49) = W2 at *
  obtain ⟨c0, c1, c2, c3, c4, c5⟩ := six_cells HB.out
  go_quiet (fail)
  rcases (show k = 1 ∨ k = 8 ∨ k = 2 ∨ k = 3 ∨ k = 4 ∨ k = 5 ∨ k = 6 ∨ k = 7 ∨ (k ≠ 1 ∧ k ≠ 8 ∧ k ≠ 2 ∧ k ≠ 3 ∧ k ≠ 4 ∧ k ≠ 5 ∧ k ≠ 6 ∧ k ≠ 7) by omega) with hkd | hkd | hkd | hkd | hkd | hkd | hkd | hkd | hkd
  case inr.inr.inr.inr.inr.inr.inr.inr =>
    obtain ⟨h1, h8, h2, h3, h4, h5, h6, h7⟩ := hkd
    have g1 : (k == 1) = false := by simpa using h1
    have g2 : (k == 2) = false := by simpa using h2
    have g3 : (k == 3) = false := by simpa using h3
    have g4 : (k == 4) = false := by simpa using h4
    have g5 : (k == 5) = false := by simpa using h5
    have g6 : (k == 6) = false := by simpa using h6
    have g7 : (k == 7) = false := by simpa using h7
    have g8 : (k == 8) = false := by simpa using h8
    have hres : res = false := by rw [HSH.out]; simp [*]
    clear h1 h2 h3 h4 h5 h6 h7 h8
    subst hres
    go_wp2
    go_ret
    exact ⟨rfl, drewN_below HB1.out _⟩
  case inr.inl =>
    subst hkd
    have hself : ((ln : Int) == (ln : Int)) = true := by simp
    go_wp2
    go_quiet (fail)
    go_wp2
    all_goals (go_ret; exact ⟨ret_bool (by rw [HSH.out]; simp_all <;> (apply Bool.eq_iff_iff.2; simp only [beq_iff_eq, decide_eq_true_eq]; try omega)), drewN_below HB1.out _⟩)
  all_goals
    subst hkd
    go_wp2
    all_goals (go_ret; exact ⟨ret_bool (by rw [HSH.out]; simp_all <;> (apply Bool.eq_iff_iff.2; simp only [beq_iff_eq, decide_eq_true_eq]; try omega)), drewN_below HB1.out _⟩)
end Go.Proofs.YthcboallnbaimaaGreatDoor
