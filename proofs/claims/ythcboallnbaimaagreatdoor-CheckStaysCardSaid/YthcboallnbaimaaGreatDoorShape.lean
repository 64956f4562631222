/- check: shape. -/
import Derived.Test.YthcboallnbaimaaGreatDoorOps2
import Derived.Test.YthcboallnbaimaaGreatDoorExprs
import Derived.Deep.QuietTactic
import Derived.BigQuiet
import Derived.Deep.CutBlock
import Derived.Deep.CutRange
import Derived.Outline
namespace Go.Proofs.YthcboallnbaimaaGreatDoor
open Go Go.RowKit
theorem empty_iff (s : ByteArray) : s.toList.isEmpty = decide (s = ByteArray.empty) := by
  rw [ByteArray.toList_eq]
  by_cases h : s = ByteArray.empty
  · subst h; rfl
  · rw [decide_eq_false h]
    cases hs : s.data.toList with
    | nil =>
      refine absurd ?_ h
      have : s.data = #[] := Array.toList_inj.1 hs
      cases s
      simp at this
      rw [this]; rfl
    | cons a l => rfl
theorem ret_bool {a b : Bool} (h : a = b) : Ending.returned (.bool a) = .returned (.bool b) := by rw [h]
theorem drewN_below {B : Nat} {a w : World} (h : Below B a w) (n : Nat) : Below B a (w.drewN n) := h.trans ⟨rfl, rfl, rfl, Nat.le_refl _, fun _ _ => rfl⟩
/-- shape, over what it looks at. -/
def shapeF (k op v wd : Int) (ne : Bool) (n : Int) : Bool :=
  if k = 1 then (decide (op = 0) && ne && decide (n = 0))
  else if k = 2 then (decide (op = 0) && decide (v = 0) && decide (wd = 0) && decide (n = 0))
  else if k = 3 then (decide (op = 0) && decide (v = 0) && decide (wd = 0) && decide (n = 1))
  else if k = 4 then (decide (op = 0) && decide (v = 0) && decide (wd = 0) && ne && decide (n = 1))
  else if k = 5 then (opOk op && !opTwo op && decide (v = 0) && decide (wd = 0) && ne && decide (n = 1))
  else if k = 6 then (opTwo op && decide (v = 0) && decide (wd = 0) && ne && decide (n = 2))
  else if k = 7 then (decide (op = 0) && decide (v = 0) && decide (wd = 0) && ne && decide (n = 3))
  else if k = 8 then (decide (op = 0) && decide (v = 0) && ne && decide (n = 1))
  else false
theorem shapeF_eq (e : ExprV) : shapeB e = shapeF e.kind e.op e.value e.width e.name.toList.isEmpty e.subs.length := by
  unfold shapeB shapeF
  rw [empty_iff]
  have h0 : ∀ c : Nat, ((e.subs.length : Int) = (c : Int)) ↔ e.subs.length = c := fun c => by omega
  have e0 := h0 0
  have e1 := h0 1
  have e2 := h0 2
  have e3 := h0 3
  repeat' split
  all_goals first | rfl | (apply Bool.eq_iff_iff.2; simp [and_assoc]; done) | (apply Bool.eq_iff_iff.2; simp [and_assoc]; intros; omega)
set_option maxRecDepth 1000000 in
set_option maxHeartbeats 4000000 in
theorem shape_any (w : World) (e : ExprV) (oo : 0 ≤ e.op ∧ e.op ≤ 255) (kk : 0 ≤ e.kind ∧ e.kind ≤ 255) (hl : e.subs.length ≤ 2199023255552) : Calls Tryz.prog 109 #[e.val] w fun o w' => o = .returned (.bool (shapeB e)) ∧ Below w.heap.size w w' := by
  rw [shapeF_eq]
  simp only [ExprV.val, Sp.val]
  generalize e.subs.length = ln at *
  have hln : (0 : Int) ≤ (ln : Int) := by omega
  generalize e.name = nm at *
  generalize e.sp = sp at *
  generalize e.kind = k at *
  generalize e.op = op at *
  generalize e.value = v at *
  generalize e.width = wd at *
  have hsh : shapeF k op v wd nm.toList.isEmpty ln = shapeF k op v wd nm.toList.isEmpty ln := rfl
  conv at hsh => rhs; unfold shapeF
  generalize shapeF k op v wd nm.toList.isEmpty ln = res at *
  have HSH := Lib.hid hsh
  clear hsh
  have hb1 : Below w.heap.size w (w.alloc (.cells #[.int .u8 k, .int .u8 op, .int .u32 v, .int .i64 wd, .string nm, .slice sp.at_ ln sp.cap] 34)) := (Below.refl _ _).alloc (Nat.le_refl _) _
  have hB := World.alloc_heap_new w (.cells #[.int .u8 k, .int .u8 op, .int .u32 v, .int .i64 wd, .string nm, .slice sp.at_ ln sp.cap] 34)
  have HB1 := Lib.hid hb1
  have HB := Lib.hid hB
  clear hb1 hB
  go_enter Tryz.func109, Tryz.ntmps109
  go_upto_region 1 with (fail)
  generalize w.alloc (.cells #[.int .u8 k, .int .u8 op, .int .u32 v, .int .i64 wd, .string nm, .slice sp.at_ ln sp.cap] 34) = W2 at *
  obtain ⟨c0, c1, c2, c3, c4, c5⟩ := six_cells HB.out
  go_quiet (fail)
  rcases (show k = 1 ∨ k = 8 ∨ k = 2 ∨ k = 3 ∨ k = 4 ∨ k = 5 ∨ k = 6 ∨ k = 7 ∨ (k ≠ 1 ∧ k ≠ 8 ∧ k ≠ 2 ∧ k ≠ 3 ∧ k ≠ 4 ∧ k ≠ 5 ∧ k ≠ 6 ∧ k ≠ 7) by omega) with hkd | hkd | hkd | hkd | hkd | hkd | hkd | hkd | hkd
  case inl =>
    subst hkd
    go_wp2
    all_goals (go_ret; exact ⟨ret_bool (by rw [HSH.out]; simp_all <;> (apply Bool.eq_iff_iff.2; simp only [beq_iff_eq, decide_eq_true_eq]; try omega)), drewN_below HB1.out _⟩)
  case inr.inl =>
    subst hkd
    go_wp2
    all_goals (go_ret; exact ⟨ret_bool (by rw [HSH.out]; simp_all <;> (apply Bool.eq_iff_iff.2; simp only [beq_iff_eq, decide_eq_true_eq]; try omega)), drewN_below HB1.out _⟩)
  case inr.inr.inl =>
    subst hkd
    go_wp2
    all_goals (go_ret; exact ⟨ret_bool (by rw [HSH.out]; simp_all <;> (apply Bool.eq_iff_iff.2; simp only [beq_iff_eq, decide_eq_true_eq]; try omega)), drewN_below HB1.out _⟩)
  case inr.inr.inr.inl =>
    subst hkd
    go_wp2
    all_goals (go_ret; exact ⟨ret_bool (by rw [HSH.out]; simp_all <;> (apply Bool.eq_iff_iff.2; simp only [beq_iff_eq, decide_eq_true_eq]; try omega)), drewN_below HB1.out _⟩)
  case inr.inr.inr.inr.inl =>
    subst hkd
    go_wp2
    all_goals (go_ret; exact ⟨ret_bool (by rw [HSH.out]; simp_all <;> (apply Bool.eq_iff_iff.2; simp only [beq_iff_eq, decide_eq_true_eq]; try omega)), drewN_below HB1.out _⟩)
  case inr.inr.inr.inr.inr.inr.inr.inl =>
    subst hkd
    go_wp2
    all_goals (go_ret; exact ⟨ret_bool (by rw [HSH.out]; simp_all <;> (apply Bool.eq_iff_iff.2; simp only [beq_iff_eq, decide_eq_true_eq]; try omega)), drewN_below HB1.out _⟩)
  case inr.inr.inr.inr.inr.inr.inr.inr =>
    obtain ⟨h1, h8, h2, h3, h4, h5, h6, h7⟩ := hkd
    have g1 : (k == 1) = false := by simpa using h1
    have g2 : (k == 2) = false := by simpa using h2
    have g3 : (k == 3) = false := by simpa using h3
    have g4 : (k == 4) = false := by simpa using h4
    have g5 : (k == 5) = false := by simpa using h5
    have g6 : (k == 6) = false := by simpa using h6
    have g7 : (k == 7) = false := by simpa using h7
    have g8 : (k == 8) = false := by simpa using h8
    have hres : res = false := by rw [HSH.out]; simp [*]
    clear h1 h2 h3 h4 h5 h6 h7 h8
    subst hres
    go_wp2
    go_ret
    exact ⟨rfl, drewN_below HB1.out _⟩
  case inr.inr.inr.inr.inr.inl =>
    subst hkd
    obtain ⟨ko, hk⟩ : ∃ ko : Nat, op = (ko : Int) := ⟨op.toNat, by omega⟩
    subst hk
    have HN := Lib.hid (fun W => name_any ko (by omega) W)
    have HT := Lib.hid (fun W => two_any ko (by omega) W)
    have hE := opText_empty ko
    generalize opText ko = s at *
    cases ho : opOk (ko : Int) with
    | false =>
      rw [ho] at hE
      have hres : res = false := by rw [HSH.out, ho]; rfl
      subst hres
      simp only [Bool.not_false] at hE
      go_wp2_with (first
        | (go_at_call 137; refine (HN.out _).mono ?_; rintro o7 w7 ⟨rfl, hb7⟩; have HX7 := Lib.hid (Below.trans (drewN_below (Below.refl _ W2) nq) hb7); obtain ⟨z0, z1, z2, z3, z4, z5⟩ := six_cells ((HX7.out.block _ (Array.getElem?_eq_some_iff.1 HB.out).1).trans HB.out); clear hb7)
        | fail)
      all_goals (go_ret; exact ⟨rfl, HB1.out.trans (HX7.out.mono HB1.out.size)⟩)
    | true =>
      rw [ho] at hE
      simp only [Bool.not_true] at hE
      have hE' : (!s.toList.isEmpty) = true := by rw [hE]; rfl
      cases ht : opTwo (ko : Int)
      all_goals
        simp only [ht] at HT
        have HSH2 := Lib.hid (HSH.out.trans (by rw [ho, ht]))
        clear HSH
        go_wp2_with (first
          | (go_at_call 137; refine (HN.out _).mono ?_; rintro o7 w7 ⟨rfl, hb7⟩; have HX7 := Lib.hid (Below.trans (drewN_below (Below.refl _ W2) nq) hb7); obtain ⟨z0, z1, z2, z3, z4, z5⟩ := six_cells ((HX7.out.block _ (Array.getElem?_eq_some_iff.1 HB.out).1).trans HB.out); clear hb7)
          | (go_at_call 139; refine (HT.out _).mono ?_; rintro o8 w8 ⟨rfl, hb8⟩; have HX8 := Lib.hid (Below.trans HX7.out (hb8.mono HX7.out.size)); obtain ⟨y0, y1, y2, y3, y4, y5⟩ := six_cells ((HX8.out.block _ (Array.getElem?_eq_some_iff.1 HB.out).1).trans HB.out); clear hb8 z1 z5)
          | fail)
        all_goals (go_ret; exact ⟨ret_bool (by rw [HSH2.out]; simp_all <;> (apply Bool.eq_iff_iff.2; simp only [beq_iff_eq, decide_eq_true_eq]; try omega)), HB1.out.trans (HX8.out.mono HB1.out.size)⟩)
  case inr.inr.inr.inr.inr.inr.inl =>
    subst hkd
    obtain ⟨ko, hk⟩ : ∃ ko : Nat, op = (ko : Int) := ⟨op.toNat, by omega⟩
    subst hk
    have HT := Lib.hid (fun W => two_any ko (by omega) W)
    cases ht : opTwo (ko : Int)
    all_goals
      simp only [ht] at HT
      have HSH2 := Lib.hid (HSH.out.trans (by rw [ht]))
      clear HSH
      go_wp2_with (first
        | (go_at_call 139; refine (HT.out _).mono ?_; rintro o8 w8 ⟨rfl, hb8⟩; have HX8 := Lib.hid (Below.trans (drewN_below (Below.refl _ W2) nq) hb8); obtain ⟨y0, y1, y2, y3, y4, y5⟩ := six_cells ((HX8.out.block _ (Array.getElem?_eq_some_iff.1 HB.out).1).trans HB.out); clear hb8)
        | fail)
      all_goals (go_ret; exact ⟨ret_bool (by rw [HSH2.out]; simp_all <;> (apply Bool.eq_iff_iff.2; simp only [beq_iff_eq, decide_eq_true_eq]; try omega)), HB1.out.trans (HX8.out.mono HB1.out.size)⟩)
end Go.Proofs.YthcboallnbaimaaGreatDoor
