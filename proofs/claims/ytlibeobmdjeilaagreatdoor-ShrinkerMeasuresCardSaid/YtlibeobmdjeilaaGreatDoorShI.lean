/- The reference's measures: salvorref43.Compare. -/
import Derived.Test.YtlibeobmdjeilaaGreatDoorShH
set_option linter.all false
namespace Go.Proofs.YtlibeobmdjeilaaGreatDoor
open Go Go.RowKit Go.WideShapes Go.ChangeShapes
theorem orI_left {x y z : Int} (h : x ≠ 0) : orI x y z = x := if_pos h
theorem orI_mid {y z : Int} (h : y ≠ 0) : orI 0 y z = y := by unfold orI; rw [if_neg (by decide), if_pos h]
theorem orI_right {z : Int} : orI 0 0 z = z := by unfold orI; rw [if_neg (by decide), if_neg (by decide)]
/-- What the round i does: less, more, on. -/
theorem cmpI_three (x y : Int) : (decide (x < y) = true ∧ cmpI x y = -1) ∨ (decide (x < y) = false ∧ decide (y < x) = true ∧ cmpI x y = 1) ∨ (decide (x < y) = false ∧ decide (y < x) = false ∧ cmpI x y = 0) := by
  unfold cmpI
  by_cases h1 : x < y
  · exact .inl ⟨decide_eq_true h1, if_pos h1⟩
  · by_cases h2 : y < x
    · exact .inr (.inl ⟨decide_eq_false h1, decide_eq_true h2, by rw [if_neg h1, if_pos h2]⟩)
    · exact .inr (.inr ⟨decide_eq_false h1, decide_eq_false h2, by rw [if_neg h1, if_neg h2]⟩)
set_option maxRecDepth 1000000 in
set_option maxHeartbeats 4000000 in
theorem refCmp_any (a0 a1 a2 b0 b1 b2 : Int) (w : World) : Calls Tryz.prog 52 #[.agg #[.int .i64 a0, .int .i64 a1, .int .i64 a2], .agg #[.int .i64 b0, .int .i64 b1, .int .i64 b2]] w fun o w' => o = .returned (.int .i64 (cmpM (a0, a1, a2) (b0, b1, b2))) ∧ Below w.heap.size w w' := by
  go_enter Tryz.func52, Tryz.ntmps52
  go_wp2_with fail
  obtain ⟨w1, hw1⟩ : ∃ w1, (w.alloc (.cells #[.int .i64 a0, .int .i64 a1, .int .i64 a2] 97)).alloc (.cells #[.int .i64 b0, .int .i64 b1, .int .i64 b2] 97) = w1 := ⟨_, rfl⟩
  obtain ⟨hb1, hz1, r0, r1⟩ := two_rows hw1
  rw [hw1]
  have HR := Lib.hid (fun (W : World) (hb : Below w1.heap.size w1 W) => And.intro (three_cells ((hb.block _ (Array.getElem?_eq_some_iff.1 r0).1).trans r0)) (three_cells ((hb.block _ (Array.getElem?_eq_some_iff.1 r1).1).trans r1)))
  have HB1 := Lib.hid hb1
  clear hw1 hz1 r0 r1 hb1
  have HC : Hid (cmpM (a0, a1, a2) (b0, b1, b2) = orI (cmpI a0 b0) (cmpI a1 b1) (cmpI a2 b2)) := Lib.hid rfl
  go_loopw [5] (fun s5 wr => ∃ k : Nat, s5 = .int .i64 k ∧ (k = 0 ∨ (k = 1 ∧ cmpI a0 b0 = 0) ∨ (k = 2 ∧ cmpI a0 b0 = 0 ∧ cmpI a1 b1 = 0) ∨ (k = 3 ∧ cmpI a0 b0 = 0 ∧ cmpI a1 b1 = 0 ∧ cmpI a2 b2 = 0)) ∧ Below w1.heap.size w1 wr) (fun s5 _ => 3 - (intOf s5).toNat)
  case atStart => exact ⟨0, rfl, .inl rfl, Below.refl _ _⟩
  case round =>
    obtain ⟨k, rfl, hk, hb⟩ := hrel
    obtain ⟨⟨x0, x1, x2⟩, ⟨y0, y1, y2⟩⟩ := HR.out _ hb
    have HB := Lib.hid hb
    clear hb
    rcases hk with rfl | ⟨rfl, e0⟩ | ⟨rfl, e0, e1⟩ | ⟨rfl, e0, e1, e2⟩
    · rw [show ((0 : Nat) : Int) = 0 from rfl]
      rcases cmpI_three a0 b0 with ⟨h1, e⟩ | ⟨h1, h2, e⟩ | ⟨h1, h2, e⟩
      · have HE := Lib.hid (show cmpM (a0, a1, a2) (b0, b1, b2) = -1 from HC.out.trans (by rw [e]; exact orI_left (by decide)))
        clear e
        go_wp2_with fail
        go_still_tail 6, (by kernel_rfl)
        change wpList _ _ _ _ _ wr.drew
        have HB' : Below w1.heap.size w1 wr.drew := HB.out.trans (((Below.refl _ _).drew).mono HB.out.size)
        obtain ⟨⟨p0, p1, p2⟩, ⟨p3, p4, p5⟩⟩ := HR.out _ HB'
        generalize wr.drew = wd at *
        have Hwd := Lib.hid HB'
        clear HB'
        go_wp2_with fail
        go_ret
        exact ⟨by rw [HE.out]; rfl, HB1.out.trans (Hwd.out.mono HB1.out.size)⟩
      · have HE := Lib.hid (show cmpM (a0, a1, a2) (b0, b1, b2) = 1 from HC.out.trans (by rw [e]; exact orI_left (by decide)))
        clear e
        go_wp2_with fail
        go_still_tail 6, (by kernel_rfl)
        change wpList _ _ _ _ _ wr.drew
        have HB' : Below w1.heap.size w1 wr.drew := HB.out.trans (((Below.refl _ _).drew).mono HB.out.size)
        obtain ⟨⟨p0, p1, p2⟩, ⟨p3, p4, p5⟩⟩ := HR.out _ HB'
        generalize wr.drew = wd at *
        have Hwd := Lib.hid HB'
        clear HB'
        go_wp2_with fail
        go_still_tail 6, (by kernel_rfl)
        change wpList _ _ _ _ _ wd.drew
        have Hwd' : Below w1.heap.size w1 wd.drew := Hwd.out.trans (((Below.refl _ _).drew).mono Hwd.out.size)
        obtain ⟨⟨q0, q1, q2⟩, ⟨q3, q4, q5⟩⟩ := HR.out _ Hwd'
        generalize wd.drew = we at *
        have Hwe := Lib.hid Hwd'
        clear Hwd'
        go_wp2_with fail
        go_ret
        exact ⟨by rw [HE.out]; rfl, HB1.out.trans (Hwe.out.mono HB1.out.size)⟩
      · have HE := Lib.hid e
        clear e
        go_wp2_with fail
        go_still_tail 6, (by kernel_rfl)
        change wpList _ _ _ _ _ wr.drew
        have HB' : Below w1.heap.size w1 wr.drew := HB.out.trans (((Below.refl _ _).drew).mono HB.out.size)
        obtain ⟨⟨p0, p1, p2⟩, ⟨p3, p4, p5⟩⟩ := HR.out _ HB'
        generalize wr.drew = wd at *
        have Hwd := Lib.hid HB'
        clear HB'
        go_wp2_with fail
        go_still_tail 6, (by kernel_rfl)
        change wpList _ _ _ _ _ wd.drew
        have Hwd' : Below w1.heap.size w1 wd.drew := Hwd.out.trans (((Below.refl _ _).drew).mono Hwd.out.size)
        obtain ⟨⟨q0, q1, q2⟩, ⟨q3, q4, q5⟩⟩ := HR.out _ Hwd'
        generalize wd.drew = we at *
        have Hwe := Lib.hid Hwd'
        clear Hwd'
        go_wp2_with fail
        go_roundw
        case rel => exact ⟨1, rfl, .inr (.inl ⟨rfl, HE.out⟩), Hwe.out⟩
        case measure => simp [intOf]
    · rw [show ((1 : Nat) : Int) = 1 from rfl]
      rcases cmpI_three a1 b1 with ⟨h1, e⟩ | ⟨h1, h2, e⟩ | ⟨h1, h2, e⟩
      · have HE := Lib.hid (show cmpM (a0, a1, a2) (b0, b1, b2) = -1 from HC.out.trans (by rw [e0, e]; exact orI_mid (by decide)))
        clear e e0
        go_wp2_with fail
        go_still_tail 6, (by kernel_rfl)
        change wpList _ _ _ _ _ wr.drew
        have HB' : Below w1.heap.size w1 wr.drew := HB.out.trans (((Below.refl _ _).drew).mono HB.out.size)
        obtain ⟨⟨p0, p1, p2⟩, ⟨p3, p4, p5⟩⟩ := HR.out _ HB'
        generalize wr.drew = wd at *
        have Hwd := Lib.hid HB'
        clear HB'
        go_wp2_with fail
        go_ret
        exact ⟨by rw [HE.out]; rfl, HB1.out.trans (Hwd.out.mono HB1.out.size)⟩
      · have HE := Lib.hid (show cmpM (a0, a1, a2) (b0, b1, b2) = 1 from HC.out.trans (by rw [e0, e]; exact orI_mid (by decide)))
        clear e e0
        go_wp2_with fail
        go_still_tail 6, (by kernel_rfl)
        change wpList _ _ _ _ _ wr.drew
        have HB' : Below w1.heap.size w1 wr.drew := HB.out.trans (((Below.refl _ _).drew).mono HB.out.size)
        obtain ⟨⟨p0, p1, p2⟩, ⟨p3, p4, p5⟩⟩ := HR.out _ HB'
        generalize wr.drew = wd at *
        have Hwd := Lib.hid HB'
        clear HB'
        go_wp2_with fail
        go_still_tail 6, (by kernel_rfl)
        change wpList _ _ _ _ _ wd.drew
        have Hwd' : Below w1.heap.size w1 wd.drew := Hwd.out.trans (((Below.refl _ _).drew).mono Hwd.out.size)
        obtain ⟨⟨q0, q1, q2⟩, ⟨q3, q4, q5⟩⟩ := HR.out _ Hwd'
        generalize wd.drew = we at *
        have Hwe := Lib.hid Hwd'
        clear Hwd'
        go_wp2_with fail
        go_ret
        exact ⟨by rw [HE.out]; rfl, HB1.out.trans (Hwe.out.mono HB1.out.size)⟩
      · have HE := Lib.hid e
        have HE0 := Lib.hid e0
        clear e e0
        go_wp2_with fail
        go_still_tail 6, (by kernel_rfl)
        change wpList _ _ _ _ _ wr.drew
        have HB' : Below w1.heap.size w1 wr.drew := HB.out.trans (((Below.refl _ _).drew).mono HB.out.size)
        obtain ⟨⟨p0, p1, p2⟩, ⟨p3, p4, p5⟩⟩ := HR.out _ HB'
        generalize wr.drew = wd at *
        have Hwd := Lib.hid HB'
        clear HB'
        go_wp2_with fail
        go_still_tail 6, (by kernel_rfl)
        change wpList _ _ _ _ _ wd.drew
        have Hwd' : Below w1.heap.size w1 wd.drew := Hwd.out.trans (((Below.refl _ _).drew).mono Hwd.out.size)
        obtain ⟨⟨q0, q1, q2⟩, ⟨q3, q4, q5⟩⟩ := HR.out _ Hwd'
        generalize wd.drew = we at *
        have Hwe := Lib.hid Hwd'
        clear Hwd'
        go_wp2_with fail
        go_roundw
        case rel => exact ⟨2, rfl, .inr (.inr (.inl ⟨rfl, HE0.out, HE.out⟩)), Hwe.out⟩
        case measure => simp [intOf]
    · rw [show ((2 : Nat) : Int) = 2 from rfl]
      rcases cmpI_three a2 b2 with ⟨h1, e⟩ | ⟨h1, h2, e⟩ | ⟨h1, h2, e⟩
      · have HE := Lib.hid (show cmpM (a0, a1, a2) (b0, b1, b2) = -1 from HC.out.trans (by rw [e0, e1, e]; exact orI_right))
        clear e e0 e1
        go_wp2_with fail
        go_still_tail 6, (by kernel_rfl)
        change wpList _ _ _ _ _ wr.drew
        have HB' : Below w1.heap.size w1 wr.drew := HB.out.trans (((Below.refl _ _).drew).mono HB.out.size)
        obtain ⟨⟨p0, p1, p2⟩, ⟨p3, p4, p5⟩⟩ := HR.out _ HB'
        generalize wr.drew = wd at *
        have Hwd := Lib.hid HB'
        clear HB'
        go_wp2_with fail
        go_ret
        exact ⟨by rw [HE.out]; rfl, HB1.out.trans (Hwd.out.mono HB1.out.size)⟩
      · have HE := Lib.hid (show cmpM (a0, a1, a2) (b0, b1, b2) = 1 from HC.out.trans (by rw [e0, e1, e]; exact orI_right))
        clear e e0 e1
        go_wp2_with fail
        go_still_tail 6, (by kernel_rfl)
        change wpList _ _ _ _ _ wr.drew
        have HB' : Below w1.heap.size w1 wr.drew := HB.out.trans (((Below.refl _ _).drew).mono HB.out.size)
        obtain ⟨⟨p0, p1, p2⟩, ⟨p3, p4, p5⟩⟩ := HR.out _ HB'
        generalize wr.drew = wd at *
        have Hwd := Lib.hid HB'
        clear HB'
        go_wp2_with fail
        go_still_tail 6, (by kernel_rfl)
        change wpList _ _ _ _ _ wd.drew
        have Hwd' : Below w1.heap.size w1 wd.drew := Hwd.out.trans (((Below.refl _ _).drew).mono Hwd.out.size)
        obtain ⟨⟨q0, q1, q2⟩, ⟨q3, q4, q5⟩⟩ := HR.out _ Hwd'
        generalize wd.drew = we at *
        have Hwe := Lib.hid Hwd'
        clear Hwd'
        go_wp2_with fail
        go_ret
        exact ⟨by rw [HE.out]; rfl, HB1.out.trans (Hwe.out.mono HB1.out.size)⟩
      · have HE := Lib.hid e
        have HE0 := Lib.hid e0
        have HE1 := Lib.hid e1
        clear e e0 e1
        go_wp2_with fail
        go_still_tail 6, (by kernel_rfl)
        change wpList _ _ _ _ _ wr.drew
        have HB' : Below w1.heap.size w1 wr.drew := HB.out.trans (((Below.refl _ _).drew).mono HB.out.size)
        obtain ⟨⟨p0, p1, p2⟩, ⟨p3, p4, p5⟩⟩ := HR.out _ HB'
        generalize wr.drew = wd at *
        have Hwd := Lib.hid HB'
        clear HB'
        go_wp2_with fail
        go_still_tail 6, (by kernel_rfl)
        change wpList _ _ _ _ _ wd.drew
        have Hwd' : Below w1.heap.size w1 wd.drew := Hwd.out.trans (((Below.refl _ _).drew).mono Hwd.out.size)
        obtain ⟨⟨q0, q1, q2⟩, ⟨q3, q4, q5⟩⟩ := HR.out _ Hwd'
        generalize wd.drew = we at *
        have Hwe := Lib.hid Hwd'
        clear Hwd'
        go_wp2_with fail
        go_roundw
        case rel => exact ⟨3, rfl, .inr (.inr (.inr ⟨rfl, HE0.out, HE1.out, HE.out⟩)), Hwe.out⟩
        case measure => simp [intOf]
    · rw [show ((3 : Nat) : Int) = 3 from rfl]
      have HE := Lib.hid (show cmpM (a0, a1, a2) (b0, b1, b2) = 0 from HC.out.trans (by rw [e0, e1, e2]; exact orI_right))
      clear e0 e1 e2
      go_wp2_with fail
      go_ret
      exact ⟨by rw [HE.out]; rfl, HB1.out.trans (HB.out.mono HB1.out.size)⟩
end Go.Proofs.YtlibeobmdjeilaaGreatDoor
