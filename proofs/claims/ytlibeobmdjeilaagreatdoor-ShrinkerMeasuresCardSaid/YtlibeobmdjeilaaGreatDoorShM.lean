/- The law ShrinkerMeasures. -/
import Derived.Test.YtlibeobmdjeilaaGreatDoorShJ
import Derived.Test.YtlibeobmdjeilaaGreatDoorShO
import Derived.ChangeKeysEq
set_option linter.all false
namespace Go.Proofs.YtlibeobmdjeilaaGreatDoor
open Go Go.RowKit Go.WideShapes Go.ChangeShapes Go.Proofs.YtlibeobmdjeilaaGreatDoor.Ex
theorem wp_codeM {P : Program} {Q : Exit → Act → World → Prop} {a : Act} {w : World} {C C' : Code} (h : C = C') (h2 : C'.wp P Q a w) : C.wp P Q a w := by subst h; exact h2
theorem eqA_run (x y z : Int) (W : World) : (binOp .eql 97 (.agg #[.int .i64 x, .int .i64 y, .int .i64 z]) (.agg #[.int .i64 x, .int .i64 y, .int .i64 z])).run Tryz.prog W = .ok (.bool true) W := by
  obtain ⟨i, hi, -⟩ := intInfoS
  rw [run_eql_struct, show (10000 : Nat) = 9999 + 1 from rfl, run_equalIn_array W 9999 _ _ Tryz.underlying97 hi, cellsOfIS, show List.range 3 = [0, 1, 2] from rfl]
  simp [Op.eqItems, go_sem]
set_option maxRecDepth 10000000 in
set_option maxHeartbeats 64000000 in
theorem measures_any (w : World) (hw : MxRow w) (A1 A3 : Option Addr) (k1 k3 : Nat) (xs : List Int) (pt : Int) (bs : List Bool) (h1 : RdG (.int .u32) w (.slice A1 xs.length k1) xs) (h3 : RdG .bool w (.slice A3 bs.length k3) bs) (hx : ∀ x ∈ xs, 0 ≤ x ∧ x ≤ 4294967295)
    (C1 C3 : Option Addr) (l1 l3 : Nat) (ys : List Int) (qt : Int) (cs : List Bool) (g1 : RdG (.int .u32) w (.slice C1 ys.length l1) ys) (g3 : RdG .bool w (.slice C3 cs.length l3) cs) (gy : ∀ x ∈ ys, 0 ≤ x ∧ x ≤ 4294967295) (a0 a1 a2 b0 b1 b2 : Int) :
    Calls Tryz.prog 9 #[.agg #[.slice A1 xs.length k1, .int .i64 pt, .slice A3 bs.length k3], .agg #[.slice C1 ys.length l1, .int .i64 qt, .slice C3 cs.length l3], .agg #[.int .i64 a0, .int .i64 a1, .int .i64 a2], .agg #[.int .i64 b0, .int .i64 b1, .int .i64 b2]] w fun o w' => o = .returned (.bool true) ∧ Below w.heap.size w w' := by
  obtain ⟨w1, hw1⟩ : ∃ w1, (((w.alloc (.cells #[.slice A1 xs.length k1, .int .i64 pt, .slice A3 bs.length k3] 93)).alloc (.cells #[.slice C1 ys.length l1, .int .i64 qt, .slice C3 cs.length l3] 93)).alloc (.cells #[.int .i64 a0, .int .i64 a1, .int .i64 a2] 95)).alloc (.cells #[.int .i64 b0, .int .i64 b1, .int .i64 b2] 95) = w1 := ⟨_, rfl⟩
  obtain ⟨hb1, hz1, r0, r1, r2, r3⟩ := four_rows hw1
  have HA := Lib.hid (fun (W : World) (hb : Below w.heap.size w W) => awake43_any W (MxRow.on hw hb))
  have HB1 := Lib.hid hb1
  have HX1 := Lib.hid (fun (W : World) (hb : Below w.heap.size w W) => h1.on hb)
  have HX3 := Lib.hid (fun (W : World) (hb : Below w.heap.size w W) => h3.on hb)
  have HY1 := Lib.hid (fun (W : World) (hb : Below w.heap.size w W) => g1.on hb)
  have HY3 := Lib.hid (fun (W : World) (hb : Below w.heap.size w W) => g3.on hb)
  have HX := Lib.hid hx
  have HY := Lib.hid gy
  have HR := Lib.hid (And.intro r0 (And.intro r1 (And.intro r2 r3)))
  obtain ⟨x0, x1, x2⟩ := three_cells r0
  obtain ⟨y0, y1, y2⟩ := three_cells r1
  clear hb1 hz1 r0 r1 r2 r3 hw h1 h3 g1 g3 hx gy
  go_enter Tryz.func9, Tryz.ntmps9
  go_upto_region 1 with fail
  clear hw1
  by_cases ld1 : 100 < xs.length
  · have d1 : decide ((100 : Int) < (xs.length : Int)) = true := decide_eq_true (by omega)
    go_wp2_with (first | (go_at_call 46; refine (HA.out _ HB1.out).mono ?_; rintro o w9 ⟨rfl, hb9⟩) | fail)
    go_ret
    exact ⟨rfl, HB1.out.trans (hb9.mono HB1.out.size)⟩
  have d1 : decide ((100 : Int) < (xs.length : Int)) = false := decide_eq_false (by omega)
  by_cases ld3 : 100 < bs.length
  · have d3 : decide ((100 : Int) < (bs.length : Int)) = true := decide_eq_true (by omega)
    go_wp2_with (first | (go_at_call 46; refine (HA.out _ HB1.out).mono ?_; rintro o w9 ⟨rfl, hb9⟩) | fail)
    go_ret
    exact ⟨rfl, HB1.out.trans (hb9.mono HB1.out.size)⟩
  have d3 : decide ((100 : Int) < (bs.length : Int)) = false := decide_eq_false (by omega)
  by_cases le1 : 100 < ys.length
  · have e1 : decide ((100 : Int) < (ys.length : Int)) = true := decide_eq_true (by omega)
    go_wp2_with (first | (go_at_call 46; refine (HA.out _ HB1.out).mono ?_; rintro o w9 ⟨rfl, hb9⟩) | fail)
    go_ret
    exact ⟨rfl, HB1.out.trans (hb9.mono HB1.out.size)⟩
  have e1 : decide ((100 : Int) < (ys.length : Int)) = false := decide_eq_false (by omega)
  by_cases le3 : 100 < cs.length
  · have e3 : decide ((100 : Int) < (cs.length : Int)) = true := decide_eq_true (by omega)
    go_wp2_with (first | (go_at_call 46; refine (HA.out _ HB1.out).mono ?_; rintro o w9 ⟨rfl, hb9⟩) | fail)
    go_ret
    exact ⟨rfl, HB1.out.trans (hb9.mono HB1.out.size)⟩
  have e3 : decide ((100 : Int) < (cs.length : Int)) = false := decide_eq_false (by omega)
  have HL := Lib.hid (And.intro ld1 (And.intro ld3 (And.intro le1 le3)))
  clear ld1 ld3 le1 le3
  go_upto_region 3 with fail
  clear d1 d3 e1 e3 x0 x1 x2 y0 y1 y2
  refine Code.wp_mono ?_ (wp_codeM (C' := .region 3 opsM3 true) (by kernel_rfl) (regM3 rfl (w.heap.size) (w.heap.size + 1) (.slice A1 xs.length k1) (.int .i64 pt) (.slice A3 bs.length k3) (.slice C1 ys.length l1) (.int .i64 qt) (.slice C3 cs.length l3) (.int .i64 pt) (.int .i64 (cntB bs)) (.int .i64 (sumI xs)) (.int .i64 qt) (.int .i64 (cntB cs)) (.int .i64 (sumI ys)) rfl rfl HR.out.1 HR.out.2.1 (by simp [Value.oneCell']) (by simp [Value.oneCell'])
    (fun W hb => of3_any W A1 A3 k1 k3 xs pt bs (HX1.out W (HB1.out.trans (hb.mono HB1.out.size))) (HX3.out W (HB1.out.trans (hb.mono HB1.out.size))) (by have := HL.out; omega) (by have := HL.out; omega) HX.out)
    (fun W hb => of3_any W C1 C3 l1 l3 ys qt cs (HY1.out W (HB1.out.trans (hb.mono HB1.out.size))) (HY3.out W (HB1.out.trans (hb.mono HB1.out.size))) (by have := HL.out; omega) (by have := HL.out; omega) HY.out)))
  rintro e a9 w3 ⟨rfl, hsz9, hd9, hkp, hb3, b9, b10, g9, g10, m9, m10⟩
  obtain ⟨F, hF, hfr⟩ := act_set hsz9 hd9 hkp rfl [9, 10, 34, 35, 36, 37] rfl
  rw [hfr]
  simp only [zlf, zln, zls, zlc, zlz]
  have h9 : F 9 = .pointer (some ⟨b9, 0, none⟩) := (hF 9).trans (eval_of g9)
  have h10 : F 10 = .pointer (some ⟨b10, 0, none⟩) := (hF 10).trans (eval_of g10)
  rw [h9, h10]
  clear hF hfr hkp hsz9 hd9 g9 g10 h9 h10
  go_upto_region 4 with fail
  have hBW : ∀ W : World, Below w3.heap.size w3 W → Below w.heap.size w W := fun W hb => (HB1.out.trans (hb3.mono HB1.out.size)).trans (hb.mono (Nat.le_trans HB1.out.size hb3.size))
  have HBW := Lib.hid hBW
  have hS : ∀ W : World, Below w3.heap.size w3 W → Below w3.heap.size w3 W ∧ W.cell? ⟨w.heap.size, 0, none⟩ = some (.slice A1 xs.length k1) ∧ W.cell? ⟨w.heap.size, 1, none⟩ = some (.int .i64 pt) ∧ W.cell? ⟨w.heap.size, 2, none⟩ = some (.slice A3 bs.length k3) ∧ W.cell? ⟨w.heap.size + 1, 0, none⟩ = some (.slice C1 ys.length l1) ∧ W.cell? ⟨w.heap.size + 1, 1, none⟩ = some (.int .i64 qt) ∧ W.cell? ⟨w.heap.size + 1, 2, none⟩ = some (.slice C3 cs.length l3) ∧ W.cell? ⟨w.heap.size + 1 + 1, 0, none⟩ = some (.int .i64 a0) ∧ W.cell? ⟨w.heap.size + 1 + 1, 1, none⟩ = some (.int .i64 a1) ∧ W.cell? ⟨w.heap.size + 1 + 1, 2, none⟩ = some (.int .i64 a2) ∧ W.cell? ⟨w.heap.size + 1 + 1 + 1, 0, none⟩ = some (.int .i64 b0) ∧ W.cell? ⟨w.heap.size + 1 + 1 + 1, 1, none⟩ = some (.int .i64 b1) ∧ W.cell? ⟨w.heap.size + 1 + 1 + 1, 2, none⟩ = some (.int .i64 b2) ∧ W.cell? ⟨b9, 0, none⟩ = some (.int .i64 pt) ∧ W.cell? ⟨b9, 1, none⟩ = some (.int .i64 (cntB bs)) ∧ W.cell? ⟨b9, 2, none⟩ = some (.int .i64 (sumI xs)) ∧ W.cell? ⟨b10, 0, none⟩ = some (.int .i64 qt) ∧ W.cell? ⟨b10, 1, none⟩ = some (.int .i64 (cntB cs)) ∧ W.cell? ⟨b10, 2, none⟩ = some (.int .i64 (sumI ys)) := by
    intro W hb
    have hb31 : Below w1.heap.size w1 W := hb3.trans (hb.mono hb3.size)
    obtain ⟨x0, x1, x2⟩ := three_on HR.out.1 hb31
    obtain ⟨y0, y1, y2⟩ := three_on HR.out.2.1 hb31
    obtain ⟨z0, z1, z2⟩ := three_on HR.out.2.2.1 hb31
    obtain ⟨u0, u1, u2⟩ := three_on HR.out.2.2.2 hb31
    obtain ⟨p0, p1, p2⟩ := three_on m9 hb
    obtain ⟨q0, q1, q2⟩ := three_on m10 hb
    exact ⟨hb, x0, x1, x2, y0, y1, y2, z0, z1, z2, u0, u1, u2, p0, p1, p2, q0, q1, q2⟩
  have HS := Lib.hid hS
  obtain ⟨-, x0, x1, x2, y0, y1, y2, z0, z1, z2, u0, u1, u2, p0, p1, p2, q0, q1, q2⟩ := hS w3 (Below.refl _ _)
  have HLX := Lib.hid (show (xs.length ≤ 1000000 ∧ bs.length ≤ 1000000) ∧ ys.length ≤ 1000000 ∧ cs.length ≤ 1000000 by have := HL.out; omega)
  have heqA := eqA_run
  clear hS hBW hb3 m9 m10 HR HB1 HL
  go_region_held3 (fun W => Below w3.heap.size w3 W ∧ W.cell? ⟨w.heap.size, 0, none⟩ = some (.slice A1 xs.length k1) ∧ W.cell? ⟨w.heap.size, 1, none⟩ = some (.int .i64 pt) ∧ W.cell? ⟨w.heap.size, 2, none⟩ = some (.slice A3 bs.length k3) ∧ W.cell? ⟨w.heap.size + 1, 0, none⟩ = some (.slice C1 ys.length l1) ∧ W.cell? ⟨w.heap.size + 1, 1, none⟩ = some (.int .i64 qt) ∧ W.cell? ⟨w.heap.size + 1, 2, none⟩ = some (.slice C3 cs.length l3) ∧ W.cell? ⟨w.heap.size + 1 + 1, 0, none⟩ = some (.int .i64 a0) ∧ W.cell? ⟨w.heap.size + 1 + 1, 1, none⟩ = some (.int .i64 a1) ∧ W.cell? ⟨w.heap.size + 1 + 1, 2, none⟩ = some (.int .i64 a2) ∧ W.cell? ⟨w.heap.size + 1 + 1 + 1, 0, none⟩ = some (.int .i64 b0) ∧ W.cell? ⟨w.heap.size + 1 + 1 + 1, 1, none⟩ = some (.int .i64 b1) ∧ W.cell? ⟨w.heap.size + 1 + 1 + 1, 2, none⟩ = some (.int .i64 b2) ∧ W.cell? ⟨b9, 0, none⟩ = some (.int .i64 pt) ∧ W.cell? ⟨b9, 1, none⟩ = some (.int .i64 (cntB bs)) ∧ W.cell? ⟨b9, 2, none⟩ = some (.int .i64 (sumI xs)) ∧ W.cell? ⟨b10, 0, none⟩ = some (.int .i64 qt) ∧ W.cell? ⟨b10, 1, none⟩ = some (.int .i64 (cntB cs)) ∧ W.cell? ⟨b10, 2, none⟩ = some (.int .i64 (sumI ys))) ((refine HS.out _ ?_; first | assumption | exact Below.refl _ _ | exact (Below.refl _ _).drew))
    (first
      | (go_at_call 48; refine (measure_any _ _ _ _).mono ?_; rintro o5 w5 ⟨rfl, hb5⟩; have hbn := Below.trans (And.left (by assumption) : Below w3.heap.size w3 _) (hb5.mono (Below.size (And.left (by assumption) : Below w3.heap.size w3 _))); clear hb5)
      | (go_at_call 50; refine (theirs_any _ _ _ _ _ _ _ _ (by first | exact HX1.out _ (HBW.out _ (And.left (by assumption))) | exact HY1.out _ (HBW.out _ (And.left (by assumption)))) (by first | exact HX3.out _ (HBW.out _ (And.left (by assumption))) | exact HY3.out _ (HBW.out _ (And.left (by assumption)))) (by first | exact HLX.out.1.1 | exact HLX.out.2.1) (by first | exact HLX.out.1.2 | exact HLX.out.2.2) (by first | exact HX.out | exact HY.out)).mono ?_; rintro o6 w6 ⟨v1, v3, rfl, ho1, ho3, hb6⟩; have hbn := Below.trans (And.left (by assumption) : Below w3.heap.size w3 _) (hb6.mono (Below.size (And.left (by assumption) : Below w3.heap.size w3 _))); obtain ⟨D1, d1, hv1⟩ := ho1.form; obtain ⟨D3, d3, hv3⟩ := ho3.form; rw [hv1] at ho1; rw [hv3] at ho3; rw [hv1, hv3]; clear hb6 hv1 hv3)
      | (go_at_call 49; refine (refOf_any _ _ _ _ _ _ _ _ (OwnG.rd ho1) (OwnG.rd ho3) (by first | exact HLX.out.1.1 | exact HLX.out.2.1) (by first | exact HLX.out.1.2 | exact HLX.out.2.2) (by first | exact HX.out | exact HY.out)).mono ?_; rintro o7 w7 ⟨rfl, hb7⟩; have hbn := Below.trans (And.left (by assumption) : Below w3.heap.size w3 _) (hb7.mono (Below.size (And.left (by assumption) : Below w3.heap.size w3 _))); clear hb7)
      | (go_at_call 51; refine (cmp6_any _ _ _ _ _ _ _).mono ?_; rintro o5 w5 ⟨rfl, hb5⟩; have hbn := Below.trans (And.left (by assumption) : Below w3.heap.size w3 _) (hb5.mono (Below.size (And.left (by assumption) : Below w3.heap.size w3 _))); clear hb5)
      | (go_at_call 52; refine (refCmp_any _ _ _ _ _ _ _).mono ?_; rintro o5 w5 ⟨rfl, hb5⟩; have hbn := Below.trans (And.left (by assumption) : Below w3.heap.size w3 _) (hb5.mono (Below.size (And.left (by assumption) : Below w3.heap.size w3 _))); clear hb5)
      | (go_at_call 46; refine (HA.out _ (HBW.out _ (And.left (by assumption)))).mono ?_; rintro o8 w8 ⟨rfl, hb8⟩; have hbn := Below.trans (And.left (by assumption) : Below w3.heap.size w3 _) (hb8.mono (Below.size (And.left (by assumption) : Below w3.heap.size w3 _))); clear hb8)
      | fail)
  all_goals
    go_wp2_with fail
    go_ret
    exact ⟨rfl, HBW.out _ (And.left (by assumption))⟩
end Go.Proofs.YtlibeobmdjeilaaGreatDoor
