/- check: the width of an expression. -/
import Derived.Test.YthcboallnbaimaaGreatDoorFind
import Derived.Test.YthcboallnbaimaaGreatDoorOps2
import Derived.Deep.CutBlock
import Derived.Deep.CutRange

import Derived.Test.YthcboallnbaimaaGreatDoorExprs
import Derived.Deep.Draws
import Derived.StillTailTactics
import Derived.Deep.RegionHeld3
import Derived.Deep.QuietTactic
import Derived.BigQuiet
import Derived.Outline
namespace Go.Proofs.YthcboallnbaimaaGreatDoor
open Go Go.RowKit Go.Maps
/-- What width does with an expression, wherever the memory is by then. -/
def WidthOk (K : CkE) (pm : Option Nat) (E : Env) (n : Int) (over : Bool) (m : Nat) (W0 : World) (e : ExprV) : Prop :=
  ∀ w, Below m W0 w → m ≤ w.heap.size → Ckr K pm E n over w →
    Calls Tryz.prog 68 #[.pointer (some ⟨K.q, 0, none⟩), e.val] w fun o w' => o = .returned (.int .i64 (widthE K.p E e)) ∧ Below w.heap.size w w'
set_option maxRecDepth 1000000 in
theorem sub_any {K : CkE} {pm : Option Nat} {E : Env} {n : Int} {over : Bool} {m : Nat} {W0 : World} {e : ExprV} (row : RowOf m W0 e.sp 6 ExprV.cells e.subs) (IH : ∀ s ∈ e.subs, WidthOk K pm E n over m W0 s)
    (w : World) (hb : Below m W0 w) (hm : m ≤ w.heap.size) (hk : Ckr K pm E n over w) (B1 B0 : Nat) (h1 : w.heap[B1]? = some (.cells e.cells.toArray 34 (0, 0))) (h0 : w.heap[B0]? = some (.cells #[.pointer (some ⟨K.q, 0, none⟩)] 122 (0, 0)))
    (i : Nat) (hi : i ≤ 2) :
    Calls Tryz.prog 103 #[.int .i64 i, .pointer (some ⟨B1, 0, none⟩), .pointer (some ⟨B0, 0, none⟩)] w fun o w' => o = .returned (.int .i64 (subW K.p E e.subs i)) ∧ Below w.heap.size w w' := by
  simp only [ExprV.cells, Sp.val] at h1
  obtain ⟨-, -, -, -, -, c5⟩ := six_cells h1
  have d0 := one_cell h0
  have hcap := row.few
  clear h1 h0
  by_cases hlt : i < e.subs.length
  · obtain ⟨b, off, eA, hbn, hcell⟩ := (row.below hb).row (by omega)
    have hs : subW K.p E e.subs i = widthE K.p E e.subs[i] := by rw [subW, List.getElem?_eq_getElem hlt]
    rw [hs]
    have k0 : w.cell? ⟨b, off + i * 6, none⟩ = some (.int .u8 e.subs[i].kind) := hcell i hlt 0 _ rfl
    have k1 : w.cell? ⟨b, off + i * 6 + 1, none⟩ = some (.int .u8 e.subs[i].op) := hcell i hlt 1 _ rfl
    have k2 : w.cell? ⟨b, off + i * 6 + 2, none⟩ = some (.int .u32 e.subs[i].value) := hcell i hlt 2 _ rfl
    have k3 : w.cell? ⟨b, off + i * 6 + 3, none⟩ = some (.int .i64 e.subs[i].width) := hcell i hlt 3 _ rfl
    have k4 : w.cell? ⟨b, off + i * 6 + 4, none⟩ = some (.string e.subs[i].name) := hcell i hlt 4 _ rfl
    have k5 : w.cell? ⟨b, off + i * 6 + 5, none⟩ = some (.slice e.subs[i].sp.at_ e.subs[i].subs.length e.subs[i].sp.cap) := hcell i hlt 5 _ rfl
    have hbd : Below w.heap.size w w.drew := (Below.refl _ _).drew
    have hC := IH _ (List.getElem_mem hlt) w.drew (hb.trans (hbd.mono hm)) hm (hk.new hbd)
    generalize e.subs[i] = x at *
    simp only [ExprV.val, Sp.val] at hC
    have HC := Lib.hid hC
    have HBD := Lib.hid hbd
    have hj0 : (0 : Int) ≤ (i : Int) := by omega
    have hj1 : (i : Int) < (e.subs.length : Int) := by omega
    have hj2 : decide (e.subs.length ≤ i) = false := decide_eq_false (by omega)
    clear hcell hs hC IH row hk hb hbd
    rw [eA] at c5
    clear eA
    go_enter Tryz.func103, Tryz.ntmps103
    go_wp2
    go_still_tail 6, (by kernel_rfl)
    change wpList _ _ _ _ _ w.drew
    go_wp2_with fail
    refine HC.out.mono ?_
    rintro o w1 ⟨rfl, hb1⟩
    go_wp2_with fail
    go_ret
    exact ⟨rfl, HBD.out.trans hb1⟩
  · have hs : subW K.p E e.subs i = 0 := by rw [subW, List.getElem?_eq_none (by omega)]
    rw [hs]
    have hj2 : decide (e.subs.length ≤ i) = true := decide_eq_true (by omega)
    clear hs IH row hk hb hlt
    go_enter Tryz.func103, Tryz.ntmps103
    go_wp2
    go_ret
    exact ⟨rfl, Below.refl _ _⟩
set_option maxRecDepth 1000000 in
set_option maxHeartbeats 4000000 in
theorem width_any {K : CkE} {pm : Option Nat} {E : Env} {n : Int} {over : Bool} {m : Nat} {W0 : World} {e : ExprV} (h : RdX m W0 e) : WidthOk K pm E n over m W0 e := by
  induction h with
  | mk e kk oo vv wd nm row subs ih =>
    intro w hb hm hk
    have hwe := widthE_eq K.p E e
    have hb2 : Below w.heap.size w ((w.alloc (.cells #[.pointer (some ⟨K.q, 0, none⟩)] 122)).alloc (.cells #[.int .u8 e.kind, .int .u8 e.op, .int .u32 e.value, .int .i64 e.width, .string e.name, .slice e.sp.at_ e.subs.length e.sp.cap] 34)) := ((Below.refl _ _).alloc (Nat.le_refl _) _).alloc (by simp) _
    have hB1 := World.alloc_heap_new (w.alloc (.cells #[.pointer (some ⟨K.q, 0, none⟩)] 122)) (.cells #[.int .u8 e.kind, .int .u8 e.op, .int .u32 e.value, .int .i64 e.width, .string e.name, .slice e.sp.at_ e.subs.length e.sp.cap] 34)
    rw [World.size_alloc] at hB1
    have hB0 := (Below.heap_alloc (w.alloc (.cells #[.pointer (some ⟨K.q, 0, none⟩)] 122)) (.cells #[.int .u8 e.kind, .int .u8 e.op, .int .u32 e.value, .int .i64 e.width, .string e.name, .slice e.sp.at_ e.subs.length e.sp.cap] 34) w.heap.size (by simp)).trans (World.alloc_heap_new w _)
    have hs2 : ((w.alloc (.cells #[.pointer (some ⟨K.q, 0, none⟩)] 122)).alloc (.cells #[.int .u8 e.kind, .int .u8 e.op, .int .u32 e.value, .int .i64 e.width, .string e.name, .slice e.sp.at_ e.subs.length e.sp.cap] 34)).heap.size = w.heap.size + 2 := by simp
    have HB1 := Lib.hid hB1
    have HB0 := Lib.hid hB0
    have HB2 := Lib.hid hb2
    have HS2 := Lib.hid hs2
    have HIH := Lib.hid ih
    have HROW := Lib.hid row
    have HWE := Lib.hid hwe
    have HK := Lib.hid hk
    have HB := Lib.hid hb
    clear hB1 hB0 hb2 hs2 ih row subs hwe hk hb
    simp only [ExprV.val, Sp.val]
    go_enter Tryz.func68, Tryz.ntmps68
    go_upto_region 1 with (fail)
    generalize (w.alloc (.cells #[.pointer (some ⟨K.q, 0, none⟩)] 122)).alloc (.cells #[.int .u8 e.kind, .int .u8 e.op, .int .u32 e.value, .int .i64 e.width, .string e.name, .slice e.sp.at_ e.subs.length e.sp.cap] 34) = W2 at *
    have hck := HK.out.new HB2.out
    have hbW : Below m W0 W2 := HB.out.trans (HB2.out.mono hm)
    have hlt2 : w.heap.size + 1 < W2.heap.size := by have := HS2.out; omega
    obtain ⟨c0, c1, c2, c3, c4, c5⟩ := six_cells HB1.out
    have d0 := one_cell HB0.out
    have HCK := Lib.hid hck
    have HBW := Lib.hid hbW
    clear hck hbW
    have hq1 := HCK.out.c1
    have HOK := Lib.hid oo
    clear oo kk vv wd
    have fin : ∀ (r : Int) (o : Ending) (w' : World), rawWidth K.p E e.kind e.op e.width e.name (subW K.p E e.subs 0) (subW K.p E e.subs 1) = r → o = .returned (.int .i64 (cutW r)) → Below W2.heap.size W2 w' → o = .returned (.int .i64 (widthE K.p E e)) ∧ Below w.heap.size w w' :=
      fun r o w' h1 h2 h3 => ⟨by rw [HWE.out, h1]; exact h2, HB2.out.trans (h3.mono (by omega))⟩
    have FIN := Lib.hid fin
    have SUB : Hid (∀ (i : Nat) (W : World), i ≤ 2 → Below W2.heap.size W2 W → Calls Tryz.prog 103 #[.int .i64 i, .pointer (some ⟨w.heap.size + 1, 0, none⟩), .pointer (some ⟨w.heap.size, 0, none⟩)] W fun o w' => o = .returned (.int .i64 (subW K.p E e.subs i)) ∧ Below W.heap.size W w') :=
      Lib.hid fun i W hi hW => sub_any HROW.out HIH.out W (HBW.out.trans (hW.mono (by omega))) (by have := hW.size; omega) (HCK.out.new hW) _ _ ((hW.block _ hlt2).trans HB1.out) ((hW.block _ (by omega)).trans HB0.out) i hi
    clear fin
    rcases (show e.kind = 1 ∨ e.kind = 8 ∨ e.kind = 2 ∨ e.kind = 3 ∨ e.kind = 4 ∨ e.kind = 5 ∨ e.kind = 6 ∨ e.kind = 7 ∨ (e.kind ≠ 1 ∧ e.kind ≠ 8 ∧ e.kind ≠ 2 ∧ e.kind ≠ 3 ∧ e.kind ≠ 4 ∧ e.kind ≠ 5 ∧ e.kind ≠ 6 ∧ e.kind ≠ 7) by omega) with hkd | hkd | hkd | hkd | hkd | hkd | hkd | hkd | hkd
    case inl =>
      have hr : rawWidth K.p E e.kind e.op e.width e.name (subW K.p E e.subs 0) (subW K.p E e.subs 1) = e.width := by rw [hkd]; rfl
      have HR := Lib.hid hr
      rw [hkd] at c0
      clear hkd hr
      cases hw : wideW e.width
      all_goals
        have HW := Lib.hid (congrArg (fun b : Bool => if b = true then e.width else 0) hw)
        go_wp2_with (go_at_call 106; refine (wide_any _ _).mono ?_; rintro o9 w9 ⟨rfl, rfl⟩)
        go_ret
        exact FIN.out _ _ _ HR.out (congrArg (fun x => Ending.returned (.int .i64 x)) HW.out.symm) (Below.refl _ _)
    case inr.inl =>
      have hr : rawWidth K.p E e.kind e.op e.width e.name (subW K.p E e.subs 0) (subW K.p E e.subs 1) = e.width := by rw [hkd]; rfl
      have HR := Lib.hid hr
      rw [hkd] at c0
      clear hkd hr
      cases hw : wideW e.width
      all_goals
        have HW := Lib.hid (congrArg (fun b : Bool => if b = true then e.width else 0) hw)
        go_wp2_with (go_at_call 106; refine (wide_any _ _).mono ?_; rintro o9 w9 ⟨rfl, rfl⟩)
        go_ret
        exact FIN.out _ _ _ HR.out (congrArg (fun x => Ending.returned (.int .i64 x)) HW.out.symm) (Below.refl _ _)
    case inr.inr.inr.inr.inl =>
      have hr : rawWidth K.p E e.kind e.op e.width e.name (subW K.p E e.subs 0) (subW K.p E e.subs 1) = K.p.width := by rw [hkd]; rfl
      have HR := Lib.hid hr
      rw [hkd] at c0
      clear hkd hr
      cases hw : wideW K.p.width
      all_goals
        have HW := Lib.hid (congrArg (fun b : Bool => if b = true then K.p.width else 0) hw)
        go_wp2_with (go_at_call 106; refine (wide_any _ _).mono ?_; rintro o9 w9 ⟨rfl, rfl⟩)
        go_ret
        exact FIN.out _ _ _ HR.out (congrArg (fun x => Ending.returned (.int .i64 x)) HW.out.symm) (Below.refl _ _)
    case inr.inr.inr.inr.inr.inr.inr.inl =>
      have hr : rawWidth K.p E e.kind e.op e.width e.name (subW K.p E e.subs 0) (subW K.p E e.subs 1) = subW K.p E e.subs 1 := by rw [hkd]; rfl
      have HR := Lib.hid hr
      rw [hkd] at c0
      have HSB := Lib.hid (SUB.out 1)
      clear hkd hr SUB
      generalize subW K.p E e.subs 1 = s1 at *
      cases hw : wideW s1
      all_goals
        have HW := Lib.hid (congrArg (fun b : Bool => if b = true then s1 else 0) hw)
        go_wp2_with (first | (go_at_call 106; refine (wide_any _ _).mono ?_; rintro o9 w9 ⟨rfl, rfl⟩) | (go_at_call 103; refine (HSB.out _ (by omega) (Below.refl _ _)).mono ?_; rintro o8 w8 ⟨rfl, hb8⟩; have HB8 := Lib.hid hb8; clear hb8) | fail)
        go_ret
        exact FIN.out _ _ _ HR.out (congrArg (fun x => Ending.returned (.int .i64 x)) HW.out.symm) HB8.out
    case inr.inr.inr.inr.inr.inr.inr.inr =>
      have hr : rawWidth K.p E e.kind e.op e.width e.name (subW K.p E e.subs 0) (subW K.p E e.subs 1) = 0 := by
        unfold rawWidth
        rw [if_neg (by omega), if_neg (by omega), if_neg (by omega), if_neg (by omega), if_neg (by omega)]
      have HR := Lib.hid hr
      have HW : Hid (0 = cutW 0) := Lib.hid rfl
      obtain ⟨h1, h8, h2, h3, h4, h5, h6, h7⟩ := hkd
      have g1 : (e.kind == 1) = false := by simpa using h1
      have g2 : (e.kind == 2) = false := by simpa using h2
      have g3 : (e.kind == 3) = false := by simpa using h3
      have g4 : (e.kind == 4) = false := by simpa using h4
      have g5 : (e.kind == 5) = false := by simpa using h5
      have g6 : (e.kind == 6) = false := by simpa using h6
      have g7 : (e.kind == 7) = false := by simpa using h7
      have g8 : (e.kind == 8) = false := by simpa using h8
      have hw : wideW 0 = false := rfl
      clear h1 h2 h3 h4 h5 h6 h7 h8 hr
      go_wp2_with (go_at_call 106; refine (wide_any _ _).mono ?_; rintro o9 w9 ⟨rfl, rfl⟩)
      go_ret
      exact FIN.out _ _ _ HR.out (congrArg (fun x => Ending.returned (.int .i64 x)) HW.out) (Below.refl _ _)
    case inr.inr.inl =>
      have hr : rawWidth K.p E e.kind e.op e.width e.name (subW K.p E e.subs 0) (subW K.p E e.subs 1) = if (findW K.p E e.name).kind ≠ 0 ∧ ((findW K.p E e.name).kind = 4 ↔ (2 : Int) = 3) then (findW K.p E e.name).width else 0 := by rw [hkd]; rfl
      have HR := Lib.hid hr
      have HF := Lib.hid (find_any W2 HCK.out e.name nm)
      rw [hkd] at c0 HB1
      clear hkd hr SUB
      generalize findW K.p E e.name = x at *
      obtain ⟨xk, xw⟩ := x
      simp only at HR HF
      go_wp2_with fail
      refine HF.out.mono ?_
      rintro o w1 ⟨rfl, hb1⟩
      have HBN := Lib.hid (hb1.alloc hb1.size (.cells #[.int .u8 xk, .int .i64 xw] 169))
      obtain ⟨c0', -, -, -, -, -⟩ := six_cells ((HBN.out.block _ hlt2).trans HB1.out)
      clear hb1 c0 c1 c2 c3 c4 c5 d0 hq1
      by_cases hx0 : xk = 0
      · have HZ : Hid ((if xk ≠ 0 ∧ (xk = 4 ↔ (2 : Int) = 3) then xw else 0) = 0) := Lib.hid (if_neg (by omega))
        have HW : Hid (0 = cutW 0) := Lib.hid rfl
        subst hx0
        have hw : wideW 0 = false := rfl
        go_wp2_with (go_at_call 106; refine (wide_any _ _).mono ?_; rintro o9 w9 ⟨rfl, rfl⟩)
        go_ret
        exact FIN.out _ _ _ (HR.out.trans HZ.out) (congrArg (fun x => Ending.returned (.int .i64 x)) HW.out) HBN.out
      · have g0 : (xk == 0) = false := by simpa using hx0
        have g0' : (xk != 0) = true := by simpa using hx0
        by_cases hx4 : xk = 4
        · have HZ : Hid ((if xk ≠ 0 ∧ (xk = 4 ↔ (2 : Int) = 3) then xw else 0) = 0) := Lib.hid (if_neg (by omega))
          subst hx4
          clear hx0
          have HW : Hid (0 = cutW 0) := Lib.hid rfl
          have hw : wideW 0 = false := rfl
          go_wp2_with (go_at_call 106; refine (wide_any _ _).mono ?_; rintro o9 w9 ⟨rfl, rfl⟩)
          go_ret
          exact FIN.out _ _ _ (HR.out.trans HZ.out) (congrArg (fun x => Ending.returned (.int .i64 x)) HW.out) HBN.out
        · have HZ : Hid ((if xk ≠ 0 ∧ (xk = 4 ↔ (2 : Int) = 3) then xw else 0) = xw) := Lib.hid (if_pos (by omega))
          have g4 : (xk == 4) = false := by simpa using hx4
          clear hx0 hx4
          cases hw : wideW xw
          all_goals
            have HW := Lib.hid (congrArg (fun b : Bool => if b = true then xw else 0) hw)
            go_wp2_with (go_at_call 106; refine (wide_any _ _).mono ?_; rintro o9 w9 ⟨rfl, rfl⟩)
            go_ret
            exact FIN.out _ _ _ (HR.out.trans HZ.out) (congrArg (fun x => Ending.returned (.int .i64 x)) HW.out.symm) HBN.out
    case inr.inr.inr.inl =>
      have hr : rawWidth K.p E e.kind e.op e.width e.name (subW K.p E e.subs 0) (subW K.p E e.subs 1) = if (findW K.p E e.name).kind ≠ 0 ∧ ((findW K.p E e.name).kind = 4 ↔ (3 : Int) = 3) then (findW K.p E e.name).width else 0 := by rw [hkd]; rfl
      have HR := Lib.hid hr
      have HF := Lib.hid (find_any W2 HCK.out e.name nm)
      rw [hkd] at c0 HB1
      clear hkd hr SUB
      generalize findW K.p E e.name = x at *
      obtain ⟨xk, xw⟩ := x
      simp only at HR HF
      go_wp2_with fail
      refine HF.out.mono ?_
      rintro o w1 ⟨rfl, hb1⟩
      have HBN := Lib.hid (hb1.alloc hb1.size (.cells #[.int .u8 xk, .int .i64 xw] 169))
      obtain ⟨c0', -, -, -, -, -⟩ := six_cells ((HBN.out.block _ hlt2).trans HB1.out)
      clear hb1 c0 c1 c2 c3 c4 c5 d0 hq1
      by_cases hx0 : xk = 0
      · have HZ : Hid ((if xk ≠ 0 ∧ (xk = 4 ↔ (3 : Int) = 3) then xw else 0) = 0) := Lib.hid (if_neg (by omega))
        have HW : Hid (0 = cutW 0) := Lib.hid rfl
        subst hx0
        have hw : wideW 0 = false := rfl
        go_wp2_with (go_at_call 106; refine (wide_any _ _).mono ?_; rintro o9 w9 ⟨rfl, rfl⟩)
        go_ret
        exact FIN.out _ _ _ (HR.out.trans HZ.out) (congrArg (fun x => Ending.returned (.int .i64 x)) HW.out) HBN.out
      · have g0 : (xk == 0) = false := by simpa using hx0
        have g0' : (xk != 0) = true := by simpa using hx0
        by_cases hx4 : xk = 4
        · have HZ : Hid ((if xk ≠ 0 ∧ (xk = 4 ↔ (3 : Int) = 3) then xw else 0) = xw) := Lib.hid (if_pos (by omega))
          subst hx4
          clear hx0
          cases hw : wideW xw
          all_goals
            have HW := Lib.hid (congrArg (fun b : Bool => if b = true then xw else 0) hw)
            go_wp2_with (go_at_call 106; refine (wide_any _ _).mono ?_; rintro o9 w9 ⟨rfl, rfl⟩)
            go_ret
            exact FIN.out _ _ _ (HR.out.trans HZ.out) (congrArg (fun x => Ending.returned (.int .i64 x)) HW.out.symm) HBN.out
        · have HZ : Hid ((if xk ≠ 0 ∧ (xk = 4 ↔ (3 : Int) = 3) then xw else 0) = 0) := Lib.hid (if_neg (by omega))
          have g4 : (xk == 4) = false := by simpa using hx4
          clear hx0 hx4
          have HW : Hid (0 = cutW 0) := Lib.hid rfl
          have hw : wideW 0 = false := rfl
          go_wp2_with (go_at_call 106; refine (wide_any _ _).mono ?_; rintro o9 w9 ⟨rfl, rfl⟩)
          go_ret
          exact FIN.out _ _ _ (HR.out.trans HZ.out) (congrArg (fun x => Ending.returned (.int .i64 x)) HW.out) HBN.out
    case inr.inr.inr.inr.inr.inl =>
      have hr : rawWidth K.p E e.kind e.op e.width e.name (subW K.p E e.subs 0) (subW K.p E e.subs 1) = opWidth e.op (subW K.p E e.subs 0) := by rw [hkd]; rfl
      obtain ⟨k, hk⟩ : ∃ k : Nat, e.op = (k : Int) := ⟨e.op.toNat, by have := HOK.out; omega⟩
      have hk2 : k ≤ 255 := by have := HOK.out; omega
      have HSB := Lib.hid (SUB.out 0)
      have HO := Lib.hid (fun W => opWidth_any k hk2 (subW K.p E e.subs 0) W)
      have HR := Lib.hid (hr.trans (by rw [hk] : opWidth e.op (subW K.p E e.subs 0) = opWidth (k : Int) (subW K.p E e.subs 0)))
      rw [hk] at c1 HB1
      rw [hkd] at c0 HB1
      have HC1 : Hid (∀ W, Below W2.heap.size W2 W → W.cell? ⟨w.heap.size + 1, 1, none⟩ = some (.int .u8 (k : Int))) := Lib.hid fun W hW => by
        obtain ⟨-, h, -, -, -, -⟩ := six_cells ((hW.block _ hlt2).trans HB1.out)
        exact h
      clear hkd hr SUB hk c2 c3 c4 c5 d0 hq1
      generalize subW K.p E e.subs 0 = s0 at *
      generalize opWidth (k : Int) s0 = r at *
      have hbr : Below W2.heap.size W2 W2.drew := (Below.refl _ _).drew
      cases hw : wideW r
      all_goals
        have HW := Lib.hid (congrArg (fun b : Bool => if b = true then r else 0) hw)
        go_wp2_with fail
        go_region_held3 (fun w' => w'.cell? ⟨w.heap.size + 1, 1, none⟩ = some (.int .u8 (k : Int)) ∧ Below W2.heap.size W2 w') (simp [*])
          (first
            | (go_at_call 103; refine (HSB.out _ (by omega) (by assumption)).mono ?_; rintro o8 w8 ⟨rfl, hb8⟩; have hb9 := Below.trans (by assumption : Below W2.heap.size W2 _) (hb8.mono (Below.size (by assumption))); have z1 := HC1.out _ hb9)
            | (go_at_call 105; refine (HO.out _).mono ?_; rintro o7 w7 ⟨er, rfl, hb7⟩; have hb10 := Below.trans (by assumption : Below W2.heap.size W2 _) (hb7.mono (Below.size (by assumption))); have z2 := HC1.out _ hb10)
            | fail)
        go_wp2_with (go_at_call 106; refine (wide_any _ _).mono ?_; rintro o9 w9 ⟨rfl, rfl⟩)
        go_ret
        exact FIN.out _ _ _ HR.out (congrArg (fun x => Ending.returned (.int .i64 x)) HW.out.symm) hb10
    case inr.inr.inr.inr.inr.inr.inl =>
      have hr : rawWidth K.p E e.kind e.op e.width e.name (subW K.p E e.subs 0) (subW K.p E e.subs 1) = opWidth e.op (subW K.p E e.subs 0) := by rw [hkd]; rfl
      obtain ⟨k, hk⟩ : ∃ k : Nat, e.op = (k : Int) := ⟨e.op.toNat, by have := HOK.out; omega⟩
      have hk2 : k ≤ 255 := by have := HOK.out; omega
      have HSB := Lib.hid (SUB.out 0)
      have HO := Lib.hid (fun W => opWidth_any k hk2 (subW K.p E e.subs 0) W)
      have HR := Lib.hid (hr.trans (by rw [hk] : opWidth e.op (subW K.p E e.subs 0) = opWidth (k : Int) (subW K.p E e.subs 0)))
      rw [hk] at c1 HB1
      rw [hkd] at c0 HB1
      have HC1 : Hid (∀ W, Below W2.heap.size W2 W → W.cell? ⟨w.heap.size + 1, 1, none⟩ = some (.int .u8 (k : Int))) := Lib.hid fun W hW => by
        obtain ⟨-, h, -, -, -, -⟩ := six_cells ((hW.block _ hlt2).trans HB1.out)
        exact h
      clear hkd hr SUB hk c2 c3 c4 c5 d0 hq1
      generalize subW K.p E e.subs 0 = s0 at *
      generalize opWidth (k : Int) s0 = r at *
      have hbr : Below W2.heap.size W2 W2.drew := (Below.refl _ _).drew
      cases hw : wideW r
      all_goals
        have HW := Lib.hid (congrArg (fun b : Bool => if b = true then r else 0) hw)
        go_wp2_with fail
        go_region_held3 (fun w' => w'.cell? ⟨w.heap.size + 1, 1, none⟩ = some (.int .u8 (k : Int)) ∧ Below W2.heap.size W2 w') (simp [*])
          (first
            | (go_at_call 103; refine (HSB.out _ (by omega) (by assumption)).mono ?_; rintro o8 w8 ⟨rfl, hb8⟩; have hb9 := Below.trans (by assumption : Below W2.heap.size W2 _) (hb8.mono (Below.size (by assumption))); have z1 := HC1.out _ hb9)
            | (go_at_call 105; refine (HO.out _).mono ?_; rintro o7 w7 ⟨er, rfl, hb7⟩; have hb10 := Below.trans (by assumption : Below W2.heap.size W2 _) (hb7.mono (Below.size (by assumption))); have z2 := HC1.out _ hb10)
            | fail)
        go_wp2_with (go_at_call 106; refine (wide_any _ _).mono ?_; rintro o9 w9 ⟨rfl, rfl⟩)
        go_ret
        exact FIN.out _ _ _ HR.out (congrArg (fun x => Ending.returned (.int .i64 x)) HW.out.symm) hb10
end Go.Proofs.YthcboallnbaimaaGreatDoor
