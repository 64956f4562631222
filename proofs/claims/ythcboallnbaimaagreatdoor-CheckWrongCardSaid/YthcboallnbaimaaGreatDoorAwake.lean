/- Chapter 32's law: awake: its nine examples. -/
import Derived.Test.YthcboallnbaimaaGreatDoorAwakeP
namespace Go.Proofs.YthcboallnbaimaaGreatDoor
open Go Go.RowKit Go.Maps
set_option maxRecDepth 1000000 in
set_option maxHeartbeats 16000000 in
theorem awake_any (w : World) (hn0 : 0 < w.heap.size) (hmx : MxAt w) : Calls Tryz.prog 12 #[] w fun o w' => o = .returned (.bool true) ∧ Below w.heap.size w w' := by
  have HSM := Lib.hid (fun W => small_exp Sp.none [] W none_stmts)
  have HMX := Lib.hid hmx
  clear hmx
  go_enter Tryz.func12, Tryz.ntmps12
  go_wp2_with fail
  refine (HSM.out _).mono ?_
  rintro o w1 ⟨b1, rfl, hr1, hb1⟩
  have hx1 := World.alloc_heap_new w1 (.cells (smallP ⟨some ⟨b1, 0, none⟩, 1⟩ Sp.none []).arr 39)
  have hb12 : Below w1.heap.size w1 (w1.alloc (.cells (smallP ⟨some ⟨b1, 0, none⟩, 1⟩ Sp.none []).arr 39)) := (Below.refl _ _).alloc (Nat.le_refl _) _
  have HR1 := Lib.hid (hr1.below hb12)
  have HX1 := Lib.hid hx1
  have HB2 := Lib.hid (hb1.trans (hb12.mono hb1.size))
  have hwq1 := hb1.size
  clear hr1 hx1 hb1 hb12
  go_upto_region 2 with (first
    | (refine wpList_allocRow (t := 39) rfl rfl (run_zeroP _) ?_)
    | (refine wpList_storeNew (t := 39) rfl _ _ rfl rfl rfl (arr_size _) rfl (arr_one _) ?_)
    | fail)
  generalize w1.alloc (.cells (smallP ⟨some ⟨b1, 0, none⟩, 1⟩ Sp.none []).arr 39) = W2 at *
  generalize w1.heap.size = q1 at *
  have hq1 := (Array.getElem?_eq_some_iff.1 HX1.out).1
  generalize (Value.agg (smallP ⟨some ⟨b1, 0, none⟩, 1⟩ Sp.none []).arr) = va1
  go_wp2_with fail
  refine (call_exp _ _).mono ?_
  rintro o w3 ⟨rfl, hb3⟩
  have hq13 : q1 < w3.heap.size := by have := hb3.size; omega
  obtain ⟨g1, g2, g3, g4⟩ := alloc2 w3 (.cells #[.int .u8 8, .string ⟨#[112]⟩, .slice none 0 0, .int .i64 0, .slice none 0 0, .slice none 0 0] 49) (.cells #[.string ⟨#[112]⟩, .slice none 0 0, .slice (some ⟨w3.heap.size, 0, none⟩) 1 1] 47)
  have hx5 := (g4.block _ hq13).trans ((hb3.block _ hq1).trans HX1.out)
  have hr5 := HR1.out.below (((hb3.mono (Nat.le_of_lt hq1))).trans (g4.mono (by omega)))
  have HB5 := Lib.hid (HB2.out.trans ((hb3.mono HB2.out.size).trans (g4.mono (by have := hb3.size; have := HB2.out.size; omega))))
  have c13 := arr_cells hx5 13 (v := .slice none 0 0) rfl
  have f13 : ((w3.alloc (.cells #[.int .u8 8, .string ⟨#[112]⟩, .slice none 0 0, .int .i64 0, .slice none 0 0, .slice none 0 0] 49)).alloc (.cells #[.string ⟨#[112]⟩, .slice none 0 0, .slice (some ⟨w3.heap.size, 0, none⟩) 1 1] 47)).frozen? ⟨q1, 13, none⟩ = false := by simp [World.frozen?, hx5]
  have HI6 := Lib.hid (loop_made hx5 hr5 g1 g2 (by omega) (by omega))
  have HB6 := Lib.hid (HB5.out.setCell (p := ⟨q1, 13, none⟩) (by simp only; omega) (.slice (some ⟨w3.heap.size + 1, 0, none⟩) 1 1))
  clear hb3 hx5 hr5 HR1 HX1 HB2 HB5 g1 g2
  have eW : ((w3.alloc (.cells #[.int .u8 8, .string ⟨#[112]⟩, .slice none 0 0, .int .i64 0, .slice none 0 0, .slice none 0 0] 49)).alloc (.cells #[.string ⟨#[112]⟩, .slice none 0 0, .slice (some ⟨w3.heap.size, 0, none⟩) 1 1] 47)).setCell ⟨q1, 13, none⟩ (.slice (some ⟨w3.heap.size + 1, 0, none⟩) 1 1) = ((w3.setCell ⟨q1, 13, none⟩ (.slice (some ⟨w3.heap.size + 1, 0, none⟩) 1 1)).alloc (.cells #[.int .u8 8, .string ⟨#[112]⟩, .slice none 0 0, .int .i64 0, .slice none 0 0, .slice none 0 0] 49)).alloc (.cells #[.string ⟨#[112]⟩, .slice none 0 0, .slice (some ⟨w3.heap.size, 0, none⟩) 1 1] 47) := by
    rw [World.setCell_alloc_past _ q1 13 (.slice (some ⟨w3.heap.size + 1, 0, none⟩) 1 1) (by simp; omega), World.setCell_alloc_past _ q1 13 (.slice (some ⟨w3.heap.size + 1, 0, none⟩) 1 1) hq13]
  rw [eW] at HI6 HB6
  clear eW
  go_upto_region 3 with fail
  generalize hW6 : ((w3.setCell ⟨q1, 13, none⟩ (.slice (some ⟨w3.heap.size + 1, 0, none⟩) 1 1)).alloc (.cells #[.int .u8 8, .string ⟨#[112]⟩, .slice none 0 0, .int .i64 0, .slice none 0 0, .slice none 0 0] 49)).alloc (.cells #[.string ⟨#[112]⟩, .slice none 0 0, .slice (some ⟨w3.heap.size, 0, none⟩) 1 1] 47) = W6 at *
  clear c13 f13 hW6 g4
  go_wp2_with fail
  refine (HSM.out _).mono ?_
  rintro o w7 ⟨b2, rfl, hr7, hb7⟩
  have hb8 : Below w7.heap.size w7 (w7.alloc (.cells (smallP ⟨some ⟨b2, 0, none⟩, 1⟩ Sp.none []).arr 39)) := (Below.refl _ _).alloc (Nat.le_refl _) _
  have HX8 := Lib.hid (World.alloc_heap_new w7 (.cells (smallP ⟨some ⟨b2, 0, none⟩, 1⟩ Sp.none []).arr 39))
  have HR8 := Lib.hid (hr7.below hb8)
  have HI8 := Lib.hid (((HI6.out.at.below hb7).more hb7.size).below hb8)
  have HB8 := Lib.hid (HB6.out.trans ((hb7.trans (hb8.mono hb7.size)).mono HB6.out.size))
  have hwq2 : w.heap.size ≤ w7.heap.size := Nat.le_trans HB6.out.size hb7.size
  have hq12 : q1 < w7.heap.size := Nat.lt_of_lt_of_le (Array.getElem?_eq_some_iff.1 HI6.out.box).1 hb7.size
  clear hr7 hb7 hb8 HI6 HB6
  go_upto_region 4 with (first
    | (refine wpList_allocRow (t := 39) rfl rfl (run_zeroP _) ?_)
    | (refine wpList_storeNew (t := 39) rfl _ _ rfl rfl rfl (arr_size _) rfl (arr_one _) ?_)
    | fail)
  generalize w7.alloc (.cells (smallP ⟨some ⟨b2, 0, none⟩, 1⟩ Sp.none []).arr 39) = W8 at *
  generalize w7.heap.size = q2 at *
  generalize (Value.agg (smallP ⟨some ⟨b2, 0, none⟩, 1⟩ Sp.none []).arr) = va2
  go_wp2_with fail
  refine (name_exp _ _).mono ?_
  rintro o w9 ⟨rfl, hb9⟩
  have hx9 := (hb9.block _ (Array.getElem?_eq_some_iff.1 HX8.out).1).trans HX8.out
  have hr9 := HR8.out.below (hb9.mono (Nat.le_of_lt (Array.getElem?_eq_some_iff.1 HX8.out).1))
  have HI10 : Hid (InBox ((((((w9.setCell ⟨q2, 6, none⟩ (.int .u8 2)).setCell ⟨q2, 7, none⟩ (.int .u8 0)).setCell ⟨q2, 8, none⟩ (.int .u32 0)).setCell ⟨q2, 9, none⟩ (.int .i64 0)).setCell ⟨q2, 10, none⟩ (.string ⟨#[120]⟩)).setCell ⟨q2, 11, none⟩ (.slice none 0 0)) q2 (requireP ⟨some ⟨b2, 0, none⟩, 1⟩ Sp.none)) := Lib.hid (require_made hx9 hr9)
  have hf9 : ∀ i, w9.frozen? ⟨q2, i, none⟩ = false := fun i => by simp [World.frozen?, hx9]
  have d6 := arr_cells hx9 6 (v := .int .u8 1) rfl
  have d7 := arr_cells hx9 7 (v := .int .u8 0) rfl
  have d8 := arr_cells hx9 8 (v := .int .u32 1) rfl
  have d9 := arr_cells hx9 9 (v := .int .i64 1) rfl
  have d10 := arr_cells hx9 10 (v := .string ⟨#[]⟩) rfl
  have d11 := arr_cells hx9 11 (v := .slice none 0 0) rfl
  have e6 := hf9 6
  have e7 := hf9 7
  have e8 := hf9 8
  have e9 := hf9 9
  have e10 := hf9 10
  have e11 := hf9 11
  have hlow10 : ∀ n, n ≤ q2 → Below n w9 ((((((w9.setCell ⟨q2, 6, none⟩ (.int .u8 2)).setCell ⟨q2, 7, none⟩ (.int .u8 0)).setCell ⟨q2, 8, none⟩ (.int .u32 0)).setCell ⟨q2, 9, none⟩ (.int .i64 0)).setCell ⟨q2, 10, none⟩ (.string ⟨#[120]⟩)).setCell ⟨q2, 11, none⟩ (.slice none 0 0)) := fun n hn =>
    ((((((Below.refl n w9).setCell (p := ⟨q2, 6, none⟩) hn (.int .u8 2)).setCell (p := ⟨q2, 7, none⟩) hn (.int .u8 0)).setCell (p := ⟨q2, 8, none⟩) hn (.int .u32 0)).setCell (p := ⟨q2, 9, none⟩) hn (.int .i64 0)).setCell (p := ⟨q2, 10, none⟩) hn (.string ⟨#[120]⟩)).setCell (p := ⟨q2, 11, none⟩) hn (.slice none 0 0)
  have HB10 := Lib.hid ((HB8.out.trans (hb9.mono HB8.out.size)).trans (hlow10 _ hwq2))
  have HL10 := Lib.hid ((HI8.out.below (hb9.mono (Nat.le_of_lt (Array.getElem?_eq_some_iff.1 HX8.out).1))).below (hlow10 _ (Nat.le_refl _)))
  have hq2w : q2 < ((((((w9.setCell ⟨q2, 6, none⟩ (.int .u8 2)).setCell ⟨q2, 7, none⟩ (.int .u8 0)).setCell ⟨q2, 8, none⟩ (.int .u32 0)).setCell ⟨q2, 9, none⟩ (.int .i64 0)).setCell ⟨q2, 10, none⟩ (.string ⟨#[120]⟩)).setCell ⟨q2, 11, none⟩ (.slice none 0 0)).heap.size := (Array.getElem?_eq_some_iff.1 HI10.out.box).1
  clear hx9 hr9 hf9 hlow10 hb9 HB8 HI8 HX8 HR8
  go_upto_region 5 with fail
  generalize ((((((w9.setCell ⟨q2, 6, none⟩ (.int .u8 2)).setCell ⟨q2, 7, none⟩ (.int .u8 0)).setCell ⟨q2, 8, none⟩ (.int .u32 0)).setCell ⟨q2, 9, none⟩ (.int .i64 0)).setCell ⟨q2, 10, none⟩ (.string ⟨#[120]⟩)).setCell ⟨q2, 11, none⟩ (.slice none 0 0)) = W10 at *
  clear d6 d7 d8 d9 d10 d11 e6 e7 e8 e9 e10 e11
  go_wp2_with fail
  refine (HSM.out _).mono ?_
  rintro o w11 ⟨b3, rfl, hr11, hb11⟩
  have hb12 : Below w11.heap.size w11 (w11.alloc (.cells (smallP ⟨some ⟨b3, 0, none⟩, 1⟩ Sp.none []).arr 39)) := (Below.refl _ _).alloc (Nat.le_refl _) _
  have HX12 := Lib.hid (World.alloc_heap_new w11 (.cells (smallP ⟨some ⟨b3, 0, none⟩, 1⟩ Sp.none []).arr 39))
  have HR12 := Lib.hid (hr11.below hb12)
  have hwq3 : w.heap.size ≤ w11.heap.size := Nat.le_trans HB10.out.size hb11.size
  have hq23 : q2 < w11.heap.size := Nat.lt_of_lt_of_le hq2w hb11.size
  have HB12 := Lib.hid (HB10.out.trans ((hb11.trans (hb12.mono hb11.size)).mono HB10.out.size))
  have HL12 := Lib.hid (((HL10.out.more (Nat.le_of_lt hq2w)).below hb11).more hb11.size |>.below hb12)
  have HI12 := Lib.hid (((HI10.out.at.below hb11).more hb11.size).below hb12)
  clear hr11 hb11 hb12 HB10 HL10 HI10
  go_upto_region 6 with (first
    | (refine wpList_allocRow (t := 39) rfl rfl (run_zeroP _) ?_)
    | (refine wpList_storeNew (t := 39) rfl _ _ rfl rfl rfl (arr_size _) rfl (arr_one _) ?_)
    | fail)
  generalize w11.alloc (.cells (smallP ⟨some ⟨b3, 0, none⟩, 1⟩ Sp.none []).arr 39) = W12 at *
  generalize w11.heap.size = q3 at *
  generalize (Value.agg (smallP ⟨some ⟨b3, 0, none⟩, 1⟩ Sp.none []).arr) = va3
  have hq3 := (Array.getElem?_eq_some_iff.1 HX12.out).1
  have c4 := arr_cells HX12.out 4 (v := .slice (some ⟨b3, 0, none⟩) 1 1) rfl
  have HV12 := Lib.hid (HR12.out.vars.row)
  have hbA : Below W12.heap.size W12 (W12.alloc (.cells #[.string ⟨#[120]⟩, .int .i64 1, .int .i64 0] 44)) := (Below.refl _ _).alloc (Nat.le_refl _) _
  have HGA := Lib.hid (World.alloc_heap_new W12 (.cells #[.string ⟨#[120]⟩, .int .i64 1, .int .i64 0] 44))
  have HVA := Lib.hid (HV12.out.below (hbA.mono (Nat.le_of_lt hq3)))
  have hsA : W12.heap.size ≤ (W12.alloc (.cells #[.string ⟨#[120]⟩, .int .i64 1, .int .i64 0] 44)).heap.size := hbA.size
  have HBA := Lib.hid hbA
  clear hbA
  go_wp2_with (first | (at_builtin; refine wpList_append_decl rfl _ _ rfl _ _ _ rfl HVA.out rfl HGA.out ?_) | fail)
  intro vb c w14 hvb hrow14 hb14
  have hbAll := HBA.out.trans (hb14.mono (Nat.le_succ _))
  have hx14 := (hbAll.block _ hq3).trans HX12.out
  have hq3le : q3 ≤ W12.heap.size := Nat.le_of_lt hq3
  have hr14 := HR12.out.below (hbAll.mono hq3le)
  have d4 := arr_cells hx14 4 (v := .slice (some ⟨b3, 0, none⟩) 1 1) rfl
  have f4 : w14.frozen? ⟨q3, 4, none⟩ = false := by simp [World.frozen?, hx14]
  have HI15 := twice_made hx14 hr14 (hrow14.setCell ⟨q3, 4, none⟩ (show q3 ≠ vb by omega) (.slice (some ⟨vb, 0, none⟩) 2 c))
  have hs15 : Below q3 w14 (w14.setCell ⟨q3, 4, none⟩ (.slice (some ⟨vb, 0, none⟩) 2 c)) := (Below.refl _ _).setCell (p := ⟨q3, 4, none⟩) (Nat.le_refl _) _
  have hq15 : q3 ≤ (w14.setCell ⟨q3, 4, none⟩ (.slice (some ⟨vb, 0, none⟩) 2 c)).heap.size := Nat.le_trans hq3le (Nat.le_trans hbAll.size hs15.size)
  have HAA := Lib.hid (AwSt.mk ((HL12.out.below ((hbAll.mono hq3le).trans hs15)).inb hq15) ((HI12.out.below ((hbAll.mono hq3le).trans hs15)).inb hq15) HI15 (HB12.out.trans ((hbAll.mono (Nat.le_trans hwq3 hq3le)).trans (hs15.mono hwq3))))
  clear hbAll hx14 hr14 HI15 hs15 hq15 hrow14 hb14 HB12 HL12 HI12 HX12 HR12 HV12 HGA HVA HBA c4 hsA
  go_upto_region 7 with fail
  generalize hW15 : w14.setCell ⟨q3, 4, none⟩ (.slice (some ⟨vb, 0, none⟩) 2 c) = W15 at *
  clear d4 f4 hW15

  go_wp2_with fail
  refine (HSM.out _).mono ?_
  rintro o w16 ⟨b16, rfl, hr16, hb16⟩
  have HA16 := Lib.hid (HAA.out.on hb16)
  have HP_16 := Lib.hid (hr16)
  clear hb16 HAA
  clear hr16
  go_wp2_with fail
  refine (right_exp _ _ HP_16.out (Nat.lt_of_lt_of_le hn0 HA16.out.low.size) (fit0 _ _) (HMX.out.below HA16.out.low hn0) (chk0 _ _)).mono ?_
  rintro o w17 ⟨rfl, hb17⟩
  have HA17 := Lib.hid (HA16.out.on hb17)
  have HP_17 := Lib.hid (HP_16.out.on hb17)
  clear HP_16
  clear hb17 HA16
  clear HP_17
  go_wp2_with fail
  refine (num_exp 1 3 _).mono ?_
  rintro o w18 ⟨rfl, hb18⟩
  have HA18 := Lib.hid (HA17.out.on hb18)
  have HX_18 := Lib.hid (num_now w18 1 3 (by decide) (by decide))
  clear hb18 HA17
  go_wp2_with fail
  refine (set_exp xB (by decide) (numE 1 3) _ HX_18.out).mono ?_
  rintro o w19 ⟨sp19, rfl, ht19, hb19⟩
  have HA19 := Lib.hid (HA18.out.on hb19)
  have HX_19 := Lib.hid (HX_18.out.on hb19)
  clear HX_18
  have HT_19 := Lib.hid (ht19)
  clear hb19 HA18
  clear ht19
  clear HX_19
  go_wp2_with fail
  refine (num_exp 0 1 _).mono ?_
  rintro o w20 ⟨rfl, hb20⟩
  have HA20 := Lib.hid (HA19.out.on hb20)
  have HT_20 := Lib.hid (HT_19.out.on hb20)
  clear HT_19
  have HX_20 := Lib.hid (num_now w20 0 1 (by decide) (by decide))
  clear hb20 HA19
  go_wp2_with fail
  refine (name_exp xB _).mono ?_
  rintro o w21 ⟨rfl, hb21⟩
  have HA21 := Lib.hid (HA20.out.on hb21)
  have HT_21 := Lib.hid (HT_20.out.on hb21)
  clear HT_20
  have HX_21 := Lib.hid (HX_20.out.on hb21)
  clear HX_20
  have HY_21 := Lib.hid (name_now w21 xB (by decide))
  clear hb21 HA20
  go_wp2_with fail
  refine (write_exp (numE 0 1) (nameE xB) _ HX_21.out HY_21.out).mono ?_
  rintro o w22 ⟨sp22, rfl, ht22, hb22⟩
  have HA22 := Lib.hid (HA21.out.on hb22)
  have HT_22 := Lib.hid (HT_21.out.on hb22)
  clear HT_21
  have HX_22 := Lib.hid (HX_21.out.on hb22)
  clear HX_21
  have HY_22 := Lib.hid (HY_21.out.on hb22)
  clear HY_21
  have HU_22 := Lib.hid (ht22)
  clear hb22 HA21
  clear ht22
  clear HX_22
  clear HY_22
  go_wp2_with fail
  refine (small_two HT_22.out HU_22.out).mono ?_
  rintro o w23 ⟨b23, rfl, hr23, hb23⟩
  have HA23 := Lib.hid (HA22.out.on hb23)
  have HT_23 := Lib.hid (HT_22.out.on hb23)
  clear HT_22
  have HU_23 := Lib.hid (HU_22.out.on hb23)
  clear HU_22
  have HP_23 := Lib.hid (hr23)
  clear hb23 HA22
  clear hr23
  clear HT_23
  clear HU_23
  go_wp2_with fail
  refine (wrong_exp _ _ HP_23.out (Nat.lt_of_lt_of_le hn0 HA23.out.low.size) (fit1 _ _ _ _) (HMX.out.below HA23.out.low hn0) 5 322 (chk1 _ _ _ _)).mono ?_
  rintro o w24 ⟨rfl, hb24⟩
  have HA24 := Lib.hid (HA23.out.on hb24)
  have HP_24 := Lib.hid (HP_23.out.on hb24)
  clear HP_23
  clear hb24 HA23
  clear HP_24
  go_wp2_with fail
  refine (num_exp 1 2 _).mono ?_
  rintro o w25 ⟨rfl, hb25⟩
  have HA25 := Lib.hid (HA24.out.on hb25)
  have HX_25 := Lib.hid (num_now w25 1 2 (by decide) (by decide))
  clear hb25 HA24
  go_wp2_with fail
  refine (set_exp xB (by decide) (numE 1 2) _ HX_25.out).mono ?_
  rintro o w26 ⟨sp26, rfl, ht26, hb26⟩
  have HA26 := Lib.hid (HA25.out.on hb26)
  have HX_26 := Lib.hid (HX_25.out.on hb26)
  clear HX_25
  have HT_26 := Lib.hid (ht26)
  clear hb26 HA25
  clear ht26
  clear HX_26
  go_wp2_with fail
  refine (small_one HT_26.out _ rfl).mono ?_
  rintro o w27 ⟨b27, rfl, hr27, hb27⟩
  have HA27 := Lib.hid (HA26.out.on hb27)
  have HT_27 := Lib.hid (HT_26.out.on hb27)
  clear HT_26
  have HP_27 := Lib.hid (hr27)
  clear hb27 HA26
  clear hr27
  clear HT_27
  go_wp2_with fail
  refine (wrong_exp _ _ HP_27.out (Nat.lt_of_lt_of_le hn0 HA27.out.low.size) (fit2 _ _ _ _) (HMX.out.below HA27.out.low hn0) 3 322 (chk2 _ _ _)).mono ?_
  rintro o w28 ⟨rfl, hb28⟩
  have HA28 := Lib.hid (HA27.out.on hb28)
  have HP_28 := Lib.hid (HP_27.out.on hb28)
  clear HP_27
  clear hb28 HA27
  clear HP_28
  go_wp2_with fail
  refine (num_exp 1 2 _).mono ?_
  rintro o w29 ⟨rfl, hb29⟩
  have HA29 := Lib.hid (HA28.out.on hb29)
  have HX_29 := Lib.hid (num_now w29 1 2 (by decide) (by decide))
  clear hb29 HA28
  go_wp2_with fail
  refine (set_exp ⟨#[121]⟩ (by decide) (numE 1 2) _ HX_29.out).mono ?_
  rintro o w30 ⟨sp30, rfl, ht30, hb30⟩
  have HA30 := Lib.hid (HA29.out.on hb30)
  have HX_30 := Lib.hid (HX_29.out.on hb30)
  clear HX_29
  have HT_30 := Lib.hid (ht30)
  clear hb30 HA29
  clear ht30
  clear HX_30
  go_wp2_with fail
  refine (small_one HT_30.out _ rfl).mono ?_
  rintro o w31 ⟨b31, rfl, hr31, hb31⟩
  have HA31 := Lib.hid (HA30.out.on hb31)
  have HT_31 := Lib.hid (HT_30.out.on hb31)
  clear HT_30
  have HP_31 := Lib.hid (hr31)
  clear hb31 HA30
  clear hr31
  clear HT_31
  go_wp2_with fail
  refine (wrong_exp _ _ HP_31.out (Nat.lt_of_lt_of_le hn0 HA31.out.low.size) (fit2 _ _ _ _) (HMX.out.below HA31.out.low hn0) 3 321 (chk3 _ _ _)).mono ?_
  rintro o w32 ⟨rfl, hb32⟩
  have HA32 := Lib.hid (HA31.out.on hb32)
  have HP_32 := Lib.hid (HP_31.out.on hb32)
  clear HP_31
  clear hb32 HA31
  clear HP_32
  go_wp2_with (first | (refine wpList_load_row_g (by rfl) 39 _ rfl q1 rfl 39 _ (0, 0) _ HA32.out.i1.box Tryz.underlying39 rfl (arr_size _) ?_) | fail)
  refine (wrong_exp _ _ HA32.out.i1.rd (Nat.lt_of_lt_of_le hn0 HA32.out.low.size) (fit4 _ _ _ _ _) (HMX.out.below HA32.out.low hn0) 4 328 (chk4 _ _ _ _ _)).mono ?_
  rintro o w33 ⟨rfl, hb33⟩
  have HA33 := Lib.hid (HA32.out.on hb33)
  clear hb33 HA32
  go_wp2_with fail
  refine (name_exp xB _).mono ?_
  rintro o w34 ⟨rfl, hb34⟩
  have HA34 := Lib.hid (HA33.out.on hb34)
  have HY_34 := Lib.hid (name_now w34 xB (by decide))
  clear hb34 HA33
  go_wp2_with fail
  refine (small_while HY_34.out).mono ?_
  rintro o w35 ⟨b35, rfl, hr35, hb35⟩
  have HA35 := Lib.hid (HA34.out.on hb35)
  have HY_35 := Lib.hid (HY_34.out.on hb35)
  clear HY_34
  have HP_35 := Lib.hid (hr35)
  clear hb35 HA34
  clear hr35
  clear HY_35
  go_wp2_with fail
  refine (wrong_exp _ _ HP_35.out (Nat.lt_of_lt_of_le hn0 HA35.out.low.size) (fit5 _ _ _) (HMX.out.below HA35.out.low hn0) 3 329 (chk5 _ _ _)).mono ?_
  rintro o w36 ⟨rfl, hb36⟩
  have HA36 := Lib.hid (HA35.out.on hb36)
  have HP_36 := Lib.hid (HP_35.out.on hb36)
  clear HP_35
  clear hb36 HA35
  clear HP_36
  go_wp2_with (first | (refine wpList_load_row_g (by rfl) 39 _ rfl q2 rfl 39 _ (0, 0) _ HA36.out.i2.box Tryz.underlying39 rfl (arr_size _) ?_) | fail)
  refine (wrong_exp _ _ HA36.out.i2.rd (Nat.lt_of_lt_of_le hn0 HA36.out.low.size) (fit6 _ _) (HMX.out.below HA36.out.low hn0) 2 326 (chk6 _ _)).mono ?_
  rintro o w37 ⟨rfl, hb37⟩
  have HA37 := Lib.hid (HA36.out.on hb37)
  clear hb37 HA36
  go_wp2_with fail
  refine (num_exp 5 2 _).mono ?_
  rintro o w38 ⟨rfl, hb38⟩
  have HA38 := Lib.hid (HA37.out.on hb38)
  have HX_38 := Lib.hid (num_now w38 5 2 (by decide) (by decide))
  clear hb38 HA37
  go_wp2_with fail
  refine (set_cast HX_38.out).mono ?_
  rintro o w39 ⟨sp39, rfl, ht39, hb39⟩
  have HA39 := Lib.hid (HA38.out.on hb39)
  have HX_39 := Lib.hid (HX_38.out.on hb39)
  clear HX_38
  have HT_39 := Lib.hid (ht39)
  clear hb39 HA38
  clear ht39
  clear HX_39
  go_wp2_with fail
  refine (small_one HT_39.out _ rfl).mono ?_
  rintro o w40 ⟨b40, rfl, hr40, hb40⟩
  have HA40 := Lib.hid (HA39.out.on hb40)
  have HT_40 := Lib.hid (HT_39.out.on hb40)
  clear HT_39
  have HP_40 := Lib.hid (hr40)
  clear hb40 HA39
  clear hr40
  clear HT_40
  go_wp2_with fail
  refine (wrong_exp _ _ HP_40.out (Nat.lt_of_lt_of_le hn0 HA40.out.low.size) (fit7 _ _ _ _) (HMX.out.below HA40.out.low hn0) 5 322 (chk7 _ _ _ _)).mono ?_
  rintro o w41 ⟨rfl, hb41⟩
  have HA41 := Lib.hid (HA40.out.on hb41)
  have HP_41 := Lib.hid (HP_40.out.on hb41)
  clear HP_40
  clear hb41 HA40
  clear HP_41
  go_wp2_with (first | (refine wpList_load_row_g (by rfl) 39 _ rfl q3 rfl 39 _ (0, 0) _ HA41.out.i3.box Tryz.underlying39 rfl (arr_size _) ?_) | fail)
  refine (wrong_exp _ _ HA41.out.i3.rd (Nat.lt_of_lt_of_le hn0 HA41.out.low.size) (fit8 _ _) (HMX.out.below HA41.out.low hn0) 2 321 (chk8 _ _)).mono ?_
  rintro o w42 ⟨rfl, hb42⟩
  have HA42 := Lib.hid (HA41.out.on hb42)
  clear hb42 HA41
  go_wp2_with fail
  go_ret
  exact ⟨rfl, HA42.out.low⟩
end Go.Proofs.YthcboallnbaimaaGreatDoor
