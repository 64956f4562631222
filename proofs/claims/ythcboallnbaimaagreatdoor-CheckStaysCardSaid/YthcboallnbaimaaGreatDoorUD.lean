/- salvorlaw29's maker: stmts. salvorlaw29's Made: what the maker's block holds while the program is made. salvorlaw29's Made: the loop over the blocks, what it keeps. salvorlaw29's Made, walked. -/
import Derived.Test.YthcboallnbaimaaGreatDoorUC
import Derived.Test.YthcboallnbaimaaGreatDoorUB
import Derived.Test.YthcboallnbaimaaGreatDoorProgram
import Derived.Deep.MidRow
namespace Go.Proofs.YthcboallnbaimaaGreatDoor
open Go Go.RowKit Go.Maps
set_option maxRecDepth 1000000 in
set_option maxHeartbeats 16000000 in
theorem stmts_zero : StmtsOkM 0 := by
 intro q n lv ls at_ p M hasP w h hP most hmost
 have c3 := h.base.cell 3 rfl
 have H := Lib.hid h
 have HP := Lib.hid hP
 have HPW : Hid (1 ≤ p.width ∧ p.width ≤ 3) := Lib.hid (by rw [h.width]; exact ⟨h.ok.1, h.ok.2.1⟩)
 have HWM := Lib.hid h.width
 have HSTD := Lib.hid h.std
 have hm1 : (0 : Int) ≤ most + 1 := by omega
 have hm2 : most + 1 ≤ 6 := by omega
 have HNX := Lib.hid (next_any q n lv ls at_ p M.prm w h.base (most + 1) (by omega) (by omega))
 have hqw := h.base.box_lt
 have HNW := Lib.hid h.base.nW
 clear hP h
 go_enter Tryz.func61, Tryz.ntmps61
 go_wp2_with fail
 refine HNX.out.mono ?_
 rintro o w1 ⟨K, a1, rfl, hK0, hK1, hmk, hb1⟩
 have H1 := Lib.hid (H.out.next hmk hb1)
 have HB1 := Lib.hid hb1
 clear hmk hb1 HNX c3
 obtain ⟨Kn, rfl⟩ := Int.eq_ofNat_of_zero_le hK0
 have hKm : (Kn : Int) ≤ most := by omega
 clear hK1 hK0 hm1 hm2
 go_wp2_with fail
 go_loopw [7, 22] (fun s7 s22 wr => ∃ (j at' : Nat) (A : Option Addr) (c : Nat) (l : List StmtV), j ≤ Kn ∧ s22 = .int .i64 j ∧ s7 = .slice A l.length c ∧ l.length = j ∧ OwnL w.heap.size wr 49 6 StmtV.cells (.slice A l.length c) l ∧ (∀ s, s ∈ l → WT M hasP 0 s) ∧ (∀ s, s ∈ l → NewTx w.heap.size (Value.slice A l.length c).ownBlock wr s) ∧ MkR q n lv ls at' p M wr ∧ Below w.heap.size (mask q w) (mask q wr)) (fun _ s22 _ => Kn - (intOf s22).toNat)
 case atStart => exact ⟨0, a1, none, 0, [], Nat.zero_le _, rfl, rfl, rfl, OwnL.nil, fun _ h => absurd h (by simp), fun _ h => absurd h (by simp), H1.out, HB1.out⟩
 case round =>
   obtain ⟨j, at', A, c, l, hj, rfl, rfl, hlj, hown, hwt, hnt, hmr, hbr⟩ := hrel
   by_cases hlt : j < Kn
   · have HO := Lib.hid hown
     have HWT := Lib.hid hwt
     have HNT := Lib.hid hnt
     have HBR := Lib.hid hbr
     have HLJ := Lib.hid hlj
     have hwr : w.heap.size ≤ wr.heap.size := size_mask hbr
     have hba : Below wr.heap.size wr (wr.alloc (.cells #[.int .u8 0, .string ⟨#[]⟩, .slice none 0 0, .int .i64 0, .slice none 0 0, .slice none 0 0] 49)) := (Below.refl _ _).alloc (Nat.le_refl _) _
     have hS : StS q n lv ls at' p M wr (wr.alloc (.cells #[.int .u8 0, .string ⟨#[]⟩, .slice none 0 0, .int .i64 0, .slice none 0 0, .slice none 0 0] 49)) := ⟨hmr.on hba, hmr.base.box_lt, hmr.base.nW, below_mask hmr.base.box_lt hba, World.alloc_heap_new _ _⟩
     have HS0 := Lib.hid hS
     clear hown hwt hnt hmr hbr hlj H1 HB1 hba hS
     go_upto_region 6 with fail
     generalize wr.alloc (.cells #[.int .u8 0, .string ⟨#[]⟩, .slice none 0 0, .int .i64 0, .slice none 0 0, .slice none 0 0] 49) = W0 at *
     have z0 := HS0.out.base.base.cell 3 rfl
     have t0 := HS0.out.base.base.cell 24 rfl
     go_wp2_with fail
     refine (next_any q n lv ls _ p M.prm _ HS0.out.base.base 16 (by decide) (by decide)).mono ?_
     rintro o W1 ⟨k1, a1, rfl, lo1, hi1, hm, hb⟩
     have HS1 := Lib.hid (HS0.out.next hm hb)
     clear hm hb HS0 z0 t0
     have z1 := HS1.out.base.base.cell 3 rfl
     have t1 := HS1.out.base.base.cell 24 rfl
     go_upto_block 2 with fail
     go_cut [12] (fun _ wx => StE q n lv ls p M hasP 0 wr wx)
     case first =>
       have hk16 : (0 ≤ k1 ∧ k1 ≤ 4) ∨ (5 ≤ k1 ∧ k1 ≤ 6) ∨ k1 = 7 ∨ (8 ≤ k1 ∧ k1 ≤ 9) ∨ k1 = 10 ∨ (11 ≤ k1 ∧ k1 ≤ 12) ∨ k1 = 13 ∨ k1 = 14 ∨ k1 = 15 := by omega
       clear lo1 hi1
       rcases hk16 with ⟨lo1, hi1⟩ | ⟨lo1, hi1⟩ | rfl | ⟨lo1, hi1⟩ | rfl | ⟨lo1, hi1⟩ | rfl | rfl | rfl
       · skip
         go_wp2_with fail
         refine (expr_ok 1 (by decide) q n lv ls _ p M _ HS1.out.base 2 0 ⟨by decide, by decide⟩).mono ?_
         rintro o W2 ⟨e1, a2, rfl, hwx, hnx, hm, hb⟩
         have HW1 := Lib.hid hwx
         have HS2 := Lib.hid (HS1.out.next hm hb)
         have HE1_2 := Lib.hid (hnx.less HS1.out.size)
         clear hwx hnx
         clear hm hb HS1 z1 t1
         have z2 := HS2.out.base.base.cell 3 rfl
         have t2 := HS2.out.base.base.cell 24 rfl
         go_wp2_with fail
         refine (expr_ok 2 (by decide) q n lv ls _ p M _ HS2.out.base p.width 0 HPW.out).mono ?_
         rintro o W3 ⟨e2, a3, rfl, hwx, hnx, hm, hb⟩
         have HW2 := Lib.hid hwx
         have HS3 := Lib.hid (HS2.out.next hm hb)
         have HE1_3 := Lib.hid (HE1_2.out.on hb (by have := HS2.out.old; omega))
         have HE2_3 := Lib.hid (hnx.less HS2.out.size)
         clear hwx hnx
         clear hm hb HS2 z2 t2 HE1_2
         have z3 := HS3.out.base.base.cell 3 rfl
         have t3 := HS3.out.base.base.cell 24 rfl
         have hb : Below W3.heap.size W3 (W3.alloc (.cells #[.int .u8 e1.kind, .int .u8 e1.op, .int .u32 e1.value, .int .i64 e1.width, .string e1.name, .slice e1.sp.at_ e1.subs.length e1.sp.cap, .int .u8 e2.kind, .int .u8 e2.op, .int .u32 e2.value, .int .i64 e2.width, .string e2.name, .slice e2.sp.at_ e2.subs.length e2.sp.cap] 34)) := (Below.refl _ _).alloc (Nat.le_refl _) _
         have hbm := below_mask HS3.out.lt hb
         have HSA := Lib.hid (HS3.out.on hb)
         have HRA := Lib.hid ((row_list (k := 6) (enc := ExprV.cells) (l := [e1, e2]) (c := 2) (t := 34) (fr := (0, 0)) (fun _ => rfl) rfl (by simp) (World.alloc_heap_new W3 (.cells #[.int .u8 e1.kind, .int .u8 e1.op, .int .u32 e1.value, .int .i64 e1.width, .string e1.name, .slice e1.sp.at_ e1.subs.length e1.sp.cap, .int .u8 e2.kind, .int .u8 e2.op, .int .u32 e2.value, .int .i64 e2.width, .string e2.name, .slice e2.sp.at_ e2.subs.length e2.sp.cap] 34))).low (lo := wr.heap.size + 1) HS3.out.size)
         have HXA : Hid (∀ e, e ∈ [e1, e2] → NewX (wr.heap.size + 1) (W3.alloc (.cells #[.int .u8 e1.kind, .int .u8 e1.op, .int .u32 e1.value, .int .i64 e1.width, .string e1.name, .slice e1.sp.at_ e1.subs.length e1.sp.cap, .int .u8 e2.kind, .int .u8 e2.op, .int .u32 e2.value, .int .i64 e2.width, .string e2.name, .slice e2.sp.at_ e2.subs.length e2.sp.cap] 34)) e) := Lib.hid (fun e he => by
           simp only [List.mem_cons, List.not_mem_nil, or_false] at he
           rcases he with rfl | rfl
           · exact HE1_3.out.below hb
           · exact HE2_3.out.below hb)
         clear hb hbm
         go_wp2_with (first | (refine wpList_store_row rfl 49 _ _ rfl wr.heap.size #[.int .u8 3, .string ⟨#[]⟩, .slice (some ⟨W3.heap.size, 0, none⟩) 2 2, .int .i64 0, .slice none 0 0, .slice none 0 0] (by rfl) (by rfl) 49 zT HSA.out.cr (stmt_size _ _ _ _ _ _) (by rfl) (stmt_one _ _ _ _ _ _ _ _ _ _ _ _) ?_) | fail)
         go_meet
         case rel => exact HSA.out.fin (.mk 3 ⟨#[]⟩ ⟨some ⟨W3.heap.size, 0, none⟩, 2⟩ [e1, e2] 0 Sp.none [] Sp.none []) (.write HW1.out (HWM.out ▸ HW2.out)) (newT_node HRA.out HXA.out newTs_nil newTs_nil ⟨by decide, by decide⟩ (show (Lit.int .i64 0).wf = true by decide) (show (⟨#[]⟩ : ByteArray).size ≤ maxLen by decide)) rfl
       · skip
         have f0 : W1.frozen? ⟨wr.heap.size, 0, none⟩ = false := by simp [World.frozen?, HS1.out.cr]
         have x0 : W1.cell? ⟨wr.heap.size, 0, none⟩ = some (.int .u8 0) := by simp [World.cell?, HS1.out.cr, zT]
         go_wp2_with fail
         go_meet
         case rel => exact HS1.out.fin1 (by decide)
       · skip
         have f0 : W1.frozen? ⟨wr.heap.size, 0, none⟩ = false := by simp [World.frozen?, HS1.out.cr]
         have x0 : W1.cell? ⟨wr.heap.size, 0, none⟩ = some (.int .u8 0) := by simp [World.cell?, HS1.out.cr, zT]
         go_wp2_with fail
         go_meet
         case rel => exact HS1.out.fin1 (by decide)
       · skip
         have hq1 := HS1.out.lt
         have hw1 : wr.heap.size < W1.heap.size := HS1.out.size
         have hb : Below W1.heap.size W1 (W1.alloc (.cells #[.string ⟨#[118]⟩, .int .i64 p.width, .int .i64 0, .string ⟨#[99]⟩, .int .i64 2, .int .i64 0, .string ⟨#[103]⟩, .int .i64 p.width, .int .i64 0, .string ⟨#[104]⟩, .int .i64 1, .int .i64 0] 44)) := (Below.refl _ _).alloc (Nat.le_refl _) _
         have HS2 := Lib.hid (HS1.out.on hb)
         have HD2 := Lib.hid (World.alloc_heap_new W1 (.cells #[.string ⟨#[118]⟩, .int .i64 p.width, .int .i64 0, .string ⟨#[99]⟩, .int .i64 2, .int .i64 0, .string ⟨#[103]⟩, .int .i64 p.width, .int .i64 0, .string ⟨#[104]⟩, .int .i64 1, .int .i64 0] 44))
         clear hb HS1 z1 t1
         go_wp2_with fail
         generalize W1.alloc (.cells #[.string ⟨#[118]⟩, .int .i64 p.width, .int .i64 0, .string ⟨#[99]⟩, .int .i64 2, .int .i64 0, .string ⟨#[103]⟩, .int .i64 p.width, .int .i64 0, .string ⟨#[104]⟩, .int .i64 1, .int .i64 0] 44) = W2 at *
         refine (next_any q n lv ls _ p M.prm _ HS2.out.base.base 4 (by decide) (by decide)).mono ?_
         rintro o W3 ⟨k3, a3, rfl, lo3, hi3, hm, hb⟩
         have HS3 := Lib.hid (HS2.out.next hm hb)
         have HD3 := Lib.hid ((mask_block hb (Array.getElem?_eq_some_iff.1 HD2.out).1 (by omega)).trans HD2.out)
         clear hm hb HS2 HD2
         obtain ⟨kn, rfl⟩ := Int.eq_ofNat_of_zero_le lo3
         obtain ⟨nm, wd, tt, g0, g1, g2, hmem, htw, hwd, hnm⟩ : ∃ (nm : ByteArray) (wd : Int) (tt : Thing), W3.cell? ⟨W1.heap.size, kn * 3, none⟩ = some (.string nm) ∧ W3.cell? ⟨W1.heap.size, kn * 3 + 1, none⟩ = some (.int .i64 wd) ∧ W3.cell? ⟨W1.heap.size, kn * 3 + 2, none⟩ = some (.int .i64 0) ∧ (nm, tt) ∈ ghostsT M ++ varsT M ∧ tt.width = wd ∧ (1 ≤ wd ∧ wd ≤ 3) ∧ nm.size ≤ maxLen := by
           have hk4 : kn = 0 ∨ kn = 1 ∨ kn = 2 ∨ kn = 3 := by omega
           rcases hk4 with rfl | rfl | rfl | rfl
           · exact ⟨⟨#[118]⟩, p.width, ⟨3, M.w⟩, by simp [World.cell?, HD3.out], by simp [World.cell?, HD3.out], by simp [World.cell?, HD3.out], by simp [ghostsT, varsT, HSTD.out, std], HWM.out.symm, HPW.out, by decide⟩
           · exact ⟨⟨#[99]⟩, 2, ⟨3, 2⟩, by simp [World.cell?, HD3.out], by simp [World.cell?, HD3.out], by simp [World.cell?, HD3.out], by simp [ghostsT, varsT, HSTD.out, std], rfl, ⟨by decide, by decide⟩, by decide⟩
           · exact ⟨⟨#[103]⟩, p.width, ⟨2, M.w⟩, by simp [World.cell?, HD3.out], by simp [World.cell?, HD3.out], by simp [World.cell?, HD3.out], by simp [ghostsT, varsT, HSTD.out, std], HWM.out.symm, HPW.out, by decide⟩
           · exact ⟨⟨#[104]⟩, 1, ⟨2, 1⟩, by simp [World.cell?, HD3.out], by simp [World.cell?, HD3.out], by simp [World.cell?, HD3.out], by simp [ghostsT, varsT, HSTD.out, std], rfl, ⟨by decide, by decide⟩, by decide⟩
         have HMEM := Lib.hid hmem
         have HTW := Lib.hid htw
         have HNM := Lib.hid hnm
         clear hmem htw hnm HD3
         have hkn4 : (kn : Int) < 4 := hi3
         have hb : Below W3.heap.size W3 (W3.alloc (.cells #[.string nm, .int .i64 wd, .int .i64 0] 44)) := (Below.refl _ _).alloc (Nat.le_refl _) _
         have HS4 := Lib.hid (HS3.out.on hb)
         have hd4 := World.alloc_heap_new W3 (.cells #[.string nm, .int .i64 wd, .int .i64 0] 44)
         have hw3 : wr.heap.size < W3.heap.size := HS3.out.size
         have hq3 := HS3.out.lt
         clear hb HS3
         go_upto_region 16 with fail
         generalize W3.alloc (.cells #[.string nm, .int .i64 wd, .int .i64 0] 44) = W4 at *
         clear g0 g1 g2
         have d0 : W4.cell? ⟨W3.heap.size, 0, none⟩ = some (.string nm) := by simp [World.cell?, hd4]
         have d1 : W4.cell? ⟨W3.heap.size, 1, none⟩ = some (.int .i64 wd) := by simp [World.cell?, hd4]
         have HD4 := Lib.hid hd4
         have HS5 := Lib.hid (HS4.out.on (Below.refl _ _).drew)
         clear hd4 HS4
         generalize hb3 : W3.heap.size = b3 at *
         clear hb3
         go_region_with (go_at_call 60; refine (expr_ok 2 (by decide) q n lv ls _ p M _ HS5.out.base wd 0 hwd).mono ?_; rintro o W6 ⟨e1, a6, rfl, hwx, hnx, hm, hb⟩; have HS6 := Lib.hid (HS5.out.next hm hb); have HW1 := Lib.hid hwx; have HE1_6 := Lib.hid (hnx.less HS5.out.size); have hd6 := (mask_block hb (show b3 < W4.drew.heap.size from (Array.getElem?_eq_some_iff.1 HD4.out).1) (show b3 ≠ q by omega)).trans (show W4.drew.heap[b3]? = _ from HD4.out); have d0b : W6.cell? ⟨b3, 0, none⟩ = some (.string nm) := (by simp [World.cell?, hd6]); have hba : Below W6.heap.size W6 (W6.alloc (.cells #[.int .u8 e1.kind, .int .u8 e1.op, .int .u32 e1.value, .int .i64 e1.width, .string e1.name, .slice e1.sp.at_ e1.subs.length e1.sp.cap] 34)) := (Below.refl _ _).alloc (Nat.le_refl _) _; have d0c : (W6.alloc (.cells #[.int .u8 e1.kind, .int .u8 e1.op, .int .u32 e1.value, .int .i64 e1.width, .string e1.name, .slice e1.sp.at_ e1.subs.length e1.sp.cap] 34)).cell? ⟨b3, 0, none⟩ = some (.string nm) := (hba.cell (p := ⟨b3, 0, none⟩) (Array.getElem?_eq_some_iff.1 hd6).1).trans d0b; have HSA := Lib.hid (HS6.out.on hba); have HRA := Lib.hid ((row_list (k := 6) (enc := ExprV.cells) (l := [e1]) (c := 1) (t := 34) (fr := (0, 0)) (fun _ => rfl) rfl (by simp) (World.alloc_heap_new W6 (.cells #[.int .u8 e1.kind, .int .u8 e1.op, .int .u32 e1.value, .int .i64 e1.width, .string e1.name, .slice e1.sp.at_ e1.subs.length e1.sp.cap] 34))).low (lo := wr.heap.size + 1) HS6.out.size); have HXA : Hid (∀ e, e ∈ [e1] → NewX (wr.heap.size + 1) (W6.alloc (.cells #[.int .u8 e1.kind, .int .u8 e1.op, .int .u32 e1.value, .int .i64 e1.width, .string e1.name, .slice e1.sp.at_ e1.subs.length e1.sp.cap] 34)) e) := Lib.hid (fun e he => (by simp only [List.mem_cons, List.not_mem_nil, or_false] at he; rw [he]; exact HE1_6.out.below hba)); have x0 : (W6.alloc (.cells #[.int .u8 e1.kind, .int .u8 e1.op, .int .u32 e1.value, .int .i64 e1.width, .string e1.name, .slice e1.sp.at_ e1.subs.length e1.sp.cap] 34)).cell? ⟨wr.heap.size, 0, none⟩ = some (.int .u8 0) := (by simp [World.cell?, HSA.out.cr, zT]); have x1 : (W6.alloc (.cells #[.int .u8 e1.kind, .int .u8 e1.op, .int .u32 e1.value, .int .i64 e1.width, .string e1.name, .slice e1.sp.at_ e1.subs.length e1.sp.cap] 34)).cell? ⟨wr.heap.size, 1, none⟩ = some (.string ⟨#[]⟩) := (by simp [World.cell?, HSA.out.cr, zT]); have x2 : (W6.alloc (.cells #[.int .u8 e1.kind, .int .u8 e1.op, .int .u32 e1.value, .int .i64 e1.width, .string e1.name, .slice e1.sp.at_ e1.subs.length e1.sp.cap] 34)).cell? ⟨wr.heap.size, 2, none⟩ = some (.slice none 0 0) := (by simp [World.cell?, HSA.out.cr, zT]); have x3 : (W6.alloc (.cells #[.int .u8 e1.kind, .int .u8 e1.op, .int .u32 e1.value, .int .i64 e1.width, .string e1.name, .slice e1.sp.at_ e1.subs.length e1.sp.cap] 34)).cell? ⟨wr.heap.size, 3, none⟩ = some (.int .i64 0) := (by simp [World.cell?, HSA.out.cr, zT]); have x4 : (W6.alloc (.cells #[.int .u8 e1.kind, .int .u8 e1.op, .int .u32 e1.value, .int .i64 e1.width, .string e1.name, .slice e1.sp.at_ e1.subs.length e1.sp.cap] 34)).cell? ⟨wr.heap.size, 4, none⟩ = some (.slice none 0 0) := (by simp [World.cell?, HSA.out.cr, zT]); have x5 : (W6.alloc (.cells #[.int .u8 e1.kind, .int .u8 e1.op, .int .u32 e1.value, .int .i64 e1.width, .string e1.name, .slice e1.sp.at_ e1.subs.length e1.sp.cap] 34)).cell? ⟨wr.heap.size, 5, none⟩ = some (.slice none 0 0) := (by simp [World.cell?, HSA.out.cr, zT]); have f0 : (W6.alloc (.cells #[.int .u8 e1.kind, .int .u8 e1.op, .int .u32 e1.value, .int .i64 e1.width, .string e1.name, .slice e1.sp.at_ e1.subs.length e1.sp.cap] 34)).frozen? ⟨wr.heap.size, 0, none⟩ = false := (by simp [World.frozen?, HSA.out.cr]); have f1 : (W6.alloc (.cells #[.int .u8 e1.kind, .int .u8 e1.op, .int .u32 e1.value, .int .i64 e1.width, .string e1.name, .slice e1.sp.at_ e1.subs.length e1.sp.cap] 34)).frozen? ⟨wr.heap.size, 1, none⟩ = false := (by simp [World.frozen?, HSA.out.cr]); have f2 : (W6.alloc (.cells #[.int .u8 e1.kind, .int .u8 e1.op, .int .u32 e1.value, .int .i64 e1.width, .string e1.name, .slice e1.sp.at_ e1.subs.length e1.sp.cap] 34)).frozen? ⟨wr.heap.size, 2, none⟩ = false := (by simp [World.frozen?, HSA.out.cr]); have f3 : (W6.alloc (.cells #[.int .u8 e1.kind, .int .u8 e1.op, .int .u32 e1.value, .int .i64 e1.width, .string e1.name, .slice e1.sp.at_ e1.subs.length e1.sp.cap] 34)).frozen? ⟨wr.heap.size, 3, none⟩ = false := (by simp [World.frozen?, HSA.out.cr]); have f4 : (W6.alloc (.cells #[.int .u8 e1.kind, .int .u8 e1.op, .int .u32 e1.value, .int .i64 e1.width, .string e1.name, .slice e1.sp.at_ e1.subs.length e1.sp.cap] 34)).frozen? ⟨wr.heap.size, 4, none⟩ = false := (by simp [World.frozen?, HSA.out.cr]); have f5 : (W6.alloc (.cells #[.int .u8 e1.kind, .int .u8 e1.op, .int .u32 e1.value, .int .i64 e1.width, .string e1.name, .slice e1.sp.at_ e1.subs.length e1.sp.cap] 34)).frozen? ⟨wr.heap.size, 5, none⟩ = false := (by simp [World.frozen?, HSA.out.cr]); clear hwx hnx hm hb hd6 hba)
         all_goals
           go_wp2_with fail
           go_meet
           case rel => rw [six_set HSA.out.cr]; exact HSA.out.fin (.mk 1 nm ⟨some ⟨W6.heap.size, 0, none⟩, 1⟩ [e1] 0 Sp.none [] Sp.none []) (.set HMEM.out (HTW.out ▸ HW1.out)) (newT_node HRA.out HXA.out newTs_nil newTs_nil ⟨by decide, by decide⟩ (show (Lit.int .i64 0).wf = true by decide) HNM.out) rfl
       · have HNA0 : Hid (M.N.a = ⟨#[97]⟩) := Lib.hid (by rw [HSTD.out]; rfl)
         go_wp2_with fail
         refine (expr_ok 1 (by decide) q n lv ls _ p M _ HS1.out.base 2 0 ⟨by decide, by decide⟩).mono ?_
         rintro o W2 ⟨e1, a2, rfl, hwx, hnx, hm, hb⟩
         have HW1 := Lib.hid hwx
         have HS2 := Lib.hid (HS1.out.next hm hb)
         have HE1_2 := Lib.hid (hnx.less HS1.out.size)
         clear hwx hnx
         clear hm hb HS1 z1 t1
         have z2 := HS2.out.base.base.cell 3 rfl
         have t2 := HS2.out.base.base.cell 24 rfl
         go_wp2_with fail
         refine (expr_ok 1 (by decide) q n lv ls _ p M _ HS2.out.base p.width 0 HPW.out).mono ?_
         rintro o W3 ⟨e2, a3, rfl, hwx, hnx, hm, hb⟩
         have HW2 := Lib.hid hwx
         have HS3 := Lib.hid (HS2.out.next hm hb)
         have HE1_3 := Lib.hid (HE1_2.out.on hb (by have := HS2.out.old; omega))
         have HE2_3 := Lib.hid (hnx.less HS2.out.size)
         clear hwx hnx
         clear hm hb HS2 z2 t2 HE1_2
         have z3 := HS3.out.base.base.cell 3 rfl
         have t3 := HS3.out.base.base.cell 24 rfl
         have hb : Below W3.heap.size W3 (W3.alloc (.cells #[.int .u8 e1.kind, .int .u8 e1.op, .int .u32 e1.value, .int .i64 e1.width, .string e1.name, .slice e1.sp.at_ e1.subs.length e1.sp.cap, .int .u8 e2.kind, .int .u8 e2.op, .int .u32 e2.value, .int .i64 e2.width, .string e2.name, .slice e2.sp.at_ e2.subs.length e2.sp.cap] 34)) := (Below.refl _ _).alloc (Nat.le_refl _) _
         have hbm := below_mask HS3.out.lt hb
         have HSA := Lib.hid (HS3.out.on hb)
         have HRA := Lib.hid ((row_list (k := 6) (enc := ExprV.cells) (l := [e1, e2]) (c := 2) (t := 34) (fr := (0, 0)) (fun _ => rfl) rfl (by simp) (World.alloc_heap_new W3 (.cells #[.int .u8 e1.kind, .int .u8 e1.op, .int .u32 e1.value, .int .i64 e1.width, .string e1.name, .slice e1.sp.at_ e1.subs.length e1.sp.cap, .int .u8 e2.kind, .int .u8 e2.op, .int .u32 e2.value, .int .i64 e2.width, .string e2.name, .slice e2.sp.at_ e2.subs.length e2.sp.cap] 34))).low (lo := wr.heap.size + 1) HS3.out.size)
         have HXA : Hid (∀ e, e ∈ [e1, e2] → NewX (wr.heap.size + 1) (W3.alloc (.cells #[.int .u8 e1.kind, .int .u8 e1.op, .int .u32 e1.value, .int .i64 e1.width, .string e1.name, .slice e1.sp.at_ e1.subs.length e1.sp.cap, .int .u8 e2.kind, .int .u8 e2.op, .int .u32 e2.value, .int .i64 e2.width, .string e2.name, .slice e2.sp.at_ e2.subs.length e2.sp.cap] 34)) e) := Lib.hid (fun e he => by
           simp only [List.mem_cons, List.not_mem_nil, or_false] at he
           rcases he with rfl | rfl
           · exact HE1_3.out.below hb
           · exact HE2_3.out.below hb)
         clear hb hbm
         go_wp2_with (first | (refine wpList_store_row rfl 49 _ _ rfl wr.heap.size #[.int .u8 2, .string ⟨#[97]⟩, .slice (some ⟨W3.heap.size, 0, none⟩) 2 2, .int .i64 0, .slice none 0 0, .slice none 0 0] (by rfl) (by rfl) 49 zT HSA.out.cr (stmt_size _ _ _ _ _ _) (by rfl) (stmt_one _ _ _ _ _ _ _ _ _ _ _ _) ?_) | fail)
         go_meet
         case rel => exact HSA.out.fin (.mk 2 ⟨#[97]⟩ ⟨some ⟨W3.heap.size, 0, none⟩, 2⟩ [e1, e2] 0 Sp.none [] Sp.none []) (HNA0.out ▸ WT.put HW1.out (HWM.out ▸ HW2.out)) (newT_node HRA.out HXA.out newTs_nil newTs_nil ⟨by decide, by decide⟩ (show (Lit.int .i64 0).wf = true by decide) (show (⟨#[97]⟩ : ByteArray).size ≤ maxLen by decide)) rfl
       · skip
         go_wp2_with fail
         refine (leaf_any q n lv ls _ p M _ HS1.out.base 1 0 ⟨by decide, by decide⟩).mono ?_
         rintro o W2 ⟨e1, a2, rfl, hwx, hnx, hm, hb⟩
         simp only [ExprV.val, Sp.val]
         have HW1 := Lib.hid hwx
         have HS2 := Lib.hid (HS1.out.next hm hb)
         have HE1_2 := Lib.hid (show NewX (wr.heap.size + 1) W2 e1 from (hnx _).more (Nat.zero_le _))
         clear hwx hnx
         clear hm hb HS1 z1 t1
         have z2 := HS2.out.base.base.cell 3 rfl
         have t2 := HS2.out.base.base.cell 24 rfl
         go_wp2_with fail
         refine (leaf_any q n lv ls _ p M _ HS2.out.base p.width 0 HPW.out).mono ?_
         rintro o W3 ⟨e2, a3, rfl, hwx, hnx, hm, hb⟩
         simp only [ExprV.val, Sp.val]
         have HW2 := Lib.hid hwx
         have HS3 := Lib.hid (HS2.out.next hm hb)
         have HE1_3 := Lib.hid (HE1_2.out.on hb (by have := HS2.out.old; omega))
         have HE2_3 := Lib.hid (show NewX (wr.heap.size + 1) W3 e2 from (hnx _).more (Nat.zero_le _))
         clear hwx hnx
         clear hm hb HS2 z2 t2 HE1_2
         have z3 := HS3.out.base.base.cell 3 rfl
         have t3 := HS3.out.base.base.cell 24 rfl
         have hb : Below W3.heap.size W3 (W3.alloc (.cells #[.int .u8 e1.kind, .int .u8 e1.op, .int .u32 e1.value, .int .i64 e1.width, .string e1.name, .slice e1.sp.at_ e1.subs.length e1.sp.cap, .int .u8 e2.kind, .int .u8 e2.op, .int .u32 e2.value, .int .i64 e2.width, .string e2.name, .slice e2.sp.at_ e2.subs.length e2.sp.cap] 34)) := (Below.refl _ _).alloc (Nat.le_refl _) _
         have hbm := below_mask HS3.out.lt hb
         have HSA := Lib.hid (HS3.out.on hb)
         have HRA := Lib.hid ((row_list (k := 6) (enc := ExprV.cells) (l := [e1, e2]) (c := 2) (t := 34) (fr := (0, 0)) (fun _ => rfl) rfl (by simp) (World.alloc_heap_new W3 (.cells #[.int .u8 e1.kind, .int .u8 e1.op, .int .u32 e1.value, .int .i64 e1.width, .string e1.name, .slice e1.sp.at_ e1.subs.length e1.sp.cap, .int .u8 e2.kind, .int .u8 e2.op, .int .u32 e2.value, .int .i64 e2.width, .string e2.name, .slice e2.sp.at_ e2.subs.length e2.sp.cap] 34))).low (lo := wr.heap.size + 1) HS3.out.size)
         have HXA : Hid (∀ e, e ∈ [e1, e2] → NewX (wr.heap.size + 1) (W3.alloc (.cells #[.int .u8 e1.kind, .int .u8 e1.op, .int .u32 e1.value, .int .i64 e1.width, .string e1.name, .slice e1.sp.at_ e1.subs.length e1.sp.cap, .int .u8 e2.kind, .int .u8 e2.op, .int .u32 e2.value, .int .i64 e2.width, .string e2.name, .slice e2.sp.at_ e2.subs.length e2.sp.cap] 34)) e) := Lib.hid (fun e he => by
           simp only [List.mem_cons, List.not_mem_nil, or_false] at he
           rcases he with rfl | rfl
           · exact HE1_3.out.below hb
           · exact HE2_3.out.below hb)
         clear hb hbm
         go_wp2_with (first | (refine wpList_store_row rfl 49 _ _ rfl wr.heap.size #[.int .u8 3, .string ⟨#[]⟩, .slice (some ⟨W3.heap.size, 0, none⟩) 2 2, .int .i64 0, .slice none 0 0, .slice none 0 0] (by rfl) (by rfl) 49 zT HSA.out.cr (stmt_size _ _ _ _ _ _) (by rfl) (stmt_one _ _ _ _ _ _ _ _ _ _ _ _) ?_) | fail)
         go_meet
         case rel => exact HSA.out.fin (.mk 3 ⟨#[]⟩ ⟨some ⟨W3.heap.size, 0, none⟩, 2⟩ [e1, e2] 0 Sp.none [] Sp.none []) (.write (HW1.out.rise 1) (HWM.out ▸ HW2.out.rise 2)) (newT_node HRA.out HXA.out newTs_nil newTs_nil ⟨by decide, by decide⟩ (show (Lit.int .i64 0).wf = true by decide) (show (⟨#[]⟩ : ByteArray).size ≤ maxLen by decide)) rfl
       · skip
         go_wp2_with fail
         refine (leaf_any q n lv ls _ p M _ HS1.out.base 1 0 ⟨by decide, by decide⟩).mono ?_
         rintro o W2 ⟨e1, a2, rfl, hwx, hnx, hm, hb⟩
         simp only [ExprV.val, Sp.val]
         have HW1 := Lib.hid hwx
         have HS2 := Lib.hid (HS1.out.next hm hb)
         have HE1_2 := Lib.hid (show NewX (wr.heap.size + 1) W2 e1 from (hnx _).more (Nat.zero_le _))
         clear hwx hnx
         clear hm hb HS1 z1 t1
         have z2 := HS2.out.base.base.cell 3 rfl
         have t2 := HS2.out.base.base.cell 24 rfl
         go_wp2_with fail
         refine (leaf_any q n lv ls _ p M _ HS2.out.base p.width 0 HPW.out).mono ?_
         rintro o W3 ⟨e2, a3, rfl, hwx, hnx, hm, hb⟩
         simp only [ExprV.val, Sp.val]
         have HW2 := Lib.hid hwx
         have HS3 := Lib.hid (HS2.out.next hm hb)
         have HE1_3 := Lib.hid (HE1_2.out.on hb (by have := HS2.out.old; omega))
         have HE2_3 := Lib.hid (show NewX (wr.heap.size + 1) W3 e2 from (hnx _).more (Nat.zero_le _))
         clear hwx hnx
         clear hm hb HS2 z2 t2 HE1_2
         have z3 := HS3.out.base.base.cell 3 rfl
         have t3 := HS3.out.base.base.cell 24 rfl
         have hb : Below W3.heap.size W3 (W3.alloc (.cells #[.int .u8 e1.kind, .int .u8 e1.op, .int .u32 e1.value, .int .i64 e1.width, .string e1.name, .slice e1.sp.at_ e1.subs.length e1.sp.cap, .int .u8 e2.kind, .int .u8 e2.op, .int .u32 e2.value, .int .i64 e2.width, .string e2.name, .slice e2.sp.at_ e2.subs.length e2.sp.cap] 34)) := (Below.refl _ _).alloc (Nat.le_refl _) _
         have hbm := below_mask HS3.out.lt hb
         have HSA := Lib.hid (HS3.out.on hb)
         have HRA := Lib.hid ((row_list (k := 6) (enc := ExprV.cells) (l := [e1, e2]) (c := 2) (t := 34) (fr := (0, 0)) (fun _ => rfl) rfl (by simp) (World.alloc_heap_new W3 (.cells #[.int .u8 e1.kind, .int .u8 e1.op, .int .u32 e1.value, .int .i64 e1.width, .string e1.name, .slice e1.sp.at_ e1.subs.length e1.sp.cap, .int .u8 e2.kind, .int .u8 e2.op, .int .u32 e2.value, .int .i64 e2.width, .string e2.name, .slice e2.sp.at_ e2.subs.length e2.sp.cap] 34))).low (lo := wr.heap.size + 1) HS3.out.size)
         have HXA : Hid (∀ e, e ∈ [e1, e2] → NewX (wr.heap.size + 1) (W3.alloc (.cells #[.int .u8 e1.kind, .int .u8 e1.op, .int .u32 e1.value, .int .i64 e1.width, .string e1.name, .slice e1.sp.at_ e1.subs.length e1.sp.cap, .int .u8 e2.kind, .int .u8 e2.op, .int .u32 e2.value, .int .i64 e2.width, .string e2.name, .slice e2.sp.at_ e2.subs.length e2.sp.cap] 34)) e) := Lib.hid (fun e he => by
           simp only [List.mem_cons, List.not_mem_nil, or_false] at he
           rcases he with rfl | rfl
           · exact HE1_3.out.below hb
           · exact HE2_3.out.below hb)
         clear hb hbm
         go_wp2_with (first | (refine wpList_store_row rfl 49 _ _ rfl wr.heap.size #[.int .u8 3, .string ⟨#[]⟩, .slice (some ⟨W3.heap.size, 0, none⟩) 2 2, .int .i64 0, .slice none 0 0, .slice none 0 0] (by rfl) (by rfl) 49 zT HSA.out.cr (stmt_size _ _ _ _ _ _) (by rfl) (stmt_one _ _ _ _ _ _ _ _ _ _ _ _) ?_) | fail)
         go_meet
         case rel => exact HSA.out.fin (.mk 3 ⟨#[]⟩ ⟨some ⟨W3.heap.size, 0, none⟩, 2⟩ [e1, e2] 0 Sp.none [] Sp.none []) (.write (HW1.out.rise 1) (HWM.out ▸ HW2.out.rise 2)) (newT_node HRA.out HXA.out newTs_nil newTs_nil ⟨by decide, by decide⟩ (show (Lit.int .i64 0).wf = true by decide) (show (⟨#[]⟩ : ByteArray).size ≤ maxLen by decide)) rfl
       · cases hp : M.prm with
         | true =>
           rw [hp] at t1
           clear hp
           go_wp2_with fail
           refine (leaf_any q n lv ls _ p M _ HS1.out.base 1 0 ⟨by decide, by decide⟩).mono ?_
           rintro o W2 ⟨e1, a2, rfl, hwx, hnx, hm, hb⟩
           simp only [ExprV.val, Sp.val]
           have HW1 := Lib.hid hwx
           have HS2 := Lib.hid (HS1.out.next hm hb)
           have HE1_2 := Lib.hid (show NewX (wr.heap.size + 1) W2 e1 from (hnx _).more (Nat.zero_le _))
           clear hwx hnx
           clear hm hb HS1 z1 t1
           have z2 := HS2.out.base.base.cell 3 rfl
           have t2 := HS2.out.base.base.cell 24 rfl
           go_wp2_with fail
           refine (leaf_any q n lv ls _ p M _ HS2.out.base p.width 0 HPW.out).mono ?_
           rintro o W3 ⟨e2, a3, rfl, hwx, hnx, hm, hb⟩
           simp only [ExprV.val, Sp.val]
           have HW2 := Lib.hid hwx
           have HS3 := Lib.hid (HS2.out.next hm hb)
           have HE1_3 := Lib.hid (HE1_2.out.on hb (by have := HS2.out.old; omega))
           have HE2_3 := Lib.hid (show NewX (wr.heap.size + 1) W3 e2 from (hnx _).more (Nat.zero_le _))
           clear hwx hnx
           clear hm hb HS2 z2 t2 HE1_2
           have z3 := HS3.out.base.base.cell 3 rfl
           have t3 := HS3.out.base.base.cell 24 rfl
           have hb : Below W3.heap.size W3 (W3.alloc (.cells #[.int .u8 e1.kind, .int .u8 e1.op, .int .u32 e1.value, .int .i64 e1.width, .string e1.name, .slice e1.sp.at_ e1.subs.length e1.sp.cap, .int .u8 e2.kind, .int .u8 e2.op, .int .u32 e2.value, .int .i64 e2.width, .string e2.name, .slice e2.sp.at_ e2.subs.length e2.sp.cap] 34)) := (Below.refl _ _).alloc (Nat.le_refl _) _
           have hbm := below_mask HS3.out.lt hb
           have HSA := Lib.hid (HS3.out.on hb)
           have HRA := Lib.hid ((row_list (k := 6) (enc := ExprV.cells) (l := [e1, e2]) (c := 2) (t := 34) (fr := (0, 0)) (fun _ => rfl) rfl (by simp) (World.alloc_heap_new W3 (.cells #[.int .u8 e1.kind, .int .u8 e1.op, .int .u32 e1.value, .int .i64 e1.width, .string e1.name, .slice e1.sp.at_ e1.subs.length e1.sp.cap, .int .u8 e2.kind, .int .u8 e2.op, .int .u32 e2.value, .int .i64 e2.width, .string e2.name, .slice e2.sp.at_ e2.subs.length e2.sp.cap] 34))).low (lo := wr.heap.size + 1) HS3.out.size)
           have HXA : Hid (∀ e, e ∈ [e1, e2] → NewX (wr.heap.size + 1) (W3.alloc (.cells #[.int .u8 e1.kind, .int .u8 e1.op, .int .u32 e1.value, .int .i64 e1.width, .string e1.name, .slice e1.sp.at_ e1.subs.length e1.sp.cap, .int .u8 e2.kind, .int .u8 e2.op, .int .u32 e2.value, .int .i64 e2.width, .string e2.name, .slice e2.sp.at_ e2.subs.length e2.sp.cap] 34)) e) := Lib.hid (fun e he => by
             simp only [List.mem_cons, List.not_mem_nil, or_false] at he
             rcases he with rfl | rfl
             · exact HE1_3.out.below hb
             · exact HE2_3.out.below hb)
           clear hb hbm
           go_wp2_with (first | (refine wpList_store_row rfl 49 _ _ rfl wr.heap.size #[.int .u8 3, .string ⟨#[]⟩, .slice (some ⟨W3.heap.size, 0, none⟩) 2 2, .int .i64 0, .slice none 0 0, .slice none 0 0] (by rfl) (by rfl) 49 zT HSA.out.cr (stmt_size _ _ _ _ _ _) (by rfl) (stmt_one _ _ _ _ _ _ _ _ _ _ _ _) ?_) | fail)
           go_meet
           case rel => exact HSA.out.fin (.mk 3 ⟨#[]⟩ ⟨some ⟨W3.heap.size, 0, none⟩, 2⟩ [e1, e2] 0 Sp.none [] Sp.none []) (.write (HW1.out.rise 1) (HWM.out ▸ HW2.out.rise 2)) (newT_node HRA.out HXA.out newTs_nil newTs_nil ⟨by decide, by decide⟩ (show (Lit.int .i64 0).wf = true by decide) (show (⟨#[]⟩ : ByteArray).size ≤ maxLen by decide)) rfl
         | false =>
           have HPP := Lib.hid (HP.out hp)
           have HPRM := Lib.hid hp
           rw [hp] at t1
           clear hp
           have u1 := HS1.out.base.base.cell 15 rfl
           simp only [Sp.val] at u1
           by_cases h0 : 0 < p.procs.length
           · have hd1 : decide (0 < p.procs.length) = true := decide_eq_true h0
             have HHP : Hid (hasP = true) := Lib.hid (by rw [HPP.out, hd1])
             clear HPP
             go_wp2_with fail
             refine (expr_ok 1 (by decide) q n lv ls _ p M _ HS1.out.base p.width 0 HPW.out).mono ?_
             rintro o W2 ⟨e1, a2, rfl, hwx, hnx, hm, hb⟩
             have HW1 := Lib.hid hwx
             have HS2 := Lib.hid (HS1.out.next hm hb)
             have HE1_2 := Lib.hid (hnx.less HS1.out.size)
             clear hwx hnx
             clear hm hb HS1 z1 t1 u1
             have z2 := HS2.out.base.base.cell 3 rfl
             have t2 := HS2.out.base.base.cell 24 rfl
             have hb : Below W2.heap.size W2 (W2.alloc (.cells #[.int .u8 e1.kind, .int .u8 e1.op, .int .u32 e1.value, .int .i64 e1.width, .string e1.name, .slice e1.sp.at_ e1.subs.length e1.sp.cap] 34)) := (Below.refl _ _).alloc (Nat.le_refl _) _
             have hbm := below_mask HS2.out.lt hb
             have HSA := Lib.hid (HS2.out.on hb)
             have HRA := Lib.hid ((row_list (k := 6) (enc := ExprV.cells) (l := [e1]) (c := 1) (t := 34) (fr := (0, 0)) (fun _ => rfl) rfl (by simp) (World.alloc_heap_new W2 (.cells #[.int .u8 e1.kind, .int .u8 e1.op, .int .u32 e1.value, .int .i64 e1.width, .string e1.name, .slice e1.sp.at_ e1.subs.length e1.sp.cap] 34))).low (lo := wr.heap.size + 1) HS2.out.size)
             have HXA : Hid (∀ e, e ∈ [e1] → NewX (wr.heap.size + 1) (W2.alloc (.cells #[.int .u8 e1.kind, .int .u8 e1.op, .int .u32 e1.value, .int .i64 e1.width, .string e1.name, .slice e1.sp.at_ e1.subs.length e1.sp.cap] 34)) e) := Lib.hid (fun e he => by
               simp only [List.mem_cons, List.not_mem_nil, or_false] at he
               rw [he]; exact HE1_2.out.below hb)
             clear hb hbm
             go_wp2_with (first | (refine wpList_store_row rfl 49 _ _ rfl wr.heap.size #[.int .u8 8, .string ⟨#[112]⟩, .slice (some ⟨W2.heap.size, 0, none⟩) 1 1, .int .i64 0, .slice none 0 0, .slice none 0 0] (by rfl) (by rfl) 49 zT HSA.out.cr (stmt_size _ _ _ _ _ _) (by rfl) (stmt_one _ _ _ _ _ _ _ _ _ _ _ _) ?_) | fail)
             go_meet
             case rel => exact HSA.out.fin (.mk 8 ⟨#[112]⟩ ⟨some ⟨W2.heap.size, 0, none⟩, 1⟩ [e1] 0 Sp.none [] Sp.none []) (.call HPRM.out HHP.out (HWM.out ▸ HW1.out)) (newT_node HRA.out HXA.out newTs_nil newTs_nil ⟨by decide, by decide⟩ (show (Lit.int .i64 0).wf = true by decide) (show (⟨#[112]⟩ : ByteArray).size ≤ maxLen by decide)) rfl
           · have hd1 : decide (0 < p.procs.length) = false := decide_eq_false h0
             go_wp2_with fail
             refine (leaf_any q n lv ls _ p M _ HS1.out.base 1 0 ⟨by decide, by decide⟩).mono ?_
             rintro o W2 ⟨e1, a2, rfl, hwx, hnx, hm, hb⟩
             simp only [ExprV.val, Sp.val]
             have HW1 := Lib.hid hwx
             have HS2 := Lib.hid (HS1.out.next hm hb)
             have HE1_2 := Lib.hid (show NewX (wr.heap.size + 1) W2 e1 from (hnx _).more (Nat.zero_le _))
             clear hwx hnx
             clear hm hb HS1 z1 t1 u1
             have z2 := HS2.out.base.base.cell 3 rfl
             have t2 := HS2.out.base.base.cell 24 rfl
             go_wp2_with fail
             refine (leaf_any q n lv ls _ p M _ HS2.out.base p.width 0 HPW.out).mono ?_
             rintro o W3 ⟨e2, a3, rfl, hwx, hnx, hm, hb⟩
             simp only [ExprV.val, Sp.val]
             have HW2 := Lib.hid hwx
             have HS3 := Lib.hid (HS2.out.next hm hb)
             have HE1_3 := Lib.hid (HE1_2.out.on hb (by have := HS2.out.old; omega))
             have HE2_3 := Lib.hid (show NewX (wr.heap.size + 1) W3 e2 from (hnx _).more (Nat.zero_le _))
             clear hwx hnx
             clear hm hb HS2 z2 t2 HE1_2
             have z3 := HS3.out.base.base.cell 3 rfl
             have t3 := HS3.out.base.base.cell 24 rfl
             have hb : Below W3.heap.size W3 (W3.alloc (.cells #[.int .u8 e1.kind, .int .u8 e1.op, .int .u32 e1.value, .int .i64 e1.width, .string e1.name, .slice e1.sp.at_ e1.subs.length e1.sp.cap, .int .u8 e2.kind, .int .u8 e2.op, .int .u32 e2.value, .int .i64 e2.width, .string e2.name, .slice e2.sp.at_ e2.subs.length e2.sp.cap] 34)) := (Below.refl _ _).alloc (Nat.le_refl _) _
             have hbm := below_mask HS3.out.lt hb
             have HSA := Lib.hid (HS3.out.on hb)
             have HRA := Lib.hid ((row_list (k := 6) (enc := ExprV.cells) (l := [e1, e2]) (c := 2) (t := 34) (fr := (0, 0)) (fun _ => rfl) rfl (by simp) (World.alloc_heap_new W3 (.cells #[.int .u8 e1.kind, .int .u8 e1.op, .int .u32 e1.value, .int .i64 e1.width, .string e1.name, .slice e1.sp.at_ e1.subs.length e1.sp.cap, .int .u8 e2.kind, .int .u8 e2.op, .int .u32 e2.value, .int .i64 e2.width, .string e2.name, .slice e2.sp.at_ e2.subs.length e2.sp.cap] 34))).low (lo := wr.heap.size + 1) HS3.out.size)
             have HXA : Hid (∀ e, e ∈ [e1, e2] → NewX (wr.heap.size + 1) (W3.alloc (.cells #[.int .u8 e1.kind, .int .u8 e1.op, .int .u32 e1.value, .int .i64 e1.width, .string e1.name, .slice e1.sp.at_ e1.subs.length e1.sp.cap, .int .u8 e2.kind, .int .u8 e2.op, .int .u32 e2.value, .int .i64 e2.width, .string e2.name, .slice e2.sp.at_ e2.subs.length e2.sp.cap] 34)) e) := Lib.hid (fun e he => by
               simp only [List.mem_cons, List.not_mem_nil, or_false] at he
               rcases he with rfl | rfl
               · exact HE1_3.out.below hb
               · exact HE2_3.out.below hb)
             clear hb hbm
             go_wp2_with (first | (refine wpList_store_row rfl 49 _ _ rfl wr.heap.size #[.int .u8 3, .string ⟨#[]⟩, .slice (some ⟨W3.heap.size, 0, none⟩) 2 2, .int .i64 0, .slice none 0 0, .slice none 0 0] (by rfl) (by rfl) 49 zT HSA.out.cr (stmt_size _ _ _ _ _ _) (by rfl) (stmt_one _ _ _ _ _ _ _ _ _ _ _ _) ?_) | fail)
             go_meet
             case rel => exact HSA.out.fin (.mk 3 ⟨#[]⟩ ⟨some ⟨W3.heap.size, 0, none⟩, 2⟩ [e1, e2] 0 Sp.none [] Sp.none []) (.write (HW1.out.rise 1) (HWM.out ▸ HW2.out.rise 2)) (newT_node HRA.out HXA.out newTs_nil newTs_nil ⟨by decide, by decide⟩ (show (Lit.int .i64 0).wf = true by decide) (show (⟨#[]⟩ : ByteArray).size ≤ maxLen by decide)) rfl
       · skip
         go_wp2_with fail
         refine (leaf_any q n lv ls _ p M _ HS1.out.base 1 0 ⟨by decide, by decide⟩).mono ?_
         rintro o W2 ⟨e1, a2, rfl, hwx, hnx, hm, hb⟩
         simp only [ExprV.val, Sp.val]
         have HW1 := Lib.hid hwx
         have HS2 := Lib.hid (HS1.out.next hm hb)
         have HE1_2 := Lib.hid (show NewX (wr.heap.size + 1) W2 e1 from (hnx _).more (Nat.zero_le _))
         clear hwx hnx
         clear hm hb HS1 z1 t1
         have z2 := HS2.out.base.base.cell 3 rfl
         have t2 := HS2.out.base.base.cell 24 rfl
         go_wp2_with fail
         refine (leaf_any q n lv ls _ p M _ HS2.out.base p.width 0 HPW.out).mono ?_
         rintro o W3 ⟨e2, a3, rfl, hwx, hnx, hm, hb⟩
         simp only [ExprV.val, Sp.val]
         have HW2 := Lib.hid hwx
         have HS3 := Lib.hid (HS2.out.next hm hb)
         have HE1_3 := Lib.hid (HE1_2.out.on hb (by have := HS2.out.old; omega))
         have HE2_3 := Lib.hid (show NewX (wr.heap.size + 1) W3 e2 from (hnx _).more (Nat.zero_le _))
         clear hwx hnx
         clear hm hb HS2 z2 t2 HE1_2
         have z3 := HS3.out.base.base.cell 3 rfl
         have t3 := HS3.out.base.base.cell 24 rfl
         have hb : Below W3.heap.size W3 (W3.alloc (.cells #[.int .u8 e1.kind, .int .u8 e1.op, .int .u32 e1.value, .int .i64 e1.width, .string e1.name, .slice e1.sp.at_ e1.subs.length e1.sp.cap, .int .u8 e2.kind, .int .u8 e2.op, .int .u32 e2.value, .int .i64 e2.width, .string e2.name, .slice e2.sp.at_ e2.subs.length e2.sp.cap] 34)) := (Below.refl _ _).alloc (Nat.le_refl _) _
         have hbm := below_mask HS3.out.lt hb
         have HSA := Lib.hid (HS3.out.on hb)
         have HRA := Lib.hid ((row_list (k := 6) (enc := ExprV.cells) (l := [e1, e2]) (c := 2) (t := 34) (fr := (0, 0)) (fun _ => rfl) rfl (by simp) (World.alloc_heap_new W3 (.cells #[.int .u8 e1.kind, .int .u8 e1.op, .int .u32 e1.value, .int .i64 e1.width, .string e1.name, .slice e1.sp.at_ e1.subs.length e1.sp.cap, .int .u8 e2.kind, .int .u8 e2.op, .int .u32 e2.value, .int .i64 e2.width, .string e2.name, .slice e2.sp.at_ e2.subs.length e2.sp.cap] 34))).low (lo := wr.heap.size + 1) HS3.out.size)
         have HXA : Hid (∀ e, e ∈ [e1, e2] → NewX (wr.heap.size + 1) (W3.alloc (.cells #[.int .u8 e1.kind, .int .u8 e1.op, .int .u32 e1.value, .int .i64 e1.width, .string e1.name, .slice e1.sp.at_ e1.subs.length e1.sp.cap, .int .u8 e2.kind, .int .u8 e2.op, .int .u32 e2.value, .int .i64 e2.width, .string e2.name, .slice e2.sp.at_ e2.subs.length e2.sp.cap] 34)) e) := Lib.hid (fun e he => by
           simp only [List.mem_cons, List.not_mem_nil, or_false] at he
           rcases he with rfl | rfl
           · exact HE1_3.out.below hb
           · exact HE2_3.out.below hb)
         clear hb hbm
         go_wp2_with (first | (refine wpList_store_row rfl 49 _ _ rfl wr.heap.size #[.int .u8 3, .string ⟨#[]⟩, .slice (some ⟨W3.heap.size, 0, none⟩) 2 2, .int .i64 0, .slice none 0 0, .slice none 0 0] (by rfl) (by rfl) 49 zT HSA.out.cr (stmt_size _ _ _ _ _ _) (by rfl) (stmt_one _ _ _ _ _ _ _ _ _ _ _ _) ?_) | fail)
         go_meet
         case rel => exact HSA.out.fin (.mk 3 ⟨#[]⟩ ⟨some ⟨W3.heap.size, 0, none⟩, 2⟩ [e1, e2] 0 Sp.none [] Sp.none []) (.write (HW1.out.rise 1) (HWM.out ▸ HW2.out.rise 2)) (newT_node HRA.out HXA.out newTs_nil newTs_nil ⟨by decide, by decide⟩ (show (Lit.int .i64 0).wf = true by decide) (show (⟨#[]⟩ : ByteArray).size ≤ maxLen by decide)) rfl
     case rest =>
       obtain ⟨⟨s, a9, hx9, hw9, hn9, hm9⟩, hb9⟩ := hcut
       have HX9 := Lib.hid hx9
       have HW9 := Lib.hid hw9
       have hqr : q < wr.heap.size := HS1.out.old
       have hlo := HO.out.old_block
       have hs9 : wr.heap.size ≤ wc.heap.size := size_mask hb9
       have hba : Below wc.heap.size wc (wc.alloc (.cells #[.int .u8 s.kind, .string s.name, .slice s.es.at_ s.exprs.length s.es.cap, .int .i64 s.bound, .slice s.ts.at_ s.thn.length s.ts.cap, .slice s.os.at_ s.els.length s.os.cap] 49)) := (Below.refl _ _).alloc (Nat.le_refl _) _
       have hbm := below_mask (Nat.lt_of_lt_of_le hqr hs9) hba
       have HOA := Lib.hid ((ownL_masked HO.out hb9 (by omega)).on hba)
       have HNTA : Hid (∀ x, x ∈ l ++ [s] → NewTx w.heap.size (Value.slice A l.length c).ownBlock (wc.alloc (.cells #[.int .u8 s.kind, .string s.name, .slice s.es.at_ s.exprs.length s.es.cap, .int .i64 s.bound, .slice s.ts.at_ s.thn.length s.ts.cap, .slice s.os.at_ s.els.length s.os.cap] 49)) x) := Lib.hid (fun x hx => by
         rcases List.mem_append.1 hx with hx | hx
         · exact (((HNT.out x hx).on hb9 hqw).below hba)
         · rw [List.mem_singleton.1 hx]; exact (hn9.tox (fun b hb => by have := hlo b hb; omega) (by omega)).below hba)
       have HWTA : Hid (∀ x, x ∈ l ++ [s] → WT M hasP 0 x) := Lib.hid (fun x hx => by
         rcases List.mem_append.1 hx with hx | hx
         · exact HWT.out x hx
         · rw [List.mem_singleton.1 hx]; exact HW9.out)
       have HMA := Lib.hid (hm9.on hba)
       have HBA := Lib.hid ((HBR.out.trans (hb9.mono hwr)).trans (hbm.mono (by omega)))
       have HRS := Lib.hid (row_one (enc := StmtV.cells) (x := s) (k := 6) (World.alloc_heap_new wc (.cells #[.int .u8 s.kind, .string s.name, .slice s.es.at_ s.exprs.length s.es.cap, .int .i64 s.bound, .slice s.ts.at_ s.thn.length s.ts.cap, .slice s.os.at_ s.els.length s.os.cap] 49)))
       have hszA : w.heap.size ≤ (wc.alloc (.cells #[.int .u8 s.kind, .string s.name, .slice s.es.at_ s.exprs.length s.es.cap, .int .i64 s.bound, .slice s.ts.at_ s.thn.length s.ts.cap, .slice s.os.at_ s.els.length s.os.cap] 49)).heap.size := Nat.le_trans hwr (Nat.le_trans hs9 hba.size)
       have HSZA := Lib.hid hszA
       have HLN : Hid (l.length + 1 ≤ 1000000) := Lib.hid (by have := HLJ.out; omega)
       clear hx9 hw9 hn9 hm9 hb9 hba hbm hlo hszA HO HNT HWT HBR
       go_wp2_with (first
         | (refine wpList_load_row rfl 49 _ rfl wr.heap.size rfl 49 _ (0, 0) _ HX9.out Tryz.underlying49 rfl (stmt_size _ _ _ _ _ _) ?_)
         | (at_builtin; refine wpList_append_row rfl (.tmp 156) (.tmp 158) 37 rfl stmtK (fun _ => rfl) one_stmt _ l rfl HOA.out ⟨some ⟨wc.heap.size, 0, none⟩, 1⟩ [s] rfl HRS.out HLN.out HSZA.out ?_)
         | fail)
       intro v2 w2 hown2 hg2 hat2
       obtain ⟨A2, c2, rfl⟩ := hown2.form
       have HO2 := Lib.hid hown2
       have hlow := HOA.out.below hg2 (Nat.le_refl _) (Below.refl w.heap.size _) HSZA.out
       have HN2 := Lib.hid (fun x hx => (HNTA.out x hx).grow (g' := (Value.slice A2 (l ++ [s]).length c2).ownBlock) hg2 (by rw [World.size_alloc]; exact hat2))
       have HM2 := Lib.hid (HMA.out.low (hlow.mono HNW.out))
       have HB2 := Lib.hid (HBA.out.trans (below_mask (Nat.lt_of_lt_of_le hqw HSZA.out) hlow))
       clear hown2 hg2 hat2 hlow HOA HNTA HMA HBA
       go_wp2_with fail
       go_roundw
       case rel => first | exact ⟨j + 1, a9, A2, c2, l ++ [s], by omega, by go_num, rfl, by simp [HLJ.out], HO2.out, HWTA.out, HN2.out, HM2.out, HB2.out⟩ | ((repeat apply Exists.intro); exact ⟨⟨j + 1, a9, A2, c2, l ++ [s], by omega, by go_num, rfl, by simp [HLJ.out], HO2.out, HWTA.out, HN2.out, HM2.out, HB2.out⟩, rfl⟩)
       case measure => simp [intOf]; omega
   · have HOE := Lib.hid hown
     have HWE := Lib.hid hwt
     have HNE := Lib.hid hnt
     have HME := Lib.hid hmr
     have HBE := Lib.hid hbr
     have HLE : Hid ((l.length : Int) ≤ most) := Lib.hid (by omega)
     clear hown hwt hnt hmr hbr hlj H1 HB1
     go_wp2_with fail
     go_ret
     exact ⟨A, c, l, at', rfl, HLE.out, HOE.out, HWE.out, HNE.out, HME.out.base, HBE.out⟩
set_option maxRecDepth 1000000 in
set_option maxHeartbeats 16000000 in
theorem stmts_succ {d : Nat} (hd : d ≤ 10) (hI0 : StmtsOkM 0) (hId : StmtsOkM d) : StmtsOkM (d + 1) := by
 intro q n lv ls at_ p M hasP w h hP most hmost
 have HI0 := Lib.hid hI0
 have HId := Lib.hid hId
 clear hI0 hId
 rw [show (((d + 1 : Nat)) : Int) = (d : Int) + 1 by omega]
 have hdz : decide ((0 : Int) < (d : Int) + 1) = true := decide_eq_true (by omega)
 have hdl : (0 : Int) ≤ (d : Int) := by omega
 have hdl2 : (d : Int) ≤ 10 := by omega
 have c3 := h.base.cell 3 rfl
 have H := Lib.hid h
 have HP := Lib.hid hP
 have HPW : Hid (1 ≤ p.width ∧ p.width ≤ 3) := Lib.hid (by rw [h.width]; exact ⟨h.ok.1, h.ok.2.1⟩)
 have HWM := Lib.hid h.width
 have HSTD := Lib.hid h.std
 have hm1 : (0 : Int) ≤ most + 1 := by omega
 have hm2 : most + 1 ≤ 6 := by omega
 have HNX := Lib.hid (next_any q n lv ls at_ p M.prm w h.base (most + 1) (by omega) (by omega))
 have hqw := h.base.box_lt
 have HNW := Lib.hid h.base.nW
 clear hP h
 go_enter Tryz.func61, Tryz.ntmps61
 go_wp2_with fail
 refine HNX.out.mono ?_
 rintro o w1 ⟨K, a1, rfl, hK0, hK1, hmk, hb1⟩
 have H1 := Lib.hid (H.out.next hmk hb1)
 have HB1 := Lib.hid hb1
 clear hmk hb1 HNX c3
 obtain ⟨Kn, rfl⟩ := Int.eq_ofNat_of_zero_le hK0
 have hKm : (Kn : Int) ≤ most := by omega
 clear hK1 hK0 hm1 hm2
 go_wp2_with fail
 go_loopw [7, 22] (fun s7 s22 wr => ∃ (j at' : Nat) (A : Option Addr) (c : Nat) (l : List StmtV), j ≤ Kn ∧ s22 = .int .i64 j ∧ s7 = .slice A l.length c ∧ l.length = j ∧ OwnL w.heap.size wr 49 6 StmtV.cells (.slice A l.length c) l ∧ (∀ s, s ∈ l → WT M hasP (d + 1) s) ∧ (∀ s, s ∈ l → NewTx w.heap.size (Value.slice A l.length c).ownBlock wr s) ∧ MkR q n lv ls at' p M wr ∧ Below w.heap.size (mask q w) (mask q wr)) (fun _ s22 _ => Kn - (intOf s22).toNat)
 case atStart => exact ⟨0, a1, none, 0, [], Nat.zero_le _, rfl, rfl, rfl, OwnL.nil, fun _ h => absurd h (by simp), fun _ h => absurd h (by simp), H1.out, HB1.out⟩
 case round =>
   obtain ⟨j, at', A, c, l, hj, rfl, rfl, hlj, hown, hwt, hnt, hmr, hbr⟩ := hrel
   by_cases hlt : j < Kn
   · have HO := Lib.hid hown
     have HWT := Lib.hid hwt
     have HNT := Lib.hid hnt
     have HBR := Lib.hid hbr
     have HLJ := Lib.hid hlj
     have hwr : w.heap.size ≤ wr.heap.size := size_mask hbr
     have hba : Below wr.heap.size wr (wr.alloc (.cells #[.int .u8 0, .string ⟨#[]⟩, .slice none 0 0, .int .i64 0, .slice none 0 0, .slice none 0 0] 49)) := (Below.refl _ _).alloc (Nat.le_refl _) _
     have hS : StS q n lv ls at' p M wr (wr.alloc (.cells #[.int .u8 0, .string ⟨#[]⟩, .slice none 0 0, .int .i64 0, .slice none 0 0, .slice none 0 0] 49)) := ⟨hmr.on hba, hmr.base.box_lt, hmr.base.nW, below_mask hmr.base.box_lt hba, World.alloc_heap_new _ _⟩
     have HS0 := Lib.hid hS
     clear hown hwt hnt hmr hbr hlj H1 HB1 hba hS
     go_upto_region 6 with fail
     generalize wr.alloc (.cells #[.int .u8 0, .string ⟨#[]⟩, .slice none 0 0, .int .i64 0, .slice none 0 0, .slice none 0 0] 49) = W0 at *
     have z0 := HS0.out.base.base.cell 3 rfl
     have t0 := HS0.out.base.base.cell 24 rfl
     go_wp2_with fail
     refine (next_any q n lv ls _ p M.prm _ HS0.out.base.base 16 (by decide) (by decide)).mono ?_
     rintro o W1 ⟨k1, a1, rfl, lo1, hi1, hm, hb⟩
     have HS1 := Lib.hid (HS0.out.next hm hb)
     clear hm hb HS0 z0 t0
     have z1 := HS1.out.base.base.cell 3 rfl
     have t1 := HS1.out.base.base.cell 24 rfl
     go_upto_block 2 with fail
     go_cut [12] (fun _ wx => StE q n lv ls p M hasP (d + 1) wr wx)
     case first =>
       have hk16 : (0 ≤ k1 ∧ k1 ≤ 4) ∨ (5 ≤ k1 ∧ k1 ≤ 6) ∨ k1 = 7 ∨ (8 ≤ k1 ∧ k1 ≤ 9) ∨ k1 = 10 ∨ (11 ≤ k1 ∧ k1 ≤ 12) ∨ k1 = 13 ∨ k1 = 14 ∨ k1 = 15 := by omega
       clear lo1 hi1
       rcases hk16 with ⟨lo1, hi1⟩ | ⟨lo1, hi1⟩ | rfl | ⟨lo1, hi1⟩ | rfl | ⟨lo1, hi1⟩ | rfl | rfl | rfl
       · skip
         go_wp2_with fail
         refine (expr_ok 1 (by decide) q n lv ls _ p M _ HS1.out.base 2 0 ⟨by decide, by decide⟩).mono ?_
         rintro o W2 ⟨e1, a2, rfl, hwx, hnx, hm, hb⟩
         have HW1 := Lib.hid hwx
         have HS2 := Lib.hid (HS1.out.next hm hb)
         have HE1_2 := Lib.hid (hnx.less HS1.out.size)
         clear hwx hnx
         clear hm hb HS1 z1 t1
         have z2 := HS2.out.base.base.cell 3 rfl
         have t2 := HS2.out.base.base.cell 24 rfl
         go_wp2_with fail
         refine (expr_ok 2 (by decide) q n lv ls _ p M _ HS2.out.base p.width 0 HPW.out).mono ?_
         rintro o W3 ⟨e2, a3, rfl, hwx, hnx, hm, hb⟩
         have HW2 := Lib.hid hwx
         have HS3 := Lib.hid (HS2.out.next hm hb)
         have HE1_3 := Lib.hid (HE1_2.out.on hb (by have := HS2.out.old; omega))
         have HE2_3 := Lib.hid (hnx.less HS2.out.size)
         clear hwx hnx
         clear hm hb HS2 z2 t2 HE1_2
         have z3 := HS3.out.base.base.cell 3 rfl
         have t3 := HS3.out.base.base.cell 24 rfl
         have hb : Below W3.heap.size W3 (W3.alloc (.cells #[.int .u8 e1.kind, .int .u8 e1.op, .int .u32 e1.value, .int .i64 e1.width, .string e1.name, .slice e1.sp.at_ e1.subs.length e1.sp.cap, .int .u8 e2.kind, .int .u8 e2.op, .int .u32 e2.value, .int .i64 e2.width, .string e2.name, .slice e2.sp.at_ e2.subs.length e2.sp.cap] 34)) := (Below.refl _ _).alloc (Nat.le_refl _) _
         have hbm := below_mask HS3.out.lt hb
         have HSA := Lib.hid (HS3.out.on hb)
         have HRA := Lib.hid ((row_list (k := 6) (enc := ExprV.cells) (l := [e1, e2]) (c := 2) (t := 34) (fr := (0, 0)) (fun _ => rfl) rfl (by simp) (World.alloc_heap_new W3 (.cells #[.int .u8 e1.kind, .int .u8 e1.op, .int .u32 e1.value, .int .i64 e1.width, .string e1.name, .slice e1.sp.at_ e1.subs.length e1.sp.cap, .int .u8 e2.kind, .int .u8 e2.op, .int .u32 e2.value, .int .i64 e2.width, .string e2.name, .slice e2.sp.at_ e2.subs.length e2.sp.cap] 34))).low (lo := wr.heap.size + 1) HS3.out.size)
         have HXA : Hid (∀ e, e ∈ [e1, e2] → NewX (wr.heap.size + 1) (W3.alloc (.cells #[.int .u8 e1.kind, .int .u8 e1.op, .int .u32 e1.value, .int .i64 e1.width, .string e1.name, .slice e1.sp.at_ e1.subs.length e1.sp.cap, .int .u8 e2.kind, .int .u8 e2.op, .int .u32 e2.value, .int .i64 e2.width, .string e2.name, .slice e2.sp.at_ e2.subs.length e2.sp.cap] 34)) e) := Lib.hid (fun e he => by
           simp only [List.mem_cons, List.not_mem_nil, or_false] at he
           rcases he with rfl | rfl
           · exact HE1_3.out.below hb
           · exact HE2_3.out.below hb)
         clear hb hbm
         go_wp2_with (first | (refine wpList_store_row rfl 49 _ _ rfl wr.heap.size #[.int .u8 3, .string ⟨#[]⟩, .slice (some ⟨W3.heap.size, 0, none⟩) 2 2, .int .i64 0, .slice none 0 0, .slice none 0 0] (by rfl) (by rfl) 49 zT HSA.out.cr (stmt_size _ _ _ _ _ _) (by rfl) (stmt_one _ _ _ _ _ _ _ _ _ _ _ _) ?_) | fail)
         go_meet
         case rel => exact HSA.out.fin (.mk 3 ⟨#[]⟩ ⟨some ⟨W3.heap.size, 0, none⟩, 2⟩ [e1, e2] 0 Sp.none [] Sp.none []) (.write HW1.out (HWM.out ▸ HW2.out)) (newT_node HRA.out HXA.out newTs_nil newTs_nil ⟨by decide, by decide⟩ (show (Lit.int .i64 0).wf = true by decide) (show (⟨#[]⟩ : ByteArray).size ≤ maxLen by decide)) rfl
       · skip
         have f0 : W1.frozen? ⟨wr.heap.size, 0, none⟩ = false := by simp [World.frozen?, HS1.out.cr]
         have x0 : W1.cell? ⟨wr.heap.size, 0, none⟩ = some (.int .u8 0) := by simp [World.cell?, HS1.out.cr, zT]
         go_wp2_with fail
         go_meet
         case rel => exact HS1.out.fin1 (by decide)
       · skip
         have f0 : W1.frozen? ⟨wr.heap.size, 0, none⟩ = false := by simp [World.frozen?, HS1.out.cr]
         have x0 : W1.cell? ⟨wr.heap.size, 0, none⟩ = some (.int .u8 0) := by simp [World.cell?, HS1.out.cr, zT]
         go_wp2_with fail
         go_meet
         case rel => exact HS1.out.fin1 (by decide)
       · skip
         have hq1 := HS1.out.lt
         have hw1 : wr.heap.size < W1.heap.size := HS1.out.size
         have hb : Below W1.heap.size W1 (W1.alloc (.cells #[.string ⟨#[118]⟩, .int .i64 p.width, .int .i64 0, .string ⟨#[99]⟩, .int .i64 2, .int .i64 0, .string ⟨#[103]⟩, .int .i64 p.width, .int .i64 0, .string ⟨#[104]⟩, .int .i64 1, .int .i64 0] 44)) := (Below.refl _ _).alloc (Nat.le_refl _) _
         have HS2 := Lib.hid (HS1.out.on hb)
         have HD2 := Lib.hid (World.alloc_heap_new W1 (.cells #[.string ⟨#[118]⟩, .int .i64 p.width, .int .i64 0, .string ⟨#[99]⟩, .int .i64 2, .int .i64 0, .string ⟨#[103]⟩, .int .i64 p.width, .int .i64 0, .string ⟨#[104]⟩, .int .i64 1, .int .i64 0] 44))
         clear hb HS1 z1 t1
         go_wp2_with fail
         generalize W1.alloc (.cells #[.string ⟨#[118]⟩, .int .i64 p.width, .int .i64 0, .string ⟨#[99]⟩, .int .i64 2, .int .i64 0, .string ⟨#[103]⟩, .int .i64 p.width, .int .i64 0, .string ⟨#[104]⟩, .int .i64 1, .int .i64 0] 44) = W2 at *
         refine (next_any q n lv ls _ p M.prm _ HS2.out.base.base 4 (by decide) (by decide)).mono ?_
         rintro o W3 ⟨k3, a3, rfl, lo3, hi3, hm, hb⟩
         have HS3 := Lib.hid (HS2.out.next hm hb)
         have HD3 := Lib.hid ((mask_block hb (Array.getElem?_eq_some_iff.1 HD2.out).1 (by omega)).trans HD2.out)
         clear hm hb HS2 HD2
         obtain ⟨kn, rfl⟩ := Int.eq_ofNat_of_zero_le lo3
         obtain ⟨nm, wd, tt, g0, g1, g2, hmem, htw, hwd, hnm⟩ : ∃ (nm : ByteArray) (wd : Int) (tt : Thing), W3.cell? ⟨W1.heap.size, kn * 3, none⟩ = some (.string nm) ∧ W3.cell? ⟨W1.heap.size, kn * 3 + 1, none⟩ = some (.int .i64 wd) ∧ W3.cell? ⟨W1.heap.size, kn * 3 + 2, none⟩ = some (.int .i64 0) ∧ (nm, tt) ∈ ghostsT M ++ varsT M ∧ tt.width = wd ∧ (1 ≤ wd ∧ wd ≤ 3) ∧ nm.size ≤ maxLen := by
           have hk4 : kn = 0 ∨ kn = 1 ∨ kn = 2 ∨ kn = 3 := by omega
           rcases hk4 with rfl | rfl | rfl | rfl
           · exact ⟨⟨#[118]⟩, p.width, ⟨3, M.w⟩, by simp [World.cell?, HD3.out], by simp [World.cell?, HD3.out], by simp [World.cell?, HD3.out], by simp [ghostsT, varsT, HSTD.out, std], HWM.out.symm, HPW.out, by decide⟩
           · exact ⟨⟨#[99]⟩, 2, ⟨3, 2⟩, by simp [World.cell?, HD3.out], by simp [World.cell?, HD3.out], by simp [World.cell?, HD3.out], by simp [ghostsT, varsT, HSTD.out, std], rfl, ⟨by decide, by decide⟩, by decide⟩
           · exact ⟨⟨#[103]⟩, p.width, ⟨2, M.w⟩, by simp [World.cell?, HD3.out], by simp [World.cell?, HD3.out], by simp [World.cell?, HD3.out], by simp [ghostsT, varsT, HSTD.out, std], HWM.out.symm, HPW.out, by decide⟩
           · exact ⟨⟨#[104]⟩, 1, ⟨2, 1⟩, by simp [World.cell?, HD3.out], by simp [World.cell?, HD3.out], by simp [World.cell?, HD3.out], by simp [ghostsT, varsT, HSTD.out, std], rfl, ⟨by decide, by decide⟩, by decide⟩
         have HMEM := Lib.hid hmem
         have HTW := Lib.hid htw
         have HNM := Lib.hid hnm
         clear hmem htw hnm HD3
         have hkn4 : (kn : Int) < 4 := hi3
         have hb : Below W3.heap.size W3 (W3.alloc (.cells #[.string nm, .int .i64 wd, .int .i64 0] 44)) := (Below.refl _ _).alloc (Nat.le_refl _) _
         have HS4 := Lib.hid (HS3.out.on hb)
         have hd4 := World.alloc_heap_new W3 (.cells #[.string nm, .int .i64 wd, .int .i64 0] 44)
         have hw3 : wr.heap.size < W3.heap.size := HS3.out.size
         have hq3 := HS3.out.lt
         clear hb HS3
         go_upto_region 16 with fail
         generalize W3.alloc (.cells #[.string nm, .int .i64 wd, .int .i64 0] 44) = W4 at *
         clear g0 g1 g2
         have d0 : W4.cell? ⟨W3.heap.size, 0, none⟩ = some (.string nm) := by simp [World.cell?, hd4]
         have d1 : W4.cell? ⟨W3.heap.size, 1, none⟩ = some (.int .i64 wd) := by simp [World.cell?, hd4]
         have HD4 := Lib.hid hd4
         have HS5 := Lib.hid (HS4.out.on (Below.refl _ _).drew)
         clear hd4 HS4
         generalize hb3 : W3.heap.size = b3 at *
         clear hb3
         go_region_with (go_at_call 60; refine (expr_ok 2 (by decide) q n lv ls _ p M _ HS5.out.base wd 0 hwd).mono ?_; rintro o W6 ⟨e1, a6, rfl, hwx, hnx, hm, hb⟩; have HS6 := Lib.hid (HS5.out.next hm hb); have HW1 := Lib.hid hwx; have HE1_6 := Lib.hid (hnx.less HS5.out.size); have hd6 := (mask_block hb (show b3 < W4.drew.heap.size from (Array.getElem?_eq_some_iff.1 HD4.out).1) (show b3 ≠ q by omega)).trans (show W4.drew.heap[b3]? = _ from HD4.out); have d0b : W6.cell? ⟨b3, 0, none⟩ = some (.string nm) := (by simp [World.cell?, hd6]); have hba : Below W6.heap.size W6 (W6.alloc (.cells #[.int .u8 e1.kind, .int .u8 e1.op, .int .u32 e1.value, .int .i64 e1.width, .string e1.name, .slice e1.sp.at_ e1.subs.length e1.sp.cap] 34)) := (Below.refl _ _).alloc (Nat.le_refl _) _; have d0c : (W6.alloc (.cells #[.int .u8 e1.kind, .int .u8 e1.op, .int .u32 e1.value, .int .i64 e1.width, .string e1.name, .slice e1.sp.at_ e1.subs.length e1.sp.cap] 34)).cell? ⟨b3, 0, none⟩ = some (.string nm) := (hba.cell (p := ⟨b3, 0, none⟩) (Array.getElem?_eq_some_iff.1 hd6).1).trans d0b; have HSA := Lib.hid (HS6.out.on hba); have HRA := Lib.hid ((row_list (k := 6) (enc := ExprV.cells) (l := [e1]) (c := 1) (t := 34) (fr := (0, 0)) (fun _ => rfl) rfl (by simp) (World.alloc_heap_new W6 (.cells #[.int .u8 e1.kind, .int .u8 e1.op, .int .u32 e1.value, .int .i64 e1.width, .string e1.name, .slice e1.sp.at_ e1.subs.length e1.sp.cap] 34))).low (lo := wr.heap.size + 1) HS6.out.size); have HXA : Hid (∀ e, e ∈ [e1] → NewX (wr.heap.size + 1) (W6.alloc (.cells #[.int .u8 e1.kind, .int .u8 e1.op, .int .u32 e1.value, .int .i64 e1.width, .string e1.name, .slice e1.sp.at_ e1.subs.length e1.sp.cap] 34)) e) := Lib.hid (fun e he => (by simp only [List.mem_cons, List.not_mem_nil, or_false] at he; rw [he]; exact HE1_6.out.below hba)); have x0 : (W6.alloc (.cells #[.int .u8 e1.kind, .int .u8 e1.op, .int .u32 e1.value, .int .i64 e1.width, .string e1.name, .slice e1.sp.at_ e1.subs.length e1.sp.cap] 34)).cell? ⟨wr.heap.size, 0, none⟩ = some (.int .u8 0) := (by simp [World.cell?, HSA.out.cr, zT]); have x1 : (W6.alloc (.cells #[.int .u8 e1.kind, .int .u8 e1.op, .int .u32 e1.value, .int .i64 e1.width, .string e1.name, .slice e1.sp.at_ e1.subs.length e1.sp.cap] 34)).cell? ⟨wr.heap.size, 1, none⟩ = some (.string ⟨#[]⟩) := (by simp [World.cell?, HSA.out.cr, zT]); have x2 : (W6.alloc (.cells #[.int .u8 e1.kind, .int .u8 e1.op, .int .u32 e1.value, .int .i64 e1.width, .string e1.name, .slice e1.sp.at_ e1.subs.length e1.sp.cap] 34)).cell? ⟨wr.heap.size, 2, none⟩ = some (.slice none 0 0) := (by simp [World.cell?, HSA.out.cr, zT]); have x3 : (W6.alloc (.cells #[.int .u8 e1.kind, .int .u8 e1.op, .int .u32 e1.value, .int .i64 e1.width, .string e1.name, .slice e1.sp.at_ e1.subs.length e1.sp.cap] 34)).cell? ⟨wr.heap.size, 3, none⟩ = some (.int .i64 0) := (by simp [World.cell?, HSA.out.cr, zT]); have x4 : (W6.alloc (.cells #[.int .u8 e1.kind, .int .u8 e1.op, .int .u32 e1.value, .int .i64 e1.width, .string e1.name, .slice e1.sp.at_ e1.subs.length e1.sp.cap] 34)).cell? ⟨wr.heap.size, 4, none⟩ = some (.slice none 0 0) := (by simp [World.cell?, HSA.out.cr, zT]); have x5 : (W6.alloc (.cells #[.int .u8 e1.kind, .int .u8 e1.op, .int .u32 e1.value, .int .i64 e1.width, .string e1.name, .slice e1.sp.at_ e1.subs.length e1.sp.cap] 34)).cell? ⟨wr.heap.size, 5, none⟩ = some (.slice none 0 0) := (by simp [World.cell?, HSA.out.cr, zT]); have f0 : (W6.alloc (.cells #[.int .u8 e1.kind, .int .u8 e1.op, .int .u32 e1.value, .int .i64 e1.width, .string e1.name, .slice e1.sp.at_ e1.subs.length e1.sp.cap] 34)).frozen? ⟨wr.heap.size, 0, none⟩ = false := (by simp [World.frozen?, HSA.out.cr]); have f1 : (W6.alloc (.cells #[.int .u8 e1.kind, .int .u8 e1.op, .int .u32 e1.value, .int .i64 e1.width, .string e1.name, .slice e1.sp.at_ e1.subs.length e1.sp.cap] 34)).frozen? ⟨wr.heap.size, 1, none⟩ = false := (by simp [World.frozen?, HSA.out.cr]); have f2 : (W6.alloc (.cells #[.int .u8 e1.kind, .int .u8 e1.op, .int .u32 e1.value, .int .i64 e1.width, .string e1.name, .slice e1.sp.at_ e1.subs.length e1.sp.cap] 34)).frozen? ⟨wr.heap.size, 2, none⟩ = false := (by simp [World.frozen?, HSA.out.cr]); have f3 : (W6.alloc (.cells #[.int .u8 e1.kind, .int .u8 e1.op, .int .u32 e1.value, .int .i64 e1.width, .string e1.name, .slice e1.sp.at_ e1.subs.length e1.sp.cap] 34)).frozen? ⟨wr.heap.size, 3, none⟩ = false := (by simp [World.frozen?, HSA.out.cr]); have f4 : (W6.alloc (.cells #[.int .u8 e1.kind, .int .u8 e1.op, .int .u32 e1.value, .int .i64 e1.width, .string e1.name, .slice e1.sp.at_ e1.subs.length e1.sp.cap] 34)).frozen? ⟨wr.heap.size, 4, none⟩ = false := (by simp [World.frozen?, HSA.out.cr]); have f5 : (W6.alloc (.cells #[.int .u8 e1.kind, .int .u8 e1.op, .int .u32 e1.value, .int .i64 e1.width, .string e1.name, .slice e1.sp.at_ e1.subs.length e1.sp.cap] 34)).frozen? ⟨wr.heap.size, 5, none⟩ = false := (by simp [World.frozen?, HSA.out.cr]); clear hwx hnx hm hb hd6 hba)
         all_goals
           go_wp2_with fail
           go_meet
           case rel => rw [six_set HSA.out.cr]; exact HSA.out.fin (.mk 1 nm ⟨some ⟨W6.heap.size, 0, none⟩, 1⟩ [e1] 0 Sp.none [] Sp.none []) (.set HMEM.out (HTW.out ▸ HW1.out)) (newT_node HRA.out HXA.out newTs_nil newTs_nil ⟨by decide, by decide⟩ (show (Lit.int .i64 0).wf = true by decide) HNM.out) rfl
       · have HNA0 : Hid (M.N.a = ⟨#[97]⟩) := Lib.hid (by rw [HSTD.out]; rfl)
         go_wp2_with fail
         refine (expr_ok 1 (by decide) q n lv ls _ p M _ HS1.out.base 2 0 ⟨by decide, by decide⟩).mono ?_
         rintro o W2 ⟨e1, a2, rfl, hwx, hnx, hm, hb⟩
         have HW1 := Lib.hid hwx
         have HS2 := Lib.hid (HS1.out.next hm hb)
         have HE1_2 := Lib.hid (hnx.less HS1.out.size)
         clear hwx hnx
         clear hm hb HS1 z1 t1
         have z2 := HS2.out.base.base.cell 3 rfl
         have t2 := HS2.out.base.base.cell 24 rfl
         go_wp2_with fail
         refine (expr_ok 1 (by decide) q n lv ls _ p M _ HS2.out.base p.width 0 HPW.out).mono ?_
         rintro o W3 ⟨e2, a3, rfl, hwx, hnx, hm, hb⟩
         have HW2 := Lib.hid hwx
         have HS3 := Lib.hid (HS2.out.next hm hb)
         have HE1_3 := Lib.hid (HE1_2.out.on hb (by have := HS2.out.old; omega))
         have HE2_3 := Lib.hid (hnx.less HS2.out.size)
         clear hwx hnx
         clear hm hb HS2 z2 t2 HE1_2
         have z3 := HS3.out.base.base.cell 3 rfl
         have t3 := HS3.out.base.base.cell 24 rfl
         have hb : Below W3.heap.size W3 (W3.alloc (.cells #[.int .u8 e1.kind, .int .u8 e1.op, .int .u32 e1.value, .int .i64 e1.width, .string e1.name, .slice e1.sp.at_ e1.subs.length e1.sp.cap, .int .u8 e2.kind, .int .u8 e2.op, .int .u32 e2.value, .int .i64 e2.width, .string e2.name, .slice e2.sp.at_ e2.subs.length e2.sp.cap] 34)) := (Below.refl _ _).alloc (Nat.le_refl _) _
         have hbm := below_mask HS3.out.lt hb
         have HSA := Lib.hid (HS3.out.on hb)
         have HRA := Lib.hid ((row_list (k := 6) (enc := ExprV.cells) (l := [e1, e2]) (c := 2) (t := 34) (fr := (0, 0)) (fun _ => rfl) rfl (by simp) (World.alloc_heap_new W3 (.cells #[.int .u8 e1.kind, .int .u8 e1.op, .int .u32 e1.value, .int .i64 e1.width, .string e1.name, .slice e1.sp.at_ e1.subs.length e1.sp.cap, .int .u8 e2.kind, .int .u8 e2.op, .int .u32 e2.value, .int .i64 e2.width, .string e2.name, .slice e2.sp.at_ e2.subs.length e2.sp.cap] 34))).low (lo := wr.heap.size + 1) HS3.out.size)
         have HXA : Hid (∀ e, e ∈ [e1, e2] → NewX (wr.heap.size + 1) (W3.alloc (.cells #[.int .u8 e1.kind, .int .u8 e1.op, .int .u32 e1.value, .int .i64 e1.width, .string e1.name, .slice e1.sp.at_ e1.subs.length e1.sp.cap, .int .u8 e2.kind, .int .u8 e2.op, .int .u32 e2.value, .int .i64 e2.width, .string e2.name, .slice e2.sp.at_ e2.subs.length e2.sp.cap] 34)) e) := Lib.hid (fun e he => by
           simp only [List.mem_cons, List.not_mem_nil, or_false] at he
           rcases he with rfl | rfl
           · exact HE1_3.out.below hb
           · exact HE2_3.out.below hb)
         clear hb hbm
         go_wp2_with (first | (refine wpList_store_row rfl 49 _ _ rfl wr.heap.size #[.int .u8 2, .string ⟨#[97]⟩, .slice (some ⟨W3.heap.size, 0, none⟩) 2 2, .int .i64 0, .slice none 0 0, .slice none 0 0] (by rfl) (by rfl) 49 zT HSA.out.cr (stmt_size _ _ _ _ _ _) (by rfl) (stmt_one _ _ _ _ _ _ _ _ _ _ _ _) ?_) | fail)
         go_meet
         case rel => exact HSA.out.fin (.mk 2 ⟨#[97]⟩ ⟨some ⟨W3.heap.size, 0, none⟩, 2⟩ [e1, e2] 0 Sp.none [] Sp.none []) (HNA0.out ▸ WT.put HW1.out (HWM.out ▸ HW2.out)) (newT_node HRA.out HXA.out newTs_nil newTs_nil ⟨by decide, by decide⟩ (show (Lit.int .i64 0).wf = true by decide) (show (⟨#[97]⟩ : ByteArray).size ≤ maxLen by decide)) rfl
       · skip
         go_wp2_with fail
         refine (expr_ok 2 (by decide) q n lv ls _ p M _ HS1.out.base 1 0 ⟨by decide, by decide⟩).mono ?_
         rintro o W2 ⟨e1, a2, rfl, hwx, hnx, hm, hb⟩
         have HW1 := Lib.hid hwx
         have HS2 := Lib.hid (HS1.out.next hm hb)
         have HE1_2 := Lib.hid (hnx.less HS1.out.size)
         clear hwx hnx
         clear hm hb HS1 z1 t1
         have z2 := HS2.out.base.base.cell 3 rfl
         have t2 := HS2.out.base.base.cell 24 rfl
         have hb0 : Below W2.heap.size W2 (W2.alloc (.cells #[.int .u8 e1.kind, .int .u8 e1.op, .int .u32 e1.value, .int .i64 e1.width, .string e1.name, .slice e1.sp.at_ e1.subs.length e1.sp.cap] 34)) := (Below.refl _ _).alloc (Nat.le_refl _) _
         have hb := below_mask HS2.out.lt hb0
         have HS3 := Lib.hid (HS2.out.on hb0)
         have HE1_3 := Lib.hid (HE1_2.out.on hb (by have := HS2.out.old; omega))
         have HR_3 := Lib.hid ((row_list (k := 6) (enc := ExprV.cells) (l := [e1]) (c := 1) (t := 34) (fr := (0, 0)) (fun _ => rfl) rfl (by simp) (World.alloc_heap_new W2 (.cells #[.int .u8 e1.kind, .int .u8 e1.op, .int .u32 e1.value, .int .i64 e1.width, .string e1.name, .slice e1.sp.at_ e1.subs.length e1.sp.cap] 34))).low (lo := wr.heap.size + 1) HS2.out.size)
         have HX_3 : Hid (∀ e, e ∈ [e1] → NewX (wr.heap.size + 1) (W2.alloc (.cells #[.int .u8 e1.kind, .int .u8 e1.op, .int .u32 e1.value, .int .i64 e1.width, .string e1.name, .slice e1.sp.at_ e1.subs.length e1.sp.cap] 34)) e) := Lib.hid (fun e he => by
           simp only [List.mem_cons, List.not_mem_nil, or_false] at he
           rw [he]; exact HE1_2.out.below hb0)
         clear hb0
         have hm : True := trivial
         clear hm hb HS2 z2 t2 HE1_2
         go_wp2_with fail
         generalize W2.alloc (.cells #[.int .u8 e1.kind, .int .u8 e1.op, .int .u32 e1.value, .int .i64 e1.width, .string e1.name, .slice e1.sp.at_ e1.subs.length e1.sp.cap] 34) = W3 at *
         have z3 := HS3.out.base.base.cell 3 rfl
         have t3 := HS3.out.base.base.cell 24 rfl
         refine (HId.out q n lv ls _ p M hasP _ HS3.out.base HP.out 2 ⟨by decide, by decide⟩).mono ?_
         rintro o W4 ⟨A1, c1, l1, a4, rfl, hlen, hown, hwt, hnt, hm, hb⟩
         have HB1 := Lib.hid hlen
         have HQ1 := Lib.hid hwt
         have HS4 := Lib.hid (HS3.out.next hm hb)
         have HR_4 := Lib.hid ((HR_3.out.cells (keeps_mask hb (by have := HS3.out.old; omega))).more (size_mask hb))
         have HX_4 := Lib.hid (fun e he => (HX_3.out e he).on hb (by have := HS3.out.old; omega))
         have HL1_4 := Lib.hid (fun s hs => (hnt s hs).newT.less HS3.out.size)
         have HO1_4 := Lib.hid (hown.less HS3.out.size)
         have HT1 := Lib.hid (fun s hs => (hnt s hs).less HS3.out.size)
         clear hlen hown hwt hnt
         clear hm hb HS3 z3 t3 HR_3 HX_3
         have z4 := HS4.out.base.base.cell 3 rfl
         have t4 := HS4.out.base.base.cell 24 rfl
         clear HT1
         go_wp2_with fail
         refine (HId.out q n lv ls _ p M hasP _ HS4.out.base HP.out 1 ⟨by decide, by decide⟩).mono ?_
         rintro o W5 ⟨A2, c2, l2, a5, rfl, hlen, hown, hwt, hnt, hm, hb⟩
         have HB2 := Lib.hid hlen
         have HQ2 := Lib.hid hwt
         have HS5 := Lib.hid (HS4.out.next hm hb)
         have HR_5 := Lib.hid ((HR_4.out.cells (keeps_mask hb (by have := HS4.out.old; omega))).more (size_mask hb))
         have HX_5 := Lib.hid (fun e he => (HX_4.out e he).on hb (by have := HS4.out.old; omega))
         have HL1_5 := Lib.hid (fun s hs => (HL1_4.out s hs).on hb (by have := HS4.out.old; omega))
         have HO1_5 := Lib.hid (ownL_masked HO1_4.out hb (by have := HS4.out.old; omega))
         have HL2_5 := Lib.hid (fun s hs => (hnt s hs).newT.less HS4.out.size)
         have HO2_5 := Lib.hid (hown.less HS4.out.size)
         have HT2 := Lib.hid (fun s hs => (hnt s hs).less HS4.out.size)
         clear hlen hown hwt hnt
         clear hm hb HS4 z4 t4 HR_4 HX_4 HL1_4 HO1_4
         have z5 := HS5.out.base.base.cell 3 rfl
         have t5 := HS5.out.base.base.cell 24 rfl
         clear HT2
         have HSA := HS5
         have hl1 : l1.length ≤ 2 := by have := HB1.out; omega
         have hl2 : l2.length ≤ 1 := by have := HB2.out; omega
         have HL12 := Lib.hid (And.intro hl1 hl2)
         clear hl1 hl2
         clear HS5
         go_wp2_with (first | (refine wpList_store_row rfl 49 _ _ rfl wr.heap.size #[.int .u8 6, .string ⟨#[]⟩, .slice (some ⟨W2.heap.size, 0, none⟩) 1 1, .int .i64 0, .slice A1 l1.length c1, .slice A2 l2.length c2] (by rfl) (by rfl) 49 zT HSA.out.cr (stmt_size _ _ _ _ _ _) (by rfl) (stmt_one _ _ _ _ _ _ _ _ _ _ _ _) ?_) | fail)
         go_meet
         case rel => exact HSA.out.fin (.mk 6 ⟨#[]⟩ ⟨some ⟨W2.heap.size, 0, none⟩, 1⟩ [e1] 0 ⟨A1, c1⟩ l1 ⟨A2, c2⟩ l2) (.cond HW1.out HL12.out.1 HQ1.out HL12.out.2 HQ2.out) (newT_node HR_5.out HX_5.out (own_newTs HO1_5.out HL1_5.out (by have := HL12.out; omega)) (own_newTs HO2_5.out HL2_5.out (by have := HL12.out; omega)) ⟨by decide, by decide⟩ (show (Lit.int .i64 0).wf = true by decide) (show (⟨#[]⟩ : ByteArray).size ≤ maxLen by decide)) rfl
       · skip
         go_wp2_with fail
         refine (HI0.out q n lv ls _ p M hasP _ HS1.out.base HP.out 2 ⟨by decide, by decide⟩).mono ?_
         rintro o W2 ⟨A1, c1, l1, a2, rfl, hlen, hown, hwt, hnt, hm, hb⟩
         have HB1 := Lib.hid hlen
         have HQ1 := Lib.hid hwt
         have HS2 := Lib.hid (HS1.out.next hm hb)
         have HL1_2 := Lib.hid (fun s hs => (hnt s hs).newT.less HS1.out.size)
         have HO1_2 := Lib.hid (hown.less HS1.out.size)
         have HU1_2 := Lib.hid (fun s hs => (hnt s hs).less HS1.out.size)
         clear hlen hown hwt hnt
         clear hm hb HS1 z1 t1
         have z2 := HS2.out.base.base.cell 3 rfl
         have t2 := HS2.out.base.base.cell 24 rfl
         have HOB := Lib.hid HO1_2.out.old_block
         have HSZ0 := Lib.hid HS2.out.size
         have HMEM : Hid (((⟨#[99]⟩ : ByteArray), (⟨3, 2⟩ : Thing)) ∈ ghostsT M ++ varsT M) := Lib.hid (by simp [ghostsT, varsT, HSTD.out, std])
         have hz2 : W2.heap.size ≤ W2.heap.size := Nat.le_refl _
         have HZ2 := Lib.hid hz2
         clear hz2
         go_wp2_with fail
         refine (name29_any _ _).mono ?_
         rintro o W3 ⟨rfl, hb0⟩
         have hb := below_mask HS2.out.lt hb0
         have HS3 := Lib.hid (HS2.out.on hb0)
         have HL1_3 := Lib.hid (fun s hs => (HL1_2.out s hs).on hb (by have := HS2.out.old; omega))
         have HO1_3 := Lib.hid (ownL_masked HO1_2.out hb (by have := HS2.out.old; omega))
         have HU1_3 := Lib.hid (fun s hs => (HU1_2.out s hs).on hb (by have := HS2.out.old; omega))
         have HZ3 := Lib.hid (Nat.le_trans HZ2.out hb0.size)
         clear HZ2
         clear hb0
         have hm : True := trivial
         clear hm hb HS2 z2 t2 HL1_2 HO1_2 HU1_2
         have z3 := HS3.out.base.base.cell 3 rfl
         have t3 := HS3.out.base.base.cell 24 rfl
         go_wp2_with fail
         refine (num29_any _ _ _).mono ?_
         rintro o W4 ⟨rfl, hb0⟩
         have hb := below_mask HS3.out.lt hb0
         have HS4 := Lib.hid (HS3.out.on hb0)
         have HL1_4 := Lib.hid (fun s hs => (HL1_3.out s hs).on hb (by have := HS3.out.old; omega))
         have HO1_4 := Lib.hid (ownL_masked HO1_3.out hb (by have := HS3.out.old; omega))
         have HU1_4 := Lib.hid (fun s hs => (HU1_3.out s hs).on hb (by have := HS3.out.old; omega))
         have HZ4 := Lib.hid (Nat.le_trans HZ3.out hb0.size)
         clear HZ3
         clear hb0
         have hm : True := trivial
         clear hm hb HS3 z3 t3 HL1_3 HO1_3 HU1_3
         have z4 := HS4.out.base.base.cell 3 rfl
         have t4 := HS4.out.base.base.cell 24 rfl
         go_wp2_with fail
         refine (incr_any _).mono ?_
         rintro o W5 ⟨bI, rfl, hi1, hi2, hix, hb0⟩
         have hb := below_mask HS4.out.lt hb0
         have HS5 := Lib.hid (HS4.out.on hb0)
         have HL1_5 := Lib.hid (fun s hs => (HL1_4.out s hs).on hb (by have := HS4.out.old; omega))
         have HO1_5 := Lib.hid (ownL_masked HO1_4.out hb (by have := HS4.out.old; omega))
         have HU1_5 := Lib.hid (fun s hs => (HU1_4.out s hs).on hb (by have := HS4.out.old; omega))
         have HE1_5 : Hid (NewX W2.heap.size W5 (.mk 6 3 0 0 ⟨#[]⟩ ⟨some ⟨bI, 0, none⟩, 2⟩ [nameE ⟨#[99]⟩, numE 1 2])) := Lib.hid ((two_leaves hix hi1 (fun V => name_rd V _ (by decide)) (fun V => num_rd V 1 2 (by decide) (by decide)) ⟨by decide, by decide⟩ ⟨by decide, by decide⟩).less HZ4.out)
         clear hi1 hi2 hix
         have HZ5 := Lib.hid (Nat.le_trans HZ4.out hb0.size)
         clear HZ4
         clear hb0
         have hm : True := trivial
         clear hm hb HS4 z4 t4 HL1_4 HO1_4 HU1_4
         have z5 := HS5.out.base.base.cell 3 rfl
         have t5 := HS5.out.base.base.cell 24 rfl
         have hb1 : Below W5.heap.size W5 (W5.alloc (.cells #[.int .u8 6, .int .u8 3, .int .u32 0, .int .i64 0, .string ⟨#[]⟩, .slice (some ⟨bI, 0, none⟩) 2 2] 34)) := (Below.refl _ _).alloc (Nat.le_refl _) _
         have hb2 : Below (W5.alloc (.cells #[.int .u8 6, .int .u8 3, .int .u32 0, .int .i64 0, .string ⟨#[]⟩, .slice (some ⟨bI, 0, none⟩) 2 2] 34)).heap.size (W5.alloc (.cells #[.int .u8 6, .int .u8 3, .int .u32 0, .int .i64 0, .string ⟨#[]⟩, .slice (some ⟨bI, 0, none⟩) 2 2] 34)) ((W5.alloc (.cells #[.int .u8 6, .int .u8 3, .int .u32 0, .int .i64 0, .string ⟨#[]⟩, .slice (some ⟨bI, 0, none⟩) 2 2] 34)).alloc (.cells #[.int .u8 1, .string ⟨#[99]⟩, .slice (some ⟨W5.heap.size, 0, none⟩) 1 1, .int .i64 0, .slice none 0 0, .slice none 0 0] 49)) := (Below.refl _ _).alloc (Nat.le_refl _) _
         have hb12 := hb1.trans (hb2.mono hb1.size)
         have hrE := (row_one (k := 6) (enc := ExprV.cells) (x := (.mk 6 3 0 0 ⟨#[]⟩ ⟨some ⟨bI, 0, none⟩, 2⟩ [nameE ⟨#[99]⟩, numE 1 2])) (t := 34) (fr := (0, 0)) (World.alloc_heap_new W5 (.cells #[.int .u8 6, .int .u8 3, .int .u32 0, .int .i64 0, .string ⟨#[]⟩, .slice (some ⟨bI, 0, none⟩) 2 2] 34))).low (lo := W2.heap.size) HZ5.out
         have hnE : NewX W2.heap.size (W5.alloc (.cells #[.int .u8 6, .int .u8 3, .int .u32 0, .int .i64 0, .string ⟨#[]⟩, .slice (some ⟨bI, 0, none⟩) 2 2] 34)) (.mk 6 3 0 0 ⟨#[]⟩ ⟨some ⟨bI, 0, none⟩, 2⟩ [nameE ⟨#[99]⟩, numE 1 2]) := HE1_5.out.below hb1
         have hns : NewT W2.heap.size ((W5.alloc (.cells #[.int .u8 6, .int .u8 3, .int .u32 0, .int .i64 0, .string ⟨#[]⟩, .slice (some ⟨bI, 0, none⟩) 2 2] 34)).alloc (.cells #[.int .u8 1, .string ⟨#[99]⟩, .slice (some ⟨W5.heap.size, 0, none⟩) 1 1, .int .i64 0, .slice none 0 0, .slice none 0 0] 49)) (.mk 1 ⟨#[99]⟩ ⟨some ⟨W5.heap.size, 0, none⟩, 1⟩ [(.mk 6 3 0 0 ⟨#[]⟩ ⟨some ⟨bI, 0, none⟩, 2⟩ [nameE ⟨#[99]⟩, numE 1 2])] 0 Sp.none [] Sp.none []) := (newT_node hrE (fun e he => by rw [List.mem_singleton.1 he]; exact hnE) newTs_nil newTs_nil ⟨by decide, by decide⟩ (show (Lit.int .i64 0).wf = true by decide) (show (⟨#[99]⟩ : ByteArray).size ≤ maxLen by decide)).below hb2
         have HNXT := Lib.hid (hns.tox (lo' := wr.heap.size + 1) HOB.out HSZ0.out)
         have HSA := Lib.hid (HS5.out.on hb12)
         have HOA := Lib.hid (HO1_5.out.on hb12)
         have HUA := Lib.hid (fun x hx => (HU1_5.out x hx).below hb12)
         have HRS := Lib.hid (row_one (enc := StmtV.cells) (x := (.mk 1 ⟨#[99]⟩ ⟨some ⟨W5.heap.size, 0, none⟩, 1⟩ [(.mk 6 3 0 0 ⟨#[]⟩ ⟨some ⟨bI, 0, none⟩, 2⟩ [nameE ⟨#[99]⟩, numE 1 2])] 0 Sp.none [] Sp.none [])) (k := 6) (World.alloc_heap_new (W5.alloc (.cells #[.int .u8 6, .int .u8 3, .int .u32 0, .int .i64 0, .string ⟨#[]⟩, .slice (some ⟨bI, 0, none⟩) 2 2] 34)) (.cells #[.int .u8 1, .string ⟨#[99]⟩, .slice (some ⟨W5.heap.size, 0, none⟩) 1 1, .int .i64 0, .slice none 0 0, .slice none 0 0] 49)))
         simp only [World.size_alloc] at HRS
         have HLN : Hid (l1.length + 1 ≤ 1000000) := Lib.hid (by have := HB1.out; omega)
         have HSZ : Hid (wr.heap.size + 1 ≤ ((W5.alloc (.cells #[.int .u8 6, .int .u8 3, .int .u32 0, .int .i64 0, .string ⟨#[]⟩, .slice (some ⟨bI, 0, none⟩) 2 2] 34)).alloc (.cells #[.int .u8 1, .string ⟨#[99]⟩, .slice (some ⟨W5.heap.size, 0, none⟩) 1 1, .int .i64 0, .slice none 0 0, .slice none 0 0] 49)).heap.size) := Lib.hid (Nat.le_trans HS5.out.size hb12.size)
         clear hb1 hb2 hb12 hrE hnE hns HE1_5 HL1_5 HO1_5 HU1_5 HS5 HOB HSZ0
         go_wp2_with (first | (at_builtin; refine wpList_append_row rfl (.tmp 111) (.tmp 117) 37 rfl stmtK (fun _ => rfl) one_stmt _ l1 rfl HOA.out ⟨some ⟨W5.heap.size + 1, 0, none⟩, 1⟩ [(.mk 1 ⟨#[99]⟩ ⟨some ⟨W5.heap.size, 0, none⟩, 1⟩ [(.mk 6 3 0 0 ⟨#[]⟩ ⟨some ⟨bI, 0, none⟩, 2⟩ [nameE ⟨#[99]⟩, numE 1 2])] 0 Sp.none [] Sp.none [])] rfl HRS.out HLN.out HSZ.out ?_) | fail)
         intro v2 W6 hown2 hg2 hat2
         obtain ⟨A3, c3, rfl⟩ := hown2.form
         have hlow := HOA.out.below hg2 (Nat.le_refl _) (Below.refl _ _) HSZ.out
         have HS6 := Lib.hid (HSA.out.on1 hlow)
         have HO3_6 := Lib.hid hown2
         have HL3_6 : Hid (∀ x, x ∈ l1 ++ [(.mk 1 ⟨#[99]⟩ ⟨some ⟨W5.heap.size, 0, none⟩, 1⟩ [(.mk 6 3 0 0 ⟨#[]⟩ ⟨some ⟨bI, 0, none⟩, 2⟩ [nameE ⟨#[99]⟩, numE 1 2])] 0 Sp.none [] Sp.none [])] → NewT (wr.heap.size + 1) W6 x) := Lib.hid (fun x hx => by
           rcases List.mem_append.1 hx with hx | hx
           · exact ((HUA.out x hx).grow hg2 (by simp only [World.size_alloc]; exact hat2)).newT
           · rw [List.mem_singleton.1 hx]; exact (HNXT.out.grow hg2 (by simp only [World.size_alloc]; exact hat2)).newT)
         have HQ3 : Hid (∀ x, x ∈ l1 ++ [(.mk 1 ⟨#[99]⟩ ⟨some ⟨W5.heap.size, 0, none⟩, 1⟩ [(.mk 6 3 0 0 ⟨#[]⟩ ⟨some ⟨bI, 0, none⟩, 2⟩ [nameE ⟨#[99]⟩, numE 1 2])] 0 Sp.none [] Sp.none [])] → WT M hasP 0 x) := Lib.hid (fun x hx => by
           rcases List.mem_append.1 hx with hx | hx
           · exact HQ1.out x hx
           · rw [List.mem_singleton.1 hx]; exact .set HMEM.out (WX.up (WX.bin (wd := 2) (by decide) (by decide) (WX.var (set_leaf HMEM.out).1) (WX.num (by decide) (by decide) (by decide) (by decide)))))
         have HB3 : Hid ((l1 ++ [((.mk 1 ⟨#[99]⟩ ⟨some ⟨W5.heap.size, 0, none⟩, 1⟩ [(.mk 6 3 0 0 ⟨#[]⟩ ⟨some ⟨bI, 0, none⟩, 2⟩ [nameE ⟨#[99]⟩, numE 1 2])] 0 Sp.none [] Sp.none []) : StmtV)]).length ≤ 3) := Lib.hid (by have := HB1.out; simp; omega)
         clear hown2 hg2 hat2 hlow HSA HOA HUA HNXT HRS HQ1 HB1 HLN HSZ
         generalize l1 ++ [(.mk 1 ⟨#[99]⟩ ⟨some ⟨W5.heap.size, 0, none⟩, 1⟩ [(.mk 6 3 0 0 ⟨#[]⟩ ⟨some ⟨bI, 0, none⟩, 2⟩ [nameE ⟨#[99]⟩, numE 1 2])] 0 Sp.none [] Sp.none [])] = l3 at *
         have z6 := HS6.out.base.base.cell 3 rfl
         have t6 := HS6.out.base.base.cell 24 rfl
         go_wp2_with fail
         refine (next_any q n lv ls _ p M.prm _ HS6.out.base.base 3 (by decide) (by decide)).mono ?_
         rintro o W7 ⟨k7, a7, rfl, lo7, hi7, hm, hb⟩
         have HS7 := Lib.hid (HS6.out.next hm hb)
         have HL3_7 := Lib.hid (fun s hs => (HL3_6.out s hs).on hb (by have := HS6.out.old; omega))
         have HO3_7 := Lib.hid (ownL_masked HO3_6.out hb (by have := HS6.out.old; omega))
         clear hm hb HS6 z6 t6 HL3_6 HO3_6
         have z7 := HS7.out.base.base.cell 3 rfl
         have t7 := HS7.out.base.base.cell 24 rfl
         go_wp2_with fail
         refine (name29_any _ _).mono ?_
         rintro o W8 ⟨rfl, hb0⟩
         have hb := below_mask HS7.out.lt hb0
         have HS8 := Lib.hid (HS7.out.on hb0)
         have HL3_8 := Lib.hid (fun s hs => (HL3_7.out s hs).on hb (by have := HS7.out.old; omega))
         have HO3_8 := Lib.hid (ownL_masked HO3_7.out hb (by have := HS7.out.old; omega))
         clear hb0
         have hm : True := trivial
         clear hm hb HS7 z7 t7 HL3_7 HO3_7
         have z8 := HS8.out.base.base.cell 3 rfl
         have t8 := HS8.out.base.base.cell 24 rfl
         go_wp2_with fail
         refine (next_any q n lv ls _ p M.prm _ HS8.out.base.base 3 (by decide) (by decide)).mono ?_
         rintro o W9 ⟨k9, a9, rfl, lo9, hi9, hm, hb⟩
         have HS9 := Lib.hid (HS8.out.next hm hb)
         have HL3_9 := Lib.hid (fun s hs => (HL3_8.out s hs).on hb (by have := HS8.out.old; omega))
         have HO3_9 := Lib.hid (ownL_masked HO3_8.out hb (by have := HS8.out.old; omega))
         clear hm hb HS8 z8 t8 HL3_8 HO3_8
         have z9 := HS9.out.base.base.cell 3 rfl
         have t9 := HS9.out.base.base.cell 24 rfl
         go_wp2_with fail
         refine (num29_any _ _ _).mono ?_
         rintro o W10 ⟨rfl, hb0⟩
         have hb := below_mask HS9.out.lt hb0
         have HS10 := Lib.hid (HS9.out.on hb0)
         have HL3_10 := Lib.hid (fun s hs => (HL3_9.out s hs).on hb (by have := HS9.out.old; omega))
         have HO3_10 := Lib.hid (ownL_masked HO3_9.out hb (by have := HS9.out.old; omega))
         clear hb0
         have hm : True := trivial
         clear hm hb HS9 z9 t9 HL3_9 HO3_9
         have z10 := HS10.out.base.base.cell 3 rfl
         have t10 := HS10.out.base.base.cell 24 rfl
         go_wp2_with fail
         refine (less_any _ _).mono ?_
         rintro o W11 ⟨bC, rfl, hi1, hi2, hix, hb0⟩
         have hb := below_mask HS10.out.lt hb0
         have HS11 := Lib.hid (HS10.out.on hb0)
         have HL3_11 := Lib.hid (fun s hs => (HL3_10.out s hs).on hb (by have := HS10.out.old; omega))
         have HO3_11 := Lib.hid (ownL_masked HO3_10.out hb (by have := HS10.out.old; omega))
         have HE1_11 : Hid (NewX (wr.heap.size + 1) W11 (.mk 6 15 0 0 ⟨#[]⟩ ⟨some ⟨bC, 0, none⟩, 2⟩ [nameE ⟨#[99]⟩, numE (1 + k9) 2])) := Lib.hid ((two_leaves hix hi1 (fun V => name_rd V _ (by decide)) (fun V => num_rd V _ 2 ⟨by omega, by omega⟩ (by decide)) ⟨by decide, by decide⟩ ⟨by decide, by decide⟩).less HS10.out.size)
         clear hi1 hi2 hix
         clear hb0
         have hm : True := trivial
         clear hm hb HS10 z10 t10 HL3_10 HO3_10
         have z11 := HS11.out.base.base.cell 3 rfl
         have t11 := HS11.out.base.base.cell 24 rfl
         have hb1 : Below W11.heap.size W11 (W11.alloc (.cells #[.int .u8 6, .int .u8 15, .int .u32 0, .int .i64 0, .string ⟨#[]⟩, .slice (some ⟨bC, 0, none⟩) 2 2] 34)) := (Below.refl _ _).alloc (Nat.le_refl _) _
         have hbm := below_mask HS11.out.lt hb1
         have HSA := Lib.hid (HS11.out.on hb1)
         have HRA := Lib.hid ((row_one (k := 6) (enc := ExprV.cells) (x := (.mk 6 15 0 0 ⟨#[]⟩ ⟨some ⟨bC, 0, none⟩, 2⟩ [nameE ⟨#[99]⟩, numE (1 + k9) 2])) (t := 34) (fr := (0, 0)) (World.alloc_heap_new W11 (.cells #[.int .u8 6, .int .u8 15, .int .u32 0, .int .i64 0, .string ⟨#[]⟩, .slice (some ⟨bC, 0, none⟩) 2 2] 34))).low (lo := wr.heap.size + 1) HS11.out.size)
         have HXA : Hid (∀ e, e ∈ [((.mk 6 15 0 0 ⟨#[]⟩ ⟨some ⟨bC, 0, none⟩, 2⟩ [nameE ⟨#[99]⟩, numE (1 + k9) 2]) : ExprV)] → NewX (wr.heap.size + 1) (W11.alloc (.cells #[.int .u8 6, .int .u8 15, .int .u32 0, .int .i64 0, .string ⟨#[]⟩, .slice (some ⟨bC, 0, none⟩) 2 2] 34)) e) := Lib.hid (fun e he => by rw [List.mem_singleton.1 he]; exact HE1_11.out.below hb1)
         have HTA := Lib.hid (own_newTs (HO3_11.out.on hb1) (fun x hx => (HL3_11.out x hx).below hb1) (by have := HB3.out; omega))
         have h4 : (2 : Int) ^ (2 : Int).toNat = 4 := by decide
         have HWC : Hid (WX M 0 1 1 (.mk 6 15 0 0 ⟨#[]⟩ ⟨some ⟨bC, 0, none⟩, 2⟩ [nameE ⟨#[99]⟩, numE (1 + k9) 2])) := Lib.hid (WX.cmp (wd := 2) (by decide) (by decide) (WX.var (set_leaf HMEM.out).1) (WX.num (by omega) (by rw [h4]; omega) (by decide) (by decide)))
         clear h4
         have HBD : Hid (1 ≤ 1 + k7 ∧ 1 + k7 ≤ 3) := Lib.hid ⟨by omega, by omega⟩
         clear hb1 hbm
         go_wp2_with (first | (refine wpList_store_row rfl 49 _ _ rfl wr.heap.size #[.int .u8 7, .string ⟨#[]⟩, .slice (some ⟨W11.heap.size, 0, none⟩) 1 1, .int .i64 (1 + k7), .slice A3 l3.length c3, .slice none 0 0] (by rfl) (by rfl) 49 zT HSA.out.cr (stmt_size _ _ _ _ _ _) (by rfl) (stmt_one _ _ _ _ _ _ _ _ _ _ _ _) ?_) | fail)
         go_meet
         case rel => exact HSA.out.fin (.mk 7 ⟨#[]⟩ ⟨some ⟨W11.heap.size, 0, none⟩, 1⟩ [(.mk 6 15 0 0 ⟨#[]⟩ ⟨some ⟨bC, 0, none⟩, 2⟩ [nameE ⟨#[99]⟩, numE (1 + k9) 2])] (1 + k7) ⟨A3, c3⟩ l3 Sp.none []) (.loop HBD.out.1 HBD.out.2 HWC.out HB3.out HQ3.out) (newT_node HRA.out HXA.out HTA.out newTs_nil ⟨by decide, by decide⟩ (wf_small HBD.out) (show (⟨#[]⟩ : ByteArray).size ≤ maxLen by decide)) rfl
       · cases hp : M.prm with
         | true =>
           rw [hp] at t1
           clear hp
           go_wp2_with fail
           refine (leaf_any q n lv ls _ p M _ HS1.out.base 1 0 ⟨by decide, by decide⟩).mono ?_
           rintro o W2 ⟨e1, a2, rfl, hwx, hnx, hm, hb⟩
           simp only [ExprV.val, Sp.val]
           have HW1 := Lib.hid hwx
           have HS2 := Lib.hid (HS1.out.next hm hb)
           have HE1_2 := Lib.hid (show NewX (wr.heap.size + 1) W2 e1 from (hnx _).more (Nat.zero_le _))
           clear hwx hnx
           clear hm hb HS1 z1 t1
           have z2 := HS2.out.base.base.cell 3 rfl
           have t2 := HS2.out.base.base.cell 24 rfl
           go_wp2_with fail
           refine (leaf_any q n lv ls _ p M _ HS2.out.base p.width 0 HPW.out).mono ?_
           rintro o W3 ⟨e2, a3, rfl, hwx, hnx, hm, hb⟩
           simp only [ExprV.val, Sp.val]
           have HW2 := Lib.hid hwx
           have HS3 := Lib.hid (HS2.out.next hm hb)
           have HE1_3 := Lib.hid (HE1_2.out.on hb (by have := HS2.out.old; omega))
           have HE2_3 := Lib.hid (show NewX (wr.heap.size + 1) W3 e2 from (hnx _).more (Nat.zero_le _))
           clear hwx hnx
           clear hm hb HS2 z2 t2 HE1_2
           have z3 := HS3.out.base.base.cell 3 rfl
           have t3 := HS3.out.base.base.cell 24 rfl
           have hb : Below W3.heap.size W3 (W3.alloc (.cells #[.int .u8 e1.kind, .int .u8 e1.op, .int .u32 e1.value, .int .i64 e1.width, .string e1.name, .slice e1.sp.at_ e1.subs.length e1.sp.cap, .int .u8 e2.kind, .int .u8 e2.op, .int .u32 e2.value, .int .i64 e2.width, .string e2.name, .slice e2.sp.at_ e2.subs.length e2.sp.cap] 34)) := (Below.refl _ _).alloc (Nat.le_refl _) _
           have hbm := below_mask HS3.out.lt hb
           have HSA := Lib.hid (HS3.out.on hb)
           have HRA := Lib.hid ((row_list (k := 6) (enc := ExprV.cells) (l := [e1, e2]) (c := 2) (t := 34) (fr := (0, 0)) (fun _ => rfl) rfl (by simp) (World.alloc_heap_new W3 (.cells #[.int .u8 e1.kind, .int .u8 e1.op, .int .u32 e1.value, .int .i64 e1.width, .string e1.name, .slice e1.sp.at_ e1.subs.length e1.sp.cap, .int .u8 e2.kind, .int .u8 e2.op, .int .u32 e2.value, .int .i64 e2.width, .string e2.name, .slice e2.sp.at_ e2.subs.length e2.sp.cap] 34))).low (lo := wr.heap.size + 1) HS3.out.size)
           have HXA : Hid (∀ e, e ∈ [e1, e2] → NewX (wr.heap.size + 1) (W3.alloc (.cells #[.int .u8 e1.kind, .int .u8 e1.op, .int .u32 e1.value, .int .i64 e1.width, .string e1.name, .slice e1.sp.at_ e1.subs.length e1.sp.cap, .int .u8 e2.kind, .int .u8 e2.op, .int .u32 e2.value, .int .i64 e2.width, .string e2.name, .slice e2.sp.at_ e2.subs.length e2.sp.cap] 34)) e) := Lib.hid (fun e he => by
             simp only [List.mem_cons, List.not_mem_nil, or_false] at he
             rcases he with rfl | rfl
             · exact HE1_3.out.below hb
             · exact HE2_3.out.below hb)
           clear hb hbm
           go_wp2_with (first | (refine wpList_store_row rfl 49 _ _ rfl wr.heap.size #[.int .u8 3, .string ⟨#[]⟩, .slice (some ⟨W3.heap.size, 0, none⟩) 2 2, .int .i64 0, .slice none 0 0, .slice none 0 0] (by rfl) (by rfl) 49 zT HSA.out.cr (stmt_size _ _ _ _ _ _) (by rfl) (stmt_one _ _ _ _ _ _ _ _ _ _ _ _) ?_) | fail)
           go_meet
           case rel => exact HSA.out.fin (.mk 3 ⟨#[]⟩ ⟨some ⟨W3.heap.size, 0, none⟩, 2⟩ [e1, e2] 0 Sp.none [] Sp.none []) (.write (HW1.out.rise 1) (HWM.out ▸ HW2.out.rise 2)) (newT_node HRA.out HXA.out newTs_nil newTs_nil ⟨by decide, by decide⟩ (show (Lit.int .i64 0).wf = true by decide) (show (⟨#[]⟩ : ByteArray).size ≤ maxLen by decide)) rfl
         | false =>
           have HPP := Lib.hid (HP.out hp)
           have HPRM := Lib.hid hp
           rw [hp] at t1
           clear hp
           have u1 := HS1.out.base.base.cell 15 rfl
           simp only [Sp.val] at u1
           by_cases h0 : 0 < p.procs.length
           · have hd1 : decide (0 < p.procs.length) = true := decide_eq_true h0
             have HHP : Hid (hasP = true) := Lib.hid (by rw [HPP.out, hd1])
             clear HPP
             go_wp2_with fail
             refine (expr_ok 1 (by decide) q n lv ls _ p M _ HS1.out.base p.width 0 HPW.out).mono ?_
             rintro o W2 ⟨e1, a2, rfl, hwx, hnx, hm, hb⟩
             have HW1 := Lib.hid hwx
             have HS2 := Lib.hid (HS1.out.next hm hb)
             have HE1_2 := Lib.hid (hnx.less HS1.out.size)
             clear hwx hnx
             clear hm hb HS1 z1 t1 u1
             have z2 := HS2.out.base.base.cell 3 rfl
             have t2 := HS2.out.base.base.cell 24 rfl
             have hb : Below W2.heap.size W2 (W2.alloc (.cells #[.int .u8 e1.kind, .int .u8 e1.op, .int .u32 e1.value, .int .i64 e1.width, .string e1.name, .slice e1.sp.at_ e1.subs.length e1.sp.cap] 34)) := (Below.refl _ _).alloc (Nat.le_refl _) _
             have hbm := below_mask HS2.out.lt hb
             have HSA := Lib.hid (HS2.out.on hb)
             have HRA := Lib.hid ((row_list (k := 6) (enc := ExprV.cells) (l := [e1]) (c := 1) (t := 34) (fr := (0, 0)) (fun _ => rfl) rfl (by simp) (World.alloc_heap_new W2 (.cells #[.int .u8 e1.kind, .int .u8 e1.op, .int .u32 e1.value, .int .i64 e1.width, .string e1.name, .slice e1.sp.at_ e1.subs.length e1.sp.cap] 34))).low (lo := wr.heap.size + 1) HS2.out.size)
             have HXA : Hid (∀ e, e ∈ [e1] → NewX (wr.heap.size + 1) (W2.alloc (.cells #[.int .u8 e1.kind, .int .u8 e1.op, .int .u32 e1.value, .int .i64 e1.width, .string e1.name, .slice e1.sp.at_ e1.subs.length e1.sp.cap] 34)) e) := Lib.hid (fun e he => by
               simp only [List.mem_cons, List.not_mem_nil, or_false] at he
               rw [he]; exact HE1_2.out.below hb)
             clear hb hbm
             go_wp2_with (first | (refine wpList_store_row rfl 49 _ _ rfl wr.heap.size #[.int .u8 8, .string ⟨#[112]⟩, .slice (some ⟨W2.heap.size, 0, none⟩) 1 1, .int .i64 0, .slice none 0 0, .slice none 0 0] (by rfl) (by rfl) 49 zT HSA.out.cr (stmt_size _ _ _ _ _ _) (by rfl) (stmt_one _ _ _ _ _ _ _ _ _ _ _ _) ?_) | fail)
             go_meet
             case rel => exact HSA.out.fin (.mk 8 ⟨#[112]⟩ ⟨some ⟨W2.heap.size, 0, none⟩, 1⟩ [e1] 0 Sp.none [] Sp.none []) (.call HPRM.out HHP.out (HWM.out ▸ HW1.out)) (newT_node HRA.out HXA.out newTs_nil newTs_nil ⟨by decide, by decide⟩ (show (Lit.int .i64 0).wf = true by decide) (show (⟨#[112]⟩ : ByteArray).size ≤ maxLen by decide)) rfl
           · have hd1 : decide (0 < p.procs.length) = false := decide_eq_false h0
             go_wp2_with fail
             refine (leaf_any q n lv ls _ p M _ HS1.out.base 1 0 ⟨by decide, by decide⟩).mono ?_
             rintro o W2 ⟨e1, a2, rfl, hwx, hnx, hm, hb⟩
             simp only [ExprV.val, Sp.val]
             have HW1 := Lib.hid hwx
             have HS2 := Lib.hid (HS1.out.next hm hb)
             have HE1_2 := Lib.hid (show NewX (wr.heap.size + 1) W2 e1 from (hnx _).more (Nat.zero_le _))
             clear hwx hnx
             clear hm hb HS1 z1 t1 u1
             have z2 := HS2.out.base.base.cell 3 rfl
             have t2 := HS2.out.base.base.cell 24 rfl
             go_wp2_with fail
             refine (leaf_any q n lv ls _ p M _ HS2.out.base p.width 0 HPW.out).mono ?_
             rintro o W3 ⟨e2, a3, rfl, hwx, hnx, hm, hb⟩
             simp only [ExprV.val, Sp.val]
             have HW2 := Lib.hid hwx
             have HS3 := Lib.hid (HS2.out.next hm hb)
             have HE1_3 := Lib.hid (HE1_2.out.on hb (by have := HS2.out.old; omega))
             have HE2_3 := Lib.hid (show NewX (wr.heap.size + 1) W3 e2 from (hnx _).more (Nat.zero_le _))
             clear hwx hnx
             clear hm hb HS2 z2 t2 HE1_2
             have z3 := HS3.out.base.base.cell 3 rfl
             have t3 := HS3.out.base.base.cell 24 rfl
             have hb : Below W3.heap.size W3 (W3.alloc (.cells #[.int .u8 e1.kind, .int .u8 e1.op, .int .u32 e1.value, .int .i64 e1.width, .string e1.name, .slice e1.sp.at_ e1.subs.length e1.sp.cap, .int .u8 e2.kind, .int .u8 e2.op, .int .u32 e2.value, .int .i64 e2.width, .string e2.name, .slice e2.sp.at_ e2.subs.length e2.sp.cap] 34)) := (Below.refl _ _).alloc (Nat.le_refl _) _
             have hbm := below_mask HS3.out.lt hb
             have HSA := Lib.hid (HS3.out.on hb)
             have HRA := Lib.hid ((row_list (k := 6) (enc := ExprV.cells) (l := [e1, e2]) (c := 2) (t := 34) (fr := (0, 0)) (fun _ => rfl) rfl (by simp) (World.alloc_heap_new W3 (.cells #[.int .u8 e1.kind, .int .u8 e1.op, .int .u32 e1.value, .int .i64 e1.width, .string e1.name, .slice e1.sp.at_ e1.subs.length e1.sp.cap, .int .u8 e2.kind, .int .u8 e2.op, .int .u32 e2.value, .int .i64 e2.width, .string e2.name, .slice e2.sp.at_ e2.subs.length e2.sp.cap] 34))).low (lo := wr.heap.size + 1) HS3.out.size)
             have HXA : Hid (∀ e, e ∈ [e1, e2] → NewX (wr.heap.size + 1) (W3.alloc (.cells #[.int .u8 e1.kind, .int .u8 e1.op, .int .u32 e1.value, .int .i64 e1.width, .string e1.name, .slice e1.sp.at_ e1.subs.length e1.sp.cap, .int .u8 e2.kind, .int .u8 e2.op, .int .u32 e2.value, .int .i64 e2.width, .string e2.name, .slice e2.sp.at_ e2.subs.length e2.sp.cap] 34)) e) := Lib.hid (fun e he => by
               simp only [List.mem_cons, List.not_mem_nil, or_false] at he
               rcases he with rfl | rfl
               · exact HE1_3.out.below hb
               · exact HE2_3.out.below hb)
             clear hb hbm
             go_wp2_with (first | (refine wpList_store_row rfl 49 _ _ rfl wr.heap.size #[.int .u8 3, .string ⟨#[]⟩, .slice (some ⟨W3.heap.size, 0, none⟩) 2 2, .int .i64 0, .slice none 0 0, .slice none 0 0] (by rfl) (by rfl) 49 zT HSA.out.cr (stmt_size _ _ _ _ _ _) (by rfl) (stmt_one _ _ _ _ _ _ _ _ _ _ _ _) ?_) | fail)
             go_meet
             case rel => exact HSA.out.fin (.mk 3 ⟨#[]⟩ ⟨some ⟨W3.heap.size, 0, none⟩, 2⟩ [e1, e2] 0 Sp.none [] Sp.none []) (.write (HW1.out.rise 1) (HWM.out ▸ HW2.out.rise 2)) (newT_node HRA.out HXA.out newTs_nil newTs_nil ⟨by decide, by decide⟩ (show (Lit.int .i64 0).wf = true by decide) (show (⟨#[]⟩ : ByteArray).size ≤ maxLen by decide)) rfl
       · skip
         go_wp2_with fail
         refine (leaf_any q n lv ls _ p M _ HS1.out.base 1 0 ⟨by decide, by decide⟩).mono ?_
         rintro o W2 ⟨e1, a2, rfl, hwx, hnx, hm, hb⟩
         simp only [ExprV.val, Sp.val]
         have HW1 := Lib.hid hwx
         have HS2 := Lib.hid (HS1.out.next hm hb)
         have HE1_2 := Lib.hid (show NewX (wr.heap.size + 1) W2 e1 from (hnx _).more (Nat.zero_le _))
         clear hwx hnx
         clear hm hb HS1 z1 t1
         have z2 := HS2.out.base.base.cell 3 rfl
         have t2 := HS2.out.base.base.cell 24 rfl
         go_wp2_with fail
         refine (leaf_any q n lv ls _ p M _ HS2.out.base p.width 0 HPW.out).mono ?_
         rintro o W3 ⟨e2, a3, rfl, hwx, hnx, hm, hb⟩
         simp only [ExprV.val, Sp.val]
         have HW2 := Lib.hid hwx
         have HS3 := Lib.hid (HS2.out.next hm hb)
         have HE1_3 := Lib.hid (HE1_2.out.on hb (by have := HS2.out.old; omega))
         have HE2_3 := Lib.hid (show NewX (wr.heap.size + 1) W3 e2 from (hnx _).more (Nat.zero_le _))
         clear hwx hnx
         clear hm hb HS2 z2 t2 HE1_2
         have z3 := HS3.out.base.base.cell 3 rfl
         have t3 := HS3.out.base.base.cell 24 rfl
         have hb : Below W3.heap.size W3 (W3.alloc (.cells #[.int .u8 e1.kind, .int .u8 e1.op, .int .u32 e1.value, .int .i64 e1.width, .string e1.name, .slice e1.sp.at_ e1.subs.length e1.sp.cap, .int .u8 e2.kind, .int .u8 e2.op, .int .u32 e2.value, .int .i64 e2.width, .string e2.name, .slice e2.sp.at_ e2.subs.length e2.sp.cap] 34)) := (Below.refl _ _).alloc (Nat.le_refl _) _
         have hbm := below_mask HS3.out.lt hb
         have HSA := Lib.hid (HS3.out.on hb)
         have HRA := Lib.hid ((row_list (k := 6) (enc := ExprV.cells) (l := [e1, e2]) (c := 2) (t := 34) (fr := (0, 0)) (fun _ => rfl) rfl (by simp) (World.alloc_heap_new W3 (.cells #[.int .u8 e1.kind, .int .u8 e1.op, .int .u32 e1.value, .int .i64 e1.width, .string e1.name, .slice e1.sp.at_ e1.subs.length e1.sp.cap, .int .u8 e2.kind, .int .u8 e2.op, .int .u32 e2.value, .int .i64 e2.width, .string e2.name, .slice e2.sp.at_ e2.subs.length e2.sp.cap] 34))).low (lo := wr.heap.size + 1) HS3.out.size)
         have HXA : Hid (∀ e, e ∈ [e1, e2] → NewX (wr.heap.size + 1) (W3.alloc (.cells #[.int .u8 e1.kind, .int .u8 e1.op, .int .u32 e1.value, .int .i64 e1.width, .string e1.name, .slice e1.sp.at_ e1.subs.length e1.sp.cap, .int .u8 e2.kind, .int .u8 e2.op, .int .u32 e2.value, .int .i64 e2.width, .string e2.name, .slice e2.sp.at_ e2.subs.length e2.sp.cap] 34)) e) := Lib.hid (fun e he => by
           simp only [List.mem_cons, List.not_mem_nil, or_false] at he
           rcases he with rfl | rfl
           · exact HE1_3.out.below hb
           · exact HE2_3.out.below hb)
         clear hb hbm
         go_wp2_with (first | (refine wpList_store_row rfl 49 _ _ rfl wr.heap.size #[.int .u8 3, .string ⟨#[]⟩, .slice (some ⟨W3.heap.size, 0, none⟩) 2 2, .int .i64 0, .slice none 0 0, .slice none 0 0] (by rfl) (by rfl) 49 zT HSA.out.cr (stmt_size _ _ _ _ _ _) (by rfl) (stmt_one _ _ _ _ _ _ _ _ _ _ _ _) ?_) | fail)
         go_meet
         case rel => exact HSA.out.fin (.mk 3 ⟨#[]⟩ ⟨some ⟨W3.heap.size, 0, none⟩, 2⟩ [e1, e2] 0 Sp.none [] Sp.none []) (.write (HW1.out.rise 1) (HWM.out ▸ HW2.out.rise 2)) (newT_node HRA.out HXA.out newTs_nil newTs_nil ⟨by decide, by decide⟩ (show (Lit.int .i64 0).wf = true by decide) (show (⟨#[]⟩ : ByteArray).size ≤ maxLen by decide)) rfl
     case rest =>
       obtain ⟨⟨s, a9, hx9, hw9, hn9, hm9⟩, hb9⟩ := hcut
       have HX9 := Lib.hid hx9
       have HW9 := Lib.hid hw9
       have hqr : q < wr.heap.size := HS1.out.old
       have hlo := HO.out.old_block
       have hs9 : wr.heap.size ≤ wc.heap.size := size_mask hb9
       have hba : Below wc.heap.size wc (wc.alloc (.cells #[.int .u8 s.kind, .string s.name, .slice s.es.at_ s.exprs.length s.es.cap, .int .i64 s.bound, .slice s.ts.at_ s.thn.length s.ts.cap, .slice s.os.at_ s.els.length s.os.cap] 49)) := (Below.refl _ _).alloc (Nat.le_refl _) _
       have hbm := below_mask (Nat.lt_of_lt_of_le hqr hs9) hba
       have HOA := Lib.hid ((ownL_masked HO.out hb9 (by omega)).on hba)
       have HNTA : Hid (∀ x, x ∈ l ++ [s] → NewTx w.heap.size (Value.slice A l.length c).ownBlock (wc.alloc (.cells #[.int .u8 s.kind, .string s.name, .slice s.es.at_ s.exprs.length s.es.cap, .int .i64 s.bound, .slice s.ts.at_ s.thn.length s.ts.cap, .slice s.os.at_ s.els.length s.os.cap] 49)) x) := Lib.hid (fun x hx => by
         rcases List.mem_append.1 hx with hx | hx
         · exact (((HNT.out x hx).on hb9 hqw).below hba)
         · rw [List.mem_singleton.1 hx]; exact (hn9.tox (fun b hb => by have := hlo b hb; omega) (by omega)).below hba)
       have HWTA : Hid (∀ x, x ∈ l ++ [s] → WT M hasP (d + 1) x) := Lib.hid (fun x hx => by
         rcases List.mem_append.1 hx with hx | hx
         · exact HWT.out x hx
         · rw [List.mem_singleton.1 hx]; exact HW9.out)
       have HMA := Lib.hid (hm9.on hba)
       have HBA := Lib.hid ((HBR.out.trans (hb9.mono hwr)).trans (hbm.mono (by omega)))
       have HRS := Lib.hid (row_one (enc := StmtV.cells) (x := s) (k := 6) (World.alloc_heap_new wc (.cells #[.int .u8 s.kind, .string s.name, .slice s.es.at_ s.exprs.length s.es.cap, .int .i64 s.bound, .slice s.ts.at_ s.thn.length s.ts.cap, .slice s.os.at_ s.els.length s.os.cap] 49)))
       have hszA : w.heap.size ≤ (wc.alloc (.cells #[.int .u8 s.kind, .string s.name, .slice s.es.at_ s.exprs.length s.es.cap, .int .i64 s.bound, .slice s.ts.at_ s.thn.length s.ts.cap, .slice s.os.at_ s.els.length s.os.cap] 49)).heap.size := Nat.le_trans hwr (Nat.le_trans hs9 hba.size)
       have HSZA := Lib.hid hszA
       have HLN : Hid (l.length + 1 ≤ 1000000) := Lib.hid (by have := HLJ.out; omega)
       clear hx9 hw9 hn9 hm9 hb9 hba hbm hlo hszA HO HNT HWT HBR
       go_wp2_with (first
         | (refine wpList_load_row rfl 49 _ rfl wr.heap.size rfl 49 _ (0, 0) _ HX9.out Tryz.underlying49 rfl (stmt_size _ _ _ _ _ _) ?_)
         | (at_builtin; refine wpList_append_row rfl (.tmp 156) (.tmp 158) 37 rfl stmtK (fun _ => rfl) one_stmt _ l rfl HOA.out ⟨some ⟨wc.heap.size, 0, none⟩, 1⟩ [s] rfl HRS.out HLN.out HSZA.out ?_)
         | fail)
       intro v2 w2 hown2 hg2 hat2
       obtain ⟨A2, c2, rfl⟩ := hown2.form
       have HO2 := Lib.hid hown2
       have hlow := HOA.out.below hg2 (Nat.le_refl _) (Below.refl w.heap.size _) HSZA.out
       have HN2 := Lib.hid (fun x hx => (HNTA.out x hx).grow (g' := (Value.slice A2 (l ++ [s]).length c2).ownBlock) hg2 (by rw [World.size_alloc]; exact hat2))
       have HM2 := Lib.hid (HMA.out.low (hlow.mono HNW.out))
       have HB2 := Lib.hid (HBA.out.trans (below_mask (Nat.lt_of_lt_of_le hqw HSZA.out) hlow))
       clear hown2 hg2 hat2 hlow HOA HNTA HMA HBA
       go_wp2_with fail
       go_roundw
       case rel => first | exact ⟨j + 1, a9, A2, c2, l ++ [s], by omega, by go_num, rfl, by simp [HLJ.out], HO2.out, HWTA.out, HN2.out, HM2.out, HB2.out⟩ | ((repeat apply Exists.intro); exact ⟨⟨j + 1, a9, A2, c2, l ++ [s], by omega, by go_num, rfl, by simp [HLJ.out], HO2.out, HWTA.out, HN2.out, HM2.out, HB2.out⟩, rfl⟩)
       case measure => simp [intOf]; omega
   · have HOE := Lib.hid hown
     have HWE := Lib.hid hwt
     have HNE := Lib.hid hnt
     have HME := Lib.hid hmr
     have HBE := Lib.hid hbr
     have HLE : Hid ((l.length : Int) ≤ most) := Lib.hid (by omega)
     clear hown hwt hnt hmr hbr hlj H1 HB1
     go_wp2_with fail
     go_ret
     exact ⟨A, c, l, at', rfl, HLE.out, HOE.out, HWE.out, HNE.out, HME.out.base, HBE.out⟩
theorem stmts_ok (d : Nat) (hd : d ≤ 11) : StmtsOkM d := by
 induction d with
 | zero => exact stmts_zero
 | succ d ih => exact stmts_succ (by omega) stmts_zero (ih (by omega))
end Go.Proofs.YthcboallnbaimaaGreatDoor
namespace Go.Proofs.YthcboallnbaimaaGreatDoor
open Go Go.RowKit Go.Maps
section
variable {n : Nat} {W W' : World}
theorem RdDs.cells {s : Sp} {l : List DeclV} (h : RdDs n W s l) (hc : ∀ p u, p.block < n → W.cell? p = some u → W'.cell? p = some u) : RdDs n W' s l := ⟨h.row.cells hc, h.ok⟩
theorem RdTs.cells {s : Sp} {l : List StmtV} (h : RdTs n W s l) (hc : ∀ p u, p.block < n → W.cell? p = some u → W'.cell? p = some u) : RdTs n W' s l := ⟨h.row.cells hc, fun t ht => (h.ok t ht).cells hc⟩
theorem RdP.cells {p : ProgV} (h : RdP n W p) (hc : ∀ p u, p.block < n → W.cell? p = some u → W'.cell? p = some u) : RdP n W' p :=
 ⟨h.blocks, h.width, h.inputs.cells hc, h.ghosts.cells hc, h.vars.cells hc, h.arrays.cells hc, h.require.cells hc, h.irow.cells hc, fun i hi => ⟨(h.inits i hi).block, (h.inits i hi).value.cells hc⟩, h.prow.cells hc, fun x hx => ⟨(h.procs x hx).name, (h.procs x hx).params.cells hc, (h.procs x hx).body.cells hc⟩, h.work.cells hc, h.recover.cells hc, h.invariant.cells hc⟩
end
/-- A program that lies in blocks from lo on. -/
def NewP (lo : Nat) (W : World) (p : ProgV) : Prop := RdP W.heap.size (lowm lo W) p
section
variable {lo q : Nat} {W W' : World} {p : ProgV}
theorem NewP.on (h : NewP lo W p) (hb : Below W.heap.size (mask q W) (mask q W')) (hq : q < lo) : NewP lo W' p := (RdP.cells h (keeps_mask hb hq)).more (size_mask hb)
theorem NewP.below (h : NewP lo W p) (hb : Below W.heap.size W W') : NewP lo W' p :=
 (RdP.cells h fun _ _ hp hc => lowm_cell.2 ⟨(lowm_cell.1 hc).1, (hb.cell hp).trans (lowm_cell.1 hc).2⟩).more hb.size
theorem NewP.less {lo' : Nat} (h : NewP lo W p) (hl : lo' ≤ lo) : NewP lo' W p := RdP.cells h (keeps_less hl)
theorem NewP.set {g : Nat} {cs : Array Value} (h : NewP lo W p) (hg : g < lo) : NewP lo (W.setRow g cs) p := by
 unfold NewP; rw [size_setRow]; exact RdP.cells h (keeps_set hg)
theorem NewP.rd (h : NewP lo W p) : RdP W.heap.size W p := RdP.cells h keeps_out
end
/-- The maker's block q, just behind the result's; its program lies behind it. -/
structure MdS (q : Nat) (lv : Sp) (ls : List Int) (at_ : Nat) (p : ProgV) (prm : Bool) (w W : World) : Prop where
 mkr0 : Mk0 q (q + 1) lv ls at_ p prm W
 eq : q = w.heap.size + 1
 rd : NewP (q + 1) W p
 low : Below w.heap.size w W
 res : W.heap[w.heap.size]? = some (.cells zeroP.arr 39 (0, 0))
section
variable {q : Nat} {lv : Sp} {ls : List Int} {at_ at' : Nat} {p : ProgV} {prm : Bool} {w W W' : World}
theorem MdS.lt (h : MdS q lv ls at_ p prm w W) : q < W.heap.size := h.mkr0.box_lt
theorem Mk0.raise {n n' : Nat} (h : Mk0 q n lv ls at_ p prm W) (hn : n ≤ n') (hW : n' ≤ W.heap.size) : Mk0 q n' lv ls at_ p prm W :=
 ⟨h.box, h.le, h.few, h.list.more hn, h.byte, by have := h.qn; omega, hW⟩
theorem MdS.full (h : MdS q lv ls at_ p prm w W) : Mk0 q W.heap.size lv ls at_ p prm W := h.mkr0.raise h.mkr0.nW (Nat.le_refl _)
theorem MdS.next {n' : Nat} (h : MdS q lv ls at_ p prm w W) (h0 : Mk0 q n' lv ls at' p prm W') (hb : Below W.heap.size (mask q W) (mask q W')) : MdS q lv ls at' p prm w W' := by
 have hq := h.lt
 have he := h.eq
 have hs := size_mask hb
 refine ⟨⟨h0.box, h0.le, h0.few, h.mkr0.list.below (hb.mono h.mkr0.nW), h0.byte, Nat.lt_succ_self _, by omega⟩, he, h.rd.on hb (Nat.lt_succ_self _), ?_, (mask_block hb (by omega) (by omega)).trans h.res⟩
 exact h.low.trans (unmask_below (by omega) (hb.mono (by omega)))
theorem MdS.on (h : MdS q lv ls at_ p prm w W) (hb : Below W.heap.size W W') : MdS q lv ls at_ p prm w W' := h.next (h.full.on hb) (below_mask h.lt hb)
/-- Cells of the maker's block are stored: another program. -/
theorem MdS.row (h : MdS q lv ls at_ p prm w W) (p' : ProgV) (prm' : Bool) {cs : Array Value} (hc : cs = (mkCells lv ls.length at_ p' prm').toArray) (hrd : NewP (q + 1) W p') : MdS q lv ls at_ p' prm' w (W.setRow q cs) := by
 subst hc
 have he := h.eq
 have hb := below_setRow (Below.refl w.heap.size W) (show w.heap.size ≤ q by omega) (mkCells lv ls.length at_ p' prm').toArray
 have hm : mask q (W.setRow q (mkCells lv ls.length at_ p' prm').toArray) = mask q W := by
   refine heap_ext rfl rfl rfl rfl fun k => ?_
   by_cases hk : k = q
   · subst hk; rw [mask_at, mask_at, size_setRow]
   · rw [mask_heap hk, mask_heap hk, setRow_other _ _ _ _ hk]
 exact ⟨⟨setRow_heap _ _ _ _ _ _ h.mkr0.box, h.mkr0.le, h.mkr0.few, by rw [hm]; exact h.mkr0.list, h.mkr0.byte, Nat.lt_succ_self _, by rw [size_setRow]; exact h.mkr0.nW⟩, he, hrd.set (Nat.lt_succ_self _), h.low.trans hb, (setRow_other _ _ _ _ (by omega)).trans h.res⟩
theorem MdS.put (h : MdS q lv ls at_ p prm w W) (p' : ProgV) (prm' : Bool) {i : Nat} {v : Value} (hc : (mkCells lv ls.length at_ p prm).toArray.setIfInBounds i v = (mkCells lv ls.length at_ p' prm').toArray) (hrd : NewP (q + 1) W p') : MdS q lv ls at_ p' prm' w (W.setCell ⟨q, i, none⟩ v) := by
 rw [set_row h.mkr0.box]
 exact h.row p' prm' hc hrd
theorem six_setq {b i : Nat} {t : TypeId} {cs : Array Value} {v0 v1 v2 v3 v4 v5 : Value} (h : W.heap[b]? = some (.cells cs t (0, 0))) : (((((W.setCell ⟨b, i, none⟩ v0).setCell ⟨b, i + 1, none⟩ v1).setCell ⟨b, i + 2, none⟩ v2).setCell ⟨b, i + 3, none⟩ v3).setCell ⟨b, i + 4, none⟩ v4).setCell ⟨b, i + 5, none⟩ v5 = W.setRow b ((((((cs.setIfInBounds i v0).setIfInBounds (i + 1) v1).setIfInBounds (i + 2) v2).setIfInBounds (i + 3) v3).setIfInBounds (i + 4) v4).setIfInBounds (i + 5) v5) := by
 rw [set_row h, set_of_row h, set_of_row h, set_of_row h, set_of_row h, set_of_row h]
/-- What expr and stmts want. -/
theorem MdS.mkr (h : MdS q lv ls at_ p prm w W) {M : MkE} (hp : prm = M.prm) (hM : M.ok) (hN : M.N = std) (hw : p.width = M.w) (hi : p.inputs = inputsD M) (hg : p.ghosts = ghostsD M) (hv : p.vars = varsD M) : MkR q W.heap.size lv ls at_ p M W := by
 have hc : ∀ (a : Addr) (u : Value), a.block < W.heap.size → (lowm (q + 1) W).cell? a = some u → (mask q W).cell? a = some u := fun a u _ hu => by
   obtain ⟨h1, h2⟩ := lowm_cell.1 hu
   exact (World.cell?_of_block (mask_heap (show a.block ≠ q by omega))).trans h2
 subst hp
 exact ⟨h.full, hM, hN, hw, hi, hg, hv, h.rd.inputs.row.cells hc, h.rd.ghosts.row.cells hc, h.rd.vars.row.cells hc⟩
end
end Go.Proofs.YthcboallnbaimaaGreatDoor
namespace Go.Proofs.YthcboallnbaimaaGreatDoor
open Go Go.RowKit Go.Maps
/-- append inside a region that draws its order. -/
theorem step_append_row {P : Program} {α : Type} {k : Nat} {enc : α → List Value} {w : World} {ops : Array Oper} {o : Oper} {a : Act} {K : Act → World → Prop} {Q : Exit → Act → World → Prop} {E : Prop} (hgd : o.guard = none) (s x : Operand) (t : TypeId)
   (ho : o.op = .call { callee := .builtin .append, args := #[s, x], argTypes := #[t, t] }) {B : Nat} {e : TypeId} (hE : ElemK P t e k) (hk : ∀ x, (enc x).length = k) (h1 : ∀ x : α, ∀ u ∈ enc x, u.oneCell' = true) (v : Value) (l : List α) (hs : a.eval s = v) (hown : OwnL B w e k enc v l)
   {n : Nat} (sp : Sp) (l2 : List α) (hx : a.eval x = .slice sp.at_ l2.length sp.cap) (hr : RowOf n w sp k enc l2) (hlen : l.length + l2.length ≤ 1000000) (hB : B ≤ w.heap.size)
   (h : ∀ v' w', OwnL B w' e k enc v' (l ++ l2) → w.grownBy w' v.ownBlock → (v'.ownBlock = v.ownBlock ∨ v'.ownBlock = some w.heap.size) → K (a.put o.dst v') w') :
   if Region.wanted o (yielded ops a.tmps) = true then Oper.wp P o a w K Q else E := by
 have hw : Region.wanted o (yielded ops a.tmps) = true := by simp [Region.wanted, hgd]
 rw [if_pos hw]
 obtain ⟨v', w', hrun, h2, h3, h4⟩ := run_append_row (P := P) (ty := o.type) hE hk h1 hown hr hlen hB
 unfold Oper.wp execOp
 simp only [ho, resolve, invoke, builtin, Sem.run_bind, Sem.run_pure, Result.andThen_ok, List.map_toArray, List.map_cons, List.map_nil, hs, hx, hrun]
 exact h v' w' h2 h3 h4
/-- An expression that lies in blocks from lo on, and not in block g. -/
def NewXx (lo : Nat) (g : Option Nat) (W : World) (s : ExprV) : Prop := RdX W.heap.size (lowm lo (maskO g W)) s
section
variable {lo q : Nat} {g : Option Nat} {W W' : World} {s : ExprV}
theorem NewXx.newX (h : NewXx lo g W s) : NewX lo W s := RdX.cells h fun _ _ _ hc => lowm_cell.2 ⟨(xcell.1 hc).1, (xcell.1 hc).2.2⟩
theorem NewXx.on (h : NewXx lo g W s) (hb : Below W.heap.size (mask q W) (mask q W')) (hq : q < lo) : NewXx lo g W' s :=
 (RdX.cells h fun p u hp hc => by
   obtain ⟨h1, h2, h3⟩ := xcell.1 hc
   exact xcell.2 ⟨h1, h2, (World.cell?_of_block (mask_block hb hp (by omega))).trans h3⟩).more (size_mask hb)
theorem NewXx.below (h : NewXx lo g W s) (hb : Below W.heap.size W W') : NewXx lo g W' s :=
 (RdX.cells h fun _ _ hp hc => xcell.2 ⟨(xcell.1 hc).1, (xcell.1 hc).2.1, (hb.cell hp).trans (xcell.1 hc).2.2⟩).more hb.size
theorem NewXx.grow {g' : Option Nat} (h : NewXx lo g W s) (hg : W.grownBy W' g) (hat : g' = g ∨ g' = some W.heap.size) : NewXx lo g' W' s :=
 (RdX.cells h fun p u hp hc => by
   obtain ⟨h1, h2, h3⟩ := xcell.1 hc
   refine xcell.2 ⟨h1, ?_, (World.cell?_of_block (hg.block _ hp (fun e => h2 e.symm))).trans h3⟩
   rcases hat with rfl | rfl
   · exact h2
   · intro e
     have := Option.some.inj e
     omega).more hg.size
theorem NewXx.set {b : Nat} {cs : Array Value} (h : NewXx lo g W s) (hb : b < lo) : NewXx lo g (W.setRow b cs) s := by
 unfold NewXx
 rw [size_setRow]
 refine RdX.cells h fun p u _ hc => ?_
 obtain ⟨h1, h2, h3⟩ := xcell.1 hc
 exact xcell.2 ⟨h1, h2, (cell_setRow_other W b cs p (by omega)).trans h3⟩
theorem NewX.tox {lo' : Nat} (h : NewX lo W s) (hg : ∀ b, g = some b → b < lo) (hl : lo' ≤ lo) : NewXx lo' g W s :=
 RdX.cells h fun p u _ hc => by
   obtain ⟨h1, h2⟩ := lowm_cell.1 hc
   exact xcell.2 ⟨by omega, fun e => by have := hg _ e; omega, h2⟩
end
/-- The program with its Inits. -/
def withI (p : ProgV) (A : Option Addr) (c : Nat) (l : List InitV) : ProgV := { p with ns := ⟨A, c⟩, inits := l }
structure MdI (q : Nat) (lv : Sp) (ls : List Int) (at_ : Nat) (p : ProgV) (M : MkE) (s0 : Nat) (j : Int) (A : Option Addr) (c : Nat) (l : List InitV) (w W : World) : Prop where
 mkr0 : Mk0 q (q + 1) lv ls at_ (withI p A c l) false W
 eq : q = w.heap.size + 1
 rd : RdP s0 (lowm (q + 1) W) p
 q0 : q + 1 ≤ s0
 sW : s0 ≤ W.heap.size
 own : OwnL s0 W 118 7 InitV.cells (.slice A l.length c) l
 vals : ∀ x ∈ l, 0 ≤ x.block ∧ x.block < j ∧ (Lit.int .i64 x.block).wf = true ∧ WX M 1 1 M.w x.value ∧ NewXx s0 (Value.slice A l.length c).ownBlock W x.value
 pw : l.Pairwise (fun x y => x.block < y.block)
 len : (l.length : Int) ≤ j
 low : Below w.heap.size w W
 res : W.heap[w.heap.size]? = some (.cells zeroP.arr 39 (0, 0))
section
variable {q : Nat} {lv : Sp} {ls : List Int} {at_ at' : Nat} {p : ProgV} {M : MkE} {s0 : Nat} {j : Int} {A : Option Addr} {c : Nat} {l : List InitV} {w W W' : World}
theorem MdI.start (h : MdS q lv ls at_ p false w W) (hp : withI p none 0 [] = p) : MdI q lv ls at_ p M W.heap.size 0 none 0 [] w W :=
 ⟨by rw [hp]; exact h.mkr0, h.eq, h.rd, h.lt, Nat.le_refl _, OwnL.nil, fun _ hx => absurd hx (by simp), .nil, by simp, h.low, h.res⟩
theorem MdI.lt (h : MdI q lv ls at_ p M s0 j A c l w W) : q < W.heap.size := h.mkr0.box_lt
theorem MdI.next {n' : Nat} (h : MdI q lv ls at_ p M s0 j A c l w W) (h0 : Mk0 q n' lv ls at' (withI p A c l) false W') (hb : Below W.heap.size (mask q W) (mask q W')) : MdI q lv ls at' p M s0 j A c l w W' := by
 have hq := h.lt
 have he := h.eq
 have hs := size_mask hb
 have h1 := h.q0
 have h2 := h.sW
 refine ⟨⟨h0.box, h0.le, h0.few, h.mkr0.list.below (hb.mono h.mkr0.nW), h0.byte, Nat.lt_succ_self _, by omega⟩, he, h.rd.cells (fun a u ha hu => keeps_mask hb (Nat.lt_succ_self _) a u (by omega) hu), h1, by omega, ownL_masked h.own hb (by omega), fun x hx => ?_, h.pw, h.len, ?_, (mask_block hb (by omega) (by omega)).trans h.res⟩
 · obtain ⟨a1, a2, a3, a4, a5⟩ := h.vals x hx
   exact ⟨a1, a2, a3, a4, a5.on hb (by omega)⟩
 · exact h.low.trans (unmask_below (by omega) (hb.mono (by omega)))
theorem MdI.full (h : MdI q lv ls at_ p M s0 j A c l w W) : Mk0 q W.heap.size lv ls at_ (withI p A c l) false W := h.mkr0.raise h.mkr0.nW (Nat.le_refl _)
theorem MdI.on (h : MdI q lv ls at_ p M s0 j A c l w W) (hb : Below W.heap.size W W') : MdI q lv ls at_ p M s0 j A c l w W' := h.next (h.full.on hb) (below_mask h.lt hb)
theorem MdI.mkr (h : MdI q lv ls at_ p M s0 j A c l w W) (hp : M.prm = false) (hM : M.ok) (hN : M.N = std) (hw : p.width = M.w) (hi : p.inputs = inputsD M) (hg : p.ghosts = ghostsD M) (hv : p.vars = varsD M) : MkR q W.heap.size lv ls at_ (withI p A c l) M W := by
 have hc : ∀ (a : Addr) (u : Value), a.block < s0 → (lowm (q + 1) W).cell? a = some u → (mask q W).cell? a = some u := fun a u _ hu => by
   obtain ⟨h1, h2⟩ := lowm_cell.1 hu
   exact (World.cell?_of_block (mask_heap (show a.block ≠ q by omega))).trans h2
 exact ⟨by rw [hp]; exact h.full, hM, hN, hw, hi, hg, hv, (h.rd.inputs.row.cells hc).more h.sW, (h.rd.ghosts.row.cells hc).more h.sW, (h.rd.vars.row.cells hc).more h.sW⟩
theorem MdI.skip (h : MdI q lv ls at_ p M s0 j A c l w W) : MdI q lv ls at_ p M s0 (j + 1) A c l w W :=
 { h with vals := fun x hx => by obtain ⟨a1, a2, a3⟩ := h.vals x hx; exact ⟨a1, by omega, a3⟩, len := by have := h.len; omega }
/-- One more: appended, and the slice stored. -/
theorem MdI.app (h : MdI q lv ls at_ p M s0 j A c l w W) (hj : 0 ≤ j) (hjw : (Lit.int .i64 j).wf = true) {e : ExprV} {lo : Nat} (hwx : WX M 1 1 M.w e) (hnx : NewX lo W e) (hlo : s0 ≤ lo) (hol : ∀ b, (Value.slice A l.length c).ownBlock = some b → b < lo)
   {o : Obj} {W2 : World} {A2 : Option Addr} {c2 : Nat} (hown : OwnL s0 W2 118 7 InitV.cells (.slice A2 (l ++ [(⟨j, e⟩ : InitV)]).length c2) (l ++ [(⟨j, e⟩ : InitV)])) (hg : (W.alloc o).grownBy W2 (Value.slice A l.length c).ownBlock)
   (hat : (Value.slice A2 (l ++ [(⟨j, e⟩ : InitV)]).length c2).ownBlock = (Value.slice A l.length c).ownBlock ∨ (Value.slice A2 (l ++ [(⟨j, e⟩ : InitV)]).length c2).ownBlock = some (W.alloc o).heap.size) :
   MdI q lv ls at_ p M s0 (j + 1) A2 c2 (l ++ [(⟨j, e⟩ : InitV)]) w (W2.setCell ⟨q, 14, none⟩ (.slice A2 (l ++ [(⟨j, e⟩ : InitV)]).length c2)) := by
 have hba : Below W.heap.size W (W.alloc o) := (Below.refl _ _).alloc (Nat.le_refl _) _
 have h1 := h.on hba
 have he := h.eq
 have hq0 := h.q0
 have hsW := h.sW
 have hown1 := h1.own
 have hlow : Below s0 (W.alloc o) W2 := hown1.below hg (Nat.le_refl _) (Below.refl _ _) h1.sW
 have hlow' : Below (w.heap.size + 1 + 1) (W.alloc o) W2 := hlow.mono (by omega)
 have hbox : W2.heap[q]? = some (.cells (mkCells lv ls.length at_ (withI p A c l) false).toArray 114 (0, 0)) := (hlow.block q (by omega)).trans h1.mkr0.box
 have hset : W2.setCell ⟨q, 14, none⟩ (.slice A2 (l ++ [(⟨j, e⟩ : InitV)]).length c2) = W2.setRow q (mkCells lv ls.length at_ (withI p A2 c2 (l ++ [(⟨j, e⟩ : InitV)])) false).toArray := by
   rw [set_row hbox]
   rfl
 have hbs := below_setRow (Below.refl w.heap.size W2) (show w.heap.size ≤ q by omega) (mkCells lv ls.length at_ (withI p A2 c2 (l ++ [(⟨j, e⟩ : InitV)])) false).toArray
 have hm : mask q (W2.setRow q (mkCells lv ls.length at_ (withI p A2 c2 (l ++ [(⟨j, e⟩ : InitV)])) false).toArray) = mask q W2 := by
   refine heap_ext rfl rfl rfl rfl fun k => ?_
   by_cases hk : k = q
   · subst hk; rw [mask_at, mask_at, size_setRow]
   · rw [mask_heap hk, mask_heap hk, setRow_other _ _ _ _ hk]
 rw [hset]
 have hsz2 := hlow.size
 have hsz1 := hba.size
 refine ⟨⟨setRow_heap _ _ _ _ _ _ hbox, h.mkr0.le, h.mkr0.few, by rw [hm]; exact h1.mkr0.list.below (below_mask h1.lt (hlow.mono (by omega))), h.mkr0.byte, Nat.lt_succ_self _, by rw [size_setRow]; omega⟩, he, ?_, hq0, by rw [size_setRow]; omega, ?_, fun x hx => ?_, ?_, ?_, (h1.low.trans (hlow.mono (by omega))).trans hbs, (setRow_other _ _ _ _ (by omega)).trans ((hlow.block _ (by omega)).trans h1.res)⟩
 · refine h1.rd.cells fun a u ha hu => ?_
   obtain ⟨b1, b2⟩ := lowm_cell.1 hu
   exact lowm_cell.2 ⟨b1, (cell_setRow_other _ _ _ _ (by omega)).trans ((hlow.cell ha).trans b2)⟩
 · exact hown.kept fun g _ _ hB _ => setRow_other _ _ _ _ (by omega)
 · rcases List.mem_append.1 hx with hx | hx
   · obtain ⟨a1, a2, a3, a4, a5⟩ := h1.vals x hx
     exact ⟨a1, by omega, a3, a4, (a5.grow hg hat).set (show q < s0 by omega)⟩
   · rw [List.mem_singleton.1 hx]
     exact ⟨hj, by show j < j + 1; omega, hjw, hwx, (((hnx.tox hol hlo).below hba).grow hg hat).set (show q < s0 by omega)⟩
 · rw [List.pairwise_append]
   refine ⟨h.pw, by simp, fun x hx y hy => ?_⟩
   rw [List.mem_singleton.1 hy]
   exact (h.vals x hx).2.1
 · have := h.len
   simp only [List.length_append, List.length_cons, List.length_nil]
   omega
/-- The loop is over. -/
theorem MdI.done (h : MdI q lv ls at_ p M s0 j A c l w W) (hl : l.length ≤ 1000) : MdS q lv ls at_ (withI p A c l) false w W := by
 have h1 := h.q0
 have hrow : RowOf W.heap.size (lowm (q + 1) W) ⟨A, c⟩ 7 InitV.cells l := by
   obtain ⟨sp, e, hr, hb⟩ := h.own.row (fun _ => rfl) (by omega)
   have : sp = ⟨A, c⟩ := by
     unfold Sp.val at e
     injection e with e1 e2 e3
     rw [e1, e3]
   subst this
   exact hr.low' fun a ha => by have := (hb a ha).1; omega
 have hx : ∀ x ∈ l, RdI' W.heap.size (lowm (q + 1) W) x := fun x hx => by
   obtain ⟨a1, a2, a3, a4, a5⟩ := h.vals x hx
   exact ⟨a3, (a5.newX.less h1 : NewX (q + 1) W x.value)⟩
 exact ⟨h.mkr0, h.eq, { (h.rd.more h.sW) with irow := hrow, inits := hx }, h.low, h.res⟩
end
end Go.Proofs.YthcboallnbaimaaGreatDoor
namespace Go.Proofs.YthcboallnbaimaaGreatDoor
open Go Go.RowKit Go.Maps
theorem RowOf.take {α : Type} {n k : Nat} {W : World} {sp : Sp} {enc : α → List Value} {l : List α} (h : RowOf n W sp k enc l) (m : Nat) : RowOf n W sp k enc (l.take m) := by
 have hl : (l.take m).length ≤ l.length := List.length_take_le' _ _
 refine ⟨Nat.le_trans hl h.cap, h.big, Nat.le_trans hl h.few, fun h0 => ?_⟩
 obtain ⟨b, off, e, hlt, hc⟩ := h.row (by omega)
 exact ⟨b, off, e, hlt, fun j hj r u hu => hc j (by omega) r u (by rw [← hu, List.getElem_take])⟩
theorem wf_j {j : Nat} {b : Int} (h : (j : Int) < b) (hb : b ≤ 3) (_ : (0 : Int) ≤ (j : Int)) : (Lit.int .i64 (j : Int)).wf = true := by
 have hj : j = 0 ∨ j = 1 ∨ j = 2 := by omega
 rcases hj with rfl | rfl | rfl <;> decide
theorem made_fin {q : Nat} {lv : Sp} {ls : List Int} {at_ : Nat} {p : ProgV} {prm : Bool} {w W : World} (h : MdS q lv ls at_ p prm w W) : W.heap[w.heap.size]? = some (.cells zeroP.arr 39 (0, 0)) ∧ (W.setRow w.heap.size p.arr).heap[w.heap.size]? = some (.cells p.arr 39 (0, 0)) ∧ NewP w.heap.size (W.setRow w.heap.size p.arr) p ∧ Below w.heap.size w (W.setRow w.heap.size p.arr) := by
 have he := h.eq
 exact ⟨h.res, setRow_heap _ _ _ _ _ _ h.res, (h.rd.set (by omega)).less (by omega), below_setRow h.low (Nat.le_refl _) _⟩
theorem made_range {q : Nat} {lv : Sp} {ls : List Int} {at_ : Nat} {p : ProgV} {prm : Bool} {w W : World} (h : MdS q lv ls at_ p prm w W) : W.rangeAt q 2 p.arr.toList := by
 intro j v hv
 refine h.mkr0.cell (2 + j) ?_
 have hv2 : p.cells[j]? = some v := by simpa [ProgV.arr] using hv
 have hlt := (List.getElem?_eq_some_iff.1 hv2).1
 rw [Nat.add_comm]
 show (p.cells ++ [Value.bool prm])[j]? = some v
 rw [List.getElem?_append_left hlt, hv2]
theorem arr_sizeL (p : ProgV) : (Tryz.prog.info? 39).map (·.size) = some p.arr.toList.length := by rw [Array.length_toList]; exact arr_size p
theorem mk_arr (lv : Sp) (L at_ : Nat) : (mkCells lv L at_ zeroP false).toArray = #[.slice lv.at_ L lv.cap, .int .i64 at_, .int .i64 0, .int .i64 0, .slice none 0 0, .slice none 0 0, .slice none 0 0, .slice none 0 0, .int .u8 0, .int .u8 0, .int .u32 0, .int .i64 0, .string ⟨#[]⟩, .slice none 0 0, .slice none 0 0, .slice none 0 0, .slice none 0 0, .slice none 0 0, .int .u8 0, .int .u8 0, .int .u32 0, .int .i64 0, .string ⟨#[]⟩, .slice none 0 0, .bool false] := rfl
theorem zero_rd (n : Nat) (W : World) : RdP n W zeroP := by
 have hd : RdDs n W Sp.none [] := ⟨RowOf.nil, fun _ h => absurd h (by simp)⟩
 have ht : RdTs n W Sp.none [] := ⟨RowOf.nil, fun _ h => absurd h (by simp)⟩
 have hx : RdX n W zeroE := .mk _ (show (0 : Int) ≤ 0 ∧ (0 : Int) ≤ 255 by decide) (show (0 : Int) ≤ 0 ∧ (0 : Int) ≤ 255 by decide) (show (0 : Int) ≤ 0 ∧ (0 : Int) ≤ 4294967295 by decide) (show (Lit.int .i64 0).wf = true by decide) (show (0 : Nat) ≤ maxLen by decide) RowOf.nil (fun _ h => absurd h (by simp [zeroE, ExprV.subs]))
 exact ⟨show (Lit.int .i64 0).wf = true by decide, show (Lit.int .i64 0).wf = true by decide, hd, hd, hd, hd, hx, RowOf.nil, fun _ h => absurd h (by simp [zeroP]), RowOf.nil, fun _ h => absurd h (by simp [zeroP]), ht, ht, hx⟩
/-- The maker just made. -/
theorem mds_start (w : World) (lv : Sp) (ls : List Int) (hr : RowOf w.heap.size w lv 1 encU ls) (hl : ls.length ≤ 200) (hb : ∀ x ∈ ls, 0 ≤ x ∧ x ≤ 255) : MdS (w.heap.size + 1) lv ls 0 zeroP false w ((w.alloc (.cells zeroP.arr 39)).alloc (.cells (mkCells lv ls.length 0 zeroP false).toArray 114)) := by
 obtain ⟨h1, h2, h3, h4⟩ := alloc2 w (.cells zeroP.arr 39) (.cells (mkCells lv ls.length 0 zeroP false).toArray 114)
 have hm : Below w.heap.size w (mask (w.heap.size + 1) ((w.alloc (.cells zeroP.arr 39)).alloc (.cells (mkCells lv ls.length 0 zeroP false).toArray 114))) := h4.trans (mask_below_q.mono (by omega))
 exact ⟨⟨h2, Nat.zero_le _, hl, (hr.below hm).more (by omega), hb, Nat.lt_succ_self _, by omega⟩, rfl, zero_rd _ _, h4, h1⟩
set_option maxRecDepth 1000000 in
set_option maxHeartbeats 8000000 in
theorem made_any (w : World) (lv : Sp) (len : Nat) (ls : List Int) (hlen : ls.length = min len 200) (hmax : len ≤ maxLen) (hcap : len ≤ lv.cap) (hcm : lv.cap ≤ maxLen) (hr : RowOf w.heap.size w lv 1 encU ls) (hb : ∀ x ∈ ls, 0 ≤ x ∧ x ≤ 255) :
   Calls Tryz.prog 21 #[.slice lv.at_ len lv.cap] w fun o w' => ∃ (p : ProgV) (M : MkE) (hasP : Bool), o = .returned (.agg p.arr) ∧ IsMade M hasP p ∧ M.N = std ∧ NewP w.heap.size w' p ∧ Below w.heap.size w w' := by
 have hS := mds_start w lv ls hr (by omega) hb
 have HS := Lib.hid hS
 have HLEN := Lib.hid hlen
 unfold maxLen at hmax hcm
 clear hr hb hS hlen
 go_enter Tryz.func21, Tryz.ntmps21
 go_upto_region 1 with (first | (refine wpList_allocRow (t := 39) rfl rfl (run_zeroP _) ?_) | fail)
 simp only [Act.put, List.setIfInBounds_toArray, List.set_cons_zero, List.set_cons_succ]
 go_cut [3] (fun s3 wx => s3 = .pointer (some ⟨w.heap.size + 1, 0, none⟩) ∧ MdS (w.heap.size + 1) lv ls 0 zeroP false w wx)
 case first =>
   by_cases h2 : len ≤ 200
   · have hm : min (len : Int) 200 = len := by omega
     have HL : Hid (ls.length = len) := Lib.hid (by rw [HLEN.out]; omega)
     clear HLEN
     go_wp2_with fail
     go_meet
     case rel => exact ⟨rfl, by have h := HS.out; rw [HL.out] at h; exact h⟩
   · have hm : min (len : Int) 200 = 200 := by omega
     have HL : Hid (ls.length = 200) := Lib.hid (by rw [HLEN.out]; omega)
     clear HLEN
     go_wp2_with fail
     go_meet
     case rel => exact ⟨rfl, by have h := HS.out; rw [HL.out] at h; exact h⟩
 case rest =>
   obtain ⟨rfl, hms⟩ := hcut
   have HM0 := Lib.hid hms
   clear hms HS HLEN
   have hqw : w.heap.size < w.heap.size + 1 := Nat.lt_succ_self _
   generalize w.heap.size + 1 = q at *
   go_wp2_with fail
   refine (next_any q _ lv ls _ _ _ _ HM0.out.full 3 (by decide) (by decide)).mono ?_
   rintro o W1 ⟨k1, a1, rfl, lo1, hi1, hm, hb⟩
   have HM1 := Lib.hid (HM0.out.next hm hb)
   clear hm hb HM0
   go_wp2_with fail
   refine (next_any q _ lv ls _ _ _ _ HM1.out.full 3 (by decide) (by decide)).mono ?_
   rintro o W2 ⟨k2, a2, rfl, lo2, hi2, hm, hb⟩
   have HM2 := Lib.hid (HM1.out.next hm hb)
   clear hm hb HM1
   have c2 : W2.cell? ⟨q, 2, none⟩ = some (.int .i64 0) := HM2.out.mkr0.cell 2 rfl
   have c3 : W2.cell? ⟨q, 3, none⟩ = some (.int .i64 0) := HM2.out.mkr0.cell 3 rfl
   have f2 : W2.frozen? ⟨q, 2, none⟩ = false := HM2.out.mkr0.frozen 2
   have f3 : W2.frozen? ⟨q, 3, none⟩ = false := HM2.out.mkr0.frozen 3
   go_upto_region 3 with fail
   have hwf1 : (Lit.int .i64 (1 + k1)).wf = true := wf_small ⟨by omega, by omega⟩
   have hwf2 : (Lit.int .i64 (1 + k2)).wf = true := wf_small ⟨by omega, by omega⟩
   have HM3 := Lib.hid ((HM2.out.put (⟨(1 + k1), 0, Sp.none, [], Sp.none, [], Sp.none, [], Sp.none, [], zeroE, Sp.none, [], Sp.none, [], Sp.none, [], Sp.none, [], zeroE⟩ : ProgV) false (i := 2) (v := .int .i64 (1 + k1)) rfl { HM2.out.rd with blocks := hwf1 }).put (⟨(1 + k1), (1 + k2), Sp.none, [], Sp.none, [], Sp.none, [], Sp.none, [], zeroE, Sp.none, [], Sp.none, [], Sp.none, [], Sp.none, [], zeroE⟩ : ProgV) false (i := 3) (v := .int .i64 (1 + k2)) rfl ({ zero_rd _ _ with blocks := hwf1, width := hwf2 } : RdP _ _ (⟨(1 + k1), (1 + k2), Sp.none, [], Sp.none, [], Sp.none, [], Sp.none, [], zeroE, Sp.none, [], Sp.none, [], Sp.none, [], Sp.none, [], zeroE⟩ : ProgV)))
   generalize (W2.setCell ⟨q, 2, none⟩ (.int .i64 (1 + k1))).setCell ⟨q, 3, none⟩ (.int .i64 (1 + k2)) = W3 at *
   clear c2 c3 f2 f3 HM2
   have c3 : W3.cell? ⟨q, 3, none⟩ = some (.int .i64 (1 + k2)) := HM3.out.mkr0.cell 3 rfl
   go_upto_region 4 with fail
   clear c3
   have hb0 : Below W3.heap.size W3 (W3.alloc (.cells #[.string ⟨#[105]⟩, .int .i64 (1 + k2), .int .i64 0, .string ⟨#[106]⟩, .int .i64 1, .int .i64 0] 44)) := (Below.refl _ _).alloc (Nat.le_refl _) _
   have hb := below_mask HM3.out.lt hb0
   have HM4 := Lib.hid (HM3.out.on hb0)
   have HI_4 := Lib.hid ((row_list (k := 3) (enc := DeclV.cells) (l := [⟨⟨#[105]⟩, (1 + k2), 0⟩, ⟨⟨#[106]⟩, 1, 0⟩]) (t := 44) (fr := (0, 0)) (fun _ => rfl) rfl (by simp) (World.alloc_heap_new W3 (.cells #[.string ⟨#[105]⟩, .int .i64 (1 + k2), .int .i64 0, .string ⟨#[106]⟩, .int .i64 1, .int .i64 0] 44))).low (lo := q + 1) HM3.out.lt)
   clear hb hb0 HM3
   go_wp2_with fail
   generalize (W3.alloc (.cells #[.string ⟨#[105]⟩, .int .i64 (1 + k2), .int .i64 0, .string ⟨#[106]⟩, .int .i64 1, .int .i64 0] 44)) = W4 at *
   refine (next_any q _ lv ls _ _ _ _ HM4.out.full 3 (by decide) (by decide)).mono ?_
   rintro o W5 ⟨ki, a5, rfl, li0, li1, hm, hb⟩
   have HM5 := Lib.hid (HM4.out.next hm hb)
   have HI_5 := Lib.hid ((HI_4.out.cells (keeps_mask hb (Nat.lt_succ_self _))).more (size_mask hb))
   clear hm hb HM4 HI_4
   obtain ⟨kin, rfl⟩ := Int.eq_ofNat_of_zero_le li0
   obtain ⟨ins, hins, rfl⟩ : ∃ ins : List DeclV, ins = ([⟨⟨#[105]⟩, (1 + k2), 0⟩, ⟨⟨#[106]⟩, 1, 0⟩] : List DeclV).take kin ∧ kin = ins.length := ⟨_, rfl, by simp; omega⟩
   have HINS := Lib.hid hins
   have hil : ins.length ≤ 2 := by omega
   clear hins li0 li1
   have HID : Hid (RdDs W5.heap.size (lowm (q + 1) W5) ⟨some ⟨W3.heap.size, 0, none⟩, 2⟩ ins) := Lib.hid ⟨by rw [HINS.out]; exact HI_5.out.take _, fun d hd => by
     rw [HINS.out] at hd
     have hd2 := List.mem_of_mem_take hd
     simp only [List.mem_cons, List.not_mem_nil, or_false] at hd2
     rcases hd2 with rfl | rfl
     · exact ⟨(by decide : (⟨#[105]⟩ : ByteArray).size ≤ maxLen), hwf2, (by decide : (Lit.int .i64 0).wf = true)⟩
     · exact ⟨(by decide : (⟨#[106]⟩ : ByteArray).size ≤ maxLen), (by decide : (Lit.int .i64 1).wf = true), (by decide : (Lit.int .i64 0).wf = true)⟩⟩
   clear HI_5
   have c4 : W5.cell? ⟨q, 4, none⟩ = some (.slice none 0 0) := HM5.out.mkr0.cell 4 rfl
   have f4 : W5.frozen? ⟨q, 4, none⟩ = false := HM5.out.mkr0.frozen 4
   go_upto_region 5 with fail
   have HM6 := Lib.hid (HM5.out.put (⟨(1 + k1), (1 + k2), ⟨some ⟨W3.heap.size, 0, none⟩, 2⟩, ins, Sp.none, [], Sp.none, [], Sp.none, [], zeroE, Sp.none, [], Sp.none, [], Sp.none, [], Sp.none, [], zeroE⟩ : ProgV) false (i := 4) (v := .slice (some ⟨W3.heap.size, 0, none⟩) ins.length 2) rfl ({ HM5.out.rd with inputs := HID.out } : RdP _ _ (⟨(1 + k1), (1 + k2), ⟨some ⟨W3.heap.size, 0, none⟩, 2⟩, ins, Sp.none, [], Sp.none, [], Sp.none, [], zeroE, Sp.none, [], Sp.none, [], Sp.none, [], Sp.none, [], zeroE⟩ : ProgV)))
   generalize W5.setCell ⟨q, 4, none⟩ (.slice (some ⟨W3.heap.size, 0, none⟩) ins.length 2) = W6 at *
   clear c4 f4 HM5 HID
   have hb0 : Below W6.heap.size W6 (W6.alloc (.cells #[.string ⟨#[103]⟩, .int .i64 (1 + k2), .int .i64 0, .string ⟨#[104]⟩, .int .i64 1, .int .i64 0] 44)) := (Below.refl _ _).alloc (Nat.le_refl _) _
   have hb := below_mask HM6.out.lt hb0
   have HM7 := Lib.hid (HM6.out.on hb0)
   have HG_7 := Lib.hid ((row_list (k := 3) (enc := DeclV.cells) (l := [⟨⟨#[103]⟩, (1 + k2), 0⟩, ⟨⟨#[104]⟩, 1, 0⟩]) (t := 44) (fr := (0, 0)) (fun _ => rfl) rfl (by simp) (World.alloc_heap_new W6 (.cells #[.string ⟨#[103]⟩, .int .i64 (1 + k2), .int .i64 0, .string ⟨#[104]⟩, .int .i64 1, .int .i64 0] 44))).low (lo := q + 1) HM6.out.lt)
   clear hb hb0 HM6
   have c5 : (W6.alloc (.cells #[.string ⟨#[103]⟩, .int .i64 (1 + k2), .int .i64 0, .string ⟨#[104]⟩, .int .i64 1, .int .i64 0] 44)).cell? ⟨q, 5, none⟩ = some (.slice none 0 0) := HM7.out.mkr0.cell 5 rfl
   have f5 : (W6.alloc (.cells #[.string ⟨#[103]⟩, .int .i64 (1 + k2), .int .i64 0, .string ⟨#[104]⟩, .int .i64 1, .int .i64 0] 44)).frozen? ⟨q, 5, none⟩ = false := HM7.out.mkr0.frozen 5
   have hG : RdDs (W6.alloc (.cells #[.string ⟨#[103]⟩, .int .i64 (1 + k2), .int .i64 0, .string ⟨#[104]⟩, .int .i64 1, .int .i64 0] 44)).heap.size (lowm (q + 1) (W6.alloc (.cells #[.string ⟨#[103]⟩, .int .i64 (1 + k2), .int .i64 0, .string ⟨#[104]⟩, .int .i64 1, .int .i64 0] 44))) ⟨some ⟨W6.heap.size, 0, none⟩, 2⟩ [⟨⟨#[103]⟩, (1 + k2), 0⟩, ⟨⟨#[104]⟩, 1, 0⟩] := ⟨HG_7.out, fun d hd => by
     simp only [List.mem_cons, List.not_mem_nil, or_false] at hd
     rcases hd with rfl | rfl
     · exact ⟨(by decide : (⟨#[103]⟩ : ByteArray).size ≤ maxLen), hwf2, (by decide : (Lit.int .i64 0).wf = true)⟩
     · exact ⟨(by decide : (⟨#[104]⟩ : ByteArray).size ≤ maxLen), (by decide : (Lit.int .i64 1).wf = true), (by decide : (Lit.int .i64 0).wf = true)⟩⟩
   have HGD := Lib.hid hG
   clear hG HG_7
   go_upto_region 6 with fail
   have HM8 := Lib.hid (HM7.out.put (⟨(1 + k1), (1 + k2), ⟨some ⟨W3.heap.size, 0, none⟩, 2⟩, ins, ⟨some ⟨W6.heap.size, 0, none⟩, 2⟩, [⟨⟨#[103]⟩, (1 + k2), 0⟩, ⟨⟨#[104]⟩, 1, 0⟩], Sp.none, [], Sp.none, [], zeroE, Sp.none, [], Sp.none, [], Sp.none, [], Sp.none, [], zeroE⟩ : ProgV) false (i := 5) (v := .slice (some ⟨W6.heap.size, 0, none⟩) 2 2) rfl ({ HM7.out.rd with ghosts := HGD.out } : RdP _ _ (⟨(1 + k1), (1 + k2), ⟨some ⟨W3.heap.size, 0, none⟩, 2⟩, ins, ⟨some ⟨W6.heap.size, 0, none⟩, 2⟩, [⟨⟨#[103]⟩, (1 + k2), 0⟩, ⟨⟨#[104]⟩, 1, 0⟩], Sp.none, [], Sp.none, [], zeroE, Sp.none, [], Sp.none, [], Sp.none, [], Sp.none, [], zeroE⟩ : ProgV)))
   generalize (W6.alloc (.cells #[.string ⟨#[103]⟩, .int .i64 (1 + k2), .int .i64 0, .string ⟨#[104]⟩, .int .i64 1, .int .i64 0] 44)).setCell ⟨q, 5, none⟩ (.slice (some ⟨W6.heap.size, 0, none⟩) 2 2) = W8 at *
   clear c5 f5 HM7 HGD
   have hb0 : Below W8.heap.size W8 (W8.alloc (.cells #[.string ⟨#[118]⟩, .int .i64 (1 + k2), .int .i64 0, .string ⟨#[99]⟩, .int .i64 2, .int .i64 0] 44)) := (Below.refl _ _).alloc (Nat.le_refl _) _
   have hb := below_mask HM8.out.lt hb0
   have HM9 := Lib.hid (HM8.out.on hb0)
   have HG_9 := Lib.hid ((row_list (k := 3) (enc := DeclV.cells) (l := [⟨⟨#[118]⟩, (1 + k2), 0⟩, ⟨⟨#[99]⟩, 2, 0⟩]) (t := 44) (fr := (0, 0)) (fun _ => rfl) rfl (by simp) (World.alloc_heap_new W8 (.cells #[.string ⟨#[118]⟩, .int .i64 (1 + k2), .int .i64 0, .string ⟨#[99]⟩, .int .i64 2, .int .i64 0] 44))).low (lo := q + 1) HM8.out.lt)
   clear hb hb0 HM8
   have c6 : (W8.alloc (.cells #[.string ⟨#[118]⟩, .int .i64 (1 + k2), .int .i64 0, .string ⟨#[99]⟩, .int .i64 2, .int .i64 0] 44)).cell? ⟨q, 6, none⟩ = some (.slice none 0 0) := HM9.out.mkr0.cell 6 rfl
   have f6 : (W8.alloc (.cells #[.string ⟨#[118]⟩, .int .i64 (1 + k2), .int .i64 0, .string ⟨#[99]⟩, .int .i64 2, .int .i64 0] 44)).frozen? ⟨q, 6, none⟩ = false := HM9.out.mkr0.frozen 6
   have hG : RdDs (W8.alloc (.cells #[.string ⟨#[118]⟩, .int .i64 (1 + k2), .int .i64 0, .string ⟨#[99]⟩, .int .i64 2, .int .i64 0] 44)).heap.size (lowm (q + 1) (W8.alloc (.cells #[.string ⟨#[118]⟩, .int .i64 (1 + k2), .int .i64 0, .string ⟨#[99]⟩, .int .i64 2, .int .i64 0] 44))) ⟨some ⟨W8.heap.size, 0, none⟩, 2⟩ [⟨⟨#[118]⟩, (1 + k2), 0⟩, ⟨⟨#[99]⟩, 2, 0⟩] := ⟨HG_9.out, fun d hd => by
     simp only [List.mem_cons, List.not_mem_nil, or_false] at hd
     rcases hd with rfl | rfl
     · exact ⟨(by decide : (⟨#[118]⟩ : ByteArray).size ≤ maxLen), hwf2, (by decide : (Lit.int .i64 0).wf = true)⟩
     · exact ⟨(by decide : (⟨#[99]⟩ : ByteArray).size ≤ maxLen), (by decide : (Lit.int .i64 2).wf = true), (by decide : (Lit.int .i64 0).wf = true)⟩⟩
   have HGD := Lib.hid hG
   clear hG HG_9
   go_upto_region 7 with fail
   have HM10 := Lib.hid (HM9.out.put (⟨(1 + k1), (1 + k2), ⟨some ⟨W3.heap.size, 0, none⟩, 2⟩, ins, ⟨some ⟨W6.heap.size, 0, none⟩, 2⟩, [⟨⟨#[103]⟩, (1 + k2), 0⟩, ⟨⟨#[104]⟩, 1, 0⟩], ⟨some ⟨W8.heap.size, 0, none⟩, 2⟩, [⟨⟨#[118]⟩, (1 + k2), 0⟩, ⟨⟨#[99]⟩, 2, 0⟩], Sp.none, [], zeroE, Sp.none, [], Sp.none, [], Sp.none, [], Sp.none, [], zeroE⟩ : ProgV) false (i := 6) (v := .slice (some ⟨W8.heap.size, 0, none⟩) 2 2) rfl ({ HM9.out.rd with vars := HGD.out } : RdP _ _ (⟨(1 + k1), (1 + k2), ⟨some ⟨W3.heap.size, 0, none⟩, 2⟩, ins, ⟨some ⟨W6.heap.size, 0, none⟩, 2⟩, [⟨⟨#[103]⟩, (1 + k2), 0⟩, ⟨⟨#[104]⟩, 1, 0⟩], ⟨some ⟨W8.heap.size, 0, none⟩, 2⟩, [⟨⟨#[118]⟩, (1 + k2), 0⟩, ⟨⟨#[99]⟩, 2, 0⟩], Sp.none, [], zeroE, Sp.none, [], Sp.none, [], Sp.none, [], Sp.none, [], zeroE⟩ : ProgV)))
   generalize (W8.alloc (.cells #[.string ⟨#[118]⟩, .int .i64 (1 + k2), .int .i64 0, .string ⟨#[99]⟩, .int .i64 2, .int .i64 0] 44)).setCell ⟨q, 6, none⟩ (.slice (some ⟨W8.heap.size, 0, none⟩) 2 2) = W10 at *
   clear c6 f6 HM9 HGD
   go_wp2_with fail
   refine (next_any q _ lv ls _ _ _ _ HM10.out.full 2 (by decide) (by decide)).mono ?_
   rintro o W11 ⟨k11, a11, rfl, lo11, hi11, hm, hb⟩
   have HM11 := Lib.hid (HM10.out.next hm hb)
   clear hm hb HM10
   have hwf3 : (Lit.int .i64 (2 + k11)).wf = true := wf_small ⟨by omega, by omega⟩
   have hb0 : Below W11.heap.size W11 (W11.alloc (.cells #[.string ⟨#[97]⟩, .int .i64 (1 + k2), .int .i64 (2 + k11)] 44)) := (Below.refl _ _).alloc (Nat.le_refl _) _
   have hb := below_mask HM11.out.lt hb0
   have HM12 := Lib.hid (HM11.out.on hb0)
   have HG_12 := Lib.hid ((row_list (k := 3) (enc := DeclV.cells) (l := [⟨⟨#[97]⟩, (1 + k2), 2 + k11⟩]) (t := 44) (fr := (0, 0)) (fun _ => rfl) rfl (by simp) (World.alloc_heap_new W11 (.cells #[.string ⟨#[97]⟩, .int .i64 (1 + k2), .int .i64 (2 + k11)] 44))).low (lo := q + 1) HM11.out.lt)
   clear hb hb0 HM11
   have c7 : (W11.alloc (.cells #[.string ⟨#[97]⟩, .int .i64 (1 + k2), .int .i64 (2 + k11)] 44)).cell? ⟨q, 7, none⟩ = some (.slice none 0 0) := HM12.out.mkr0.cell 7 rfl
   have f7 : (W11.alloc (.cells #[.string ⟨#[97]⟩, .int .i64 (1 + k2), .int .i64 (2 + k11)] 44)).frozen? ⟨q, 7, none⟩ = false := HM12.out.mkr0.frozen 7
   have hG : RdDs (W11.alloc (.cells #[.string ⟨#[97]⟩, .int .i64 (1 + k2), .int .i64 (2 + k11)] 44)).heap.size (lowm (q + 1) (W11.alloc (.cells #[.string ⟨#[97]⟩, .int .i64 (1 + k2), .int .i64 (2 + k11)] 44))) ⟨some ⟨W11.heap.size, 0, none⟩, 1⟩ [⟨⟨#[97]⟩, (1 + k2), 2 + k11⟩] := ⟨HG_12.out, fun d hd => by
     rw [List.mem_singleton.1 hd]
     exact ⟨(by decide : (⟨#[97]⟩ : ByteArray).size ≤ maxLen), hwf2, hwf3⟩⟩
   have HGD := Lib.hid hG
   clear hG HG_12
   go_upto_region 8 with fail
   have HM13 := Lib.hid (HM12.out.put (⟨(1 + k1), (1 + k2), ⟨some ⟨W3.heap.size, 0, none⟩, 2⟩, ins, ⟨some ⟨W6.heap.size, 0, none⟩, 2⟩, [⟨⟨#[103]⟩, (1 + k2), 0⟩, ⟨⟨#[104]⟩, 1, 0⟩], ⟨some ⟨W8.heap.size, 0, none⟩, 2⟩, [⟨⟨#[118]⟩, (1 + k2), 0⟩, ⟨⟨#[99]⟩, 2, 0⟩], ⟨some ⟨W11.heap.size, 0, none⟩, 1⟩, [⟨⟨#[97]⟩, (1 + k2), 2 + k11⟩], zeroE, Sp.none, [], Sp.none, [], Sp.none, [], Sp.none, [], zeroE⟩ : ProgV) false (i := 7) (v := .slice (some ⟨W11.heap.size, 0, none⟩) 1 1) rfl ({ HM12.out.rd with arrays := HGD.out } : RdP _ _ (⟨(1 + k1), (1 + k2), ⟨some ⟨W3.heap.size, 0, none⟩, 2⟩, ins, ⟨some ⟨W6.heap.size, 0, none⟩, 2⟩, [⟨⟨#[103]⟩, (1 + k2), 0⟩, ⟨⟨#[104]⟩, 1, 0⟩], ⟨some ⟨W8.heap.size, 0, none⟩, 2⟩, [⟨⟨#[118]⟩, (1 + k2), 0⟩, ⟨⟨#[99]⟩, 2, 0⟩], ⟨some ⟨W11.heap.size, 0, none⟩, 1⟩, [⟨⟨#[97]⟩, (1 + k2), 2 + k11⟩], zeroE, Sp.none, [], Sp.none, [], Sp.none, [], Sp.none, [], zeroE⟩ : ProgV)))
   generalize (W11.alloc (.cells #[.string ⟨#[97]⟩, .int .i64 (1 + k2), .int .i64 (2 + k11)] 44)).setCell ⟨q, 7, none⟩ (.slice (some ⟨W11.heap.size, 0, none⟩) 1 1) = W13 at *
   clear c7 f7 HM12 HGD
   go_wp2_with fail
   refine (num29_any _ _ _).mono ?_
   rintro o W14 ⟨rfl, hb0⟩
   have HM14 := Lib.hid (HM13.out.on hb0)
   clear hb0 HM13
   have c8 : W14.cell? ⟨q, 8, none⟩ = some (.int .u8 0) := HM14.out.mkr0.cell 8 rfl
   have f8 : W14.frozen? ⟨q, 8, none⟩ = false := HM14.out.mkr0.frozen 8
   have c9 : W14.cell? ⟨q, 9, none⟩ = some (.int .u8 0) := HM14.out.mkr0.cell 9 rfl
   have f9 : W14.frozen? ⟨q, 9, none⟩ = false := HM14.out.mkr0.frozen 9
   have c10 : W14.cell? ⟨q, 10, none⟩ = some (.int .u32 0) := HM14.out.mkr0.cell 10 rfl
   have f10 : W14.frozen? ⟨q, 10, none⟩ = false := HM14.out.mkr0.frozen 10
   have c11 : W14.cell? ⟨q, 11, none⟩ = some (.int .i64 0) := HM14.out.mkr0.cell 11 rfl
   have f11 : W14.frozen? ⟨q, 11, none⟩ = false := HM14.out.mkr0.frozen 11
   have c12 : W14.cell? ⟨q, 12, none⟩ = some (.string ⟨#[]⟩) := HM14.out.mkr0.cell 12 rfl
   have f12 : W14.frozen? ⟨q, 12, none⟩ = false := HM14.out.mkr0.frozen 12
   have c13 : W14.cell? ⟨q, 13, none⟩ = some (.slice none 0 0) := HM14.out.mkr0.cell 13 rfl
   have f13 : W14.frozen? ⟨q, 13, none⟩ = false := HM14.out.mkr0.frozen 13
   go_upto_region 9 with fail
   have HM15 : Hid (MdS q lv ls _ (⟨(1 + k1), (1 + k2), ⟨some ⟨W3.heap.size, 0, none⟩, 2⟩, ins, ⟨some ⟨W6.heap.size, 0, none⟩, 2⟩, [⟨⟨#[103]⟩, (1 + k2), 0⟩, ⟨⟨#[104]⟩, 1, 0⟩], ⟨some ⟨W8.heap.size, 0, none⟩, 2⟩, [⟨⟨#[118]⟩, (1 + k2), 0⟩, ⟨⟨#[99]⟩, 2, 0⟩], ⟨some ⟨W11.heap.size, 0, none⟩, 1⟩, [⟨⟨#[97]⟩, (1 + k2), 2 + k11⟩], (numE 1 1), Sp.none, [], Sp.none, [], Sp.none, [], Sp.none, [], zeroE⟩ : ProgV) false w ((((((W14.setCell ⟨q, 8, none⟩ (.int .u8 1)).setCell ⟨q, 9, none⟩ (.int .u8 0)).setCell ⟨q, 10, none⟩ (.int .u32 1)).setCell ⟨q, 11, none⟩ (.int .i64 1)).setCell ⟨q, 12, none⟩ (.string ⟨#[]⟩)).setCell ⟨q, 13, none⟩ (.slice none 0 0))) := Lib.hid (by rw [six_setq (i := 8) HM14.out.mkr0.box]; exact HM14.out.row (⟨(1 + k1), (1 + k2), ⟨some ⟨W3.heap.size, 0, none⟩, 2⟩, ins, ⟨some ⟨W6.heap.size, 0, none⟩, 2⟩, [⟨⟨#[103]⟩, (1 + k2), 0⟩, ⟨⟨#[104]⟩, 1, 0⟩], ⟨some ⟨W8.heap.size, 0, none⟩, 2⟩, [⟨⟨#[118]⟩, (1 + k2), 0⟩, ⟨⟨#[99]⟩, 2, 0⟩], ⟨some ⟨W11.heap.size, 0, none⟩, 1⟩, [⟨⟨#[97]⟩, (1 + k2), 2 + k11⟩], (numE 1 1), Sp.none, [], Sp.none, [], Sp.none, [], Sp.none, [], zeroE⟩ : ProgV) false rfl ({ HM14.out.rd with require := (num_rd _ 1 1 (by decide) (by decide)).more (Nat.zero_le _) } : RdP _ _ (⟨(1 + k1), (1 + k2), ⟨some ⟨W3.heap.size, 0, none⟩, 2⟩, ins, ⟨some ⟨W6.heap.size, 0, none⟩, 2⟩, [⟨⟨#[103]⟩, (1 + k2), 0⟩, ⟨⟨#[104]⟩, 1, 0⟩], ⟨some ⟨W8.heap.size, 0, none⟩, 2⟩, [⟨⟨#[118]⟩, (1 + k2), 0⟩, ⟨⟨#[99]⟩, 2, 0⟩], ⟨some ⟨W11.heap.size, 0, none⟩, 1⟩, [⟨⟨#[97]⟩, (1 + k2), 2 + k11⟩], (numE 1 1), Sp.none, [], Sp.none, [], Sp.none, [], Sp.none, [], zeroE⟩ : ProgV)))
   generalize ((((((W14.setCell ⟨q, 8, none⟩ (.int .u8 1)).setCell ⟨q, 9, none⟩ (.int .u8 0)).setCell ⟨q, 10, none⟩ (.int .u32 1)).setCell ⟨q, 11, none⟩ (.int .i64 1)).setCell ⟨q, 12, none⟩ (.string ⟨#[]⟩)).setCell ⟨q, 13, none⟩ (.slice none 0 0)) = W15 at *
   clear c8 c9 c10 c11 c12 c13 f8 f9 f10 f11 f12 f13 HM14
   have HOK : Hid (MkE.ok (⟨std, (1 + k2), ins.length, false⟩ : MkE)) := Lib.hid ⟨by show 1 ≤ (1 + k2); omega, by show (1 + k2) ≤ 3; omega, hil⟩
   have HIE : Hid (ins = inputsD (⟨std, (1 + k2), ins.length, false⟩ : MkE)) := Lib.hid HINS.out
   go_wp2_with fail
   refine (next_any q _ lv ls _ _ _ _ HM15.out.full 3 (by decide) (by decide)).mono ?_
   rintro o W16 ⟨k16, a16, rfl, lo16, hi16, hm, hb⟩
   have HM16 := Lib.hid (HM15.out.next hm hb)
   clear hm hb HM15
   go_upto_if 76 with fail
   go_cut [77] (fun _ wx => ∃ (rq : ExprV) (aq : Nat), MdS q lv ls aq (⟨(1 + k1), (1 + k2), ⟨some ⟨W3.heap.size, 0, none⟩, 2⟩, ins, ⟨some ⟨W6.heap.size, 0, none⟩, 2⟩, [⟨⟨#[103]⟩, (1 + k2), 0⟩, ⟨⟨#[104]⟩, 1, 0⟩], ⟨some ⟨W8.heap.size, 0, none⟩, 2⟩, [⟨⟨#[118]⟩, (1 + k2), 0⟩, ⟨⟨#[99]⟩, 2, 0⟩], ⟨some ⟨W11.heap.size, 0, none⟩, 1⟩, [⟨⟨#[97]⟩, (1 + k2), 2 + k11⟩], rq, Sp.none, [], Sp.none, [], Sp.none, [], Sp.none, [], zeroE⟩ : ProgV) false w wx ∧ WX (⟨std, (1 + k2), ins.length, false⟩ : MkE) 1 2 1 rq)
   case first =>
     by_cases hk : k16 = 0
     · have hd : (k16 == 0) = true := by simp [hk]
       clear hk
       go_wp2_with fail
       refine (expr_ok 2 (by decide) q _ lv ls _ _ (⟨std, (1 + k2), ins.length, false⟩ : MkE) _ (HM16.out.mkr (M := (⟨std, (1 + k2), ins.length, false⟩ : MkE)) rfl HOK.out rfl rfl HIE.out rfl rfl) 1 1 ⟨by decide, by decide⟩).mono ?_
       rintro o W17 ⟨e, aq, rfl, hwx, hnx, hm, hb⟩
       have HM17 := Lib.hid (HM16.out.next hm hb)
       have HWX := Lib.hid hwx
       have HNX := Lib.hid (hnx.less HM16.out.lt)
       clear hwx hnx hm hb HM16
       have c8 : W17.cell? ⟨q, 8, none⟩ = some (.int .u8 1) := HM17.out.mkr0.cell 8 rfl
       have f8 : W17.frozen? ⟨q, 8, none⟩ = false := HM17.out.mkr0.frozen 8
       have c9 : W17.cell? ⟨q, 9, none⟩ = some (.int .u8 0) := HM17.out.mkr0.cell 9 rfl
       have f9 : W17.frozen? ⟨q, 9, none⟩ = false := HM17.out.mkr0.frozen 9
       have c10 : W17.cell? ⟨q, 10, none⟩ = some (.int .u32 1) := HM17.out.mkr0.cell 10 rfl
       have f10 : W17.frozen? ⟨q, 10, none⟩ = false := HM17.out.mkr0.frozen 10
       have c11 : W17.cell? ⟨q, 11, none⟩ = some (.int .i64 1) := HM17.out.mkr0.cell 11 rfl
       have f11 : W17.frozen? ⟨q, 11, none⟩ = false := HM17.out.mkr0.frozen 11
       have c12 : W17.cell? ⟨q, 12, none⟩ = some (.string ⟨#[]⟩) := HM17.out.mkr0.cell 12 rfl
       have f12 : W17.frozen? ⟨q, 12, none⟩ = false := HM17.out.mkr0.frozen 12
       have c13 : W17.cell? ⟨q, 13, none⟩ = some (.slice none 0 0) := HM17.out.mkr0.cell 13 rfl
       have f13 : W17.frozen? ⟨q, 13, none⟩ = false := HM17.out.mkr0.frozen 13
       go_wp2_with fail
       go_meet
       case rel => exact ⟨e, _, by rw [six_setq (i := 8) HM17.out.mkr0.box]; exact HM17.out.row (⟨(1 + k1), (1 + k2), ⟨some ⟨W3.heap.size, 0, none⟩, 2⟩, ins, ⟨some ⟨W6.heap.size, 0, none⟩, 2⟩, [⟨⟨#[103]⟩, (1 + k2), 0⟩, ⟨⟨#[104]⟩, 1, 0⟩], ⟨some ⟨W8.heap.size, 0, none⟩, 2⟩, [⟨⟨#[118]⟩, (1 + k2), 0⟩, ⟨⟨#[99]⟩, 2, 0⟩], ⟨some ⟨W11.heap.size, 0, none⟩, 1⟩, [⟨⟨#[97]⟩, (1 + k2), 2 + k11⟩], e, Sp.none, [], Sp.none, [], Sp.none, [], Sp.none, [], zeroE⟩ : ProgV) false rfl ({ HM17.out.rd with require := HNX.out } : RdP _ _ (⟨(1 + k1), (1 + k2), ⟨some ⟨W3.heap.size, 0, none⟩, 2⟩, ins, ⟨some ⟨W6.heap.size, 0, none⟩, 2⟩, [⟨⟨#[103]⟩, (1 + k2), 0⟩, ⟨⟨#[104]⟩, 1, 0⟩], ⟨some ⟨W8.heap.size, 0, none⟩, 2⟩, [⟨⟨#[118]⟩, (1 + k2), 0⟩, ⟨⟨#[99]⟩, 2, 0⟩], ⟨some ⟨W11.heap.size, 0, none⟩, 1⟩, [⟨⟨#[97]⟩, (1 + k2), 2 + k11⟩], e, Sp.none, [], Sp.none, [], Sp.none, [], Sp.none, [], zeroE⟩ : ProgV)), HWX.out⟩
     · have hd : (k16 == 0) = false := by simp [hk]
       clear hk
       go_wp2_with fail
       go_meet
       case rel => exact ⟨numE 1 1, _, HM16.out, .num (by decide) (by decide) (by decide) (by decide)⟩
   case rest =>
     obtain ⟨rq, aq, hms, hwx⟩ := hcut
     have HM17 := Lib.hid hms
     have HRQ := Lib.hid hwx
     clear hms hwx HM16 lo16 hi16
     have c2 : wc.cell? ⟨q, 2, none⟩ = some (.int .i64 (1 + k1)) := HM17.out.mkr0.cell 2 rfl
     have HMI : Hid (MdI q lv ls aq (⟨(1 + k1), (1 + k2), ⟨some ⟨W3.heap.size, 0, none⟩, 2⟩, ins, ⟨some ⟨W6.heap.size, 0, none⟩, 2⟩, [⟨⟨#[103]⟩, (1 + k2), 0⟩, ⟨⟨#[104]⟩, 1, 0⟩], ⟨some ⟨W8.heap.size, 0, none⟩, 2⟩, [⟨⟨#[118]⟩, (1 + k2), 0⟩, ⟨⟨#[99]⟩, 2, 0⟩], ⟨some ⟨W11.heap.size, 0, none⟩, 1⟩, [⟨⟨#[97]⟩, (1 + k2), 2 + k11⟩], rq, Sp.none, [], Sp.none, [], Sp.none, [], Sp.none, [], zeroE⟩ : ProgV) (⟨std, (1 + k2), ins.length, false⟩ : MkE) wc.heap.size 0 none 0 [] w wc) := Lib.hid (MdI.start HM17.out rfl)
     clear HM17
     go_wp2_with fail
     clear c2
     have hbl1 : 1 ≤ (1 + k1) := by omega
     have hbl3 : (1 + k1) ≤ 3 := by omega
     go_loopw [88] (fun s88 wr => ∃ (j at' : Nat) (A : Option Addr) (c : Nat) (l : List InitV), s88 = .int .i64 j ∧ (j : Int) ≤ (1 + k1) ∧ MdI q lv ls at' (⟨(1 + k1), (1 + k2), ⟨some ⟨W3.heap.size, 0, none⟩, 2⟩, ins, ⟨some ⟨W6.heap.size, 0, none⟩, 2⟩, [⟨⟨#[103]⟩, (1 + k2), 0⟩, ⟨⟨#[104]⟩, 1, 0⟩], ⟨some ⟨W8.heap.size, 0, none⟩, 2⟩, [⟨⟨#[118]⟩, (1 + k2), 0⟩, ⟨⟨#[99]⟩, 2, 0⟩], ⟨some ⟨W11.heap.size, 0, none⟩, 1⟩, [⟨⟨#[97]⟩, (1 + k2), 2 + k11⟩], rq, Sp.none, [], Sp.none, [], Sp.none, [], Sp.none, [], zeroE⟩ : ProgV) (⟨std, (1 + k2), ins.length, false⟩ : MkE) wc.heap.size j A c l w wr) (fun s88 _ => 3 - (intOf s88).toNat)
     case atStart => exact ⟨0, aq, none, 0, [], rfl, by omega, HMI.out⟩
     case round =>
       obtain ⟨j, at', A, c, l, rfl, hj, hmi⟩ := hrel
       have HI := Lib.hid hmi
       clear hmi HMI
       by_cases hlt : (j : Int) < (1 + k1)
       · have hd0 : (0 : Int) ≤ (j : Int) := by omega
         go_wp2_with fail
         refine (next_any q _ lv ls _ _ _ _ HI.out.full 3 (by decide) (by decide)).mono ?_
         rintro o W1 ⟨k, a1, rfl, lk0, lk1, hm, hb⟩
         have HI1 := Lib.hid (HI.out.next hm hb)
         clear hm hb HI
         by_cases hk : k = 0
         · have hd : (k == 0) = true := by simp [hk]
           clear hk lk0 lk1
           have HI2 := Lib.hid (HI1.out.on (Below.refl _ _).drew)
           have c14 : W1.cell? ⟨q, 14, none⟩ = some (.slice A l.length c) := HI1.out.mkr0.cell 14 rfl
           have HOL := Lib.hid HI1.out.own.old_block
           have HSW := Lib.hid HI1.out.sW
           clear HI1
           go_upto_region 15 with fail
           go_region_law (first
 | (refine step_append_row (by rfl) (.tmp 99) (.tmp 105) 35 (by rfl) initK (fun _ => rfl) one_init _ l (by rfl) HOA.out ⟨some ⟨W3.heap.size, 0, none⟩, 1⟩ [⟨j, e⟩] (by rfl) HRS.out HLN.out HSZ.out ?_; intro v2 W4 hown2 hg2 hat2; obtain ⟨A2, c2, rfl⟩ := hown2.form; have HG2 := Lib.hid hg2; have HOW2 := Lib.hid hown2; have HAT2 := Lib.hid hat2; have hbx := (HOA.out.below hg2 (Nat.le_refl _) (Below.refl _ _) HSZ.out).block q (by have := HI3.out.q0; omega); have hbx2 := (HI3.out.on ((Below.refl _ _).alloc (Nat.le_refl _) (.cells #[.int .i64 (j : Int), .int .u8 e.kind, .int .u8 e.op, .int .u32 e.value, .int .i64 e.width, .string e.name, .slice e.sp.at_ e.subs.length e.sp.cap] 118))).mkr0.box; have c14c : W4.cell? ⟨q, 14, none⟩ = some (.slice A l.length c) := (World.cell?_of_block hbx).trans c14b; have f14c : W4.frozen? ⟨q, 14, none⟩ = false := (by simp [World.frozen?, hbx.trans hbx2]); clear hown2 hg2 hat2 hbx hbx2
)
 | (go_simp; go_at_call 60; refine (expr_ok 1 (by decide) q _ lv ls _ _ (⟨std, (1 + k2), ins.length, false⟩ : MkE) _ (HI2.out.mkr (M := (⟨std, (1 + k2), ins.length, false⟩ : MkE)) rfl HOK.out rfl rfl HIE.out rfl rfl) (1 + k2) 1 ⟨by omega, by omega⟩).mono ?_; rintro o W3 ⟨e, a3, rfl, hwx, hnx, hm, hb⟩; have HI3 := Lib.hid (HI2.out.next hm hb); have HWX := Lib.hid hwx; have HNX := Lib.hid hnx; have c14a : W3.cell? ⟨q, 14, none⟩ = some (.slice A l.length c) := HI3.out.mkr0.cell 14 rfl; have hba : Below W3.heap.size W3 (W3.alloc (.cells #[.int .i64 (j : Int), .int .u8 e.kind, .int .u8 e.op, .int .u32 e.value, .int .i64 e.width, .string e.name, .slice e.sp.at_ e.subs.length e.sp.cap] 118)) := (Below.refl _ _).alloc (Nat.le_refl _) _; have c14b : (W3.alloc (.cells #[.int .i64 (j : Int), .int .u8 e.kind, .int .u8 e.op, .int .u32 e.value, .int .i64 e.width, .string e.name, .slice e.sp.at_ e.subs.length e.sp.cap] 118)).cell? ⟨q, 14, none⟩ = some (.slice A l.length c) := (HI3.out.on hba).mkr0.cell 14 rfl; have HOA := Lib.hid (HI3.out.on hba).own; have HRS := Lib.hid (row_one (enc := InitV.cells) (x := ⟨j, e⟩) (k := 7) (World.alloc_heap_new W3 (.cells #[.int .i64 (j : Int), .int .u8 e.kind, .int .u8 e.op, .int .u32 e.value, .int .i64 e.width, .string e.name, .slice e.sp.at_ e.subs.length e.sp.cap] 118))); have HSZ := Lib.hid (HI3.out.on hba).sW; have HLN : Hid (l.length + 1 ≤ 1000000) := Lib.hid (by have := HI3.out.len; omega); clear hwx hnx hm hb hba))
           all_goals
             have HI5 := Lib.hid (HI3.out.app hd0 (wf_j hlt hbl3 hd0) HWX.out HNX.out HSW.out HOL.out HOW2.out HG2.out HAT2.out)
             simp only [List.length_append, List.length_cons, List.length_nil, Nat.zero_add] at HI5
             go_wp2_with fail
             go_roundw
             case rel => exact ⟨j + 1, a3, A2, c2, (l ++ [(⟨j, e⟩ : InitV)]), by go_num, by omega, by rw [show (((j + 1 : Nat)) : Int) = (j : Int) + 1 by omega]; exact HI5.out⟩
             case measure => simp [intOf]; omega
         · have hd : (k == 0) = false := by simp [hk]
           clear hk
           have HI5 := Lib.hid HI1.out.skip
           clear HI1 lk0 lk1
           go_wp2_with fail
           go_roundw
           case rel => exact ⟨j + 1, a1, A, c, l, by go_num, by omega, by rw [show (((j + 1 : Nat)) : Int) = (j : Int) + 1 by omega]; exact HI5.out⟩
           case measure => simp [intOf]; omega
       · have hjl : (j : Int) = (1 + k1) := by omega
         have HLL : Hid (l.length ≤ 3) := Lib.hid (by have := HI.out.len; omega)
         have HVS : Hid (∀ x ∈ l, 0 ≤ x.block ∧ x.block < (1 + k1) ∧ WX (⟨std, (1 + k2), ins.length, false⟩ : MkE) 1 1 (1 + k2) x.value) := Lib.hid (fun x hx => by obtain ⟨a1, a2, _, a4, _⟩ := HI.out.vals x hx; exact ⟨a1, by omega, a4⟩)
         have HPW := Lib.hid HI.out.pw
         have HM100 : Hid (MdS q lv ls at' (⟨(1 + k1), (1 + k2), ⟨some ⟨W3.heap.size, 0, none⟩, 2⟩, ins, ⟨some ⟨W6.heap.size, 0, none⟩, 2⟩, [⟨⟨#[103]⟩, (1 + k2), 0⟩, ⟨⟨#[104]⟩, 1, 0⟩], ⟨some ⟨W8.heap.size, 0, none⟩, 2⟩, [⟨⟨#[118]⟩, (1 + k2), 0⟩, ⟨⟨#[99]⟩, 2, 0⟩], ⟨some ⟨W11.heap.size, 0, none⟩, 1⟩, [⟨⟨#[97]⟩, (1 + k2), 2 + k11⟩], rq, ⟨A, c⟩, l, Sp.none, [], Sp.none, [], Sp.none, [], zeroE⟩ : ProgV) false w wr) := Lib.hid (HI.out.done (by have := HLL.out; omega))
         clear HI hjl
         obtain ⟨W100, rfl⟩ : ∃ wo : World, wo = wr := ⟨_, rfl⟩
         go_wp2_with fail
         refine (next_any q _ lv ls _ _ _ _ HM100.out.full 2 (by decide) (by decide)).mono ?_
         rintro o W101 ⟨k101, a101, rfl, lo101, hi101, hm, hb⟩
         have HM101 := Lib.hid (HM100.out.next hm hb)
         clear hm hb HM100
         go_upto_if 113 with fail
         go_cut [114] (fun _ wx => ∃ (hasP : Bool) (rs : Sp) (pr : List ProcV) (aq : Nat), MdS q lv ls aq (⟨(1 + k1), (1 + k2), ⟨some ⟨W3.heap.size, 0, none⟩, 2⟩, ins, ⟨some ⟨W6.heap.size, 0, none⟩, 2⟩, [⟨⟨#[103]⟩, (1 + k2), 0⟩, ⟨⟨#[104]⟩, 1, 0⟩], ⟨some ⟨W8.heap.size, 0, none⟩, 2⟩, [⟨⟨#[118]⟩, (1 + k2), 0⟩, ⟨⟨#[99]⟩, 2, 0⟩], ⟨some ⟨W11.heap.size, 0, none⟩, 1⟩, [⟨⟨#[97]⟩, (1 + k2), 2 + k11⟩], rq, ⟨A, c⟩, l, rs, pr, Sp.none, [], Sp.none, [], zeroE⟩ : ProgV) false w wx ∧ (if hasP = true then ∃ x, pr = [x] ∧ IsProc (⟨std, (1 + k2), ins.length, false⟩ : MkE) hasP x else pr = []))
         case first =>
           by_cases hk : k101 = 1
           · have hd : (k101 == 1) = true := by simp [hk]
             clear hk
             have c24 : W101.cell? ⟨q, 24, none⟩ = some (.bool false) := HM101.out.mkr0.cell 24 rfl
             have f24 : W101.frozen? ⟨q, 24, none⟩ = false := HM101.out.mkr0.frozen 24
             go_upto_region 19 with fail
             have HM102 := Lib.hid (HM101.out.put (⟨(1 + k1), (1 + k2), ⟨some ⟨W3.heap.size, 0, none⟩, 2⟩, ins, ⟨some ⟨W6.heap.size, 0, none⟩, 2⟩, [⟨⟨#[103]⟩, (1 + k2), 0⟩, ⟨⟨#[104]⟩, 1, 0⟩], ⟨some ⟨W8.heap.size, 0, none⟩, 2⟩, [⟨⟨#[118]⟩, (1 + k2), 0⟩, ⟨⟨#[99]⟩, 2, 0⟩], ⟨some ⟨W11.heap.size, 0, none⟩, 1⟩, [⟨⟨#[97]⟩, (1 + k2), 2 + k11⟩], rq, ⟨A, c⟩, l, Sp.none, [], Sp.none, [], Sp.none, [], zeroE⟩ : ProgV) true (i := 24) (v := .bool true) rfl HM101.out.rd)
             generalize W101.setCell ⟨q, 24, none⟩ (.bool true) = W102 at *
             clear c24 f24 HM101
             have hb0 : Below W102.heap.size W102 (W102.alloc (.cells #[.string ⟨#[120]⟩, .int .i64 (1 + k2), .int .i64 0] 44)) := (Below.refl _ _).alloc (Nat.le_refl _) _
             have hb := below_mask HM102.out.lt hb0
             have HM103 := Lib.hid (HM102.out.on hb0)
             have HG_103 := Lib.hid ((row_list (k := 3) (enc := DeclV.cells) (l := [⟨⟨#[120]⟩, (1 + k2), 0⟩]) (t := 44) (fr := (0, 0)) (fun _ => rfl) rfl (by simp) (World.alloc_heap_new W102 (.cells #[.string ⟨#[120]⟩, .int .i64 (1 + k2), .int .i64 0] 44))).low (lo := q + 1) HM102.out.lt)
             clear hb hb0 HM102
             go_wp2_with fail
             generalize (W102.alloc (.cells #[.string ⟨#[120]⟩, .int .i64 (1 + k2), .int .i64 0] 44)) = W103 at *
             refine (stmts_ok 1 (by decide) q _ lv ls _ _ (⟨std, (1 + k2), ins.length, true⟩ : MkE) true _ (HM103.out.mkr (M := (⟨std, (1 + k2), ins.length, true⟩ : MkE)) rfl HOK.out rfl rfl HIE.out rfl rfl) (fun h => by cases h) 3 ⟨by decide, by decide⟩).mono ?_
             rintro o W104 ⟨Alb, clb, lb, a104, rfl, hlen, hown, hwt, hnt, hm, hb⟩
             have HBlb := Lib.hid hlen
             have HQlb := Lib.hid hwt
             have HM104 := Lib.hid (HM103.out.next hm hb)
             have HG_104 := Lib.hid ((HG_103.out.cells (keeps_mask hb (Nat.lt_succ_self _))).more (size_mask hb))
             have HTlb_104 := Lib.hid ((own_newTs hown (fun s hs => (hnt s hs).newT) (by omega)).less (show q + 1 ≤ W103.heap.size from HM103.out.lt))
             clear hlen hown hwt hnt hm hb HM103 HG_103
             have hb0 : Below W104.heap.size W104 (W104.alloc (.cells #[.string ⟨#[112]⟩, .slice (some ⟨W102.heap.size, 0, none⟩) 1 1, .slice Alb lb.length clb] 47)) := (Below.refl _ _).alloc (Nat.le_refl _) _
             have hb := below_mask HM104.out.lt hb0
             have HM105 := Lib.hid (HM104.out.on hb0)
             have HG_105 := Lib.hid ((HG_104.out.cells (keeps_mask hb (Nat.lt_succ_self _))).more (size_mask hb))
             have HTlb_105 := Lib.hid (HTlb_104.out.on hb (Nat.lt_succ_self _))
             have HP_105 := Lib.hid ((row_list (k := 3) (enc := ProcV.cells) (l := [(⟨pB, ⟨some ⟨W102.heap.size, 0, none⟩, 1⟩, [⟨xB, (1 + k2), 0⟩], ⟨Alb, clb⟩, lb⟩ : ProcV)]) (t := 47) (fr := (0, 0)) (fun _ => rfl) rfl (by simp) (World.alloc_heap_new W104 (.cells #[.string ⟨#[112]⟩, .slice (some ⟨W102.heap.size, 0, none⟩) 1 1, .slice Alb lb.length clb] 47))).low (lo := q + 1) HM104.out.lt)
             clear hb hb0 HM104 HG_104 HTlb_104
             have c15 : (W104.alloc (.cells #[.string ⟨#[112]⟩, .slice (some ⟨W102.heap.size, 0, none⟩) 1 1, .slice Alb lb.length clb] 47)).cell? ⟨q, 15, none⟩ = some (.slice none 0 0) := HM105.out.mkr0.cell 15 rfl
             have f15 : (W104.alloc (.cells #[.string ⟨#[112]⟩, .slice (some ⟨W102.heap.size, 0, none⟩) 1 1, .slice Alb lb.length clb] 47)).frozen? ⟨q, 15, none⟩ = false := HM105.out.mkr0.frozen 15
             go_upto_region 20 with fail
             have HPR : Hid (∀ x ∈ [(⟨pB, ⟨some ⟨W102.heap.size, 0, none⟩, 1⟩, [⟨xB, (1 + k2), 0⟩], ⟨Alb, clb⟩, lb⟩ : ProcV)], RdPr (W104.alloc (.cells #[.string ⟨#[112]⟩, .slice (some ⟨W102.heap.size, 0, none⟩) 1 1, .slice Alb lb.length clb] 47)).heap.size (lowm (q + 1) (W104.alloc (.cells #[.string ⟨#[112]⟩, .slice (some ⟨W102.heap.size, 0, none⟩) 1 1, .slice Alb lb.length clb] 47))) x) := Lib.hid (fun x hx => by
               rw [List.mem_singleton.1 hx]
               exact ⟨(by decide : pB.size ≤ maxLen), ⟨HG_105.out, fun d hd => by rw [List.mem_singleton.1 hd]; exact ⟨(by decide : (⟨#[120]⟩ : ByteArray).size ≤ maxLen), hwf2, (by decide : (Lit.int .i64 0).wf = true)⟩⟩, ⟨HTlb_105.out.1, HTlb_105.out.2⟩⟩)
             have HM106 := Lib.hid (HM105.out.put (⟨(1 + k1), (1 + k2), ⟨some ⟨W3.heap.size, 0, none⟩, 2⟩, ins, ⟨some ⟨W6.heap.size, 0, none⟩, 2⟩, [⟨⟨#[103]⟩, (1 + k2), 0⟩, ⟨⟨#[104]⟩, 1, 0⟩], ⟨some ⟨W8.heap.size, 0, none⟩, 2⟩, [⟨⟨#[118]⟩, (1 + k2), 0⟩, ⟨⟨#[99]⟩, 2, 0⟩], ⟨some ⟨W11.heap.size, 0, none⟩, 1⟩, [⟨⟨#[97]⟩, (1 + k2), 2 + k11⟩], rq, ⟨A, c⟩, l, ⟨some ⟨W104.heap.size, 0, none⟩, 1⟩, [(⟨pB, ⟨some ⟨W102.heap.size, 0, none⟩, 1⟩, [⟨xB, (1 + k2), 0⟩], ⟨Alb, clb⟩, lb⟩ : ProcV)], Sp.none, [], Sp.none, [], zeroE⟩ : ProgV) true (i := 15) (v := .slice (some ⟨W104.heap.size, 0, none⟩) 1 1) rfl ({ HM105.out.rd with prow := HP_105.out, procs := HPR.out } : RdP _ _ (⟨(1 + k1), (1 + k2), ⟨some ⟨W3.heap.size, 0, none⟩, 2⟩, ins, ⟨some ⟨W6.heap.size, 0, none⟩, 2⟩, [⟨⟨#[103]⟩, (1 + k2), 0⟩, ⟨⟨#[104]⟩, 1, 0⟩], ⟨some ⟨W8.heap.size, 0, none⟩, 2⟩, [⟨⟨#[118]⟩, (1 + k2), 0⟩, ⟨⟨#[99]⟩, 2, 0⟩], ⟨some ⟨W11.heap.size, 0, none⟩, 1⟩, [⟨⟨#[97]⟩, (1 + k2), 2 + k11⟩], rq, ⟨A, c⟩, l, ⟨some ⟨W104.heap.size, 0, none⟩, 1⟩, [(⟨pB, ⟨some ⟨W102.heap.size, 0, none⟩, 1⟩, [⟨xB, (1 + k2), 0⟩], ⟨Alb, clb⟩, lb⟩ : ProcV)], Sp.none, [], Sp.none, [], zeroE⟩ : ProgV)))
             generalize (W104.alloc (.cells #[.string ⟨#[112]⟩, .slice (some ⟨W102.heap.size, 0, none⟩) 1 1, .slice Alb lb.length clb] 47)).setCell ⟨q, 15, none⟩ (.slice (some ⟨W104.heap.size, 0, none⟩) 1 1) = W106 at *
             clear c15 f15 HM105 HPR HG_105 HTlb_105 HP_105
             have c24 : W106.cell? ⟨q, 24, none⟩ = some (.bool true) := HM106.out.mkr0.cell 24 rfl
             have f24 : W106.frozen? ⟨q, 24, none⟩ = false := HM106.out.mkr0.frozen 24
             go_wp2_with fail
             go_meet
             case rel => exact ⟨true, ⟨some ⟨W104.heap.size, 0, none⟩, 1⟩, [(⟨pB, ⟨some ⟨W102.heap.size, 0, none⟩, 1⟩, [⟨xB, (1 + k2), 0⟩], ⟨Alb, clb⟩, lb⟩ : ProcV)], _, HM106.out.put (⟨(1 + k1), (1 + k2), ⟨some ⟨W3.heap.size, 0, none⟩, 2⟩, ins, ⟨some ⟨W6.heap.size, 0, none⟩, 2⟩, [⟨⟨#[103]⟩, (1 + k2), 0⟩, ⟨⟨#[104]⟩, 1, 0⟩], ⟨some ⟨W8.heap.size, 0, none⟩, 2⟩, [⟨⟨#[118]⟩, (1 + k2), 0⟩, ⟨⟨#[99]⟩, 2, 0⟩], ⟨some ⟨W11.heap.size, 0, none⟩, 1⟩, [⟨⟨#[97]⟩, (1 + k2), 2 + k11⟩], rq, ⟨A, c⟩, l, ⟨some ⟨W104.heap.size, 0, none⟩, 1⟩, [(⟨pB, ⟨some ⟨W102.heap.size, 0, none⟩, 1⟩, [⟨xB, (1 + k2), 0⟩], ⟨Alb, clb⟩, lb⟩ : ProcV)], Sp.none, [], Sp.none, [], zeroE⟩ : ProgV) false (i := 24) (v := .bool false) rfl HM106.out.rd, by rw [if_pos rfl]; exact ⟨_, rfl, rfl, rfl, by have := HBlb.out; show lb.length ≤ 3; omega, HQlb.out⟩⟩
           · have hd : (k101 == 1) = false := by simp [hk]
             clear hk
             go_wp2_with fail
             go_meet
             case rel => exact ⟨false, Sp.none, [], _, HM101.out, by rw [if_neg (by decide)]⟩
         case rest =>
           obtain ⟨hasP, rs, pr, aq, hms, hpr⟩ := hcut
           have HM102 := Lib.hid hms
           have HPR := Lib.hid hpr
           clear hms hpr HM101 lo101 hi101
           obtain ⟨W102, rfl⟩ : ∃ wo : World, wo = wc := ⟨_, rfl⟩
           have HPL : Hid (hasP = decide (0 < pr.length)) := Lib.hid (by
             have h := HPR.out
             cases hasP with
             | true => rw [if_pos rfl] at h; obtain ⟨x, h1, _⟩ := h; rw [h1]; rfl
             | false => rw [if_neg (by decide)] at h; rw [h]; rfl)
           go_wp2_with fail
           refine (stmts_ok 2 (by decide) q _ lv ls _ _ (⟨std, (1 + k2), ins.length, false⟩ : MkE) hasP _ (HM102.out.mkr (M := (⟨std, (1 + k2), ins.length, false⟩ : MkE)) rfl HOK.out rfl rfl HIE.out rfl rfl) (fun _ => HPL.out) 5 ⟨by decide, by decide⟩).mono ?_
           rintro o W103 ⟨Alw, clw, lw, a103, rfl, hlen, hown, hwt, hnt, hm, hb⟩
           have HBlw := Lib.hid hlen
           have HQlw := Lib.hid hwt
           have HM103 := Lib.hid (HM102.out.next hm hb)
           have HTlw_103 := Lib.hid ((own_newTs hown (fun s hs => (hnt s hs).newT) (by omega)).less (show q + 1 ≤ W102.heap.size from HM102.out.lt))
           clear hlen hown hwt hnt hm hb HM102
           have c16 : W103.cell? ⟨q, 16, none⟩ = some (.slice none 0 0) := HM103.out.mkr0.cell 16 rfl
           have f16 : W103.frozen? ⟨q, 16, none⟩ = false := HM103.out.mkr0.frozen 16
           go_upto_region 22 with fail
           have HM104 := Lib.hid (HM103.out.put (⟨(1 + k1), (1 + k2), ⟨some ⟨W3.heap.size, 0, none⟩, 2⟩, ins, ⟨some ⟨W6.heap.size, 0, none⟩, 2⟩, [⟨⟨#[103]⟩, (1 + k2), 0⟩, ⟨⟨#[104]⟩, 1, 0⟩], ⟨some ⟨W8.heap.size, 0, none⟩, 2⟩, [⟨⟨#[118]⟩, (1 + k2), 0⟩, ⟨⟨#[99]⟩, 2, 0⟩], ⟨some ⟨W11.heap.size, 0, none⟩, 1⟩, [⟨⟨#[97]⟩, (1 + k2), 2 + k11⟩], rq, ⟨A, c⟩, l, rs, pr, ⟨Alw, clw⟩, lw, Sp.none, [], zeroE⟩ : ProgV) false (i := 16) (v := .slice Alw lw.length clw) rfl ({ HM103.out.rd with work := ⟨HTlw_103.out.1, HTlw_103.out.2⟩ } : RdP _ _ (⟨(1 + k1), (1 + k2), ⟨some ⟨W3.heap.size, 0, none⟩, 2⟩, ins, ⟨some ⟨W6.heap.size, 0, none⟩, 2⟩, [⟨⟨#[103]⟩, (1 + k2), 0⟩, ⟨⟨#[104]⟩, 1, 0⟩], ⟨some ⟨W8.heap.size, 0, none⟩, 2⟩, [⟨⟨#[118]⟩, (1 + k2), 0⟩, ⟨⟨#[99]⟩, 2, 0⟩], ⟨some ⟨W11.heap.size, 0, none⟩, 1⟩, [⟨⟨#[97]⟩, (1 + k2), 2 + k11⟩], rq, ⟨A, c⟩, l, rs, pr, ⟨Alw, clw⟩, lw, Sp.none, [], zeroE⟩ : ProgV)))
           generalize W103.setCell ⟨q, 16, none⟩ (.slice Alw lw.length clw) = W104 at *
           clear c16 f16 HM103 HTlw_103
           go_wp2_with fail
           refine (stmts_ok 1 (by decide) q _ lv ls _ _ (⟨std, (1 + k2), ins.length, false⟩ : MkE) hasP _ (HM104.out.mkr (M := (⟨std, (1 + k2), ins.length, false⟩ : MkE)) rfl HOK.out rfl rfl HIE.out rfl rfl) (fun _ => HPL.out) 3 ⟨by decide, by decide⟩).mono ?_
           rintro o W105 ⟨Alr, clr, lr, a105, rfl, hlen, hown, hwt, hnt, hm, hb⟩
           have HBlr := Lib.hid hlen
           have HQlr := Lib.hid hwt
           have HM105 := Lib.hid (HM104.out.next hm hb)
           have HTlr_105 := Lib.hid ((own_newTs hown (fun s hs => (hnt s hs).newT) (by omega)).less (show q + 1 ≤ W104.heap.size from HM104.out.lt))
           clear hlen hown hwt hnt hm hb HM104
           have c17 : W105.cell? ⟨q, 17, none⟩ = some (.slice none 0 0) := HM105.out.mkr0.cell 17 rfl
           have f17 : W105.frozen? ⟨q, 17, none⟩ = false := HM105.out.mkr0.frozen 17
           go_upto_region 23 with fail
           have HM106 := Lib.hid (HM105.out.put (⟨(1 + k1), (1 + k2), ⟨some ⟨W3.heap.size, 0, none⟩, 2⟩, ins, ⟨some ⟨W6.heap.size, 0, none⟩, 2⟩, [⟨⟨#[103]⟩, (1 + k2), 0⟩, ⟨⟨#[104]⟩, 1, 0⟩], ⟨some ⟨W8.heap.size, 0, none⟩, 2⟩, [⟨⟨#[118]⟩, (1 + k2), 0⟩, ⟨⟨#[99]⟩, 2, 0⟩], ⟨some ⟨W11.heap.size, 0, none⟩, 1⟩, [⟨⟨#[97]⟩, (1 + k2), 2 + k11⟩], rq, ⟨A, c⟩, l, rs, pr, ⟨Alw, clw⟩, lw, ⟨Alr, clr⟩, lr, zeroE⟩ : ProgV) false (i := 17) (v := .slice Alr lr.length clr) rfl ({ HM105.out.rd with recover := ⟨HTlr_105.out.1, HTlr_105.out.2⟩ } : RdP _ _ (⟨(1 + k1), (1 + k2), ⟨some ⟨W3.heap.size, 0, none⟩, 2⟩, ins, ⟨some ⟨W6.heap.size, 0, none⟩, 2⟩, [⟨⟨#[103]⟩, (1 + k2), 0⟩, ⟨⟨#[104]⟩, 1, 0⟩], ⟨some ⟨W8.heap.size, 0, none⟩, 2⟩, [⟨⟨#[118]⟩, (1 + k2), 0⟩, ⟨⟨#[99]⟩, 2, 0⟩], ⟨some ⟨W11.heap.size, 0, none⟩, 1⟩, [⟨⟨#[97]⟩, (1 + k2), 2 + k11⟩], rq, ⟨A, c⟩, l, rs, pr, ⟨Alw, clw⟩, lw, ⟨Alr, clr⟩, lr, zeroE⟩ : ProgV)))
           generalize W105.setCell ⟨q, 17, none⟩ (.slice Alr lr.length clr) = W106 at *
           clear c17 f17 HM105 HTlr_105
           go_wp2_with fail
           refine (expr_ok 3 (by decide) q _ lv ls _ _ (⟨std, (1 + k2), ins.length, false⟩ : MkE) _ (HM106.out.mkr (M := (⟨std, (1 + k2), ins.length, false⟩ : MkE)) rfl HOK.out rfl rfl HIE.out rfl rfl) 1 2 ⟨by decide, by decide⟩).mono ?_
           rintro o W107 ⟨e, aq, rfl, hwx, hnx, hm, hb⟩
           have HM107 := Lib.hid (HM106.out.next hm hb)
           have HWX := Lib.hid hwx
           have HNX := Lib.hid (hnx.less HM106.out.lt)
           clear hwx hnx hm hb HM106
           have c18 : W107.cell? ⟨q, 18, none⟩ = some (.int .u8 0) := HM107.out.mkr0.cell 18 rfl
           have f18 : W107.frozen? ⟨q, 18, none⟩ = false := HM107.out.mkr0.frozen 18
           have c19 : W107.cell? ⟨q, 19, none⟩ = some (.int .u8 0) := HM107.out.mkr0.cell 19 rfl
           have f19 : W107.frozen? ⟨q, 19, none⟩ = false := HM107.out.mkr0.frozen 19
           have c20 : W107.cell? ⟨q, 20, none⟩ = some (.int .u32 0) := HM107.out.mkr0.cell 20 rfl
           have f20 : W107.frozen? ⟨q, 20, none⟩ = false := HM107.out.mkr0.frozen 20
           have c21 : W107.cell? ⟨q, 21, none⟩ = some (.int .i64 0) := HM107.out.mkr0.cell 21 rfl
           have f21 : W107.frozen? ⟨q, 21, none⟩ = false := HM107.out.mkr0.frozen 21
           have c22 : W107.cell? ⟨q, 22, none⟩ = some (.string ⟨#[]⟩) := HM107.out.mkr0.cell 22 rfl
           have f22 : W107.frozen? ⟨q, 22, none⟩ = false := HM107.out.mkr0.frozen 22
           have c23 : W107.cell? ⟨q, 23, none⟩ = some (.slice none 0 0) := HM107.out.mkr0.cell 23 rfl
           have f23 : W107.frozen? ⟨q, 23, none⟩ = false := HM107.out.mkr0.frozen 23
           go_upto_region 24 with fail
           have HM108 : Hid (MdS q lv ls _ (⟨(1 + k1), (1 + k2), ⟨some ⟨W3.heap.size, 0, none⟩, 2⟩, ins, ⟨some ⟨W6.heap.size, 0, none⟩, 2⟩, [⟨⟨#[103]⟩, (1 + k2), 0⟩, ⟨⟨#[104]⟩, 1, 0⟩], ⟨some ⟨W8.heap.size, 0, none⟩, 2⟩, [⟨⟨#[118]⟩, (1 + k2), 0⟩, ⟨⟨#[99]⟩, 2, 0⟩], ⟨some ⟨W11.heap.size, 0, none⟩, 1⟩, [⟨⟨#[97]⟩, (1 + k2), 2 + k11⟩], rq, ⟨A, c⟩, l, rs, pr, ⟨Alw, clw⟩, lw, ⟨Alr, clr⟩, lr, e⟩ : ProgV) false w ((((((W107.setCell ⟨q, 18, none⟩ (.int .u8 e.kind)).setCell ⟨q, 19, none⟩ (.int .u8 e.op)).setCell ⟨q, 20, none⟩ (.int .u32 e.value)).setCell ⟨q, 21, none⟩ (.int .i64 e.width)).setCell ⟨q, 22, none⟩ (.string e.name)).setCell ⟨q, 23, none⟩ (.slice e.sp.at_ e.subs.length e.sp.cap))) := Lib.hid (by rw [six_setq (i := 18) HM107.out.mkr0.box]; exact HM107.out.row (⟨(1 + k1), (1 + k2), ⟨some ⟨W3.heap.size, 0, none⟩, 2⟩, ins, ⟨some ⟨W6.heap.size, 0, none⟩, 2⟩, [⟨⟨#[103]⟩, (1 + k2), 0⟩, ⟨⟨#[104]⟩, 1, 0⟩], ⟨some ⟨W8.heap.size, 0, none⟩, 2⟩, [⟨⟨#[118]⟩, (1 + k2), 0⟩, ⟨⟨#[99]⟩, 2, 0⟩], ⟨some ⟨W11.heap.size, 0, none⟩, 1⟩, [⟨⟨#[97]⟩, (1 + k2), 2 + k11⟩], rq, ⟨A, c⟩, l, rs, pr, ⟨Alw, clw⟩, lw, ⟨Alr, clr⟩, lr, e⟩ : ProgV) false rfl ({ HM107.out.rd with invariant := HNX.out } : RdP _ _ (⟨(1 + k1), (1 + k2), ⟨some ⟨W3.heap.size, 0, none⟩, 2⟩, ins, ⟨some ⟨W6.heap.size, 0, none⟩, 2⟩, [⟨⟨#[103]⟩, (1 + k2), 0⟩, ⟨⟨#[104]⟩, 1, 0⟩], ⟨some ⟨W8.heap.size, 0, none⟩, 2⟩, [⟨⟨#[118]⟩, (1 + k2), 0⟩, ⟨⟨#[99]⟩, 2, 0⟩], ⟨some ⟨W11.heap.size, 0, none⟩, 1⟩, [⟨⟨#[97]⟩, (1 + k2), 2 + k11⟩], rq, ⟨A, c⟩, l, rs, pr, ⟨Alw, clw⟩, lw, ⟨Alr, clr⟩, lr, e⟩ : ProgV)))
           generalize ((((((W107.setCell ⟨q, 18, none⟩ (.int .u8 e.kind)).setCell ⟨q, 19, none⟩ (.int .u8 e.op)).setCell ⟨q, 20, none⟩ (.int .u32 e.value)).setCell ⟨q, 21, none⟩ (.int .i64 e.width)).setCell ⟨q, 22, none⟩ (.string e.name)).setCell ⟨q, 23, none⟩ (.slice e.sp.at_ e.subs.length e.sp.cap)) = W108 at *
           clear c18 c19 c20 c21 c22 c23 f18 f19 f20 f21 f22 f23 HM107 HNX
           have HMD : Hid (IsMade (⟨std, (1 + k2), ins.length, false⟩ : MkE) hasP (⟨(1 + k1), (1 + k2), ⟨some ⟨W3.heap.size, 0, none⟩, 2⟩, ins, ⟨some ⟨W6.heap.size, 0, none⟩, 2⟩, [⟨⟨#[103]⟩, (1 + k2), 0⟩, ⟨⟨#[104]⟩, 1, 0⟩], ⟨some ⟨W8.heap.size, 0, none⟩, 2⟩, [⟨⟨#[118]⟩, (1 + k2), 0⟩, ⟨⟨#[99]⟩, 2, 0⟩], ⟨some ⟨W11.heap.size, 0, none⟩, 1⟩, [⟨⟨#[97]⟩, (1 + k2), 2 + k11⟩], rq, ⟨A, c⟩, l, rs, pr, ⟨Alw, clw⟩, lw, ⟨Alr, clr⟩, lr, e⟩ : ProgV)) := Lib.hid { ok := HOK.out, prm := rfl, blocks := ⟨by show 1 ≤ (1 + k1); omega, by show (1 + k1) ≤ 3; omega⟩, width := rfl, inputs := HIE.out, ghosts := rfl, vars := rfl, arrays := ⟨2 + k11, by omega, by omega, rfl⟩, require := HRQ.out, inits := HVS.out, blocksN := HPW.out, initsN := HLL.out, invariant := HWX.out, procs := HPR.out, workN := (by have := HBlw.out; show lw.length ≤ 5; omega), work := HQlw.out, recoverN := (by have := HBlr.out; show lr.length ≤ 3; omega), recover := HQlr.out }
           have HFN := Lib.hid (made_fin HM108.out)
           have HRG := Lib.hid (made_range HM108.out)
           clear HM108 HRQ HVS HPW HLL HPR HWX HPL HOK HIE HINS
           generalize (⟨(1 + k1), (1 + k2), ⟨some ⟨W3.heap.size, 0, none⟩, 2⟩, ins, ⟨some ⟨W6.heap.size, 0, none⟩, 2⟩, [⟨⟨#[103]⟩, (1 + k2), 0⟩, ⟨⟨#[104]⟩, 1, 0⟩], ⟨some ⟨W8.heap.size, 0, none⟩, 2⟩, [⟨⟨#[118]⟩, (1 + k2), 0⟩, ⟨⟨#[99]⟩, 2, 0⟩], ⟨some ⟨W11.heap.size, 0, none⟩, 1⟩, [⟨⟨#[97]⟩, (1 + k2), 2 + k11⟩], rq, ⟨A, c⟩, l, rs, pr, ⟨Alw, clw⟩, lw, ⟨Alr, clr⟩, lr, e⟩ : ProgV) = pf at *
           go_wp2_with (first | (refine wpList_load_mid rfl 39 _ rfl q 2 rfl pf.arr.toList _ HRG.out Tryz.underlying39 rfl (arr_sizeL pf) ?_) | (refine wpList_store_row rfl 39 _ _ rfl w.heap.size pf.arr (by rfl) (by rfl) 39 zeroP.arr HFN.out.1 (arr_size _) (by kernel_rfl) (arr_one _) ?_) | fail)
           exact bodyPost_ret (results_cell_row rfl _ _ w.heap.size 39 _ (0, 0) _ rfl HFN.out.2.1 Tryz.underlying39 rfl (arr_size _)) rfl ⟨pf, (⟨std, (1 + k2), ins.length, false⟩ : MkE), hasP, rfl, HMD.out, rfl, HFN.out.2.2.1, HFN.out.2.2.2⟩
end Go.Proofs.YthcboallnbaimaaGreatDoor
