/- CheckWiths: region 11, the closure called eight times, for any frame. CheckWiths: region 23, Invariant called five times, for any frame. Chapter 32's law CheckWiths, walked. -/
import Derived.Test.YthcboallnbaimaaGreatDoorUF
import Derived.Test.YthcboallnbaimaaGreatDoorUD
namespace Go.Proofs.YthcboallnbaimaaGreatDoor
open Go Go.RowKit Go.Maps
set_option maxRecDepth 10000000 in
set_option maxHeartbeats 64000000 in
theorem withs11 (C : Code) (hC : C = regW 11) {d0 d1 d2 d3 d4 d9 d10 d11 d12 d13 d14 d15 d16 d17 d18 d19 d20 d21 d22 d23 d24 d25 d26 d27 d28 d29 d30 d31 d32 d33 d34 d35 d36 d37 d38 d39 d40 d41 d42 d43 d44 d45 d46 d47 d48 d49 d50 d51 d52 d53 d54 d55 d56 d57 d58 d59 d60 d61 d62 d63 d64 d65 d66 d67 d68 d69 d70 d71 d72 d73 d74 d75 d76 d77 d78 d79 d80 d81 d82 d83 d84 d85 d86 d87 d88 d89 d90 d91 d92 d93 d94 d95 d96 d97 d98 d99 d100 d101 d102 d103 d104 d105 d106 d107 d108 d109 d110 d111 d112 d113 d114 d115 d116 d117 d118 d119 d120 d121 d122 d123 d124 d125 d126 d127 d128 d129 d130 d131 d132 d133 d134 d135 d136 d137 d138 d139 d140 d141 : Value} (q : ProgV) (bp s7 k : Nat) (W8  : World) (HS8 : Hid (∀ W, Below W8.heap.size W8 W → Below W8.heap.size W8 W ∧ W.cell? ⟨bp, 1, none⟩ = some (.int .i64 q.width) ∧ W.cell? ⟨bp, 16, none⟩ = some (.int .u8 q.invariant.kind) ∧ W.cell? ⟨bp, 17, none⟩ = some (.int .u8 q.invariant.op) ∧ W.cell? ⟨bp, 18, none⟩ = some (.int .u32 q.invariant.value) ∧ W.cell? ⟨bp, 19, none⟩ = some (.int .i64 q.invariant.width) ∧ W.cell? ⟨bp, 20, none⟩ = some (.string q.invariant.name) ∧ W.cell? ⟨bp, 21, none⟩ = some (.slice q.invariant.sp.at_ q.invariant.subs.length q.invariant.sp.cap) ∧ W.cell? ⟨s7 + 1, 0, none⟩ = some (.int .u8 8) ∧ W.cell? ⟨s7 + 1, 1, none⟩ = some (.int .u8 0) ∧ W.cell? ⟨s7 + 1, 2, none⟩ = some (.int .u32 0) ∧ W.cell? ⟨s7 + 1, 3, none⟩ = some (.int .i64 (1 + (k : Int))) ∧ W.cell? ⟨s7 + 1, 4, none⟩ = some (.string ⟨#[]⟩) ∧ W.cell? ⟨s7 + 1, 5, none⟩ = some (.slice (some ⟨s7, 0, none⟩) 1 1))) (HALL : Hid (∀ W, Below W8.heap.size W8 W → ∀ args, WArgs q bp s7 k W args → Calls Tryz.prog 31 args W fun o w' => o = .returned (.bool true) ∧ Below W8.heap.size W8 w')) :
    C.wp Tryz.prog (NormalIs fun a wx => Below W8.heap.size W8 wx ∧ ∃ (u36 u37 u38 u39 u40 u41 u42 u43 u44 u45 u46 u47 u48 u49 u50 u51 u52 u53 u54 u55 u56 u57 u58 u59 u60 u61 u62 u63 u64 u65 u66 u67 u68 u69 u70 u71 u72 u73 u74 u75 u76 u77 u78 u79 u80 u81 u82 u83 u84 u85 u86 u87 u88 : Value), a = ⟨#[d0, d1, d2, d3, d4, .pointer (some ⟨bp, 0, none⟩), .int .i64 (1 + (k : Int)), .func (.func 31) #[] #[.pointer (some ⟨bp, 0, none⟩)], .pointer (some ⟨s7 + 1, 0, none⟩), d9, d10, d11, d12, d13, d14, d15, d16, d17, d18, d19, d20, d21, d22, d23, d24, d25, d26, d27, d28, d29, d30, d31, d32, d33, d34, d35, u36, u37, u38, u39, u40, u41, u42, u43, u44, u45, u46, u47, u48, u49, u50, u51, u52, u53, u54, u55, u56, u57, u58, u59, u60, u61, u62, u63, u64, u65, u66, u67, u68, u69, u70, u71, u72, u73, u74, u75, u76, u77, u78, u79, u80, u81, u82, u83, u84, u85, u86, u87, u88, .bool false, d90, d91, d92, d93, d94, d95, d96, d97, d98, d99, d100, d101, d102, d103, d104, d105, d106, d107, d108, d109, d110, d111, d112, d113, d114, d115, d116, d117, d118, d119, d120, d121, d122, d123, d124, d125, d126, d127, d128, d129, d130, d131, d132, d133, d134, d135, d136, d137, d138, d139, d140, d141], []⟩) ⟨#[d0, d1, d2, d3, d4, .pointer (some ⟨bp, 0, none⟩), .int .i64 (1 + (k : Int)), .func (.func 31) #[] #[.pointer (some ⟨bp, 0, none⟩)], .pointer (some ⟨s7 + 1, 0, none⟩), d9, d10, d11, d12, d13, d14, d15, d16, d17, d18, d19, d20, d21, d22, d23, d24, d25, d26, d27, d28, d29, d30, d31, d32, d33, d34, d35, d36, d37, d38, d39, d40, d41, d42, d43, d44, d45, d46, d47, d48, d49, d50, d51, d52, d53, d54, d55, d56, d57, d58, d59, d60, d61, d62, d63, d64, d65, d66, d67, d68, d69, d70, d71, d72, d73, d74, d75, d76, d77, d78, d79, d80, d81, d82, d83, d84, d85, d86, d87, d88, d89, d90, d91, d92, d93, d94, d95, d96, d97, d98, d99, d100, d101, d102, d103, d104, d105, d106, d107, d108, d109, d110, d111, d112, d113, d114, d115, d116, d117, d118, d119, d120, d121, d122, d123, d124, d125, d126, d127, d128, d129, d130, d131, d132, d133, d134, d135, d136, d137, d138, d139, d140, d141], []⟩ W8 := by
  subst hC
  conv => arg 2; whnf
  conv => arg 4; dsimp only
  go_region_held3 (fun W => Below W8.heap.size W8 W ∧ W.cell? ⟨bp, 1, none⟩ = some (.int .i64 q.width) ∧ W.cell? ⟨bp, 16, none⟩ = some (.int .u8 q.invariant.kind) ∧ W.cell? ⟨bp, 17, none⟩ = some (.int .u8 q.invariant.op) ∧ W.cell? ⟨bp, 18, none⟩ = some (.int .u32 q.invariant.value) ∧ W.cell? ⟨bp, 19, none⟩ = some (.int .i64 q.invariant.width) ∧ W.cell? ⟨bp, 20, none⟩ = some (.string q.invariant.name) ∧ W.cell? ⟨bp, 21, none⟩ = some (.slice q.invariant.sp.at_ q.invariant.subs.length q.invariant.sp.cap) ∧ W.cell? ⟨s7 + 1, 0, none⟩ = some (.int .u8 8) ∧ W.cell? ⟨s7 + 1, 1, none⟩ = some (.int .u8 0) ∧ W.cell? ⟨s7 + 1, 2, none⟩ = some (.int .u32 0) ∧ W.cell? ⟨s7 + 1, 3, none⟩ = some (.int .i64 (1 + (k : Int))) ∧ W.cell? ⟨s7 + 1, 4, none⟩ = some (.string ⟨#[]⟩) ∧ W.cell? ⟨s7 + 1, 5, none⟩ = some (.slice (some ⟨s7, 0, none⟩) 1 1))
    ((refine HS8.out _ ?_; first | assumption | exact (Below.refl _ _).drew | exact Below.alloc (And.left (by assumption)) (Below.size (And.left (by assumption))) _))
    (first
      | (go_at_call 31; refine (HALL.out _ (And.left (by assumption)) _ (by first | with_reducible exact .h1 | with_reducible exact .h2 | with_reducible exact .h3 _ (World.alloc_heap_new _ _) | with_reducible exact .h4 | with_reducible exact .h5 | with_reducible exact .h6 | with_reducible exact .h7 | with_reducible exact .h8)).mono ?_; rintro e w9 ⟨rfl, hb10⟩)
      | (go_at_call 25; refine (lift_below (And.left (by assumption)) (name_exp _ _)).mono ?_; rintro e w9 ⟨rfl, hb10⟩)
      | fail)
  all_goals
    go_wp2_with fail
    exact NormalIs.mk ⟨And.left (by assumption), _, _, _, _, _, _, _, _, _, _, _, _, _, _, _, _, _, _, _, _, _, _, _, _, _, _, _, _, _, _, _, _, _, _, _, _, _, _, _, _, _, _, _, _, _, _, _, _, _, _, _, _, _, rfl⟩
end Go.Proofs.YthcboallnbaimaaGreatDoor
namespace Go.Proofs.YthcboallnbaimaaGreatDoor
open Go Go.RowKit Go.Maps
attribute [local go_sem ↓] exec_load39
attribute [local go_sem] blkOf_ptr
set_option maxRecDepth 10000000 in
set_option maxHeartbeats 64000000 in
theorem withs23 (C : Code) (hC : C = regW 23) {d0 d1 d2 d3 d4 d9 d10 d11 d12 d13 d14 d15 d16 d17 d18 d19 d20 d21 d22 d23 d24 d25 d26 d27 d28 d29 d30 d31 d32 d33 d34 d35 d36 d37 d38 d39 d40 d41 d42 d43 d44 d45 d46 d47 d48 d49 d50 d51 d52 d53 d54 d55 d56 d57 d58 d59 d60 d61 d62 d63 d64 d65 d66 d67 d68 d69 d70 d71 d72 d73 d74 d75 d76 d77 d78 d79 d80 d81 d82 d83 d84 d85 d86 d87 d88 d89 d90 d91 d92 d93 d94 d95 d96 d97 d98 d99 d100 d101 d102 d103 d104 d105 d106 d107 d108 d109 d110 d111 d112 d113 d114 d115 d116 d117 d118 d119 d120 d121 d122 d123 d124 d125 d126 d127 d128 d129 d130 d131 d132 d133 d134 d135 d136 d137 d138 d139 d140 d141 : Value} (q : ProgV) (bp s7 k : Nat) (W8 wr : World) (hbr : Below W8.heap.size W8 wr) (HS9 : Hid (∀ W, Below W8.heap.size W8 W → Below W8.heap.size W8 W ∧ IsRow W bp ∧ rowAt W bp = q.arr ∧ W.cell? ⟨s7 + 1, 0, none⟩ = some (.int .u8 8) ∧ W.cell? ⟨s7 + 1, 1, none⟩ = some (.int .u8 0) ∧ W.cell? ⟨s7 + 1, 2, none⟩ = some (.int .u32 0) ∧ W.cell? ⟨s7 + 1, 3, none⟩ = some (.int .i64 (1 + (k : Int))) ∧ W.cell? ⟨s7 + 1, 4, none⟩ = some (.string ⟨#[]⟩) ∧ W.cell? ⟨s7 + 1, 5, none⟩ = some (.slice (some ⟨s7, 0, none⟩) 1 1))) (HIA : Hid (∀ W, Below W8.heap.size W8 W → ∀ args r, IArgs q s7 k W args r → Calls Tryz.prog 34 args W fun o w' => o = .returned (.bool r) ∧ Below W8.heap.size W8 w')) :
    C.wp Tryz.prog (NormalIs fun a wx => Below W8.heap.size W8 wx ∧ ∃ (u114 u115 u116 u117 u118 u119 u120 u121 u122 u123 u124 u125 u126 u127 u128 u129 u130 u131 u132 u133 u134 u135 u136 u137 u138 u139 u140 u141 : Value), a = ⟨#[d0, d1, d2, d3, .bool true, .pointer (some ⟨bp, 0, none⟩), .int .i64 (1 + (k : Int)), .func (.func 31) #[] #[.pointer (some ⟨bp, 0, none⟩)], .pointer (some ⟨s7 + 1, 0, none⟩), d9, d10, d11, d12, d13, d14, d15, d16, d17, d18, d19, d20, d21, d22, d23, d24, d25, d26, d27, d28, d29, d30, d31, d32, d33, d34, d35, d36, d37, d38, d39, d40, d41, d42, d43, d44, d45, d46, d47, d48, d49, d50, d51, d52, d53, d54, d55, d56, d57, d58, d59, d60, d61, d62, d63, d64, d65, d66, d67, d68, d69, d70, d71, d72, d73, d74, d75, d76, d77, d78, d79, d80, d81, d82, d83, d84, d85, d86, d87, d88, d89, d90, d91, d92, d93, d94, d95, d96, d97, d98, d99, d100, d101, d102, d103, d104, d105, d106, d107, d108, d109, d110, d111, d112, d113, u114, u115, u116, u117, u118, u119, u120, u121, u122, u123, u124, u125, u126, u127, u128, u129, u130, u131, u132, u133, u134, u135, u136, u137, u138, u139, u140, u141], []⟩) ⟨#[d0, d1, d2, d3, d4, .pointer (some ⟨bp, 0, none⟩), .int .i64 (1 + (k : Int)), .func (.func 31) #[] #[.pointer (some ⟨bp, 0, none⟩)], .pointer (some ⟨s7 + 1, 0, none⟩), d9, d10, d11, d12, d13, d14, d15, d16, d17, d18, d19, d20, d21, d22, d23, d24, d25, d26, d27, d28, d29, d30, d31, d32, d33, d34, d35, d36, d37, d38, d39, d40, d41, d42, d43, d44, d45, d46, d47, d48, d49, d50, d51, d52, d53, d54, d55, d56, d57, d58, d59, d60, d61, d62, d63, d64, d65, d66, d67, d68, d69, d70, d71, d72, d73, d74, d75, d76, d77, d78, d79, d80, d81, d82, d83, d84, d85, d86, d87, d88, d89, d90, d91, d92, d93, d94, d95, d96, d97, d98, d99, d100, d101, d102, d103, d104, d105, d106, d107, d108, d109, d110, d111, d112, d113, d114, d115, d116, d117, d118, d119, d120, d121, d122, d123, d124, d125, d126, d127, d128, d129, d130, d131, d132, d133, d134, d135, d136, d137, d138, d139, d140, d141], []⟩ wr := by
  subst hC
  conv => arg 2; whnf
  conv => arg 4; dsimp only
  go_region_held3 (fun W => Below W8.heap.size W8 W ∧ IsRow W bp ∧ rowAt W bp = q.arr ∧ W.cell? ⟨s7 + 1, 0, none⟩ = some (.int .u8 8) ∧ W.cell? ⟨s7 + 1, 1, none⟩ = some (.int .u8 0) ∧ W.cell? ⟨s7 + 1, 2, none⟩ = some (.int .u32 0) ∧ W.cell? ⟨s7 + 1, 3, none⟩ = some (.int .i64 (1 + (k : Int))) ∧ W.cell? ⟨s7 + 1, 4, none⟩ = some (.string ⟨#[]⟩) ∧ W.cell? ⟨s7 + 1, 5, none⟩ = some (.slice (some ⟨s7, 0, none⟩) 1 1))
    ((refine HS9.out _ ?_; first | assumption | exact hbr.drew | exact Below.alloc (And.left (by assumption)) (Below.size (And.left (by assumption))) _))
    (first
      | (go_at_call 34; refine (HIA.out _ (And.left (by assumption)) _ _ (by first | with_reducible exact .h1 | with_reducible exact .h2 | with_reducible exact .h3 | with_reducible exact .h4 _ (World.alloc_heap_new _ _) | with_reducible exact .h5)).mono ?_; rintro e w9 ⟨rfl, hb10⟩)
      | (go_at_call 25; refine (lift_below (And.left (by assumption)) (name_exp _ _)).mono ?_; rintro e w9 ⟨rfl, hb10⟩)
      | fail)
  all_goals
    go_wp2_with fail
    exact NormalIs.mk ⟨And.left (by assumption), _, _, _, _, _, _, _, _, _, _, _, _, _, _, _, _, _, _, _, _, _, _, _, _, _, _, _, _, rfl⟩
end Go.Proofs.YthcboallnbaimaaGreatDoor
namespace Go.Proofs.YthcboallnbaimaaGreatDoor
open Go Go.RowKit Go.Maps
set_option maxRecDepth 1000000 in
set_option maxHeartbeats 16000000 in
theorem checkWiths_any (w : World) (hn0 : 0 < w.heap.size) (hmx : MxAt w) (lv : Sp) (len : Nat) (ls : List Int) (hlen : ls.length = min len 200) (hmax : len ≤ maxLen) (hcap : len ≤ lv.cap) (hcm : lv.cap ≤ maxLen) (hr : RowOf w.heap.size w lv 1 encU ls) (hb : ∀ x ∈ ls, 0 ≤ x ∧ x ≤ 255) (b : Int) (hb2 : 0 ≤ b ∧ b ≤ 255) :
    Calls Tryz.prog 8 #[.slice lv.at_ len lv.cap, .int .u8 b] w fun o w' => o = .returned (.bool true) ∧ Below w.heap.size w w' := by
  have HMX := Lib.hid hmx
  have HAW := Lib.hid (awake_any w hn0 hmx)
  have HMD := Lib.hid fun (w1 : World) (hb1 : Below w.heap.size w w1) => made_any w1 lv len ls hlen hmax hcap hcm ((hr.below hb1).more hb1.size) hb
  clear hmx hlen hmax hcap hcm hr hb
  go_enter Tryz.func8, Tryz.ntmps8
  go_wp2_with fail
  refine HAW.out.mono ?_
  clear HAW
  rintro o w1 ⟨rfl, hb1⟩
  have HB1 := Lib.hid hb1
  clear hb1
  go_wp2_with fail
  refine (HMD.out w1 HB1.out).mono ?_
  clear HMD
  rintro o w2 ⟨p, M, hasP, rfl, hmade, hstd, hnew, hb2'⟩
  have HH := Lib.hid hmade.toIsHead
  have HSTD := Lib.hid hstd
  have HRD := Lib.hid hnew.rd
  have HB2 := Lib.hid (HB1.out.trans (hb2'.mono HB1.out.size))
  clear hmade hstd hnew hb2' HB1
  go_upto_region 4 with (first
    | (refine wpList_allocRow (t := 39) rfl rfl (run_zeroP _) ?_)
    | (refine wpList_storeNew (t := 39) rfl _ _ rfl rfl rfl (arr_size _) rfl (arr_one _) ?_)
    | fail)
  have hbA : Below w2.heap.size w2 (w2.alloc (.cells p.arr 39)) := (Below.refl _ _).alloc (Nat.le_refl _) _
  have HX3 := Lib.hid (World.alloc_heap_new w2 (.cells p.arr 39))
  have HRD3 := Lib.hid (RdP.below HRD.out hbA)
  have HB3 := Lib.hid (HB2.out.trans (hbA.mono HB2.out.size))
  have hbp : w.heap.size ≤ w2.heap.size := HB2.out.size
  clear hbA HRD HB2
  generalize w2.alloc (.cells p.arr 39) = W3 at *
  generalize w2.heap.size = bp at *
  simp only [Act.put, List.setIfInBounds_toArray, List.set_cons_zero, List.set_cons_succ]
  have hlt3 : bp < W3.heap.size := (Array.getElem?_eq_some_iff.1 HX3.out).1
  have c13 := arr_cells HX3.out 13 (v := .slice p.rs.at_ p.procs.length p.rs.cap) rfl
  have c14 := arr_cells HX3.out 14 (v := .slice p.ws.at_ p.work.length p.ws.cap) rfl
  have c15 := arr_cells HX3.out 15 (v := .slice p.cs.at_ p.recover.length p.cs.cap) rfl
  have fX : ∀ j, W3.frozen? ⟨bp, j, none⟩ = false := fun j => by simp [World.frozen?, HX3.out]
  have f13 := fX 13
  have f14 := fX 14
  have f15 := fX 15
  clear fX
  go_upto_region 6 with fail
  clear c13 c14 c15 f13 f14 f15
  have hU : (((W3.setCell ⟨bp, 13, none⟩ (.slice (some ⟨W3.heap.size + 1, 0, none⟩) 1 1)).setCell ⟨bp, 14, none⟩ (.slice none 0 0)).setCell ⟨bp, 15, none⟩ (.slice none 0 0)).heap.size = W3.heap.size := by simp
  have hbU : Below bp W3 (((W3.setCell ⟨bp, 13, none⟩ (.slice (some ⟨W3.heap.size + 1, 0, none⟩) 1 1)).setCell ⟨bp, 14, none⟩ (.slice none 0 0)).setCell ⟨bp, 15, none⟩ (.slice none 0 0)) := (((Below.refl bp W3).setCell (p := ⟨bp, 13, none⟩) (Nat.le_refl _) _).setCell (p := ⟨bp, 14, none⟩) (Nat.le_refl _) _).setCell (p := ⟨bp, 15, none⟩) (Nat.le_refl _) _
  have hxU := withs_box (rs := ⟨some ⟨W3.heap.size + 1, 0, none⟩, 1⟩) (ps := ⟨some ⟨W3.heap.size, 0, none⟩, 1⟩) HX3.out
  obtain ⟨hd, hp, hs, hbUW⟩ := alloc2 (((W3.setCell ⟨bp, 13, none⟩ (.slice (some ⟨W3.heap.size + 1, 0, none⟩) 1 1)).setCell ⟨bp, 14, none⟩ (.slice none 0 0)).setCell ⟨bp, 15, none⟩ (.slice none 0 0)) (.cells #[.string ⟨#[120]⟩, .int .i64 5, .int .i64 0] 44) (.cells #[.string ⟨#[112]⟩, .slice (some ⟨W3.heap.size, 0, none⟩) 1 1, .slice none 0 0] 47)
  rw [hU] at hd hp hs hbUW
  have hx6 := (hbUW.block bp hlt3).trans hxU
  have hb36 := hbU.trans (hbUW.mono (Nat.le_of_lt hlt3))
  have HB6 := Lib.hid (HB3.out.trans (hb36.mono hbp))
  have HX6 := Lib.hid hx6
  have hrd0 := RdP.below HRD3.out hb36
  generalize (((((W3.setCell ⟨bp, 13, none⟩ (.slice (some ⟨W3.heap.size + 1, 0, none⟩) 1 1)).setCell ⟨bp, 14, none⟩ (.slice none 0 0)).setCell ⟨bp, 15, none⟩ (.slice none 0 0)).alloc (.cells #[.string ⟨#[120]⟩, .int .i64 5, .int .i64 0] 44)).alloc (.cells #[.string ⟨#[112]⟩, .slice (some ⟨W3.heap.size, 0, none⟩) 1 1, .slice none 0 0] 47)) = W6 at *
  generalize W3.heap.size = s3 at *
  have HRD6 := Lib.hid (withs_rd (rs := ⟨some ⟨s3 + 1, 0, none⟩, 1⟩) (ps := ⟨some ⟨s3, 0, none⟩, 1⟩) (hrd0.more (show bp ≤ W6.heap.size by omega)) (row_one (x := (⟨pB, ⟨some ⟨s3, 0, none⟩, 1⟩, [⟨xB, 5, 0⟩], Sp.none, []⟩ : ProcV)) hp) (row_one (x := (⟨xB, 5, 0⟩ : DeclV)) hd))
  have HN : Hid (nmOk M.N = true) := Lib.hid (by rw [HSTD.out]; decide)
  have HQ := Lib.hid (withs_head (rs := ⟨some ⟨s3 + 1, 0, none⟩, 1⟩) (ps := ⟨some ⟨s3, 0, none⟩, 1⟩) HH.out)
  have HF := Lib.hid (withs_fit (rs := ⟨some ⟨s3 + 1, 0, none⟩, 1⟩) (ps := ⟨some ⟨s3, 0, none⟩, 1⟩) HH.out HN.out)
  have HCP := Lib.hid (withs_right (rs := ⟨some ⟨s3 + 1, 0, none⟩, 1⟩) (ps := ⟨some ⟨s3, 0, none⟩, 1⟩) HH.out HN.out)
  have HXI := Lib.hid (x_in (p := p) (rs := ⟨some ⟨s3 + 1, 0, none⟩, 1⟩) (ps := ⟨some ⟨s3, 0, none⟩, 1⟩))
  have HIN : Hid (inside (withsP p ⟨some ⟨s3 + 1, 0, none⟩, 1⟩ ⟨some ⟨s3, 0, none⟩, 1⟩) 0 = ⟨0, [(xB, ⟨5, 5⟩)]⟩) := Lib.hid withs_in
  have HPR : Hid ((withsP p ⟨some ⟨s3 + 1, 0, none⟩, 1⟩ ⟨some ⟨s3, 0, none⟩, 1⟩).procs.length = 1) := Lib.hid rfl
  clear hU hbU hxU hd hp hs hbUW hx6 hb36 hrd0 HX3 HRD3 HB3 hlt3 HH
  generalize withsP p ⟨some ⟨s3 + 1, 0, none⟩, 1⟩ ⟨some ⟨s3, 0, none⟩, 1⟩ = q at *
  have HRT := Lib.hid (right_any W6 q HRD6.out (Nat.lt_of_lt_of_le hn0 HB6.out.size) HF.out.names HF.out.weight (HMX.out.below HB6.out hn0))
  rw [HCP.out, show decide (((0 : Int), (0 : Int)).2 = 0) = true from rfl] at HRT
  go_wp2_with (first | (refine wpList_load_row rfl 39 _ rfl bp rfl 39 _ (0, 0) _ HX6.out Tryz.underlying39 rfl (arr_size _) ?_) | fail)
  refine HRT.out.mono ?_
  clear HRT
  rintro o W7 ⟨rfl, hb7⟩
  have HX7 := Lib.hid ((hb7.block bp (Array.getElem?_eq_some_iff.1 HX6.out).1).trans HX6.out)
  have HRD7 := Lib.hid (HRD6.out.on hb7)
  have HB7 := Lib.hid (HB6.out.trans (hb7.mono HB6.out.size))
  clear hb7 HX6 HRD6 HB6
  obtain ⟨k, hk, hk16⟩ : ∃ k : Nat, b.tmod 16 = (k : Int) ∧ k < 16 := by
    have h1 := Int.emod_nonneg b (show (16 : Int) ≠ 0 by omega)
    have h2 := Int.emod_lt_of_pos b (show (0 : Int) < 16 by omega)
    obtain ⟨i, hi⟩ := Int.eq_ofNat_of_zero_le h1
    exact ⟨i, by rw [Int.tmod_eq_emod_of_nonneg hb2.1, hi], by omega⟩
  have hkI : (k : Int) ≤ 15 := by omega
  obtain ⟨i0, i1, i2, i3, i4, i5⟩ : W7.cell? ⟨bp, 16, none⟩ = some (.int .u8 q.invariant.kind) ∧ W7.cell? ⟨bp, 17, none⟩ = some (.int .u8 q.invariant.op) ∧ W7.cell? ⟨bp, 18, none⟩ = some (.int .u32 q.invariant.value) ∧ W7.cell? ⟨bp, 19, none⟩ = some (.int .i64 q.invariant.width) ∧ W7.cell? ⟨bp, 20, none⟩ = some (.string q.invariant.name) ∧ W7.cell? ⟨bp, 21, none⟩ = some (.slice q.invariant.sp.at_ q.invariant.subs.length q.invariant.sp.cap) :=
    ⟨arr_cells HX7.out 16 rfl, arr_cells HX7.out 17 rfl, arr_cells HX7.out 18 rfl, arr_cells HX7.out 19 rfl, arr_cells HX7.out 20 rfl, arr_cells HX7.out 21 rfl⟩
  have hlt7 : bp < W7.heap.size := (Array.getElem?_eq_some_iff.1 HX7.out).1
  clear hb2
  go_upto_region 11 with fail
  clear hk
  obtain ⟨hxs, hxc, hs8, hb8⟩ := alloc2 W7 (.cells #[.int .u8 q.invariant.kind, .int .u8 q.invariant.op, .int .u32 q.invariant.value, .int .i64 q.invariant.width, .string q.invariant.name, .slice q.invariant.sp.at_ q.invariant.subs.length q.invariant.sp.cap] 34) (.cells #[.int .u8 8, .int .u8 0, .int .u32 0, .int .i64 (1 + (k : Int)), .string ⟨#[]⟩, .slice (some ⟨W7.heap.size, 0, none⟩) 1 1] 34)
  have HX8 := Lib.hid ((hb8.block bp hlt7).trans HX7.out)
  have HRD8 := Lib.hid (HRD7.out.on hb8)
  have HB8 := Lib.hid (HB7.out.trans (hb8.mono HB7.out.size))
  have hcn := one_now (a := q.invariant) (k := 8) (op := 0) (v := 0) (wd := 1 + (k : Int)) (nm := ⟨#[]⟩) hxs (show NowX _ _ from HRD8.out.invariant) (by decide) (by decide) (by decide) (wf_width hk16) (by decide)
  have HC8 := Lib.hid hxc
  have HCN := Lib.hid (show NowX _ (castX (1 + (k : Int)) q.invariant ⟨some ⟨W7.heap.size, 0, none⟩, 1⟩) from hcn)
  have HWX := Lib.hid (cast_wx (w := 1 + (k : Int)) (sp := ⟨some ⟨W7.heap.size, 0, none⟩, 1⟩) HQ.out ⟨by omega, by omega⟩)
  have hbp8 : bp < ((W7.alloc (.cells #[.int .u8 q.invariant.kind, .int .u8 q.invariant.op, .int .u32 q.invariant.value, .int .i64 q.invariant.width, .string q.invariant.name, .slice q.invariant.sp.at_ q.invariant.subs.length q.invariant.sp.cap] 34)).alloc (.cells #[.int .u8 8, .int .u8 0, .int .u32 0, .int .i64 (1 + (k : Int)), .string ⟨#[]⟩, .slice (some ⟨W7.heap.size, 0, none⟩) 1 1] 34)).heap.size := by omega
  have hs78 : W7.heap.size + 1 < ((W7.alloc (.cells #[.int .u8 q.invariant.kind, .int .u8 q.invariant.op, .int .u32 q.invariant.value, .int .i64 q.invariant.width, .string q.invariant.name, .slice q.invariant.sp.at_ q.invariant.subs.length q.invariant.sp.cap] 34)).alloc (.cells #[.int .u8 8, .int .u8 0, .int .u32 0, .int .i64 (1 + (k : Int)), .string ⟨#[]⟩, .slice (some ⟨W7.heap.size, 0, none⟩) 1 1] 34)).heap.size := by omega
  clear hxs hxc hs8 hb8 hcn HX7 HRD7 HB7 hlt7 i0 i1 i2 i3 i4 i5
  generalize (W7.alloc (.cells #[.int .u8 q.invariant.kind, .int .u8 q.invariant.op, .int .u32 q.invariant.value, .int .i64 q.invariant.width, .string q.invariant.name, .slice q.invariant.sp.at_ q.invariant.subs.length q.invariant.sp.cap] 34)).alloc (.cells #[.int .u8 8, .int .u8 0, .int .u32 0, .int .i64 (1 + (k : Int)), .string ⟨#[]⟩, .slice (some ⟨W7.heap.size, 0, none⟩) 1 1] 34) = W8 at *
  generalize W7.heap.size = s7 at *
  have HS8 : Hid (∀ W, Below W8.heap.size W8 W → Below W8.heap.size W8 W ∧ W.cell? ⟨bp, 1, none⟩ = some (.int .i64 q.width) ∧ W.cell? ⟨bp, 16, none⟩ = some (.int .u8 q.invariant.kind) ∧ W.cell? ⟨bp, 17, none⟩ = some (.int .u8 q.invariant.op) ∧ W.cell? ⟨bp, 18, none⟩ = some (.int .u32 q.invariant.value) ∧ W.cell? ⟨bp, 19, none⟩ = some (.int .i64 q.invariant.width) ∧ W.cell? ⟨bp, 20, none⟩ = some (.string q.invariant.name) ∧ W.cell? ⟨bp, 21, none⟩ = some (.slice q.invariant.sp.at_ q.invariant.subs.length q.invariant.sp.cap) ∧ W.cell? ⟨s7 + 1, 0, none⟩ = some (.int .u8 8) ∧ W.cell? ⟨s7 + 1, 1, none⟩ = some (.int .u8 0) ∧ W.cell? ⟨s7 + 1, 2, none⟩ = some (.int .u32 0) ∧ W.cell? ⟨s7 + 1, 3, none⟩ = some (.int .i64 (1 + (k : Int))) ∧ W.cell? ⟨s7 + 1, 4, none⟩ = some (.string ⟨#[]⟩) ∧ W.cell? ⟨s7 + 1, 5, none⟩ = some (.slice (some ⟨s7, 0, none⟩) 1 1)) := Lib.hid fun W hW => by
    have hx := (hW.block bp hbp8).trans HX8.out
    obtain ⟨z0, z1, z2, z3, z4, z5⟩ := six_cells ((hW.block (s7 + 1) hs78).trans HC8.out)
    exact ⟨hW, arr_cells hx 1 rfl, arr_cells hx 16 rfl, arr_cells hx 17 rfl, arr_cells hx 18 rfl, arr_cells hx 19 rfl, arr_cells hx 20 rfl, arr_cells hx 21 rfl, z0, z1, z2, z3, z4, z5⟩
  have HBOX : Hid (∀ W, Below W8.heap.size W8 W → W.heap[bp]? = some (.cells q.arr 39 (0, 0)) ∧ RdP W.heap.size W q ∧ NowX W (castX (1 + (k : Int)) q.invariant ⟨some ⟨s7, 0, none⟩, 1⟩)) := Lib.hid fun W hW => ⟨(hW.block bp hbp8).trans HX8.out, HRD8.out.on hW, NowX.on HCN.out hW⟩
  have hfi : q.invariant.pre.length ≤ 40 := HQ.out.invariant.few
  have hfc : (castX (1 + (k : Int)) q.invariant ⟨some ⟨s7, 0, none⟩, 1⟩).pre.length ≤ 41 := pre_one hfi
  have H1 : Hid (∀ W, Below W8.heap.size W8 W → Calls Tryz.prog 31 #[.int .i64 (-1), .agg #[.int .u8 8, .int .u8 0, .int .u32 0, .int .i64 (1 + (k : Int)), .string ⟨#[]⟩, .slice (some ⟨s7, 0, none⟩) 1 1], .int .i64 (1 + (k : Int)), .pointer (some ⟨bp, 0, none⟩)] W fun o w' => o = .returned (.bool true) ∧ Below W8.heap.size W8 w') := Lib.hid fun W hW => lift_below hW <| is_out W q bp (castX (1 + (k : Int)) q.invariant ⟨some ⟨s7, 0, none⟩, 1⟩) (1 + (k : Int)) (HBOX.out W hW).1 (HBOX.out W hW).2.1 HF.out (HBOX.out W hW).2.2 (Nat.le_trans hfc (by decide)) (HWX.out.width HQ.out.ok (env_out HQ.out HN.out (-1))).1
  have H2 : Hid (∀ W, Below W8.heap.size W8 W → Calls Tryz.prog 31 #[.int .i64 0, .agg #[.int .u8 q.invariant.kind, .int .u8 q.invariant.op, .int .u32 q.invariant.value, .int .i64 q.invariant.width, .string q.invariant.name, .slice q.invariant.sp.at_ q.invariant.subs.length q.invariant.sp.cap], .int .i64 1, .pointer (some ⟨bp, 0, none⟩)] W fun o w' => o = .returned (.bool true) ∧ Below W8.heap.size W8 w') := Lib.hid fun W hW => lift_below hW <| is_in W q bp q.invariant 1 (HBOX.out W hW).1 (HBOX.out W hW).2.1 HF.out (HBOX.out W hW).2.1.invariant (Nat.le_trans hfi (by decide)) (by rw [HPR.out]; decide) (by rw [HIN.out]; exact (HQ.out.invariant.width HQ.out.ok (env_par HQ.out HN.out)).1)
  have H3 : Hid (∀ W, Below W8.heap.size W8 W → ∀ b3, W.heap[b3]? = some (.cells #[.int .u8 8, .int .u8 0, .int .u32 0, .int .i64 (1 + (k : Int)), .string ⟨#[]⟩, .slice (some ⟨s7, 0, none⟩) 1 1] 34 (0, 0)) → Calls Tryz.prog 31 #[.int .i64 (-1), .agg #[.int .u8 4, .int .u8 0, .int .u32 0, .int .i64 0, .string ⟨#[]⟩, .slice (some ⟨b3, 0, none⟩) 1 1], .int .i64 q.width, .pointer (some ⟨bp, 0, none⟩)] W fun o w' => o = .returned (.bool true) ∧ Below W8.heap.size W8 w') := Lib.hid fun W hW b3 h3 => lift_below hW <| is_out W q bp (diskX (castX (1 + (k : Int)) q.invariant ⟨some ⟨s7, 0, none⟩, 1⟩) ⟨some ⟨b3, 0, none⟩, 1⟩) _ (HBOX.out W hW).1 (HBOX.out W hW).2.1 HF.out (one_now h3 (HBOX.out W hW).2.2 (by decide) (by decide) (by decide) (by decide) (by decide)) (Nat.le_trans (pre_one hfc) (by decide)) (disk_width HQ.out)
  have H4 : Hid (∀ W, Below W8.heap.size W8 W → Calls Tryz.prog 31 #[.int .i64 0, .agg #[.int .u8 2, .int .u8 0, .int .u32 0, .int .i64 0, .string ⟨#[120]⟩, .slice none 0 0], .int .i64 5, .pointer (some ⟨bp, 0, none⟩)] W fun o w' => o = .returned (.bool true) ∧ Below W8.heap.size W8 w') := Lib.hid fun W hW => lift_below hW <| is_in W q bp (nameE xB) 5 (HBOX.out W hW).1 (HBOX.out W hW).2.1 HF.out (name_now _ _ (by decide)) (name_few _) (by rw [HPR.out]; decide) HXI.out
  have H5 : Hid (∀ W, Below W8.heap.size W8 W → Calls Tryz.prog 31 #[.int .i64 (-1), .agg #[.int .u8 2, .int .u8 0, .int .u32 0, .int .i64 0, .string ⟨#[120]⟩, .slice none 0 0], .int .i64 0, .pointer (some ⟨bp, 0, none⟩)] W fun o w' => o = .returned (.bool true) ∧ Below W8.heap.size W8 w') := Lib.hid fun W hW => lift_below hW <| is_out W q bp (nameE xB) 0 (HBOX.out W hW).1 (HBOX.out W hW).2.1 HF.out (name_now _ _ (by decide)) (name_few _) (x_out HQ.out HN.out)
  have H6 : Hid (∀ W, Below W8.heap.size W8 W → Calls Tryz.prog 31 #[.int .i64 1, .agg #[.int .u8 2, .int .u8 0, .int .u32 0, .int .i64 0, .string ⟨#[118]⟩, .slice none 0 0], .int .i64 0, .pointer (some ⟨bp, 0, none⟩)] W fun o w' => o = .returned (.bool true) ∧ Below W8.heap.size W8 w') := Lib.hid fun W hW => lift_below hW <| is_no W q bp (nameE ⟨#[118]⟩) (HBOX.out W hW).1 (by rw [HPR.out]; decide)
  have H7 : Hid (∀ W, Below W8.heap.size W8 W → Calls Tryz.prog 31 #[.int .i64 (-1), .agg #[.int .u8 2, .int .u8 0, .int .u32 0, .int .i64 0, .string ⟨#[118]⟩, .slice none 0 0], .int .i64 q.width, .pointer (some ⟨bp, 0, none⟩)] W fun o w' => o = .returned (.bool true) ∧ Below W8.heap.size W8 w') := Lib.hid fun W hW => lift_below hW <| is_out W q bp (nameE ⟨#[118]⟩) q.width (HBOX.out W hW).1 (HBOX.out W hW).2.1 HF.out (name_now _ _ (by decide)) (name_few _) (by have h := v_out HQ.out HN.out; rw [HSTD.out] at h; exact h)
  have H8 : Hid (∀ W, Below W8.heap.size W8 W → Calls Tryz.prog 31 #[.int .i64 (-1), .agg #[.int .u8 2, .int .u8 0, .int .u32 0, .int .i64 0, .string ⟨#[97]⟩, .slice none 0 0], .int .i64 0, .pointer (some ⟨bp, 0, none⟩)] W fun o w' => o = .returned (.bool true) ∧ Below W8.heap.size W8 w') := Lib.hid fun W hW => lift_below hW <| is_out W q bp (nameE ⟨#[97]⟩) 0 (HBOX.out W hW).1 (HBOX.out W hW).2.1 HF.out (name_now _ _ (by decide)) (name_few _) (by have h := a_out HQ.out HN.out; rw [HSTD.out] at h; exact h)
  have HALL : Hid (∀ W, Below W8.heap.size W8 W → ∀ args, WArgs q bp s7 k W args → Calls Tryz.prog 31 args W fun o w' => o = .returned (.bool true) ∧ Below W8.heap.size W8 w') := Lib.hid fun W hW args h => by
    cases h with
    | h1 => exact H1.out W hW
    | h2 => exact H2.out W hW
    | h3 b3 hb => exact H3.out W hW b3 hb
    | h4 => exact H4.out W hW
    | h5 => exact H5.out W hW
    | h6 => exact H6.out W hW
    | h7 => exact H7.out W hW
    | h8 => exact H8.out W hW
  clear H1 H2 H3 H4 H5 H6 H7 H8
  refine Code.wp_mono ?_ (withs11 _ (by kernel_rfl) q bp s7 k W8 HS8 HALL)
  intro e a9 wx h
  cases e with
  | normal =>
    obtain ⟨hbx, u36, u37, u38, u39, u40, u41, u42, u43, u44, u45, u46, u47, u48, u49, u50, u51, u52, u53, u54, u55, u56, u57, u58, u59, u60, u61, u62, u63, u64, u65, u66, u67, u68, u69, u70, u71, u72, u73, u74, u75, u76, u77, u78, u79, u80, u81, u82, u83, u84, u85, u86, u87, u88, rfl⟩ := (show _ ∧ _ from h)
    dsimp only
    have HBX := Lib.hid hbx
    clear hbx HALL
    have HIV : Hid (∀ W, Below W8.heap.size W8 W → ∀ e : ExprV, NowX W e → e.pre.length ≤ 20000 → ∀ r : Bool, decide (probs (exprC q outside 2 e 1) 0 = []) = r → Calls Tryz.prog 34 #[.agg q.arr, .agg #[.int .u8 e.kind, .int .u8 e.op, .int .u32 e.value, .int .i64 e.width, .string e.name, .slice e.sp.at_ e.subs.length e.sp.cap]] W fun o w' => o = .returned (.bool r) ∧ Below W.heap.size W w') := Lib.hid fun W hW e he hel r hr => by
      have hb := hW
      have h := invariant_any W q e (Nat.lt_of_lt_of_le hn0 ((HB8.out.trans (hW.mono HB8.out.size)).size)) (HBOX.out W hW).2.1 he HF.out.names HF.out.weight (HMX.out.below (HB8.out.trans (hW.mono HB8.out.size)) hn0) (by rw [HCP.out]) hel
      rw [hr] at h
      exact h
    have HIS : Hid (∀ W, Below W8.heap.size W8 W → ∀ (e : ExprV) (want : Int), NowX W e → e.pre.length ≤ 20000 → widthE q (inside q 0) e = want → Calls Tryz.prog 31 #[.int .i64 0, .agg #[.int .u8 e.kind, .int .u8 e.op, .int .u32 e.value, .int .i64 e.width, .string e.name, .slice e.sp.at_ e.subs.length e.sp.cap], .int .i64 want, .pointer (some ⟨bp, 0, none⟩)] W fun o w' => o = .returned (.bool true) ∧ Below W.heap.size W w') := Lib.hid fun W hW e want he hel hw =>
      (is_in W q bp e want (HBOX.out W hW).1 (HBOX.out W hW).2.1 HF.out he hel (by rw [HPR.out]; decide) hw)
    go_wp2_with fail
    go_loopw [90] (fun s90 wr => ∃ j, j ≤ 14 ∧ s90 = .int .i64 (j : Nat) ∧ Below W8.heap.size W8 wr) (fun s90 _ => 14 - (intOf s90).toNat)
    case atStart => exact ⟨0, by omega, rfl, HBX.out⟩
    case round =>
      obtain ⟨j, hj, rfl, hbr⟩ := hrel
      have HBR := Lib.hid hbr
      clear hbr HBX
      by_cases hlt : j < 14
      · obtain ⟨-, -, -, -, -, -, -, -, z0, z1, z2, z3, z4, z5⟩ := HS8.out wr HBR.out
        have hj13 : (j : Int) ≤ 13 := by omega
        have hw8 : IntKind.u8.wrap (j : Int) = j := by unfold IntKind.wrap; simp [IntKind.signed, IntKind.bits]; omega
        have hw3 : IntKind.u8.wrap (3 + (j : Int)) = 3 + j := by unfold IntKind.wrap; simp [IntKind.signed, IntKind.bits]; omega
        have HBIN : Hid (Calls Tryz.prog 33 #[.int .u8 (3 + (j : Int)), .agg #[.int .u8 8, .int .u8 0, .int .u32 0, .int .i64 (1 + (k : Int)), .string ⟨#[]⟩, .slice (some ⟨s7, 0, none⟩) 1 1], .agg #[.int .u8 8, .int .u8 0, .int .u32 0, .int .i64 (1 + (k : Int)), .string ⟨#[]⟩, .slice (some ⟨s7, 0, none⟩) 1 1]] wr fun o w' => ∃ sp : Sp, o = .returned (.agg #[.int .u8 6, .int .u8 (3 + (j : Int)), .int .u32 0, .int .i64 0, .string ⟨#[]⟩, .slice sp.at_ 2 sp.cap]) ∧ NowX w' (binX (3 + (j : Int)) (castX (1 + (k : Int)) q.invariant ⟨some ⟨s7, 0, none⟩, 1⟩) (castX (1 + (k : Int)) q.invariant ⟨some ⟨s7, 0, none⟩, 1⟩) sp) ∧ Below wr.heap.size wr w') := Lib.hid (binary_any (3 + (j : Int)) ⟨by omega, by omega⟩ _ _ wr (HBOX.out wr HBR.out).2.2 (HBOX.out wr HBR.out).2.2)
        go_wp2_with fail
        refine HBIN.out.mono ?_
        clear HBIN z0 z1 z2 z3 z4 z5
        rintro o w9 ⟨sp, rfl, hnx, hb9⟩
        have hb9w := HBR.out.trans (hb9.mono HBR.out.size)
        have hbE : Below w9.heap.size w9 (w9.alloc (.cells #[.int .u8 6, .int .u8 (3 + (j : Int)), .int .u32 0, .int .i64 0, .string ⟨#[]⟩, .slice sp.at_ 2 sp.cap] 34)) := (Below.refl _ _).alloc (Nat.le_refl _) _
        have HB10 := Lib.hid (hb9w.trans (hbE.mono hb9w.size))
        have HX10 := Lib.hid (World.alloc_heap_new w9 (.cells #[.int .u8 6, .int .u8 (3 + (j : Int)), .int .u32 0, .int .i64 0, .string ⟨#[]⟩, .slice sp.at_ 2 sp.cap] 34))
        have HE10 := Lib.hid (NowX.on hnx hbE)
        have HWB := Lib.hid (bin_wx (sp := sp) HWX.out HWX.out (show 3 ≤ 3 + (j : Int) ∧ 3 + (j : Int) ≤ 16 by omega))
        have HEL := Lib.hid (Nat.le_trans HWB.out.few (show xsN 5 ≤ 20000 by decide))
        obtain ⟨y0, y1, y2, y3, y4, y5⟩ := six_cells HX10.out
        have hw9 : wr.heap.size ≤ w9.heap.size := hb9.size
        clear hnx hb9 hb9w hbE HBR
        go_upto_region 17 with fail
        generalize w9.alloc (.cells #[.int .u8 6, .int .u8 (3 + (j : Int)), .int .u32 0, .int .i64 0, .string ⟨#[]⟩, .slice sp.at_ 2 sp.cap] 34) = W10 at *
        generalize w9.heap.size = s9 at *
        have HINV : Hid (decide (probs (exprC q outside 2 (binX (3 + (j : Int)) (castX (1 + (k : Int)) q.invariant ⟨some ⟨s7, 0, none⟩, 1⟩) (castX (1 + (k : Int)) q.invariant ⟨some ⟨s7, 0, none⟩, 1⟩) sp) 1) 0 = []) = true) := Lib.hid (decide_eq_true (inv_wx HQ.out HN.out HWB.out (by decide)))
        by_cases hj10 : 10 ≤ j
        · have hd : decide ((j : Int) ≥ 10) = true := decide_eq_true (by omega)
          have hd2 : decide ((10 : Int) ≤ (j : Int)) = true := decide_eq_true (by omega)
          have HWD : Hid ((if 13 ≤ 3 + (j : Int) then (1 : Int) else 1 + (k : Int)) = 1) := Lib.hid (if_pos (by omega))
          have HC31 : Hid (Calls Tryz.prog 31 #[.int .i64 0, .agg #[.int .u8 6, .int .u8 (3 + (j : Int)), .int .u32 0, .int .i64 0, .string ⟨#[]⟩, .slice sp.at_ 2 sp.cap], .int .i64 (1), .pointer (some ⟨bp, 0, none⟩)] W10 fun o w' => o = .returned (.bool true) ∧ Below W10.heap.size W10 w') := Lib.hid (HIS.out W10 HB10.out (binX (3 + (j : Int)) (castX (1 + (k : Int)) q.invariant ⟨some ⟨s7, 0, none⟩, 1⟩) (castX (1 + (k : Int)) q.invariant ⟨some ⟨s7, 0, none⟩, 1⟩) sp) _ HE10.out HEL.out (by rw [HIN.out, (HWB.out.width HQ.out.ok (env_par HQ.out HN.out)).1]; exact HWD.out))
          go_wp2_with fail
          refine HC31.out.mono ?_
          clear HC31 hd hd2 y0 y1 y2 y3 y4 y5 hj10
          rintro o w11 ⟨rfl, hb11⟩
          obtain ⟨y0, y1, y2, y3, y4, y5⟩ := six_cells ((hb11.block _ (Array.getElem?_eq_some_iff.1 HX10.out).1).trans HX10.out)
          have HB11 := Lib.hid (HB10.out.trans (hb11.mono HB10.out.size))
          have HBP := Lib.hid (HBOX.out w11 HB11.out).1
          have HC34 : Hid (Calls Tryz.prog 34 #[.agg q.arr, .agg #[.int .u8 6, .int .u8 (3 + (j : Int)), .int .u32 0, .int .i64 0, .string ⟨#[]⟩, .slice sp.at_ 2 sp.cap]] w11 fun o w' => o = .returned (.bool true) ∧ Below w11.heap.size w11 w') := Lib.hid (HIV.out w11 HB11.out (binX (3 + (j : Int)) (castX (1 + (k : Int)) q.invariant ⟨some ⟨s7, 0, none⟩, 1⟩) (castX (1 + (k : Int)) q.invariant ⟨some ⟨s7, 0, none⟩, 1⟩) sp) (NowX.on HE10.out hb11) HEL.out true HINV.out)
          clear hb11 HB10 HX10 HE10 HEL HWB HINV HWD
          go_wp2_with (first | (refine wpList_load_row_g (by rfl) 39 _ rfl bp rfl 39 _ (0, 0) _ HBP.out Tryz.underlying39 rfl (arr_size _) ?_) | fail)
          refine HC34.out.mono ?_
          clear HC34
          rintro o w12 ⟨rfl, hb12⟩
          have HB12 := Lib.hid (HB11.out.trans (hb12.mono HB11.out.size))
          clear hb12 HB11 HBP y0 y1 y2 y3 y4 y5
          go_wp2_with fail
          exact ⟨⟨j + 1, by omega, rfl, HB12.out⟩, by simp only [intOf]; omega⟩
        · have hd : decide ((j : Int) ≥ 10) = false := decide_eq_false (by omega)
          have hd2 : decide ((10 : Int) ≤ (j : Int)) = false := decide_eq_false (by omega)
          have HWD : Hid ((if 13 ≤ 3 + (j : Int) then (1 : Int) else 1 + (k : Int)) = 1 + (k : Int)) := Lib.hid (if_neg (by omega))
          have HC31 : Hid (Calls Tryz.prog 31 #[.int .i64 0, .agg #[.int .u8 6, .int .u8 (3 + (j : Int)), .int .u32 0, .int .i64 0, .string ⟨#[]⟩, .slice sp.at_ 2 sp.cap], .int .i64 (1 + (k : Int)), .pointer (some ⟨bp, 0, none⟩)] W10 fun o w' => o = .returned (.bool true) ∧ Below W10.heap.size W10 w') := Lib.hid (HIS.out W10 HB10.out (binX (3 + (j : Int)) (castX (1 + (k : Int)) q.invariant ⟨some ⟨s7, 0, none⟩, 1⟩) (castX (1 + (k : Int)) q.invariant ⟨some ⟨s7, 0, none⟩, 1⟩) sp) _ HE10.out HEL.out (by rw [HIN.out, (HWB.out.width HQ.out.ok (env_par HQ.out HN.out)).1]; exact HWD.out))
          go_wp2_with fail
          refine HC31.out.mono ?_
          clear HC31 hd hd2 y0 y1 y2 y3 y4 y5 hj10
          rintro o w11 ⟨rfl, hb11⟩
          obtain ⟨y0, y1, y2, y3, y4, y5⟩ := six_cells ((hb11.block _ (Array.getElem?_eq_some_iff.1 HX10.out).1).trans HX10.out)
          have HB11 := Lib.hid (HB10.out.trans (hb11.mono HB10.out.size))
          have HBP := Lib.hid (HBOX.out w11 HB11.out).1
          have HC34 : Hid (Calls Tryz.prog 34 #[.agg q.arr, .agg #[.int .u8 6, .int .u8 (3 + (j : Int)), .int .u32 0, .int .i64 0, .string ⟨#[]⟩, .slice sp.at_ 2 sp.cap]] w11 fun o w' => o = .returned (.bool true) ∧ Below w11.heap.size w11 w') := Lib.hid (HIV.out w11 HB11.out (binX (3 + (j : Int)) (castX (1 + (k : Int)) q.invariant ⟨some ⟨s7, 0, none⟩, 1⟩) (castX (1 + (k : Int)) q.invariant ⟨some ⟨s7, 0, none⟩, 1⟩) sp) (NowX.on HE10.out hb11) HEL.out true HINV.out)
          clear hb11 HB10 HX10 HE10 HEL HWB HINV HWD
          go_wp2_with (first | (refine wpList_load_row_g (by rfl) 39 _ rfl bp rfl 39 _ (0, 0) _ HBP.out Tryz.underlying39 rfl (arr_size _) ?_) | fail)
          refine HC34.out.mono ?_
          clear HC34
          rintro o w12 ⟨rfl, hb12⟩
          have HB12 := Lib.hid (HB11.out.trans (hb12.mono HB11.out.size))
          clear hb12 HB11 HBP y0 y1 y2 y3 y4 y5
          go_wp2_with fail
          exact ⟨⟨j + 1, by omega, rfl, HB12.out⟩, by simp only [intOf]; omega⟩
      · obtain rfl : j = 14 := by omega
        clear hlt hj HIS
        have HS9 : Hid (∀ W, Below W8.heap.size W8 W → Below W8.heap.size W8 W ∧ IsRow W bp ∧ rowAt W bp = q.arr ∧ W.cell? ⟨s7 + 1, 0, none⟩ = some (.int .u8 8) ∧ W.cell? ⟨s7 + 1, 1, none⟩ = some (.int .u8 0) ∧ W.cell? ⟨s7 + 1, 2, none⟩ = some (.int .u32 0) ∧ W.cell? ⟨s7 + 1, 3, none⟩ = some (.int .i64 (1 + (k : Int))) ∧ W.cell? ⟨s7 + 1, 4, none⟩ = some (.string ⟨#[]⟩) ∧ W.cell? ⟨s7 + 1, 5, none⟩ = some (.slice (some ⟨s7, 0, none⟩) 1 1)) := Lib.hid fun W hW => by
          obtain ⟨-, -, -, -, -, -, -, -, z0, z1, z2, z3, z4, z5⟩ := HS8.out W hW
          have hx := (HBOX.out W hW).1
          exact ⟨hW, ⟨_, hx, arr_size q⟩, rowAt_of hx, z0, z1, z2, z3, z4, z5⟩
        have HIA : Hid (∀ W, Below W8.heap.size W8 W → ∀ args r, IArgs q s7 k W args r → Calls Tryz.prog 34 args W fun o w' => o = .returned (.bool r) ∧ Below W8.heap.size W8 w') := Lib.hid fun W hW args r h => by
          cases h with
          | h1 => exact lift_below hW (HIV.out W hW (castX (1 + (k : Int)) q.invariant ⟨some ⟨s7, 0, none⟩, 1⟩) (HBOX.out W hW).2.2 (Nat.le_trans hfc (by decide)) true (decide_eq_true (inv_wx HQ.out HN.out HWX.out (by decide))))
          | h2 => exact lift_below hW (HIV.out W hW (nameE ⟨#[118]⟩) (name_now _ _ (by decide)) (name_few _) false (decide_eq_false (by have h := inv_v HQ.out HN.out; rw [HSTD.out] at h; exact h)))
          | h3 => exact lift_below hW (HIV.out W hW (nameE xB) (name_now _ _ (by decide)) (name_few _) false (decide_eq_false (inv_x HQ.out HN.out)))
          | h4 b3 hb => exact lift_below hW (HIV.out W hW (elemX ⟨#[97]⟩ (castX (1 + (k : Int)) q.invariant ⟨some ⟨s7, 0, none⟩, 1⟩) ⟨some ⟨b3, 0, none⟩, 1⟩) (one_now hb (HBOX.out W hW).2.2 (by decide) (by decide) (by decide) (by decide) (by decide)) (Nat.le_trans (pre_one hfc) (by decide)) false (decide_eq_false (by have h := inv_a (a := castX (1 + (k : Int)) q.invariant ⟨some ⟨s7, 0, none⟩, 1⟩) (sp := ⟨some ⟨b3, 0, none⟩, 1⟩) HQ.out HN.out; rw [HSTD.out] at h; exact h)))
          | h5 => exact lift_below hW (HIV.out W hW (nameE ⟨#[103]⟩) (name_now _ _ (by decide)) (name_few _) true (decide_eq_true (by have h := inv_g HQ.out HN.out; rw [HSTD.out] at h; exact h)))
        clear HIV
        go_upto_region 23 with fail
        refine Code.wp_mono ?_ (withs23 _ (by kernel_rfl) q bp s7 k W8 wr HBR.out HS9 HIA)
        intro e a9 wx h
        cases e with
        | normal =>
          obtain ⟨hbx, u114, u115, u116, u117, u118, u119, u120, u121, u122, u123, u124, u125, u126, u127, u128, u129, u130, u131, u132, u133, u134, u135, u136, u137, u138, u139, u140, u141, rfl⟩ := (show _ ∧ _ from h)
          dsimp only
          go_wp2_with fail
          go_ret
          exact ⟨rfl, HB8.out.trans (hbx.mono HB8.out.size)⟩
        | _ => exact h.elim
  | _ => exact h.elim
end Go.Proofs.YthcboallnbaimaaGreatDoor
