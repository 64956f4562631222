/- CheckCalls: a way in which p.Procs[i].Body = append(..) is read, walked for any frame (the index is taken late). CheckCalls: a way in which p.Procs[i].Body = append(..) is read, walked for any frame (the call first, or last). Chapter 32's law CheckCalls, walked. -/
import Derived.Test.YthcboallnbaimaaGreatDoorCallsM
namespace Go.Proofs.YthcboallnbaimaaGreatDoor
open Go Go.RowKit Go.Maps
set_option maxRecDepth 10000000 in
set_option maxHeartbeats 64000000 in
theorem condA (C : Code) (hC : C = cond65) {d0 d1 d2 d3 d4 d5 d6 d7 d9 d10 d13 d14 d15 d16 d17 d18 d19 d20 d21 d22 d23 d24 d25 d26 d27 d28 d29 d30 d31 d32 d33 d34 d35 d36 d37 d38 d39 d40 d41 d42 d43 d44 d45 d46 d47 d48 d49 d50 d51 d52 d53 d54 d55 d56 d57 d58 d59 d60 d61 d62 d63 d64 d66 d67 d68 d69 d70 d71 d72 d73 d74 d75 d76 d77 d78 d79 d80 d81 d82 d83 d84 d85 d86 d87 d88 d89 d90 d91 d92 d93 d94 d95 d96 d97 d98 d99 d100 d101 d102 d103 d104 d105 d106 d107 d108 d109 d110 d111 d112 d113 d114 d115 d116 d117 d118 d119 d120 d121 d122 d123 d124 d125 d126 d127 : Value} (w W6 : World) (q b2 m i j gp cp : Nat) (bs : Nat → Sp) (hc6 : Chn q b2 m m (some ⟨gp, 0, none⟩) cp bs W6) (hb6 : Below w.heap.size w W6) (hgq : q + 1 ≤ gp) (hgl : gp < W6.heap.size) (him : i < m) (hjm : j < m) (hn8 : m ≤ 8) (hwq0 : w.heap.size ≤ q) :
    C.wp Tryz.prog (OnlyNormal fun a wx => ((∃ bs2 : Nat → Sp, Rng q b2 m i j (some ⟨gp, 0, none⟩) cp bs2 wx) ∧ Below w.heap.size w wx) ∧ ∃ (u66 u67 u68 u69 u70 u71 u72 u73 u74 u75 u76 u77 u78 u79 u80 u81 u82 u83 : Value), a = ⟨#[d0, d1, d2, d3, d4, d5, d6, d7, .pointer (some ⟨q, 0, none⟩), d9, d10, .int .i64 (i : Nat), .int .i64 (j : Nat), d13, d14, d15, d16, d17, d18, d19, d20, d21, d22, d23, d24, d25, d26, d27, d28, d29, d30, d31, d32, d33, d34, d35, d36, d37, d38, d39, d40, d41, d42, d43, d44, d45, d46, d47, d48, d49, d50, d51, d52, d53, d54, d55, d56, d57, d58, d59, d60, d61, d62, d63, d64, .bool true, u66, u67, u68, u69, u70, u71, u72, u73, u74, u75, u76, u77, u78, u79, u80, u81, u82, u83, d84, d85, d86, d87, d88, d89, d90, d91, d92, d93, d94, d95, d96, d97, d98, d99, d100, d101, d102, d103, d104, d105, d106, d107, d108, d109, d110, d111, d112, d113, d114, d115, d116, d117, d118, d119, d120, d121, d122, d123, d124, d125, d126, d127], []⟩) ⟨#[d0, d1, d2, d3, d4, d5, d6, d7, .pointer (some ⟨q, 0, none⟩), d9, d10, .int .i64 (i : Nat), .int .i64 (j : Nat), d13, d14, d15, d16, d17, d18, d19, d20, d21, d22, d23, d24, d25, d26, d27, d28, d29, d30, d31, d32, d33, d34, d35, d36, d37, d38, d39, d40, d41, d42, d43, d44, d45, d46, d47, d48, d49, d50, d51, d52, d53, d54, d55, d56, d57, d58, d59, d60, d61, d62, d63, d64, .bool true, d66, d67, d68, d69, d70, d71, d72, d73, d74, d75, d76, d77, d78, d79, d80, d81, d82, d83, d84, d85, d86, d87, d88, d89, d90, d91, d92, d93, d94, d95, d96, d97, d98, d99, d100, d101, d102, d103, d104, d105, d106, d107, d108, d109, d110, d111, d112, d113, d114, d115, d116, d117, d118, d119, d120, d121, d122, d123, d124, d125, d126, d127], []⟩ W6 := by
  subst hC
  conv => arg 2; whnf
  conv => arg 4; dsimp only
  have HC6 := Lib.hid hc6
  have HB6 := Lib.hid hb6
  clear hc6 hb6
  obtain ⟨gp2, eA, _, _, hgc⟩ := HC6.out.own.cell (fun _ => rfl) (j := i) (by rw [links_len]; exact him)
  cases eA
  have cI := hgc 2 (.slice (bs i).at_ (bodyV m i).length (bs i).cap) (by simp [linksV, linkV, ProcV.cells, Sp.val])
  have c13 := arr_cells HC6.out.box 13 (v := .slice (some ⟨gp, 0, none⟩) (linksV bs m m).length cp) rfl
  rw [links_len] at c13
  obtain ⟨hrw, hsn, hsf, hbl⟩ := HC6.out.body him
  have hru := rune_runs j (by omega)
  have had := name_eq j
  have hsz := sN_size j
  obtain ⟨pj, hpj⟩ : ∃ p, pN j = p := ⟨_, rfl⟩
  rw [hpj] at had
  have HPJ := Lib.hid hpj
  have hadd := fun (W : World) => run_string_add_sum (P := Tryz.prog) W { data := #[112] } (sN j) (by show 1 + 1 ≤ _; decide)
  rw [had] at hadd
  generalize sN j = sj at *
  have hcall := fun W => call_any32 pj Sp.none [] W
  simp only [callT, StmtV.val, StmtV.kind, StmtV.name, StmtV.es, StmtV.exprs, StmtV.bound, StmtV.ts, StmtV.thn, StmtV.os, StmtV.els, Sp.val, Sp.none, List.length_nil] at hcall
  have HCALL := Lib.hid hcall
  have HRW := Lib.hid hrw
  have HSN := Lib.hid hsn
  have HSF := Lib.hid hsf
  have HBL := Lib.hid hbl
  have hci : (i : Int) < (m : Int) := by omega
  have hcj : (j : Int) ≤ 7 := by omega
  have fI := own_frozen HC6.out.own (g := gp) rfl (i * 3 + 2)
  obtain ⟨hw1, hw2⟩ := wrap_names j (by omega)
  clear hgc hrw hsn hsf hbl hcall hpj
  have hbA0 : Below W6.heap.size W6 (W6.alloc (.cells #[.int .u8 0, .string ⟨#[]⟩, .slice none 0 0, .int .i64 0, .slice none 0 0, .slice none 0 0] 49)) := (Below.refl _ W6).alloc (Nat.le_refl _) _
  have HB0 : Hid (Below W6.heap.size W6 ((W6.alloc (.cells #[.int .u8 0, .string ⟨#[]⟩, .slice none 0 0, .int .i64 0, .slice none 0 0, .slice none 0 0] 49)).drew)) := Lib.hid hbA0.drew
  have c13z := (hbA0.cell (p := ⟨q, 13, none⟩) HC6.out.lt).trans c13
  have cIz := (hbA0.cell (p := ⟨gp, i * 3 + 2, none⟩) hgl).trans cI
  have HRW0 := Lib.hid (HRW.out.below HB0.out)
  have HRZ0 := Lib.hid (show RowOf (W6.alloc (.cells #[.int .u8 0, .string ⟨#[]⟩, .slice none 0 0, .int .i64 0, .slice none 0 0, .slice none 0 0] 49)).heap.size ((W6.alloc (.cells #[.int .u8 0, .string ⟨#[]⟩, .slice none 0 0, .int .i64 0, .slice none 0 0, .slice none 0 0] 49)).drew) ⟨some ⟨W6.heap.size, 0, none⟩, 1⟩ 6 StmtV.cells [zS] from (row_one (enc := StmtV.cells) (x := zS) (k := 6) (World.alloc_heap_new W6 (.cells #[.int .u8 0, .string ⟨#[]⟩, .slice none 0 0, .int .i64 0, .slice none 0 0, .slice none 0 0] 49))).below (Below.refl _ _).drew)
  clear hbA0
  go_upto_region 17 with fail
  go_cut [77, 78, 80] from 66 to 82 (fun s77 s78 s80 wx => ∃ g2 c2, s77 = .agg #[.int .u8 8, .string pj, .slice none 0 0, .int .i64 0, .slice none 0 0, .slice none 0 0] ∧ s78 = .int .i64 ((bodyV m i).length : Nat) ∧ s80 = .slice (some ⟨g2, 0, none⟩) ((bodyV m i).length + 1) c2 ∧ W6.heap.size ≤ g2 ∧ OwnL W6.heap.size wx 49 6 StmtV.cells (.slice (some ⟨g2, 0, none⟩) ((bodyV m i).length + 1) c2) (bodyV m i ++ [zS]) ∧ Below W6.heap.size (W6.setCell ⟨gp, i * 3 + 2, none⟩ (.slice (some ⟨g2, 0, none⟩) ((bodyV m i).length + 1) c2)) wx)
  case first =>
    go_region_law (first
      | (refine step_append_full (by rfl) (.tmp 71) (.tmp 79) 37 (by rfl) stmtK (fun _ => rfl) one_stmt (bs i) (bodyV m i) (by rfl) HRW0.out HSN.out HSF.out (zb := W6.heap.size) zS (by rfl) HRZ0.out (by have := HBL.out; omega) ?_; intro v2 W8 hown2 hb8; have HBX := HB0; have HB8 := Lib.hid (HBX.out.trans (hb8.mono HBX.out.size)); obtain ⟨A2, c2, rfl⟩ := hown2.form; have HOW := Lib.hid (hown2.less HBX.out.size); obtain ⟨g2, eA2, hg2, _, _⟩ := HOW.out.cell (fun _ => rfl) (j := (bodyV m i).length) (by simp); cases eA2; have HG2 := Lib.hid hg2; have cIc := (HB8.out.cell (p := ⟨gp, i * 3 + 2, none⟩) hgl).trans cI; have fIc := (HB8.out.frozen (p := ⟨gp, i * 3 + 2, none⟩) hgl).trans fI; clear hown2 hb8 hg2)
      | (refine step_append_full (by rfl) (.tmp 71) (.tmp 79) 37 (by rfl) stmtK (fun _ => rfl) one_stmt (bs i) (bodyV m i) (by rfl) HRW7.out HSN.out HSF.out (zb := W6.heap.size) zS (by rfl) HRZ7.out (by have := HBL.out; omega) ?_; intro v2 W8 hown2 hb8; have HBX := HB7; have HB8 := Lib.hid (HBX.out.trans (hb8.mono HBX.out.size)); obtain ⟨A2, c2, rfl⟩ := hown2.form; have HOW := Lib.hid (hown2.less HBX.out.size); obtain ⟨g2, eA2, hg2, _, _⟩ := HOW.out.cell (fun _ => rfl) (j := (bodyV m i).length) (by simp); cases eA2; have HG2 := Lib.hid hg2; have cIc := (HB8.out.cell (p := ⟨gp, i * 3 + 2, none⟩) hgl).trans cI; have fIc := (HB8.out.frozen (p := ⟨gp, i * 3 + 2, none⟩) hgl).trans fI; clear hown2 hb8 hg2)
      | (refine step_append_full (by rfl) (.tmp 71) (.tmp 79) 37 (by rfl) stmtK (fun _ => rfl) one_stmt (bs i) (bodyV m i) (by rfl) HRW7z.out HSN.out HSF.out (zb := W7.heap.size) zS (by rfl) HRZ7z.out (by have := HBL.out; omega) ?_; intro v2 W8 hown2 hb8; have HBX := HB7z; have HB8 := Lib.hid (HBX.out.trans (hb8.mono HBX.out.size)); obtain ⟨A2, c2, rfl⟩ := hown2.form; have HOW := Lib.hid (hown2.less HBX.out.size); obtain ⟨g2, eA2, hg2, _, _⟩ := HOW.out.cell (fun _ => rfl) (j := (bodyV m i).length) (by simp); cases eA2; have HG2 := Lib.hid hg2; have cIc := (HB8.out.cell (p := ⟨gp, i * 3 + 2, none⟩) hgl).trans cI; have fIc := (HB8.out.frozen (p := ⟨gp, i * 3 + 2, none⟩) hgl).trans fI; clear hown2 hb8 hg2)
      | (go_simp; go_at_call 17; refine (HCALL.out _).mono ?_; rintro o W7 ⟨rfl, hb7⟩; have hbS := below_both (p := ⟨gp, i * 3 + 2, none⟩) (v := .slice (some ⟨g2, 0, none⟩) ((bodyV m i).length + 1) c2) HB8.out; have HEND := Lib.hid (hbS.trans (hb7.mono hbS.size)); have HOWE := Lib.hid ((HOW.out.kept (fun g _ _ hB _ => Below.heap_setCell _ _ _ _ (show g ≠ gp by omega))).on hb7); clear hb7 hbS)
      | (go_simp; go_at_call 17; refine (HCALL.out _).mono ?_; rintro o W7 ⟨rfl, hb7⟩; have hb7' : Below W8.heap.size W8 W7 := hb7; have HB9 := Lib.hid (HB8.out.trans (hb7'.mono HB8.out.size)); have HOW9 := Lib.hid (HOW.out.on hb7'); clear HB8 HOW; have HB8 := HB9; have HOW := HOW9; have cId := (HB8.out.cell (p := ⟨gp, i * 3 + 2, none⟩) hgl).trans cI; have fId := (HB8.out.frozen (p := ⟨gp, i * 3 + 2, none⟩) hgl).trans fI; clear hb7 hb7')
      | (go_simp; go_at_call 17; refine (HCALL.out _).mono ?_; rintro o W7 ⟨rfl, hb7⟩; have hb67 : Below W6.heap.size W6 W7 := (Below.refl _ W6).drew.trans (show Below W6.drew.heap.size W6.drew W7 from hb7); have hbz : Below W7.heap.size W7 (W7.alloc (.cells #[.int .u8 0, .string ⟨#[]⟩, .slice none 0 0, .int .i64 0, .slice none 0 0, .slice none 0 0] 49)) := (Below.refl _ _).alloc (Nat.le_refl _) _; have HB7z := Lib.hid (hb67.trans (hbz.mono hb67.size)); have c13a := (hb67.cell (p := ⟨q, 13, none⟩) HC6.out.lt).trans c13; have cIa := (hb67.cell (p := ⟨gp, i * 3 + 2, none⟩) hgl).trans cI; have c13b := (HB7z.out.cell (p := ⟨q, 13, none⟩) HC6.out.lt).trans c13; have cIb := (HB7z.out.cell (p := ⟨gp, i * 3 + 2, none⟩) hgl).trans cI; have HRW7z := Lib.hid (HRW.out.below HB7z.out); have HRZ7z := Lib.hid (row_one (enc := StmtV.cells) (x := zS) (k := 6) (World.alloc_heap_new W7 (.cells #[.int .u8 0, .string ⟨#[]⟩, .slice none 0 0, .int .i64 0, .slice none 0 0, .slice none 0 0] 49))); clear hb7 hb67 hbz)
      | (go_simp; go_at_call 17; refine (HCALL.out _).mono ?_; rintro o W7 ⟨rfl, hb7⟩; have hb7' : Below (W6.alloc (.cells #[.int .u8 0, .string ⟨#[]⟩, .slice none 0 0, .int .i64 0, .slice none 0 0, .slice none 0 0] 49)).heap.size ((W6.alloc (.cells #[.int .u8 0, .string ⟨#[]⟩, .slice none 0 0, .int .i64 0, .slice none 0 0, .slice none 0 0] 49)).drew) W7 := hb7; have HB7 := Lib.hid (HB0.out.trans (hb7'.mono HB0.out.size)); have c13a := (HB7.out.cell (p := ⟨q, 13, none⟩) HC6.out.lt).trans c13; have cIa := (HB7.out.cell (p := ⟨gp, i * 3 + 2, none⟩) hgl).trans cI; have HRW7 := Lib.hid (HRW.out.below HB7.out); have HRZ7 := Lib.hid (row_one (enc := StmtV.cells) (x := zS) (k := 6) ((hb7'.block W6.heap.size (by simp)).trans (World.alloc_heap_new W6 (.cells #[.int .u8 0, .string ⟨#[]⟩, .slice none 0 0, .int .i64 0, .slice none 0 0, .slice none 0 0] 49)))); clear hb7 hb7'))
    all_goals
      go_wp2_with fail
      go_meet
      case rel =>
        first
        | exact ⟨g2, c2, rfl, rfl, rfl, HG2.out, by have h := HOWE.out; simp only [List.length_append, List.length_cons, List.length_nil, Nat.zero_add] at h; exact h, HEND.out⟩
        | exact ⟨g2, c2, rfl, rfl, rfl, HG2.out, by have h := HOW.out.kept (fun g _ _ hB _ => Below.heap_setCell _ ⟨gp, i * 3 + 2, none⟩ (.slice (some ⟨g2, 0, none⟩) ((bodyV m i).length + 1) c2) _ (show g ≠ gp by omega)); simp only [List.length_append, List.length_cons, List.length_nil, Nat.zero_add] at h; exact h, below_both HB8.out⟩
  case rest =>
    obtain ⟨g2, c2, rfl, rfl, rfl, hg2, hown, hbx⟩ := hcut
    have hzz : (bodyV m i ++ [zS])[(bodyV m i).length]'(by simp) = zS := by simp
    have hown0 : OwnL W6.heap.size wc 49 6 StmtV.cells (.slice (some ⟨g2, 0, none⟩) ((bodyV m i).length + 1) c2) (bodyV m i ++ [zS]) := hown
    obtain ⟨g, eg, _, _, hgc⟩ := hown0.cell (fun _ => rfl) (j := (bodyV m i).length) (by simp)
    cases eg
    have x0 : wc.cell? ⟨g2, (bodyV m i).length * 6, none⟩ = some (.int .u8 0) := hgc 0 _ (by rw [hzz]; rfl)
    have f0 : wc.frozen? ⟨g2, (bodyV m i).length * 6, none⟩ = false := own_frozen hown rfl _
    have x1 : wc.cell? ⟨g2, (bodyV m i).length * 6 + 1, none⟩ = some (.string ⟨#[]⟩) := hgc 1 _ (by rw [hzz]; rfl)
    have f1 : wc.frozen? ⟨g2, (bodyV m i).length * 6 + 1, none⟩ = false := own_frozen hown rfl _
    have x2 : wc.cell? ⟨g2, (bodyV m i).length * 6 + 2, none⟩ = some (.slice none 0 0) := hgc 2 _ (by rw [hzz]; rfl)
    have f2 : wc.frozen? ⟨g2, (bodyV m i).length * 6 + 2, none⟩ = false := own_frozen hown rfl _
    have x3 : wc.cell? ⟨g2, (bodyV m i).length * 6 + 3, none⟩ = some (.int .i64 0) := hgc 3 _ (by rw [hzz]; rfl)
    have f3 : wc.frozen? ⟨g2, (bodyV m i).length * 6 + 3, none⟩ = false := own_frozen hown rfl _
    have x4 : wc.cell? ⟨g2, (bodyV m i).length * 6 + 4, none⟩ = some (.slice none 0 0) := hgc 4 _ (by rw [hzz]; rfl)
    have f4 : wc.frozen? ⟨g2, (bodyV m i).length * 6 + 4, none⟩ = false := own_frozen hown rfl _
    have x5 : wc.cell? ⟨g2, (bodyV m i).length * 6 + 5, none⟩ = some (.slice none 0 0) := hgc 5 _ (by rw [hzz]; rfl)
    have f5 : wc.frozen? ⟨g2, (bodyV m i).length * 6 + 5, none⟩ = false := own_frozen hown rfl _
    have hol := own_last (y := callT Sp.none pj []) (v0 := .int .u8 8) (v1 := .string pj) (v2 := .slice none 0 0) (v3 := .int .i64 0) (v4 := .slice none 0 0) (v5 := .slice none 0 0) hown0 rfl rfl
    rw [← HPJ.out] at hol
    have hbf := (((((hbx.setCell (p := ⟨g2, (bodyV m i).length * 6, none⟩) hg2 (.int .u8 8)).setCell (p := ⟨g2, (bodyV m i).length * 6 + 1, none⟩) hg2 (.string pj)).setCell (p := ⟨g2, (bodyV m i).length * 6 + 2, none⟩) hg2 (.slice none 0 0)).setCell (p := ⟨g2, (bodyV m i).length * 6 + 3, none⟩) hg2 (.int .i64 0)).setCell (p := ⟨g2, (bodyV m i).length * 6 + 4, none⟩) hg2 (.slice none 0 0)).setCell (p := ⟨g2, (bodyV m i).length * 6 + 5, none⟩) hg2 (.slice none 0 0)
    have hbw := (HB6.out.setCell (p := ⟨gp, i * 3 + 2, none⟩) (show w.heap.size ≤ gp by omega) (.slice (some ⟨g2, 0, none⟩) ((bodyV m i).length + 1) c2)).trans (hbf.mono HB6.out.size)
    rw [← HPJ.out] at hbf hbw
    have HOL := Lib.hid hol
    have HBF := Lib.hid hbf
    have HBW := Lib.hid hbw
    clear hol hbf hbw hzz hgc hown0 hown hbx
    go_wp2_with fail
    refine OnlyNormal.mk ⟨?_, _, _, _, _, _, _, _, _, _, _, _, _, _, _, _, _, _, _, rfl⟩
    rw [← HPJ.out]
    exact ⟨⟨_, ring_done HC6.out him hn8 hgq HBF.out HOL.out⟩, HBW.out⟩
end Go.Proofs.YthcboallnbaimaaGreatDoor
namespace Go.Proofs.YthcboallnbaimaaGreatDoor
open Go Go.RowKit Go.Maps
set_option maxRecDepth 10000000 in
set_option maxHeartbeats 64000000 in
theorem condB (C : Code) (hC : C = cond65) {d0 d1 d2 d3 d4 d5 d6 d7 d9 d10 d13 d14 d15 d16 d17 d18 d19 d20 d21 d22 d23 d24 d25 d26 d27 d28 d29 d30 d31 d32 d33 d34 d35 d36 d37 d38 d39 d40 d41 d42 d43 d44 d45 d46 d47 d48 d49 d50 d51 d52 d53 d54 d55 d56 d57 d58 d59 d60 d61 d62 d63 d64 d66 d67 d68 d69 d70 d71 d72 d73 d74 d75 d76 d77 d78 d79 d80 d81 d82 d83 d84 d85 d86 d87 d88 d89 d90 d91 d92 d93 d94 d95 d96 d97 d98 d99 d100 d101 d102 d103 d104 d105 d106 d107 d108 d109 d110 d111 d112 d113 d114 d115 d116 d117 d118 d119 d120 d121 d122 d123 d124 d125 d126 d127 : Value} (w W6 : World) (q b2 m i j gp cp : Nat) (bs : Nat → Sp) (hc6 : Chn q b2 m m (some ⟨gp, 0, none⟩) cp bs W6) (hb6 : Below w.heap.size w W6) (hgq : q + 1 ≤ gp) (hgl : gp < W6.heap.size) (him : i < m) (hjm : j < m) (hn8 : m ≤ 8) (hwq0 : w.heap.size ≤ q) :
    C.wp Tryz.prog (OnlyNormal fun a wx => ((∃ bs2 : Nat → Sp, Rng q b2 m i j (some ⟨gp, 0, none⟩) cp bs2 wx) ∧ Below w.heap.size w wx) ∧ ∃ (u84 u85 u86 u87 u88 u89 u90 u91 u92 u93 u94 u95 u96 u97 u98 u99 u100 u101 u102 : Value), a = ⟨#[d0, d1, d2, d3, d4, d5, d6, d7, .pointer (some ⟨q, 0, none⟩), d9, d10, .int .i64 (i : Nat), .int .i64 (j : Nat), d13, d14, d15, d16, d17, d18, d19, d20, d21, d22, d23, d24, d25, d26, d27, d28, d29, d30, d31, d32, d33, d34, d35, d36, d37, d38, d39, d40, d41, d42, d43, d44, d45, d46, d47, d48, d49, d50, d51, d52, d53, d54, d55, d56, d57, d58, d59, d60, d61, d62, d63, d64, .bool false, d66, d67, d68, d69, d70, d71, d72, d73, d74, d75, d76, d77, d78, d79, d80, d81, d82, d83, u84, u85, u86, u87, u88, u89, u90, u91, u92, u93, u94, u95, u96, u97, u98, u99, u100, u101, u102, d103, d104, d105, d106, d107, d108, d109, d110, d111, d112, d113, d114, d115, d116, d117, d118, d119, d120, d121, d122, d123, d124, d125, d126, d127], []⟩) ⟨#[d0, d1, d2, d3, d4, d5, d6, d7, .pointer (some ⟨q, 0, none⟩), d9, d10, .int .i64 (i : Nat), .int .i64 (j : Nat), d13, d14, d15, d16, d17, d18, d19, d20, d21, d22, d23, d24, d25, d26, d27, d28, d29, d30, d31, d32, d33, d34, d35, d36, d37, d38, d39, d40, d41, d42, d43, d44, d45, d46, d47, d48, d49, d50, d51, d52, d53, d54, d55, d56, d57, d58, d59, d60, d61, d62, d63, d64, .bool false, d66, d67, d68, d69, d70, d71, d72, d73, d74, d75, d76, d77, d78, d79, d80, d81, d82, d83, d84, d85, d86, d87, d88, d89, d90, d91, d92, d93, d94, d95, d96, d97, d98, d99, d100, d101, d102, d103, d104, d105, d106, d107, d108, d109, d110, d111, d112, d113, d114, d115, d116, d117, d118, d119, d120, d121, d122, d123, d124, d125, d126, d127], []⟩ W6 := by
  subst hC
  conv => arg 2; whnf
  conv => arg 4; dsimp only
  have HC6 := Lib.hid hc6
  have HB6 := Lib.hid hb6
  clear hc6 hb6
  obtain ⟨gp2, eA, _, _, hgc⟩ := HC6.out.own.cell (fun _ => rfl) (j := i) (by rw [links_len]; exact him)
  cases eA
  have cI := hgc 2 (.slice (bs i).at_ (bodyV m i).length (bs i).cap) (by simp [linksV, linkV, ProcV.cells, Sp.val])
  have c13 := arr_cells HC6.out.box 13 (v := .slice (some ⟨gp, 0, none⟩) (linksV bs m m).length cp) rfl
  rw [links_len] at c13
  obtain ⟨hrw, hsn, hsf, hbl⟩ := HC6.out.body him
  have hru := rune_runs j (by omega)
  have had := name_eq j
  have hsz := sN_size j
  obtain ⟨pj, hpj⟩ : ∃ p, pN j = p := ⟨_, rfl⟩
  rw [hpj] at had
  have HPJ := Lib.hid hpj
  have hadd := fun (W : World) => run_string_add_sum (P := Tryz.prog) W { data := #[112] } (sN j) (by show 1 + 1 ≤ _; decide)
  rw [had] at hadd
  generalize sN j = sj at *
  have hcall := fun W => call_any32 pj Sp.none [] W
  simp only [callT, StmtV.val, StmtV.kind, StmtV.name, StmtV.es, StmtV.exprs, StmtV.bound, StmtV.ts, StmtV.thn, StmtV.os, StmtV.els, Sp.val, Sp.none, List.length_nil] at hcall
  have HCALL := Lib.hid hcall
  have HRW := Lib.hid hrw
  have HSN := Lib.hid hsn
  have HSF := Lib.hid hsf
  have HBL := Lib.hid hbl
  have hci : (i : Int) < (m : Int) := by omega
  have hcj : (j : Int) ≤ 7 := by omega
  have fI := own_frozen HC6.out.own (g := gp) rfl (i * 3 + 2)
  obtain ⟨hw1, hw2⟩ := wrap_names j (by omega)
  clear hgc hrw hsn hsf hbl hcall hpj
  go_upto_region 19 with fail
  go_region_law (first
    | (refine step_append_full (by rfl) (.tmp 92) (.tmp 99) 37 (by rfl) stmtK (fun _ => rfl) one_stmt (bs i) (bodyV m i) (by rfl) HRW7.out HSN.out HSF.out (callT Sp.none pj []) (by rfl) HRZ.out (by have := HBL.out; omega) ?_; intro v2 W8 hown2 hb8; obtain ⟨A2, c2, rfl⟩ := hown2.form; have HB8 := Lib.hid (HB7.out.trans (hb8.mono HB7.out.size)); have hs8 : W6.heap.size ≤ (W7.alloc (.cells #[.int .u8 8, .string pj, .slice none 0 0, .int .i64 0, .slice none 0 0, .slice none 0 0] 49)).heap.size := HB7.out.size; have c13c := (HB8.out.cell (p := ⟨q, 13, none⟩) HC6.out.lt).trans c13; have cIc := (HB8.out.cell (p := ⟨gp, i * 3 + 2, none⟩) hgl).trans cI; have fIc : W8.frozen? ⟨gp, i * 3 + 2, none⟩ = false := (HB8.out.frozen (p := ⟨gp, i * 3 + 2, none⟩) hgl).trans fI; have HOW := Lib.hid hown2; clear hown2 hb8)
    | (go_simp; go_at_call 17; refine (HCALL.out _).mono ?_; rintro o W7 ⟨rfl, hb7⟩; have hb67 : Below W6.heap.size W6 W7 := (Below.refl _ W6).drew.trans hb7; have hbz : Below W7.heap.size W7 (W7.alloc (.cells #[.int .u8 8, .string pj, .slice none 0 0, .int .i64 0, .slice none 0 0, .slice none 0 0] 49)) := (Below.refl _ _).alloc (Nat.le_refl _) _; have HB7 := Lib.hid (hb67.trans (hbz.mono hb67.size)); have c13a := (hb67.cell (p := ⟨q, 13, none⟩) HC6.out.lt).trans c13; have cIa := (hb67.cell (p := ⟨gp, i * 3 + 2, none⟩) hgl).trans cI; have c13b := (HB7.out.cell (p := ⟨q, 13, none⟩) HC6.out.lt).trans c13; have cIb := (HB7.out.cell (p := ⟨gp, i * 3 + 2, none⟩) hgl).trans cI; have HRW7 := Lib.hid (HRW.out.below HB7.out); have HRZ := Lib.hid (row_one (enc := StmtV.cells) (x := callT Sp.none pj []) (k := 6) (World.alloc_heap_new W7 (.cells #[.int .u8 8, .string pj, .slice none 0 0, .int .i64 0, .slice none 0 0, .slice none 0 0] 49))); clear hb7 hb67 hbz))
  all_goals
    go_wp2_with fail
    refine OnlyNormal.mk ⟨?_, _, _, _, _, _, _, _, _, _, _, _, _, _, _, _, _, _, _, _, rfl⟩
    · have hk := HOW.out.kept (W' := W8.setCell ⟨gp, i * 3 + 2, none⟩ (.slice A2 ((bodyV m i).length + 1) c2)) (fun g _ _ hB _ => Below.heap_setCell _ _ _ _ (show g ≠ gp by omega))
      rw [← HPJ.out] at hk
      simp only [List.length_append, List.length_cons, List.length_nil, Nat.zero_add] at hk
      exact ⟨⟨_, ring_done HC6.out him hn8 hgq (below_both HB8.out) hk⟩, (HB6.out.trans (HB8.out.mono HB6.out.size)).setCell (p := ⟨gp, i * 3 + 2, none⟩) (show w.heap.size ≤ gp by omega) _⟩
end Go.Proofs.YthcboallnbaimaaGreatDoor
namespace Go.Proofs.YthcboallnbaimaaGreatDoor
open Go Go.RowKit Go.Maps
set_option maxRecDepth 1000000 in
set_option maxHeartbeats 64000000 in
theorem checkCalls_any (w : World) (hn0 : 0 < w.heap.size) (hmx : MxAt w) (a b c : Int) (ha : 0 ≤ a ∧ a ≤ 255) (hb : 0 ≤ b ∧ b ≤ 255) (hc : 0 ≤ c ∧ c ≤ 255) :
    Calls Tryz.prog 5 #[.int .u8 a, .int .u8 b, .int .u8 c] w fun o w' => o = .returned (.bool true) ∧ Below w.heap.size w w' := by
  have HMX := Lib.hid hmx
  have HAW := Lib.hid (awake_any w hn0 hmx)
  have ham : a.tmod 7 = a % 7 := Int.tmod_eq_emod_of_nonneg ha.1
  have ha1 : 0 ≤ a % 7 := by omega
  have ha2 : a % 7 < 7 := by omega
  obtain ⟨N, hN⟩ : ∃ N : Nat, a % 7 = N := Int.eq_ofNat_of_zero_le ha1
  have ham2 : a.tmod 7 = (N : Int) := by rw [ham, hN]
  have hN7 : (N : Int) ≤ 6 := by omega
  clear ham ha1 ha2 hN hmx
  go_enter Tryz.func5, Tryz.ntmps5
  go_wp2_with fail
  refine HAW.out.mono ?_
  clear HAW
  rintro o w1 ⟨rfl, hb1⟩
  have HB1 := Lib.hid hb1
  clear hb1
  go_wp2_with fail
  refine (small_new _).mono ?_
  rintro o w2 ⟨b2, rfl, hr2, hb2, hf2, hx2⟩
  have hb3 : Below w2.heap.size w2 (w2.alloc (.cells (smallP ⟨some ⟨b2, 0, none⟩, 1⟩ Sp.none []).arr 39)) := (Below.refl _ _).alloc (Nat.le_refl _) _
  have hx3 := World.alloc_heap_new w2 (.cells (smallP ⟨some ⟨b2, 0, none⟩, 1⟩ Sp.none []).arr 39)
  have HR3 := Lib.hid (hr2.below hb3)
  have HB3 := Lib.hid (HB1.out.trans ((hb2.trans (hb3.mono hb2.size)).mono HB1.out.size))
  have HX3 := Lib.hid hx3
  have hwq0 : w.heap.size ≤ w2.heap.size := Nat.le_trans HB1.out.size hb2.size
  clear hr2 hb2 hf2 hx2 hb3 hx3
  go_upto_region 5 with (first
    | (refine wpList_allocRow (t := 39) rfl rfl (run_zeroP _) ?_)
    | (refine wpList_storeNew (t := 39) rfl _ _ rfl rfl rfl (arr_size _) rfl (arr_one _) ?_)
    | fail)
  generalize w2.alloc (.cells (smallP ⟨some ⟨b2, 0, none⟩, 1⟩ Sp.none []).arr 39) = W3 at *
  generalize w2.heap.size = q at *
  generalize (Value.agg (smallP ⟨some ⟨b2, 0, none⟩, 1⟩ Sp.none []).arr) = va9
  go_wp2_with fail
  clear ham2
  obtain ⟨n, hn⟩ : ∃ n : Nat, 2 + (N : Int) = (n : Int) := ⟨2 + N, by omega⟩
  rw [hn]
  have hn2 : 2 ≤ n := by omega
  have hn8 : n ≤ 8 := by omega
  clear hn hN7
  have HCH : Hid (Chn q b2 n 0 none 0 (fun _ => Sp.none) W3) := Lib.hid ⟨HX3.out, OwnL.nil, fun _ h _ => absurd h (by omega), fun _ h _ => absurd h (by omega), HR3.out⟩
  clear HX3 HR3
  go_loopw [24] (fun s24 wr => ChnAt q b2 n w s24 wr) (fun s24 _ => n - (intOf s24).toNat)
  case atStart => exact ⟨0, none, 0, fun _ => Sp.none, by omega, rfl, HCH.out, HB3.out⟩
  case round =>
    obtain ⟨m, A, cp, bs, hm, rfl, hch, hbr⟩ := hrel
    have HC := Lib.hid hch
    have HBR := Lib.hid hbr
    clear hch hbr HCH HB3
    by_cases hlt : m < n
    · skip
      have hm8 : m ≤ 7 := by omega
      have hru := rune_runs m (by omega)
      have had := name_eq m
      have hsz := sN_size m
      go_upto_region 8 with fail
      generalize sN m = sm at *
      obtain ⟨pm, hpm⟩ : ∃ pm, pN m = pm := ⟨_, rfl⟩
      rw [hpm] at had
      have HPM := Lib.hid hpm
      clear hpm
      go_upto_region 9 with fail
      clear hru had hsz
      have hbX : Below wr.heap.size wr (wr.alloc (.cells #[.string pm, .slice none 0 0, .slice none 0 0] 47)) := (Below.refl _ _).alloc (Nat.le_refl _) _
      have hxX := World.alloc_heap_new wr (.cells #[.string pm, .slice none 0 0, .slice none 0 0] 47)
      have HBX := Lib.hid hbX
      have HXX := Lib.hid hxX
      have hqr := HC.out.lt
      have hsX : wr.heap.size < (wr.alloc (.cells #[.string pm, .slice none 0 0, .slice none 0 0] 47)).heap.size := by simp
      have HLN : Hid ((linksV bs n m).length + 1 ≤ 1000000) := Lib.hid (by rw [links_len]; omega)
      clear hbX hxX
      generalize wr.alloc (.cells #[.string pm, .slice none 0 0, .slice none 0 0] 47) = W8 at *
      by_cases hmn : m + 1 < n
      · skip
        have hd : decide ((m : Int) + 1 < (n : Int)) = true := decide_eq_true (by omega)
        have hru := next_runs m (by omega)
        have had := name_eq (m + 1)
        have hsz := sN_size (m + 1)
        go_upto_region 10 with fail
        generalize sN (m + 1) = sm1 at *
        obtain ⟨pm1, hpm1⟩ : ∃ p, pN (m + 1) = p := ⟨_, rfl⟩
        rw [hpm1] at had
        have HPM1 := Lib.hid hpm1
        clear hpm1
        have hcall := fun W => call_any32 pm1 Sp.none [] W
        simp only [callT, StmtV.val, StmtV.kind, StmtV.name, StmtV.es, StmtV.exprs, StmtV.bound, StmtV.ts, StmtV.thn, StmtV.os, StmtV.els, Sp.val, Sp.none, List.length_nil] at hcall
        have HCALL := Lib.hid hcall
        clear hcall
        go_wp2_with fail
        clear hru had hsz
        refine (HCALL.out _).mono ?_
        rintro o W9 ⟨rfl, hb9⟩
        have hbE : Below W9.heap.size W9 (W9.alloc (.cells #[.int .u8 8, .string pm1, .slice none 0 0, .int .i64 0, .slice none 0 0, .slice none 0 0] 49)) := (Below.refl _ _).alloc (Nat.le_refl _) _
        have hb8 := hb9.trans (hbE.mono hb9.size)
        have hxE := (hb8.block _ hsX).trans HXX.out
        have x2 : (W9.alloc (.cells #[.int .u8 8, .string pm1, .slice none 0 0, .int .i64 0, .slice none 0 0, .slice none 0 0] 49)).cell? ⟨wr.heap.size, 2, none⟩ = some (.slice none 0 0) := by simp only [World.cell?, hxE]; rfl
        have fx2 : (W9.alloc (.cells #[.int .u8 8, .string pm1, .slice none 0 0, .int .i64 0, .slice none 0 0, .slice none 0 0] 49)).frozen? ⟨wr.heap.size, 2, none⟩ = false := by simp [World.frozen?, hxE]
        have hs9 : wr.heap.size < W9.heap.size := Nat.lt_of_lt_of_le hsX hb9.size
        have hx9 := (hb9.block _ hsX).trans HXX.out
        have hsv : (W9.setCell ⟨wr.heap.size, 2, none⟩ (.slice (some ⟨W9.heap.size, 0, none⟩) 1 1)).heap.size = W9.heap.size := by simp
        have HB10 := Lib.hid (((HBX.out.trans (hb9.mono (Nat.le_of_lt hsX))).setCell (p := ⟨wr.heap.size, 2, none⟩) (Nat.le_refl _) (.slice (some ⟨W9.heap.size, 0, none⟩) 1 1)).alloc (by omega) (.cells #[.int .u8 8, .string pm1, .slice none 0 0, .int .i64 0, .slice none 0 0, .slice none 0 0] 49))
        have HX10 : Hid (((W9.setCell ⟨wr.heap.size, 2, none⟩ (.slice (some ⟨W9.heap.size, 0, none⟩) 1 1)).alloc (.cells #[.int .u8 8, .string pm1, .slice none 0 0, .int .i64 0, .slice none 0 0, .slice none 0 0] 49)).heap[wr.heap.size]? = some (.cells #[.string pm, .slice none 0 0, .slice (some ⟨W9.heap.size, 0, none⟩) 1 1] 47 (0, 0))) := Lib.hid ((Below.heap_alloc _ _ _ (by omega)).trans (by rw [set_row1 hx9]; exact setRow_heap _ _ _ _ _ _ hx9))
        have hg10 := World.alloc_heap_new (W9.setCell ⟨wr.heap.size, 2, none⟩ (.slice (some ⟨W9.heap.size, 0, none⟩) 1 1)) (.cells #[.int .u8 8, .string pm1, .slice none 0 0, .int .i64 0, .slice none 0 0, .slice none 0 0] 49)
        rw [hsv, ← HPM1.out] at hg10
        rw [HPM1.out] at hg10
        have HG10 : Hid (((W9.setCell ⟨wr.heap.size, 2, none⟩ (.slice (some ⟨W9.heap.size, 0, none⟩) 1 1)).alloc (.cells #[.int .u8 8, .string pm1, .slice none 0 0, .int .i64 0, .slice none 0 0, .slice none 0 0] 49)).heap[W9.heap.size]? = some (.cells (callT Sp.none (pN (m + 1)) []).cells.toArray 49 (0, 0))) := Lib.hid (by rw [hg10, HPM1.out]; rfl)
        clear hb9 hbE hb8 hxE HCALL HBX HXX hx9 hsv hg10
        go_upto_region 11 with fail
        generalize (W9.setCell ⟨wr.heap.size, 2, none⟩ (.slice (some ⟨W9.heap.size, 0, none⟩) 1 1)).alloc (.cells #[.int .u8 8, .string pm1, .slice none 0 0, .int .i64 0, .slice none 0 0, .slice none 0 0] 49) = W10 at *
        have HCW := Lib.hid (HC.out.on HB10.out)
        have HBW := Lib.hid (HBR.out.trans (HB10.out.mono HBR.out.size))
        have hwq : w.heap.size ≤ q := hwq0
        clear x2 fx2 HC HBR HB10
        have c13 := arr_cells HCW.out.box 13 (v := .slice A (linksV bs n m).length cp) rfl
        obtain ⟨x0, x1, x2⟩ := three_cells HX10.out
        have HBV : Hid (bodyV n m = [callT Sp.none pm1 []]) := Lib.hid (by unfold bodyV; rw [if_pos hmn, HPM1.out])
        have HXE : Hid ((⟨pm, Sp.none, [], ⟨some ⟨W9.heap.size, 0, none⟩, 1⟩, [callT Sp.none pm1 []]⟩ : ProcV) = ⟨pN m, Sp.none, [], ⟨some ⟨W9.heap.size, 0, none⟩, 1⟩, bodyV n m⟩) := Lib.hid (by rw [HPM.out, HBV.out])
        have hbA : Below W10.heap.size W10 (W10.alloc (.cells #[.string pm, .slice none 0 0, .slice (some ⟨W9.heap.size, 0, none⟩) 1 1] 47)) := (Below.refl _ _).alloc (Nat.le_refl _) _
        have HCA := Lib.hid (HCW.out.on hbA)
        have HBA := Lib.hid (HBW.out.trans (hbA.mono HBW.out.size))
        have HRS := Lib.hid (row_one (enc := ProcV.cells) (x := (⟨pm, Sp.none, [], ⟨some ⟨W9.heap.size, 0, none⟩, 1⟩, [callT Sp.none pm1 []]⟩ : ProcV)) (k := 3) (World.alloc_heap_new W10 (.cells #[.string pm, .slice none 0 0, .slice (some ⟨W9.heap.size, 0, none⟩) 1 1] 47)))
        have HBD := Lib.hid (show BodAt q n m ⟨some ⟨W9.heap.size, 0, none⟩, 1⟩ _ from by unfold BodAt; rw [if_pos hmn]; exact ⟨_, rfl, by omega, (hbA.block _ (Array.getElem?_eq_some_iff.1 HG10.out).1).trans HG10.out⟩)
        clear hbA HCW HBW
        go_wp2_with (first | (at_builtin; refine wpList_append_row rfl (.tmp 47) (.tmp 49) 36 rfl procK (fun _ => rfl) one_proc _ (linksV bs n m) rfl HCA.out.own ⟨some ⟨W10.heap.size, 0, none⟩, 1⟩ [(⟨pm, Sp.none, [], ⟨some ⟨W9.heap.size, 0, none⟩, 1⟩, [callT Sp.none pm1 []]⟩ : ProcV)] rfl HRS.out HLN.out HCA.out.lt ?_) | fail)
        intro v2 W12 hown2 hg2 hat2
        rw [HXE.out] at hown2
        obtain ⟨A2, c2, rfl⟩ := hown2.form
        have hlow := HCA.out.own.below hg2 (Nat.le_refl _) (Below.refl _ _) HCA.out.lt
        have hbq := (hlow.block _ (Nat.lt_succ_self _)).trans HCA.out.box
        have c13 := arr_cells hbq 13 (v := .slice A (linksV bs n m).length cp) rfl
        have f13 : W12.frozen? ⟨q, 13, none⟩ = false := by simp [World.frozen?, hbq]
        have HC2 := Lib.hid (HCA.out.step ⟨some ⟨W9.heap.size, 0, none⟩, 1⟩ HBD.out hown2 hg2)
        have HB2 := Lib.hid ((HBA.out.trans (hlow.mono (by omega))).setCell (p := ⟨q, 13, none⟩) (show w.heap.size ≤ q by omega) (.slice A2 (linksV bs n m ++ [(⟨pN m, Sp.none, [], ⟨some ⟨W9.heap.size, 0, none⟩, 1⟩, bodyV n m⟩ : ProcV)]).length c2))
        simp only [List.length_append, List.length_cons, List.length_nil, Nat.zero_add] at HC2 HB2
        clear hown2 hg2 hat2 hlow hbq HCA HBA HRS HXE
        go_wp2_with fail
        go_roundw
        case rel => exact ⟨m + 1, A2, c2, _, by omega, by go_num, HC2.out, HB2.out⟩
        case measure => simp [intOf]; omega
      · skip
        have hd : decide ((m : Int) + 1 < (n : Int)) = false := decide_eq_false (by omega)
        have HCW := Lib.hid (HC.out.on HBX.out)
        have HBW := Lib.hid (HBR.out.trans (HBX.out.mono HBR.out.size))
        have hwq : w.heap.size ≤ q := hwq0
        clear HC HBR HBX
        have c13 := arr_cells HCW.out.box 13 (v := .slice A (linksV bs n m).length cp) rfl
        obtain ⟨x0, x1, x2⟩ := three_cells HXX.out
        have HBV : Hid (bodyV n m = []) := Lib.hid (by unfold bodyV; rw [if_neg hmn])
        have HXE : Hid ((⟨pm, Sp.none, [], Sp.none, []⟩ : ProcV) = ⟨pN m, Sp.none, [], Sp.none, bodyV n m⟩) := Lib.hid (by rw [HPM.out, HBV.out])
        have hbA : Below W8.heap.size W8 (W8.alloc (.cells #[.string pm, .slice none 0 0, .slice none 0 0] 47)) := (Below.refl _ _).alloc (Nat.le_refl _) _
        have HCA := Lib.hid (HCW.out.on hbA)
        have HBA := Lib.hid (HBW.out.trans (hbA.mono HBW.out.size))
        have HRS := Lib.hid (row_one (enc := ProcV.cells) (x := (⟨pm, Sp.none, [], Sp.none, []⟩ : ProcV)) (k := 3) (World.alloc_heap_new W8 (.cells #[.string pm, .slice none 0 0, .slice none 0 0] 47)))
        have HBD := Lib.hid (show BodAt q n m Sp.none (W8.alloc (.cells #[.string pm, .slice none 0 0, .slice none 0 0] 47)) from by unfold BodAt; rw [if_neg hmn])
        clear hbA HCW HBW
        go_wp2_with (first | (at_builtin; refine wpList_append_row rfl (.tmp 47) (.tmp 49) 36 rfl procK (fun _ => rfl) one_proc _ (linksV bs n m) rfl HCA.out.own ⟨some ⟨W8.heap.size, 0, none⟩, 1⟩ [(⟨pm, Sp.none, [], Sp.none, []⟩ : ProcV)] rfl HRS.out HLN.out HCA.out.lt ?_) | fail)
        intro v2 W12 hown2 hg2 hat2
        rw [HXE.out] at hown2
        obtain ⟨A2, c2, rfl⟩ := hown2.form
        have hlow := HCA.out.own.below hg2 (Nat.le_refl _) (Below.refl _ _) HCA.out.lt
        have hbq := (hlow.block _ (Nat.lt_succ_self _)).trans HCA.out.box
        have c13 := arr_cells hbq 13 (v := .slice A (linksV bs n m).length cp) rfl
        have f13 : W12.frozen? ⟨q, 13, none⟩ = false := by simp [World.frozen?, hbq]
        have HC2 := Lib.hid (HCA.out.step Sp.none HBD.out hown2 hg2)
        have HB2 := Lib.hid ((HBA.out.trans (hlow.mono (by omega))).setCell (p := ⟨q, 13, none⟩) (show w.heap.size ≤ q by omega) (.slice A2 (linksV bs n m ++ [(⟨pN m, Sp.none, [], Sp.none, bodyV n m⟩ : ProcV)]).length c2))
        simp only [List.length_append, List.length_cons, List.length_nil, Nat.zero_add] at HC2 HB2
        clear hown2 hg2 hat2 hlow hbq HCA HBA HRS HXE
        go_wp2_with fail
        go_roundw
        case rel => exact ⟨m + 1, A2, c2, _, by omega, by go_num, HC2.out, HB2.out⟩
        case measure => simp [intOf]; omega
    · skip
      obtain rfl : m = n := by omega
      clear hlt
      have hring := ring_ok ⟨some ⟨b2, 0, none⟩, 1⟩ ⟨A, cp⟩ (fun _ => Sp.none) bs Sp.none hn2 hn8
      rw [ring_links] at hring
      have hk1 : checkP (chainP b2 A cp bs m m) = (0, 0) := hring.1
      have hk2 : (codesP (chainP b2 A cp bs m m) 0).length ≤ 2000 := hring.2
      have hnm := chain_names b2 A cp bs m m
      have hRT := right_any wr (chainP b2 A cp bs m m) (chn_rdp HC.out hn8) (Nat.lt_of_lt_of_le hn0 HBR.out.size) hnm (fit_of (k := _) rfl (by omega) hnm).weight (HMX.out.below HBR.out hn0)
      rw [hk1] at hRT
      have HRT := Lib.hid hRT
      have HCX := Lib.hid HC.out.box
      clear hring hk1 hk2 hnm hRT
      go_wp2_with (first | (refine wpList_load_row rfl 39 _ rfl q rfl 39 _ (0, 0) _ HCX.out Tryz.underlying39 rfl (arr_size _) ?_) | fail)
      refine HRT.out.mono ?_
      rintro o W4 ⟨rfl, hb4⟩
      have HC4 := Lib.hid (HC.out.on hb4)
      have HB4 := Lib.hid (HBR.out.trans (hb4.mono HBR.out.size))
      clear hb4 HRT HCX HC HBR
      obtain ⟨i, hi, him⟩ : ∃ i : Nat, b.tmod (m : Int) = (i : Int) ∧ i < m := by
        have h1 := Int.emod_nonneg b (show (m : Int) ≠ 0 by omega)
        have h2 := Int.emod_lt_of_pos b (show (0 : Int) < (m : Int) by omega)
        obtain ⟨i, hi⟩ := Int.eq_ofNat_of_zero_le h1
        exact ⟨i, by rw [Int.tmod_eq_emod_of_nonneg hb.1, hi], by omega⟩
      obtain ⟨j, hj, hjm⟩ : ∃ j : Nat, c.tmod (m : Int) = (j : Int) ∧ j < m := by
        have h1 := Int.emod_nonneg c (show (m : Int) ≠ 0 by omega)
        have h2 := Int.emod_lt_of_pos c (show (0 : Int) < (m : Int) by omega)
        obtain ⟨j, hj⟩ := Int.eq_ofNat_of_zero_le h1
        exact ⟨j, by rw [Int.tmod_eq_emod_of_nonneg hc.1, hj], by omega⟩
      have hm0 : (m : Int) ≠ 0 := by omega
      have hm0b : ((m : Int) == 0) = false := by simp; omega
      have hwb : wrap64 b = b := IntWalk.wrap64_in b ⟨by omega, by omega⟩
      have hwc : wrap64 c = c := IntWalk.wrap64_in c ⟨by omega, by omega⟩
      have HWB := Lib.hid hwb
      have HWC := Lib.hid hwc
      clear ha hb hc hwb hwc
      go_wp2_with fail
      go_quiet (fail)
      simp only [HWB.out, HWC.out, hi, hj]
      clear hi hj HWB HWC hm0 hm0b
      have hb5 : Below W4.heap.size W4 (W4.drewN nq) := by
        have h0 := Below.refl W4.heap.size W4
        exact ⟨h0.os, h0.tape, h0.output, h0.size, h0.block⟩
      have HC5 := Lib.hid (HC4.out.on hb5)
      have HB5 := Lib.hid (HB4.out.trans (hb5.mono HB4.out.size))
      clear hb5 HC4 HB4
      generalize W4.drewN nq = W5 at *
      go_upto_region 16 with fail
      go_cut [65] (fun s65 wx => (s65 = .bool true ∨ s65 = .bool false) ∧ Below W5.heap.size W5 wx)
      case first =>
        go_region
        all_goals
          go_wp2_with fail
          go_meet
          case rel => exact ⟨by simp, ((Below.refl _ W5).drew.alloc (Nat.le_refl _) _)⟩
      case rest =>
        obtain ⟨h65, hbx⟩ := hcut
        have H65 := Lib.hid h65
        have HC6 := Lib.hid (HC5.out.on hbx)
        have HB6 := Lib.hid (HB5.out.trans (hbx.mono HB5.out.size))
        clear h65 hbx HC5 HB5
        obtain ⟨W6, rfl⟩ : ∃ wo : World, wo = wc := ⟨_, rfl⟩
        obtain ⟨gp, eA, hgq, hgl, hgc⟩ := HC6.out.own.cell (fun _ => rfl) (j := i) (by rw [links_len]; exact him)
        cases eA
        go_upto_if 65 with fail
        go_cut [82] (fun _ wx => ∃ bs' : Nat → Sp, Rng q b2 m i j (some ⟨gp, 0, none⟩) cp bs' wx ∧ Below w.heap.size w wx)
        case first =>
          rcases H65.out with e65 | e65
          · subst e65
            refine Code.wp_mono ?_ (condA _ (by kernel_rfl) w W6 q b2 m i j gp cp bs HC6.out HB6.out hgq hgl him hjm hn8 hwq0)
            intro e a9 wx h
            cases e with
            | normal =>
              obtain ⟨⟨⟨bs2, h1⟩, h2⟩, u66, u67, u68, u69, u70, u71, u72, u73, u74, u75, u76, u77, u78, u79, u80, u81, u82, u83, rfl⟩ := (show _ ∧ _ from h)
              dsimp only
              go_wp2_with fail
              go_meet
              case rel => exact ⟨bs2, h1, h2⟩
            | _ => exact h.elim
          · subst e65
            refine Code.wp_mono ?_ (condB _ (by kernel_rfl) w W6 q b2 m i j gp cp bs HC6.out HB6.out hgq hgl him hjm hn8 hwq0)
            intro e a9 wx h
            cases e with
            | normal =>
              obtain ⟨⟨⟨bs2, h1⟩, h2⟩, u84, u85, u86, u87, u88, u89, u90, u91, u92, u93, u94, u95, u96, u97, u98, u99, u100, u101, u102, rfl⟩ := (show _ ∧ _ from h)
              dsimp only
              go_wp2_with fail
              go_meet
              case rel => exact ⟨bs2, h1, h2⟩
            | _ => exact h.elim
        case rest =>
          obtain ⟨bs', hrg, hbw⟩ := hcut
          have hring := ring_res ⟨some ⟨b2, 0, none⟩, 1⟩ ⟨some ⟨gp, 0, none⟩, cp⟩ (fun _ => Sp.none) bs' Sp.none hn2 hn8 him hjm
          have hnm := ring_names ⟨some ⟨b2, 0, none⟩, 1⟩ ⟨some ⟨gp, 0, none⟩, cp⟩ (fun _ => Sp.none) bs' Sp.none m i j (small_names ⟨some ⟨b2, 0, none⟩, 1⟩ Sp.none []).decls
          have HPL := Lib.hid (problemsList_any wc _ hrg.rd (Nat.lt_of_lt_of_le hn0 hbw.size) (fit_of (k := _) rfl (by omega) hnm) (HMX.out.below hbw hn0))
          have HTB := Lib.hid hring.1
          have HBX := Lib.hid hrg.box
          have HBW := Lib.hid hbw
          clear hrg hbw hring hnm H65 HC6 HB6 hgc hgq hgl
          generalize resP (ringP ⟨some ⟨b2, 0, none⟩, 1⟩ ⟨some ⟨gp, 0, none⟩, cp⟩ (fun _ => Sp.none) bs' Sp.none m i j) = l at *
          go_wp2_with (first | (refine wpList_load_row rfl 39 _ rfl q rfl 39 _ (0, 0) _ HBX.out Tryz.underlying39 rfl (arr_size _) ?_) | fail)
          refine HPL.out.mono ?_
          rintro o W9 ⟨⟨v, rfl, hpr⟩, hb9⟩
          have HB9 := Lib.hid (HBW.out.trans (hb9.mono HBW.out.size))
          have HPR := Lib.hid hpr
          clear hb9 hpr HPL HBW HBX
          by_cases hji : j > i
          · skip
            have hl := told_no HTB.out hji
            have hd : decide (i < j) = true := decide_eq_true (by omega)
            have hd2 : i < j := by omega
            subst hl
            have hv : ∃ A c, v = .slice A 0 c := by
              rcases HPR.out.2 with ⟨rfl, _⟩ | ⟨g, cap, cur, rfl, _⟩
              · exact ⟨_, _, rfl⟩
              · exact ⟨_, _, rfl⟩
            obtain ⟨A9, c9, rfl⟩ := hv
            clear hji HTB HPR
            go_wp2_with fail
            go_ret
            exact ⟨rfl, HB9.out⟩
          · skip
            obtain ⟨hl1, hl2⟩ := told_yes HTB.out hji
            have hd : decide (i < j) = false := decide_eq_false (by omega)
            have hd2 : ¬ i < j := by omega
            have hv : ∃ A c, v = .slice A l.length c := by
              rcases HPR.out.2 with ⟨rfl, h0⟩ | ⟨g, cap, cur, rfl, _⟩
              · exact ⟨none, 0, by rw [h0]⟩
              · exact ⟨_, _, rfl⟩
            obtain ⟨A9, c9, rfl⟩ := hv
            have hne : ((l.length : Int) != (i : Int) - (j : Int) + 1) = false := by simp; omega
            have hlL : l.length ≤ 8 := by omega
            have HL2 := Lib.hid hl2
            clear hji HTB hl1 hl2
            go_wp2_with fail
            clear hne
            go_loopw [120] (fun s120 wr => ∃ k : Nat, k ≤ l.length ∧ s120 = .int .i64 k ∧ Below W9.heap.size W9 wr) (fun s120 _ => l.length - (intOf s120).toNat)
            case atStart => exact ⟨0, Nat.zero_le _, rfl, Below.refl _ _⟩
            case round =>
              obtain ⟨k, hk, rfl, hbr⟩ := hrel
              have HBR := Lib.hid hbr
              clear hbr
              by_cases hlt : k < l.length
              · obtain ⟨g, eA, hg1, hg2, hgc⟩ := OwnL.cell (show OwnL wc.heap.size W9 55 2 encP (.slice A9 l.length c9) l from HPR.out) (fun _ => rfl) hlt
                cases eA
                have k0 := (HBR.out.cell (p := ⟨g, k * 2 + 0, none⟩) hg2).trans (hgc 0 (.int .i64 (l[k]).1) rfl)
                have k1 := (HBR.out.cell (p := ⟨g, k * 2 + 1, none⟩) hg2).trans (hgc 1 (.int .i64 (l[k]).2) rfl)
                have he := HL2.out _ (List.getElem_mem hlt)
                rw [he] at k1
                simp only [Nat.add_zero] at k0
                clear hgc he
                generalize (l[k]).1 = pl at *
                have hba : Below wr.heap.size wr (wr.alloc (.cells #[.int .i64 pl, .int .i64 328] 55)) := (Below.refl _ _).alloc (Nat.le_refl _) _
                have HBA := Lib.hid (HBR.out.trans (hba.mono HBR.out.size))
                clear hba
                go_wp2_with fail
                go_roundw
                case rel => exact ⟨k + 1, by omega, by go_num, HBA.out⟩
                case measure => simp [intOf]; omega
              · have HBZ := Lib.hid (HB9.out.trans (HBR.out.mono HB9.out.size))
                go_wp2_with fail
                go_ret
                exact ⟨rfl, HBZ.out⟩
end Go.Proofs.YthcboallnbaimaaGreatDoor
