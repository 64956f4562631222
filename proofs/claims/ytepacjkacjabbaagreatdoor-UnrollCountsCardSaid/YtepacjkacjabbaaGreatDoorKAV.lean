import Derived.Test.YtepacjkacjabbaaGreatDoorKAU
import Derived.Test.YtepacjkacjabbaaGreatDoorKAR
import Derived.Test.YtepacjkacjabbaaGreatDoorKAQ
namespace Go.Proofs.YtepacjkacjabbaaGreatDoor
open Go Go.RowKit Go.Maps
theorem form_len {s : StmtV} (h : formB s = true) : (s.kind = 1 → s.exprs.length = 1) ∧ (s.kind = 2 → s.exprs.length = 2) ∧ (s.kind = 3 → s.exprs.length = 2) := by
 unfold formB at h
 refine ⟨fun e => ?_, fun e => ?_, fun e => ?_⟩ <;> simp [e] at h <;> omega
set_option maxRecDepth 1000000 in
set_option maxHeartbeats 8000000 in
theorem wrong_any {K : CkE} {pm : Option Nat} {E : Env} {n : Int} {over : Bool} (w : World) (hk : Ckr K pm E n over w) (hH : heftP K.p ≤ 20000) (hE : E.within ≤ 1000000000) {m : Nat} {s : StmtV} (hs : RdT m w s) (hm : m ≤ w.heap.size) (hf : formB s = true) :
   Calls Tryz.prog 264 #[.pointer (some ⟨K.q, 0, none⟩), s.val] w fun o w' => o = .returned (.int .i64 (wrongE K.p E s)) ∧ Below w.heap.size w w' := by
 have hb1 : Below w.heap.size w (w.alloc (.cells #[.int .u8 s.kind, .string s.name, .slice s.es.at_ s.exprs.length s.es.cap, .int .i64 s.bound, .slice s.ts.at_ s.thn.length s.ts.cap, .slice s.os.at_ s.els.length s.os.cap] 43)) := (Below.refl _ _).alloc (Nat.le_refl _) _
 have hB1 := World.alloc_heap_new w (.cells #[.int .u8 s.kind, .string s.name, .slice s.es.at_ s.exprs.length s.es.cap, .int .i64 s.bound, .slice s.ts.at_ s.thn.length s.ts.cap, .slice s.os.at_ s.els.length s.os.cap] 43)
 have hs1 : (w.alloc (.cells #[.int .u8 s.kind, .string s.name, .slice s.es.at_ s.exprs.length s.es.cap, .int .i64 s.bound, .slice s.ts.at_ s.thn.length s.ts.cap, .slice s.os.at_ s.els.length s.os.cap] 43)).heap.size = w.heap.size + 1 := by simp
 obtain ⟨kk0, kk1⟩ := hs.kk
 have hnm : s.name.size ≤ maxLen := by cases hs; assumption
 have HF := Lib.hid (find_any _ (hk.new hb1) s.name hnm)
 obtain ⟨hf1, hf2, hf3⟩ := form_len hf
 have HF1 := Lib.hid hf1
 have HF2 := Lib.hid hf2
 have HF3 := Lib.hid hf3
 have HB1 := Lib.hid hB1
 have HBW1 := Lib.hid hb1
 have HS1 := Lib.hid hs1
 have HK := Lib.hid hk
 have HEX := Lib.hid hs.xs
 have hlq := hk.lt
 clear hb1 hB1 hs1 hk hs hf hf1 hf2 hf3
 obtain ⟨xk, hxk⟩ : ∃ xk, xk = (findW K.p E s.name).kind := ⟨_, rfl⟩
 obtain ⟨xw, hxw⟩ : ∃ xw, xw = (findW K.p E s.name).width := ⟨_, rfl⟩
 rw [← hxk, ← hxw] at HF
 obtain ⟨wr, hwr⟩ : ∃ wr, wr = wrongE K.p E s := ⟨_, rfl⟩
 rw [← hwr]
 unfold wrongE at hwr
 rw [← hxk, ← hxw] at hwr
 have HWR := Lib.hid hwr
 clear hxk hxw hwr
 simp only [StmtV.val, Sp.val]
 go_enter Tryz.func264, Tryz.ntmps264
 go_upto_region 1 with (fail)
 generalize w.alloc (.cells #[.int .u8 s.kind, .string s.name, .slice s.es.at_ s.exprs.length s.es.cap, .int .i64 s.bound, .slice s.ts.at_ s.thn.length s.ts.cap, .slice s.os.at_ s.els.length s.os.cap] 43) = W1 at *
 obtain ⟨c0, c1, c2, c3, c4, c5⟩ := six_cells HB1.out
 have hsx := HS1.out
 go_upto_region 2 with (first | (go_at_call 256; refine HF.out.mono ?_; rintro o2 w2 ⟨rfl, hb2⟩) | fail)
 have HB3 := Lib.hid (hb2.alloc hb2.size (.cells #[.int .u8 xk, .int .i64 xw] 264))
 have HX := Lib.hid (World.alloc_heap_new w2 (.cells #[.int .u8 xk, .int .i64 xw] 264))
 have hlx : W1.heap.size ≤ w2.heap.size := hb2.size
 have hlx2 : w2.heap.size < (w2.alloc (.cells #[.int .u8 xk, .int .i64 xw] 264)).heap.size := by simp
 generalize w2.heap.size = b8 at *
 generalize w2.alloc (.cells #[.int .u8 xk, .int .i64 xw] 264) = W3 at *
 clear hb2 c0 c1 c2 c3 c4 c5 HF
 obtain ⟨c0, c1, c2, c3, c4, c5⟩ := six_cells ((HB3.out.block _ (by omega)).trans HB1.out)
 obtain ⟨d0, d1⟩ := two_cells HX.out
 have HB03 := Lib.hid (HBW1.out.trans (HB3.out.mono (by omega)))
 have HBM := Lib.hid (HB03.out.mono hm)
 clear HS1
 rcases (show s.kind = 1 ∨ s.kind = 2 ∨ s.kind = 3 ∨ s.kind = 7 ∨ s.kind = 8 ∨ (s.kind ≠ 1 ∧ s.kind ≠ 2 ∧ s.kind ≠ 3 ∧ s.kind ≠ 7 ∧ s.kind ≠ 8) by omega) with hkd | hkd | hkd | hkd | hkd | ⟨h1, h2, h3, h7, h8⟩
 · have hln := HF1.out hkd
   rw [hkd] at c0 HWR
   clear hkd HF1 HF2 HF3
   by_cases hb : xk = 0 ∨ xk = 1 ∨ xk = 4
   · have hres : wr = 321 := by rw [HWR.out]; simp [hb]
     have HRES := Lib.hid hres
     clear hres
     rcases hb with rfl | rfl | rfl
     all_goals
       go_wp2_with fail
       go_ret
       exact ⟨by rw [HRES.out]; rfl, HB03.out⟩
   · have hg0 : (xk == 0) = false := by simp; omega
     have hg1 : (xk == 1) = false := by simp; omega
     have hg4 : (xk == 4) = false := by simp; omega
     have HNB := Lib.hid hb
     clear hb
     go_upto_region 6 with fail
     have hlt2 : 0 < s.exprs.length := by omega
     obtain ⟨b, off, eE, hbe, hce⟩ := (HEX.out.row.below HBM.out).row (by omega)
     have hce2 := hce 0 hlt2
     have hrx := HEX.out.ok _ (List.getElem_mem hlt2)
     have hsu : subW K.p E s.exprs 0 = widthE K.p E s.exprs[0] := by rw [subW, List.getElem?_eq_getElem hlt2]
     have HSU := Lib.hid hsu
     generalize s.exprs[0] = y at *
     rw [eE] at c2
     have HC : Hid (∀ W, Below W3.heap.size W3 W → W.cell? ⟨b, off, none⟩ = some (.int .u8 y.kind) ∧ W.cell? ⟨b, off + 1, none⟩ = some (.int .u8 y.op) ∧ W.cell? ⟨b, off + 2, none⟩ = some (.int .u32 y.value) ∧ W.cell? ⟨b, off + 3, none⟩ = some (.int .i64 y.width) ∧ W.cell? ⟨b, off + 4, none⟩ = some (.string y.name) ∧ W.cell? ⟨b, off + 5, none⟩ = some (.slice y.sp.at_ y.subs.length y.sp.cap) ∧ W.cell? ⟨w.heap.size, 2, none⟩ = some (.slice (some ⟨b, off, none⟩) s.exprs.length s.es.cap) ∧ W.cell? ⟨b8, 1, none⟩ = some (.int .i64 xw)) := Lib.hid fun W hW =>
       ⟨(hW.cell (p := ⟨b, _, none⟩) (by dsimp only; omega)).trans (hce2 0 _ rfl), (hW.cell (p := ⟨b, _, none⟩) (by dsimp only; omega)).trans (hce2 1 _ rfl), (hW.cell (p := ⟨b, _, none⟩) (by dsimp only; omega)).trans (hce2 2 _ rfl), (hW.cell (p := ⟨b, _, none⟩) (by dsimp only; omega)).trans (hce2 3 _ rfl), (hW.cell (p := ⟨b, _, none⟩) (by dsimp only; omega)).trans (hce2 4 _ rfl), (hW.cell (p := ⟨b, _, none⟩) (by dsimp only; omega)).trans (hce2 5 _ rfl), (hW.cell (p := ⟨w.heap.size, 2, none⟩) (by dsimp only; omega)).trans c2, (hW.cell (p := ⟨b8, 1, none⟩) (by dsimp only; omega)).trans d1⟩
     have HW : Hid (∀ W, Below W3.heap.size W3 W → Calls Tryz.prog 230 #[.pointer (some ⟨K.q, 0, none⟩), y.val] W fun o w' => o = .returned (.int .i64 (widthE K.p E y)) ∧ Below W.heap.size W w') := Lib.hid fun W hW => by
       have e : Below w.heap.size w W := HB03.out.trans (hW.mono HB03.out.size)
       exact width_any hrx W (e.mono hm) (by have := e.size; omega) (HK.out.new e)
     simp only [ExprV.val, Sp.val] at HW
     obtain ⟨v0, v1, v2, v3, v4, v5, v6, v7⟩ := HC.out W3.drew (Below.refl _ _).drew
     have hbd : Below W3.heap.size W3 W3.drew := (Below.refl _ _).drew
     have hj : (0 : Int) < (s.exprs.length : Int) := by omega
     clear hce2 hce hrx hsu eE hlt2 hbe
     generalize widthE K.p E y = wy at *
     cases hdf : differW wy xw
     all_goals
       have hdf2 := hdf
       rw [← HSU.out] at hdf2
       have HDF2 := Lib.hid hdf2
       have HDF := Lib.hid (fun W => (hdf ▸ differ_any wy xw W : Calls Tryz.prog 229 #[.int .i64 wy, .int .i64 xw] W fun o w' => o = .returned (.bool _) ∧ W = w'))
       clear hdf hdf2
       go_region_held3 (fun W => W.cell? ⟨b, off, none⟩ = some (.int .u8 y.kind) ∧ W.cell? ⟨b, off + 1, none⟩ = some (.int .u8 y.op) ∧ W.cell? ⟨b, off + 2, none⟩ = some (.int .u32 y.value) ∧ W.cell? ⟨b, off + 3, none⟩ = some (.int .i64 y.width) ∧ W.cell? ⟨b, off + 4, none⟩ = some (.string y.name) ∧ W.cell? ⟨b, off + 5, none⟩ = some (.slice y.sp.at_ y.subs.length y.sp.cap) ∧ W.cell? ⟨w.heap.size, 2, none⟩ = some (.slice (some ⟨b, off, none⟩) s.exprs.length s.es.cap) ∧ W.cell? ⟨b8, 1, none⟩ = some (.int .i64 xw) ∧ Below W3.heap.size W3 W) (simp [*])
         (first
           | (go_at_call 230; refine (HW.out _ (by assumption)).mono ?_; rintro o8 w8 ⟨rfl, hb8⟩; have hb9 := Below.trans (by assumption : Below W3.heap.size W3 _) (hb8.mono (Below.size (by assumption))); obtain ⟨z0, z1, z2, z3, z4, z5, z6, z7⟩ := HC.out _ hb9)
           | (go_at_call 229; refine (HDF.out _).mono ?_; rintro o6 w6 ⟨rfl, rfl⟩)
           | fail)
       go_wp2_with fail
       go_ret
       exact ⟨congrArg (fun n => Ending.returned (.int .i64 n)) (by rw [HWR.out]; simp [HDF2.out, HNB.out]), HB03.out.trans ((by assumption : Below W3.heap.size W3 _).mono HB03.out.size)⟩
 · have hln := HF2.out hkd
   rw [hkd] at c0 HWR
   clear hkd HF1 HF2 HF3
   by_cases hb : xk = 4
   · subst hb
     go_upto_region 11 with fail
     have hlt2 : 1 < s.exprs.length := by omega
     obtain ⟨b, off, eE, hbe, hce⟩ := (HEX.out.row.below HBM.out).row (by omega)
     have hce2 := hce 1 hlt2
     have hrx := HEX.out.ok _ (List.getElem_mem hlt2)
     have hsu : subW K.p E s.exprs 1 = widthE K.p E s.exprs[1] := by rw [subW, List.getElem?_eq_getElem hlt2]
     have HSU := Lib.hid hsu
     generalize s.exprs[1] = y at *
     rw [eE] at c2
     have HC : Hid (∀ W, Below W3.heap.size W3 W → W.cell? ⟨b, off + 6, none⟩ = some (.int .u8 y.kind) ∧ W.cell? ⟨b, off + 7, none⟩ = some (.int .u8 y.op) ∧ W.cell? ⟨b, off + 8, none⟩ = some (.int .u32 y.value) ∧ W.cell? ⟨b, off + 9, none⟩ = some (.int .i64 y.width) ∧ W.cell? ⟨b, off + 10, none⟩ = some (.string y.name) ∧ W.cell? ⟨b, off + 11, none⟩ = some (.slice y.sp.at_ y.subs.length y.sp.cap) ∧ W.cell? ⟨w.heap.size, 2, none⟩ = some (.slice (some ⟨b, off, none⟩) s.exprs.length s.es.cap) ∧ W.cell? ⟨b8, 1, none⟩ = some (.int .i64 xw)) := Lib.hid fun W hW =>
       ⟨(hW.cell (p := ⟨b, _, none⟩) (by dsimp only; omega)).trans (hce2 0 _ rfl), (hW.cell (p := ⟨b, _, none⟩) (by dsimp only; omega)).trans (hce2 1 _ rfl), (hW.cell (p := ⟨b, _, none⟩) (by dsimp only; omega)).trans (hce2 2 _ rfl), (hW.cell (p := ⟨b, _, none⟩) (by dsimp only; omega)).trans (hce2 3 _ rfl), (hW.cell (p := ⟨b, _, none⟩) (by dsimp only; omega)).trans (hce2 4 _ rfl), (hW.cell (p := ⟨b, _, none⟩) (by dsimp only; omega)).trans (hce2 5 _ rfl), (hW.cell (p := ⟨w.heap.size, 2, none⟩) (by dsimp only; omega)).trans c2, (hW.cell (p := ⟨b8, 1, none⟩) (by dsimp only; omega)).trans d1⟩
     have HW : Hid (∀ W, Below W3.heap.size W3 W → Calls Tryz.prog 230 #[.pointer (some ⟨K.q, 0, none⟩), y.val] W fun o w' => o = .returned (.int .i64 (widthE K.p E y)) ∧ Below W.heap.size W w') := Lib.hid fun W hW => by
       have e : Below w.heap.size w W := HB03.out.trans (hW.mono HB03.out.size)
       exact width_any hrx W (e.mono hm) (by have := e.size; omega) (HK.out.new e)
     simp only [ExprV.val, Sp.val] at HW
     obtain ⟨v0, v1, v2, v3, v4, v5, v6, v7⟩ := HC.out W3.drew (Below.refl _ _).drew
     have hbd : Below W3.heap.size W3 W3.drew := (Below.refl _ _).drew
     have hj : (1 : Int) < (s.exprs.length : Int) := by omega
     clear hce2 hce hrx hsu eE hlt2 hbe
     generalize widthE K.p E y = wy at *
     cases hdf : differW wy xw
     all_goals
       have hdf2 := hdf
       rw [← HSU.out] at hdf2
       have HDF2 := Lib.hid hdf2
       have HDF := Lib.hid (fun W => (hdf ▸ differ_any wy xw W : Calls Tryz.prog 229 #[.int .i64 wy, .int .i64 xw] W fun o w' => o = .returned (.bool _) ∧ W = w'))
       clear hdf hdf2
       go_region_held3 (fun W => W.cell? ⟨b, off + 6, none⟩ = some (.int .u8 y.kind) ∧ W.cell? ⟨b, off + 7, none⟩ = some (.int .u8 y.op) ∧ W.cell? ⟨b, off + 8, none⟩ = some (.int .u32 y.value) ∧ W.cell? ⟨b, off + 9, none⟩ = some (.int .i64 y.width) ∧ W.cell? ⟨b, off + 10, none⟩ = some (.string y.name) ∧ W.cell? ⟨b, off + 11, none⟩ = some (.slice y.sp.at_ y.subs.length y.sp.cap) ∧ W.cell? ⟨w.heap.size, 2, none⟩ = some (.slice (some ⟨b, off, none⟩) s.exprs.length s.es.cap) ∧ W.cell? ⟨b8, 1, none⟩ = some (.int .i64 xw) ∧ Below W3.heap.size W3 W) (simp [*])
         (first
           | (go_at_call 230; refine (HW.out _ (by assumption)).mono ?_; rintro o8 w8 ⟨rfl, hb8⟩; have hb9 := Below.trans (by assumption : Below W3.heap.size W3 _) (hb8.mono (Below.size (by assumption))); obtain ⟨z0, z1, z2, z3, z4, z5, z6, z7⟩ := HC.out _ hb9)
           | (go_at_call 229; refine (HDF.out _).mono ?_; rintro o6 w6 ⟨rfl, rfl⟩)
           | fail)
       go_wp2_with fail
       go_ret
       exact ⟨congrArg (fun n => Ending.returned (.int .i64 n)) (by rw [HWR.out]; simp [HDF2.out]), HB03.out.trans ((by assumption : Below W3.heap.size W3 _).mono HB03.out.size)⟩
   · have hg4 : (xk == 4) = false := by simp; omega
     have hg5 : (xk != 4) = true := by simp; omega
     have hres : wr = 321 := by rw [HWR.out]; simp [hb]
     have HRES := Lib.hid hres
     clear hres hb
     go_wp2_with fail
     go_ret
     exact ⟨by rw [HRES.out]; rfl, HB03.out⟩
 · have hln := HF3.out hkd
   rw [hkd] at c0 HWR
   clear hkd HF1 HF2 HF3
   have hc1 := (HK.out.new HB03.out).c1
   go_upto_region 14 with fail
   have hlt2 : 1 < s.exprs.length := by omega
   obtain ⟨b, off, eE, hbe, hce⟩ := (HEX.out.row.below HBM.out).row (by omega)
   have hce2 := hce 1 hlt2
   have hrx := HEX.out.ok _ (List.getElem_mem hlt2)
   have hsu : subW K.p E s.exprs 1 = widthE K.p E s.exprs[1] := by rw [subW, List.getElem?_eq_getElem hlt2]
   have HSU := Lib.hid hsu
   generalize s.exprs[1] = y at *
   rw [eE] at c2
   have HC : Hid (∀ W, Below W3.heap.size W3 W → W.cell? ⟨b, off + 6, none⟩ = some (.int .u8 y.kind) ∧ W.cell? ⟨b, off + 7, none⟩ = some (.int .u8 y.op) ∧ W.cell? ⟨b, off + 8, none⟩ = some (.int .u32 y.value) ∧ W.cell? ⟨b, off + 9, none⟩ = some (.int .i64 y.width) ∧ W.cell? ⟨b, off + 10, none⟩ = some (.string y.name) ∧ W.cell? ⟨b, off + 11, none⟩ = some (.slice y.sp.at_ y.subs.length y.sp.cap) ∧ W.cell? ⟨w.heap.size, 2, none⟩ = some (.slice (some ⟨b, off, none⟩) s.exprs.length s.es.cap) ∧ W.cell? ⟨K.q, 1, none⟩ = some (.int .i64 K.p.width)) := Lib.hid fun W hW =>
     ⟨(hW.cell (p := ⟨b, _, none⟩) (by dsimp only; omega)).trans (hce2 0 _ rfl), (hW.cell (p := ⟨b, _, none⟩) (by dsimp only; omega)).trans (hce2 1 _ rfl), (hW.cell (p := ⟨b, _, none⟩) (by dsimp only; omega)).trans (hce2 2 _ rfl), (hW.cell (p := ⟨b, _, none⟩) (by dsimp only; omega)).trans (hce2 3 _ rfl), (hW.cell (p := ⟨b, _, none⟩) (by dsimp only; omega)).trans (hce2 4 _ rfl), (hW.cell (p := ⟨b, _, none⟩) (by dsimp only; omega)).trans (hce2 5 _ rfl), (hW.cell (p := ⟨w.heap.size, 2, none⟩) (by dsimp only; omega)).trans c2, (hW.cell (p := ⟨K.q, 1, none⟩) (by dsimp only; omega)).trans hc1⟩
   have HW : Hid (∀ W, Below W3.heap.size W3 W → Calls Tryz.prog 230 #[.pointer (some ⟨K.q, 0, none⟩), y.val] W fun o w' => o = .returned (.int .i64 (widthE K.p E y)) ∧ Below W.heap.size W w') := Lib.hid fun W hW => by
     have e : Below w.heap.size w W := HB03.out.trans (hW.mono HB03.out.size)
     exact width_any hrx W (e.mono hm) (by have := e.size; omega) (HK.out.new e)
   simp only [ExprV.val, Sp.val] at HW
   obtain ⟨v0, v1, v2, v3, v4, v5, v6, v7⟩ := HC.out W3.drew (Below.refl _ _).drew
   have hbd : Below W3.heap.size W3 W3.drew := (Below.refl _ _).drew
   have hj : (1 : Int) < (s.exprs.length : Int) := by omega
   clear hce2 hce hrx hsu eE hlt2 hbe
   generalize widthE K.p E y = wy at *
   cases hdf : differW wy K.p.width
   all_goals
     have hdf2 := hdf
     rw [← HSU.out] at hdf2
     have HDF2 := Lib.hid hdf2
     have HDF := Lib.hid (fun W => (hdf ▸ differ_any wy K.p.width W : Calls Tryz.prog 229 #[.int .i64 wy, .int .i64 K.p.width] W fun o w' => o = .returned (.bool _) ∧ W = w'))
     clear hdf hdf2
     go_region_held3 (fun W => W.cell? ⟨b, off + 6, none⟩ = some (.int .u8 y.kind) ∧ W.cell? ⟨b, off + 7, none⟩ = some (.int .u8 y.op) ∧ W.cell? ⟨b, off + 8, none⟩ = some (.int .u32 y.value) ∧ W.cell? ⟨b, off + 9, none⟩ = some (.int .i64 y.width) ∧ W.cell? ⟨b, off + 10, none⟩ = some (.string y.name) ∧ W.cell? ⟨b, off + 11, none⟩ = some (.slice y.sp.at_ y.subs.length y.sp.cap) ∧ W.cell? ⟨w.heap.size, 2, none⟩ = some (.slice (some ⟨b, off, none⟩) s.exprs.length s.es.cap) ∧ W.cell? ⟨K.q, 1, none⟩ = some (.int .i64 K.p.width) ∧ Below W3.heap.size W3 W) (simp [*])
       (first
         | (go_at_call 230; refine (HW.out _ (by assumption)).mono ?_; rintro o8 w8 ⟨rfl, hb8⟩; have hb9 := Below.trans (by assumption : Below W3.heap.size W3 _) (hb8.mono (Below.size (by assumption))); obtain ⟨z0, z1, z2, z3, z4, z5, z6, z7⟩ := HC.out _ hb9)
         | (go_at_call 229; refine (HDF.out _).mono ?_; rintro o6 w6 ⟨rfl, rfl⟩)
         | fail)
     go_wp2_with fail
     go_ret
     exact ⟨congrArg (fun n => Ending.returned (.int .i64 n)) (by rw [HWR.out]; simp [HDF2.out]), HB03.out.trans ((by assumption : Below W3.heap.size W3 _).mono HB03.out.size)⟩
 · rw [hkd] at c0 HWR
   clear hkd HF1 HF2 HF3
   by_cases hb1 : s.bound < 1
   · have hres : wr = 329 := by rw [HWR.out]; simp [hb1]
     have HRES := Lib.hid hres
     clear hres
     go_wp2_with fail
     go_ret
     exact ⟨by rw [HRES.out]; rfl, HB03.out⟩
   · by_cases hb2 : 16 < s.bound
     · have hres : wr = 329 := by rw [HWR.out]; simp [hb2]
       have HRES := Lib.hid hres
       clear hres
       go_wp2_with fail
       go_ret
       exact ⟨by rw [HRES.out]; rfl, HB03.out⟩
     · have hres : wr = 0 := by rw [HWR.out]; simp [hb1]; omega
       have HRES := Lib.hid hres
       clear hres
       go_wp2_with fail
       go_ret
       exact ⟨by rw [HRES.out]; rfl, HB03.out⟩
 · rw [hkd] at c0 HWR
   clear hkd HF1 HF2 HF3
   have hk3 := HK.out.new HB03.out
   have c23 := hk3.c23
   have l23 := hk3.lookN hnm
   have hbd : Below W3.heap.size W3 W3.drew := (Below.refl _ _).drew
   have l23' := (hk3.new hbd).lookN hnm
   have HBD := Lib.hid hbd
   clear hk3 hbd
   cases hlp : look (procsAt K.p) s.name with
   | none =>
     rw [hlp] at l23 l23' HWR
     simp only [Option.getD_none, Option.isSome_none] at l23 l23'
     have hres : wr = 321 := by rw [HWR.out]; simp
     have HRES := Lib.hid hres
     clear hres
     go_wp2_with fail
     go_region
     go_wp2_with fail
     go_ret
     exact ⟨by rw [HRES.out]; rfl, HB03.out.trans (HBD.out.mono HB03.out.size)⟩
   | some kx =>
     rw [hlp] at l23 l23' HWR
     simp only [Option.getD_some, Option.isSome_some] at l23 l23'
     obtain ⟨e1, e2, e3⟩ := look_procs hlp
     obtain ⟨i, rfl⟩ : ∃ i : Nat, kx = i := ⟨kx.toNat, e3.symm⟩
     simp only [Int.toNat_natCast] at e2 HWR
     have HE2 := Lib.hid e2
     have hbw := HB03.out.trans (HBD.out.mono HB03.out.size)
     have hAR := args_any W3.drew (HK.out.new hbw) i e2 (HEX.out.below (hbw.mono hm)) (by have := hbw.size; omega)
     have HAR := Lib.hid hAR
     have HBW := Lib.hid hbw
     clear hlp e1 e2 e3 hAR hbw
     simp only [Sp.val] at HAR
     cases hab : argsB K.p E i s.exprs with
     | true =>
       rw [hab] at HAR HWR
       have hres : wr = 327 := by rw [HWR.out]; simp
       have HRES := Lib.hid hres
       clear hres hab
       go_wp2_with fail
       go_region
       go_wp2_with (first | (go_at_call 276; refine HAR.out.mono ?_; rintro o4 w4 ⟨rfl, hb4⟩; have HB4 := Lib.hid hb4; clear hb4) | fail)
       go_ret
       exact ⟨by rw [HRES.out]; rfl, HBW.out.trans (HB4.out.mono HBW.out.size)⟩
     | false =>
       rw [hab] at HAR HWR
       clear hab
       go_wp2_with fail
       go_region
       go_upto_region 25 with (first | (go_at_call 276; refine HAR.out.mono ?_; rintro o4 w4 ⟨rfl, hb4⟩; have HB4 := Lib.hid hb4; clear hb4) | fail)
       have HB04 := Lib.hid (HBW.out.trans (HB4.out.mono HBW.out.size))
       have hk4 := HK.out.new HB04.out
       have c25 := hk4.c25
       by_cases hw0 : 0 ≤ E.within
       · obtain ⟨t, ht⟩ : ∃ t : Nat, E.within = t := ⟨E.within.toNat, by omega⟩
         rw [ht] at c25 HWR
         have hLE := leads_any w4 hk4 hH i HE2.out t (by omega)
         have HLE := Lib.hid hLE
         have ht0 : (0 : Int) ≤ (t : Int) := by omega
         simp only [Int.toNat_natCast] at HWR
         clear hLE ht hw0 hk4
         cases hlb : leadsB K.p i t
         all_goals
           rw [hlb] at HLE
           have HLB := Lib.hid hlb
           clear hlb
           go_wp2_with (first | (go_at_call 277; refine HLE.out.mono ?_; rintro o5 w5 ⟨rfl, hb5⟩; have HB5 := Lib.hid hb5; clear hb5) | fail)
           go_ret
           exact ⟨congrArg (fun n => Ending.returned (.int .i64 n)) (by rw [HWR.out]; simp [HLB.out]), HB04.out.trans (HB5.out.mono HB04.out.size)⟩
       · have hres : wr = 0 := by rw [HWR.out]; simp; omega
         have hw1 : decide (0 ≤ E.within) = false := decide_eq_false hw0
         have HRES := Lib.hid hres
         clear hres hw0 hk4
         go_wp2_with fail
         go_ret
         exact ⟨by rw [HRES.out]; rfl, HB04.out⟩
 · have hg1 : (s.kind == 1) = false := by simpa using h1
   have hg2 : (s.kind == 2) = false := by simpa using h2
   have hg3 : (s.kind == 3) = false := by simpa using h3
   have hg7 : (s.kind == 7) = false := by simpa using h7
   have hg8 : (s.kind == 8) = false := by simpa using h8
   have hres : wr = 0 := by rw [HWR.out, if_neg h1, if_neg h2, if_neg h3, if_neg h7, if_neg h8]
   have HRES := Lib.hid hres
   clear hres h1 h2 h3 h7 h8
   go_wp2_with fail
   go_ret
   exact ⟨by rw [HRES.out]; rfl, HB03.out⟩
end Go.Proofs.YtepacjkacjabbaaGreatDoor
namespace Go.Proofs.YtepacjkacjabbaaGreatDoor
open Go Go.RowKit
def formF (k bd : Int) (ne : Bool) (tn en ln : Int) : Bool :=
 if k = 1 then (decide (bd = 0) && decide (tn = 0) && decide (en = 0) && decide (ln = 1))
 else if k = 2 then (decide (bd = 0) && decide (tn = 0) && decide (en = 0) && decide (ln = 2))
 else if k = 3 then (ne && decide (bd = 0) && decide (tn = 0) && decide (en = 0) && decide (ln = 2))
 else if k = 4 then (ne && decide (bd = 0) && decide (tn = 0) && decide (en = 0) && decide (ln = 0))
 else if k = 5 then (ne && decide (bd = 0) && decide (tn = 0) && decide (en = 0) && decide (ln = 0))
 else if k = 6 then (ne && decide (bd = 0) && decide (ln = 1))
 else if k = 7 then (ne && decide (en = 0) && decide (ln = 1))
 else if k = 8 then (decide (bd = 0) && decide (tn = 0) && decide (en = 0))
 else false
theorem formF_eq (s : StmtV) : formB s = formF s.kind s.bound s.name.toList.isEmpty s.thn.length s.els.length s.exprs.length := by
 unfold formB formF
 rw [empty_iff]
 by_cases h4 : s.kind = 4
 · simp only [h4]; apply Bool.eq_iff_iff.2; simp [and_assoc]
 by_cases h5 : s.kind = 5
 · simp only [h5]; apply Bool.eq_iff_iff.2; simp [and_assoc]
 simp only [h4, h5, or_self, if_false]
 repeat' split
 all_goals first | rfl | (apply Bool.eq_iff_iff.2; simp [and_assoc]; done) | (apply Bool.eq_iff_iff.2; simp [and_assoc]; intros; omega)
set_option maxRecDepth 1000000 in
set_option maxHeartbeats 4000000 in
theorem form_any (w : World) (s : StmtV) (kk : 0 ≤ s.kind ∧ s.kind ≤ 255) (hl : s.exprs.length ≤ 2199023255552) (hl2 : s.thn.length ≤ 2199023255552) (hl3 : s.els.length ≤ 2199023255552) : Calls Tryz.prog 263 #[s.val] w fun o w' => o = .returned (.bool (formB s)) ∧ Below w.heap.size w w' := by
 rw [formF_eq]
 simp only [StmtV.val, Sp.val]
 generalize s.exprs.length = ln at *
 generalize s.thn.length = tn at *
 generalize s.els.length = en at *
 have hln : (0 : Int) ≤ (ln : Int) := by omega
 have htn : (0 : Int) ≤ (tn : Int) := by omega
 have hen : (0 : Int) ≤ (en : Int) := by omega
 generalize s.name = nm at *
 generalize s.es = es at *
 generalize s.ts = ts at *
 generalize s.os = os at *
 generalize s.kind = k at *
 generalize s.bound = bd at *
 have hsh : formF k bd nm.toList.isEmpty tn en ln = formF k bd nm.toList.isEmpty tn en ln := rfl
 conv at hsh => rhs; unfold formF
 generalize formF k bd nm.toList.isEmpty tn en ln = res at *
 have HSH := Lib.hid hsh
 clear hsh
 have hb1 : Below w.heap.size w (w.alloc (.cells #[.int .u8 k, .string nm, .slice es.at_ ln es.cap, .int .i64 bd, .slice ts.at_ tn ts.cap, .slice os.at_ en os.cap] 43)) := (Below.refl _ _).alloc (Nat.le_refl _) _
 have hB := World.alloc_heap_new w (.cells #[.int .u8 k, .string nm, .slice es.at_ ln es.cap, .int .i64 bd, .slice ts.at_ tn ts.cap, .slice os.at_ en os.cap] 43)
 have HB1 := Lib.hid hb1
 have HB := Lib.hid hB
 clear hb1 hB
 go_enter Tryz.func263, Tryz.ntmps263
 go_upto_region 1 with (fail)
 generalize w.alloc (.cells #[.int .u8 k, .string nm, .slice es.at_ ln es.cap, .int .i64 bd, .slice ts.at_ tn ts.cap, .slice os.at_ en os.cap] 43) = W2 at *
 obtain ⟨c0, c1, c2, c3, c4, c5⟩ := six_cells HB.out
 go_quiet (fail)
 rcases (show k = 1 ∨ k = 8 ∨ k = 2 ∨ k = 3 ∨ k = 4 ∨ k = 5 ∨ k = 6 ∨ k = 7 ∨ (k ≠ 1 ∧ k ≠ 8 ∧ k ≠ 2 ∧ k ≠ 3 ∧ k ≠ 4 ∧ k ≠ 5 ∧ k ≠ 6 ∧ k ≠ 7) by omega) with hkd | hkd | hkd | hkd | hkd | hkd | hkd | hkd | hkd
 case inr.inr.inr.inr.inr.inr.inr.inr =>
   obtain ⟨h1, h8, h2, h3, h4, h5, h6, h7⟩ := hkd
   have g1 : (k == 1) = false := by simpa using h1
   have g2 : (k == 2) = false := by simpa using h2
   have g3 : (k == 3) = false := by simpa using h3
   have g4 : (k == 4) = false := by simpa using h4
   have g5 : (k == 5) = false := by simpa using h5
   have g6 : (k == 6) = false := by simpa using h6
   have g7 : (k == 7) = false := by simpa using h7
   have g8 : (k == 8) = false := by simpa using h8
   have hres : res = false := by rw [HSH.out]; simp [*]
   clear h1 h2 h3 h4 h5 h6 h7 h8
   subst hres
   go_wp2
   go_ret
   exact ⟨rfl, drewN_below HB1.out _⟩
 case inr.inl =>
   subst hkd
   have hself : ((ln : Int) == (ln : Int)) = true := by simp
   go_wp2
   go_quiet (fail)
   go_wp2
   all_goals (go_ret; exact ⟨ret_bool (by rw [HSH.out]; simp_all <;> (apply Bool.eq_iff_iff.2; simp only [beq_iff_eq, decide_eq_true_eq]; try omega)), drewN_below HB1.out _⟩)
 all_goals
   subst hkd
   go_wp2
   all_goals (go_ret; exact ⟨ret_bool (by rw [HSH.out]; simp_all <;> (apply Bool.eq_iff_iff.2; simp only [beq_iff_eq, decide_eq_true_eq]; try omega)), drewN_below HB1.out _⟩)
end Go.Proofs.YtepacjkacjabbaaGreatDoor
