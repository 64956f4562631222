import Derived.Test.YtepacjkacjabbaaGreatDoorKBK
import Derived.Test.YtepacjkacjabbaaGreatDoorKBE
import Derived.Test.YtepacjkacjabbaaGreatDoorKBC
namespace Go.Proofs.YtepacjkacjabbaaGreatDoor
open Go Go.RowKit Go.Maps
theorem smB_same {l l' r r' : List StmtV} (h : l.map bareT = l'.map bareT) (h2 : r.map bareT = r'.map bareT) : bareP (smB l r) = bareP (smB l' r') := by
 unfold bareP smB
 simp only [h, h2]
structure AwP (p : ProgV) : Prop where
 ready : ReadyP p
 weight : weightU p = 26
 depth : depthU p = 4
 inits : p.inits = []
 free : freeB p.work = false
 un : (unTs p.work).map bareT = [ifT [incT, ifT [incT, ifT [passT]]]]
 pass : passesN (unTs p.work) = 1
 rec0 : passesN (unTs p.recover) = 0
theorem awP_of {v ws : Sp} {s : StmtV} (h : bareT s = countT 2) : AwP (smU v ws Sp.none [s] []) := by
 have hb : bareT (countT 2) = countT 2 := by kernel_rfl
 have hm : [s].map bareT = [countT 2].map bareT := by rw [List.map_cons, List.map_cons, h, hb]
 have e : bareP (smU v ws Sp.none [s] []) = bareP (smB [countT 2] []) := (smU_bare _ _ _ _ _).trans (smB_same hm rfl)
 have hu := uns_same hm
 refine ⟨awake_ready.same e, by rw [weightU_same e]; exact awake_weight, by rw [depthU_same e]; exact awake_depth, rfl, ?_, hu.trans awake_un, ?_, awake_pass.2⟩
 · show freeB [s] = false
   rw [freeB_same hm]
   exact awake_free
 · show passesN (unTs [s]) = 1
   rw [passesN_same hu]
   exact awake_pass.1
theorem emptyP {v : Sp} : ReadyP (smU v Sp.none Sp.none [] []) ∧ weightU (smU v Sp.none Sp.none [] []) = 4 := by
 have e : bareP (smU v Sp.none Sp.none [] []) = bareP (smB [] []) := smU_bare _ _ _ _ _
 exact ⟨empty_ready.same e, by rw [weightU_same e]; exact empty_weight⟩
theorem count_heft {sc : StmtV} (h : bareT sc = countT 1) : heftL [sc] ≤ 20000 := by
 have e : heftL [sc] = heftL [countT 1] := by rw [← heftL_bare, List.map_cons, List.map_nil, h]
 have e0 : heftL [] = 0 := rfl
 have x1 : heftX (countT 1).exprs = 3 := by rw [← nXs_eq]; kernel_rfl
 have x2 : heftX incT.exprs = 3 := by rw [← nXs_eq]; kernel_rfl
 have y1 : (countT 1).thn = [incT] := rfl
 have y2 : (countT 1).els = [] := rfl
 have y3 : incT.thn = [] := rfl
 have y4 : incT.els = [] := rfl
 rw [e, heftL_M, x1, y1, y2, heftL_M, x2, y3, y4, e0]
 decide
theorem count_no {sc : StmtV} (h : bareT sc = countT 1) : isPass sc = false := by rw [← isPass_bare, h]; exact count_pass
theorem one_heft {sp : Sp} : heftL [whU sp (numE 1 1) 1 Sp.none []] ≤ 20000 := by
 have e0 : heftL [] = 0 := rfl
 have x1 : heftX (whU sp (numE 1 1) 1 Sp.none []).exprs = 1 := by rw [← nXs_eq]; kernel_rfl
 have y1 : (whU sp (numE 1 1) 1 Sp.none []).thn = [] := rfl
 have y2 : (whU sp (numE 1 1) 1 Sp.none []).els = [] := rfl
 rw [heftL_M, x1, y1, y2, e0]
 decide
theorem one_yes {sp : Sp} : isPass (whU sp (numE 1 1) 1 Sp.none []) = true := by
 rw [← isPass_bare]
 exact one_pass
theorem row_at {W : World} {n : Nat} {sp : Sp} {l : List StmtV} (h : RowOf n W sp 6 StmtV.cells l) (h0 : 0 < l.length) : ∃ b off, sp.at_ = some ⟨b, off, none⟩ ∧ b < n ∧ ∀ j (hj : j < l.length) r u, (l[j]).cells[r]? = some u → W.cell? ⟨b, off + j * 6 + r, none⟩ = some u := h.row h0
set_option maxRecDepth 10000000 in
set_option maxHeartbeats 64000000 in
theorem awakeU_any (w : World) (hn0 : 0 < w.heap.size) (hmx : MxAt w) : Calls Tryz.prog 26 #[] w fun o w' => o = .returned (.bool true) ∧ Below w.heap.size w w' := by
 have HMX := Lib.hid hmx
 clear hmx
 go_enter Tryz.func26, Tryz.ntmps26
 go_wp2_with fail
 refine (count_anyU 2 (by decide) w).mono ?_
 rintro o W1 ⟨s, rfl, hs, hsr, hb1⟩
 have hb2 : Below W1.heap.size W1 (W1.alloc (.cells #[.int .u8 s.kind, .string s.name, .slice s.es.at_ s.exprs.length s.es.cap, .int .i64 s.bound, .slice s.ts.at_ s.thn.length s.ts.cap, .slice s.os.at_ s.els.length s.os.cap] 43)) := (Below.refl _ _).alloc (Nat.le_refl _) _
 have hr2 := row_one (enc := StmtV.cells) (x := s) (k := 6) (World.alloc_heap_new W1 (.cells #[.int .u8 s.kind, .string s.name, .slice s.es.at_ s.exprs.length s.es.cap, .int .i64 s.bound, .slice s.ts.at_ s.thn.length s.ts.cap, .slice s.os.at_ s.els.length s.os.cap] 43))
 have hSM := small_anyU ⟨some ⟨W1.heap.size, 0, none⟩, 1⟩ [s] (W1.alloc (.cells #[.int .u8 s.kind, .string s.name, .slice s.es.at_ s.exprs.length s.es.cap, .int .i64 s.bound, .slice s.ts.at_ s.thn.length s.ts.cap, .slice s.os.at_ s.els.length s.os.cap] 43)) ⟨hr2, fun t ht => by rw [List.mem_singleton.1 ht]; exact hsr.on hb2⟩
 have HSM := Lib.hid hSM
 have HS := Lib.hid hs
 have HB2 := Lib.hid (hb1.trans (hb2.mono hb1.size))
 clear hb1 hb2 hr2 hSM hs hsr
 simp only [StmtV.val, Sp.val]
 go_wp2_with fail
 generalize W1.alloc (.cells #[.int .u8 s.kind, .string s.name, .slice s.es.at_ s.exprs.length s.es.cap, .int .i64 s.bound, .slice s.ts.at_ s.thn.length s.ts.cap, .slice s.os.at_ s.els.length s.os.cap] 43) = W2 at *
 refine HSM.out.mono ?_
 rintro o W3 ⟨bv, rfl, hrd, hb3⟩
 have HAW := Lib.hid (awP_of (v := ⟨some ⟨bv, 0, none⟩, 1⟩) (ws := ⟨some ⟨W1.heap.size, 0, none⟩, 1⟩) HS.out)
 have HB3 := Lib.hid (HB2.out.trans (hb3.mono HB2.out.size))
 obtain ⟨p, hp⟩ : ∃ p, p = smU ⟨some ⟨bv, 0, none⟩, 1⟩ ⟨some ⟨W1.heap.size, 0, none⟩, 1⟩ Sp.none [s] [] := ⟨_, rfl⟩
 rw [← hp] at HAW hrd ⊢
 have hpv : p.val = .agg p.arr := rfl
 rw [hpv]
 have HRD := Lib.hid hrd
 clear hb3 hp hrd HSM HS HB2 hpv
 have hz := World.alloc_heap_new W3 (.cells zeroP.arr 35)
 have HZ := Lib.hid hz
 have HA : Hid (Below W3.heap.size W3 (W3.alloc (.cells zeroP.arr 35))) := Lib.hid ((Below.refl _ _).alloc (Nat.le_refl _) _)
 clear hz
 go_upto_region 2 with (first
   | (refine wpList_allocRow (t := 35) rfl rfl (run_zeroP _) ?_)
   | (refine wpList_store_row rfl 35 _ _ rfl W3.heap.size p.arr (by rfl) (by rfl) 35 zeroP.arr HZ.out (arr_size _) (by kernel_rfl) (arr_one _) ?_)
   | fail)
 have hb4 : Below W3.heap.size W3 ((W3.alloc (.cells zeroP.arr 35)).setRow W3.heap.size p.arr) := below_setRow HA.out (Nat.le_refl _)
 have HX4 := Lib.hid (setRow_heap _ _ _ p.arr _ _ HZ.out)
 have HB4 := Lib.hid (HB3.out.trans (hb4.mono HB3.out.size))
 have HR4 := Lib.hid (HRD.out.on hb4)
 clear hb4 HZ HA HB3 HRD
 generalize (W3.alloc (.cells zeroP.arr 35)).setRow W3.heap.size p.arr = W4 at *
 generalize W3.heap.size = b1 at *
 have hn4 : 0 < W4.heap.size := Nat.lt_of_lt_of_le hn0 HB4.out.size
 have HM4 := Lib.hid (HMX.out.below HB4.out hn0)
 have HUN := Lib.hid (unroll_any W4 p HR4.out hn4 HM4.out HAW.out.ready HAW.out.inits (by rw [HAW.out.weight]; decide) (by rw [HAW.out.depth]; decide))
 go_wp2_with (first | (refine wpList_load_row rfl 35 _ rfl b1 rfl 35 p.arr (0, 0) _ HX4.out Tryz.underlying35 rfl (arr_size _) ?_) | fail)
 refine HUN.out.mono ?_
 rintro o W5 ⟨q, rfl, hqb, hqr, hb5⟩
 have hz := World.alloc_heap_new W5 (.cells zeroP.arr 35)
 have HZ := Lib.hid hz
 have HA : Hid (Below W5.heap.size W5 (W5.alloc (.cells zeroP.arr 35))) := Lib.hid ((Below.refl _ _).alloc (Nat.le_refl _) _)
 have HQB := Lib.hid hqb
 have HQR := Lib.hid hqr
 have HX5 := Lib.hid ((hb5.block _ (Array.getElem?_eq_some_iff.1 HX4.out).1).trans HX4.out)
 have HB5 := Lib.hid hb5
 clear hz hqb hqr hb5 HUN
 go_upto_region 3 with (first
   | (refine wpList_allocRow (t := 35) rfl rfl (run_zeroP _) ?_)
   | (refine wpList_store_row rfl 35 _ _ rfl W5.heap.size q.arr (by rfl) (by rfl) 35 zeroP.arr HZ.out (arr_size _) (by kernel_rfl) (arr_one _) ?_)
   | fail)
 have hb6 : Below W5.heap.size W5 ((W5.alloc (.cells zeroP.arr 35)).setRow W5.heap.size q.arr) := below_setRow HA.out (Nat.le_refl _)
 have HY6 := Lib.hid (setRow_heap _ _ _ q.arr _ _ HZ.out)
 have HX6 := Lib.hid ((hb6.block _ (Array.getElem?_eq_some_iff.1 HX5.out).1).trans HX5.out)
 have HQ6 := Lib.hid (HQR.out.on hb6)
 have HB6 := Lib.hid (HB5.out.trans (hb6.mono HB5.out.size))
 clear hb6 HZ HA HX5 HB5 HQR
 generalize (W5.alloc (.cells zeroP.arr 35)).setRow W5.heap.size q.arr = W6 at *
 generalize W5.heap.size = b2 at *
 have hqw : (q.work).map bareT = [ifT [incT, ifT [incT, ifT [passT]]]] := (congrArg ProgV.work HQB.out).trans HAW.out.un
 obtain ⟨s0, t0, s1, t1, s2, tp, e0, k0, e1, k1, e2, e3, hpass⟩ := awake_shape hqw
 have HSHP := Lib.hid (And.intro e0 (And.intro k0 (And.intro e1 (And.intro k1 (And.intro e2 (And.intro e3 hpass))))))
 clear hqw e0 k0 e1 k1 e2 e3 hpass HQB
 have HC := Lib.hid (by have h := weightU_any W6 p (HR4.out.on HB6.out) (Nat.lt_of_lt_of_le hn4 HB6.out.size) (HM4.out.below HB6.out hn4) HAW.out.ready; rw [HAW.out.weight] at h; exact h)
 go_wp2_with (first | (refine wpList_load_row rfl 35 _ rfl b1 rfl 35 p.arr (0, 0) _ HX6.out Tryz.underlying35 rfl (arr_size _) ?_) | fail)
 refine HC.out.mono ?_
 rintro o W7 ⟨rfl, hb⟩
 have HX7 := Lib.hid ((hb.block _ (Array.getElem?_eq_some_iff.1 HX6.out).1).trans HX6.out)
 have HY7 := Lib.hid ((hb.block _ (Array.getElem?_eq_some_iff.1 HY6.out).1).trans HY6.out)
 have HQ7 := Lib.hid (HQ6.out.on hb)
 have HB7 := Lib.hid (HB6.out.trans (hb.mono HB6.out.size))
 clear hb HX6 HY6 HQ6 HB6 HC
 go_wp2_with fail
 refine (small_anyU Sp.none [] W7 ⟨RowOf.nil, fun _ h => absurd h (by simp)⟩).mono ?_
 rintro o W8 ⟨bv0, rfl, hrd0, hb⟩
 have HX8 := Lib.hid ((hb.block _ (Array.getElem?_eq_some_iff.1 HX7.out).1).trans HX7.out)
 have HY8 := Lib.hid ((hb.block _ (Array.getElem?_eq_some_iff.1 HY7.out).1).trans HY7.out)
 have HQ8 := Lib.hid (HQ7.out.on hb)
 have HB8 := Lib.hid (HB7.out.trans (hb.mono HB7.out.size))
 obtain ⟨pe, hpe⟩ : ∃ pe, pe = smU ⟨some ⟨bv0, 0, none⟩, 1⟩ Sp.none Sp.none [] [] := ⟨_, rfl⟩
 have hep := emptyP (v := ⟨some ⟨bv0, 0, none⟩, 1⟩)
 rw [← hpe] at hrd0 hep ⊢
 have hpv : pe.val = .agg pe.arr := rfl
 rw [hpv]
 have HC := Lib.hid (by have h := weightU_any W8 pe hrd0 (Nat.lt_of_lt_of_le hn4 HB8.out.size) (HM4.out.below HB8.out hn4) hep.1; rw [hep.2] at h; exact h)
 clear hb HX7 HY7 HQ7 HB7 hrd0 hep hpe hpv
 go_wp2_with fail
 refine HC.out.mono ?_
 rintro o W9 ⟨rfl, hb⟩
 have HX9 := Lib.hid ((hb.block _ (Array.getElem?_eq_some_iff.1 HX8.out).1).trans HX8.out)
 have HY9 := Lib.hid ((hb.block _ (Array.getElem?_eq_some_iff.1 HY8.out).1).trans HY8.out)
 have HQ9 := Lib.hid (HQ8.out.on hb)
 have HB9 := Lib.hid (HB8.out.trans (hb.mono HB8.out.size))
 clear hb HX8 HY8 HQ8 HB8 HC
 have HC := Lib.hid (by have h := depthU_any W9 p (HR4.out.on HB9.out) (Nat.lt_of_lt_of_le hn4 HB9.out.size) HAW.out.ready.names HAW.out.ready.weight (HM4.out.below HB9.out hn4) HAW.out.ready.right HAW.out.ready.chk HAW.out.ready.len HAW.out.ready.heft; have e : max (min (dpTs p.work 0) 1001) (min (dpTs p.recover 0) 1001) = 4 := HAW.out.depth; rw [e] at h; exact h)
 go_wp2_with (first | (refine wpList_load_row rfl 35 _ rfl b1 rfl 35 p.arr (0, 0) _ HX9.out Tryz.underlying35 rfl (arr_size _) ?_) | fail)
 refine HC.out.mono ?_
 rintro o W10 ⟨rfl, hb⟩
 have HX10 := Lib.hid ((hb.block _ (Array.getElem?_eq_some_iff.1 HX9.out).1).trans HX9.out)
 have HY10 := Lib.hid ((hb.block _ (Array.getElem?_eq_some_iff.1 HY9.out).1).trans HY9.out)
 have HQ10 := Lib.hid (HQ9.out.on hb)
 have HB10 := Lib.hid (HB9.out.trans (hb.mono HB9.out.size))
 clear hb HX9 HY9 HQ9 HB9 HC
 have HC := Lib.hid (by have h := passes_any W10 p (HR4.out.on HB10.out) (Nat.lt_of_lt_of_le hn4 HB10.out.size) (HM4.out.below HB10.out hn4) HAW.out.ready HAW.out.inits (by rw [HAW.out.weight]; decide) (by rw [HAW.out.depth]; decide); rw [HAW.out.pass, HAW.out.rec0] at h; exact h)
 go_wp2_with (first | (refine wpList_load_row rfl 35 _ rfl b1 rfl 35 p.arr (0, 0) _ HX10.out Tryz.underlying35 rfl (arr_size _) ?_) | fail)
 refine HC.out.mono ?_
 rintro o W11 ⟨rfl, hb⟩
 have HX11 := Lib.hid ((hb.block _ (Array.getElem?_eq_some_iff.1 HX10.out).1).trans HX10.out)
 have HY11 := Lib.hid ((hb.block _ (Array.getElem?_eq_some_iff.1 HY10.out).1).trans HY10.out)
 have HQ11 := Lib.hid (HQ10.out.on hb)
 have HB11 := Lib.hid (HB10.out.trans (hb.mono HB10.out.size))
 clear hb HX10 HY10 HQ10 HB10 HC
 have HC := Lib.hid (freeNo_any W11 p (HR4.out.on HB11.out) (Nat.lt_of_lt_of_le hn4 HB11.out.size) (HM4.out.below HB11.out hn4) HAW.out.ready HAW.out.free)
 go_wp2_with (first | (refine wpList_load_row rfl 35 _ rfl b1 rfl 35 p.arr (0, 0) _ HX11.out Tryz.underlying35 rfl (arr_size _) ?_) | fail)
 refine HC.out.mono ?_
 rintro o W12 ⟨rfl, hb⟩
 have HX12 := Lib.hid ((hb.block _ (Array.getElem?_eq_some_iff.1 HX11.out).1).trans HX11.out)
 have HY12 := Lib.hid ((hb.block _ (Array.getElem?_eq_some_iff.1 HY11.out).1).trans HY11.out)
 have HQ12 := Lib.hid (HQ11.out.on hb)
 have HB12 := Lib.hid (HB11.out.trans (hb.mono HB11.out.size))
 clear hb HX11 HY11 HQ11 HB11 HC
 obtain ⟨e0, k0, e1, k1, e2, e3, hpass⟩ := HSHP.out
 have hw0 := HQ12.out.work
 obtain ⟨ba, oa, ea, -, ha⟩ := row_at hw0.row (show 0 < q.work.length by rw [e0]; exact Nat.one_pos)
 have hs0 : RdT W12.heap.size W12 s0 := hw0.ok s0 (by rw [e0]; exact List.mem_singleton.2 rfl)
 obtain ⟨bb, ob, eb, -, hbc⟩ := row_at hs0.then_.row (show 0 < s0.thn.length by rw [e1]; exact Nat.succ_pos _)
 have hs1 : RdT W12.heap.size W12 s1 := hs0.then_.ok s1 (by rw [e1]; simp)
 obtain ⟨bc, oc, ec, -, hcc⟩ := row_at hs1.then_.row (show 0 < s1.thn.length by rw [e2]; exact Nat.succ_pos _)
 have hs2 : RdT W12.heap.size W12 s2 := hs1.then_.ok s2 (by rw [e2]; simp)
 obtain ⟨bd, od, ed, -, hdc⟩ := row_at hs2.then_.row (show 0 < s2.thn.length by rw [e3]; exact Nat.succ_pos _)
 have htp : RdT W12.heap.size W12 tp := hs2.then_.ok tp (by rw [e3]; simp)
 have c14 : W12.cell? ⟨b2, 14, none⟩ = some (.slice (some ⟨ba, oa, none⟩) 1 q.ws.cap) := by
   have h := (show Bx b2 W12 q from HY12.out).cell 14 rfl
   rw [e0, show q.ws.val [s0].length = .slice q.ws.at_ 1 q.ws.cap from rfl, ea] at h
   exact h
 have a0 : W12.cell? ⟨ba, oa, none⟩ = some (.int .u8 6) := by
   have h := ha 0 (by rw [e0]; exact Nat.one_pos) 0 (.int .u8 s0.kind) (by simp only [e0]; rfl)
   rw [k0] at h; exact h
 have a4 : W12.cell? ⟨ba, oa + 4, none⟩ = some (.slice (some ⟨bb, ob, none⟩) 2 s0.ts.cap) := by
   have h := ha 0 (by rw [e0]; exact Nat.one_pos) 4 (.slice s0.ts.at_ s0.thn.length s0.ts.cap) (by simp only [e0]; rfl)
   rw [e1, eb] at h; exact h
 have s1c : ∀ r u, s1.cells[r]? = some u → W12.cell? ⟨bb, ob + 6 + r, none⟩ = some u := fun r u hu => by
   have h := hbc 1 (by rw [e1]; exact Nat.one_lt_two) r u (by simp only [e1]; exact hu)
   exact h
 have b0 : W12.cell? ⟨bb, ob + 6, none⟩ = some (.int .u8 6) := by have h := s1c 0 _ rfl; rw [k1] at h; exact h
 have b1' : W12.cell? ⟨bb, ob + 6 + 1, none⟩ = some (.string s1.name) := s1c 1 _ rfl
 have b2' : W12.cell? ⟨bb, ob + 6 + 2, none⟩ = some (.slice s1.es.at_ s1.exprs.length s1.es.cap) := s1c 2 _ rfl
 have b3' : W12.cell? ⟨bb, ob + 6 + 3, none⟩ = some (.int .i64 s1.bound) := s1c 3 _ rfl
 have b4' : W12.cell? ⟨bb, ob + 6 + 4, none⟩ = some (.slice (some ⟨bc, oc, none⟩) 2 s1.ts.cap) := by
   have h := s1c 4 (.slice s1.ts.at_ s1.thn.length s1.ts.cap) rfl
   rw [e2, ec] at h; exact h
 have b5' : W12.cell? ⟨bb, ob + 6 + 5, none⟩ = some (.slice s1.os.at_ s1.els.length s1.os.cap) := s1c 5 _ rfl
 have d4 : W12.cell? ⟨bc, oc + 6 + 4, none⟩ = some (.slice (some ⟨bd, od, none⟩) 1 s2.ts.cap) := by
   have h := hcc 1 (by rw [e2]; exact Nat.one_lt_two) 4 (.slice s2.ts.at_ s2.thn.length s2.ts.cap) (by simp only [e2]; rfl)
   rw [e3, ed] at h; exact h
 have tpc : ∀ r u, tp.cells[r]? = some u → W12.cell? ⟨bd, od + r, none⟩ = some u := fun r u hu => by
   have h := hdc 0 (by rw [e3]; exact Nat.one_pos) r u (by simp only [e3]; exact hu)
   rwa [Nat.zero_mul, Nat.add_zero] at h
 have HTP := Lib.hid (And.intro htp hpass)
 have HTC := Lib.hid tpc
 have HD4 := Lib.hid d4
 have HLT : Hid (bc < W12.heap.size ∧ bd < W12.heap.size) := Lib.hid (by
   obtain ⟨x1, y1, f1, g1, -⟩ := row_at hs1.then_.row (show 0 < s1.thn.length by rw [e2]; exact Nat.succ_pos _)
   obtain ⟨x2, y2, f2, g2, -⟩ := row_at hs2.then_.row (show 0 < s2.thn.length by rw [e3]; exact Nat.succ_pos _)
   rw [ec] at f1; rw [ed] at f2; cases f1; cases f2; exact ⟨g1, g2⟩)
 clear e0 k0 e1 k1 e2 e3 hpass hw0 ea ha hs0 eb hbc hs1 ec hcc hs2 ed hdc htp s1c tpc d4 HSHP
 go_upto_region 11 with fail
 clear c14 a0 a4 b0 b1' b2' b3' b4' b5'
 have hb13 : Below W12.heap.size W12 (W12.alloc (.cells #[.int .u8 6, .string s1.name, .slice s1.es.at_ s1.exprs.length s1.es.cap, .int .i64 s1.bound, .slice (some ⟨bc, oc, none⟩) 2 s1.ts.cap, .slice s1.os.at_ s1.els.length s1.os.cap] 43)) := (Below.refl _ _).alloc (Nat.le_refl _) _
 obtain ⟨x0, x1, x2, x3, x4, x5⟩ := six_cells (World.alloc_heap_new W12 (.cells #[.int .u8 6, .string s1.name, .slice s1.es.at_ s1.exprs.length s1.es.cap, .int .i64 s1.bound, .slice (some ⟨bc, oc, none⟩) 2 s1.ts.cap, .slice s1.os.at_ s1.els.length s1.os.cap] 43))
 have d4 := (hb13.cell (p := ⟨bc, oc + 6 + 4, none⟩) HLT.out.1).trans HD4.out
 have tq : ∀ r u, tp.cells[r]? = some u → (W12.alloc (.cells #[.int .u8 6, .string s1.name, .slice s1.es.at_ s1.exprs.length s1.es.cap, .int .i64 s1.bound, .slice (some ⟨bc, oc, none⟩) 2 s1.ts.cap, .slice s1.os.at_ s1.els.length s1.os.cap] 43)).cell? ⟨bd, od + r, none⟩ = some u := fun r u hu => (hb13.cell (p := ⟨bd, od + r, none⟩) HLT.out.2).trans (HTC.out r u hu)
 have p0 := tq 0 _ rfl
 have p1 := tq 1 _ rfl
 have p2 := tq 2 _ rfl
 have p3 := tq 3 _ rfl
 have p4 := tq 4 _ rfl
 have p5 := tq 5 _ rfl
 rw [Nat.add_zero] at p0
 simp only [Sp.val] at p2 p4 p5
 have hbp : bareT tp = passT := by have h := (eqT_iff _ _).1 HTP.out.2; rw [h]; exact bare_pass
 have HIP := Lib.hid (by have h := isPass_any (W12.alloc (.cells #[.int .u8 6, .string s1.name, .slice s1.es.at_ s1.exprs.length s1.es.cap, .int .i64 s1.bound, .slice (some ⟨bc, oc, none⟩) 2 s1.ts.cap, .slice s1.os.at_ s1.els.length s1.os.cap] 43)) tp ((HTP.out.1.stays hb13).more hb13.size) (heft_pass1 hbp); rw [HTP.out.2] at h; exact h)
 have HB13 := Lib.hid (HB12.out.trans (hb13.mono HB12.out.size))
 clear hb13 tq hbp HTP HTC HD4 HX12 HY12 HQ12 HB12
 generalize W12.alloc (.cells #[.int .u8 6, .string s1.name, .slice s1.es.at_ s1.exprs.length s1.es.cap, .int .i64 s1.bound, .slice (some ⟨bc, oc, none⟩) 2 s1.ts.cap, .slice s1.os.at_ s1.els.length s1.os.cap] 43) = W13 at *
 go_wp2_with fail
 refine HIP.out.mono ?_
 rintro o W14 ⟨rfl, hb⟩
 have HB14 := Lib.hid (HB13.out.trans (hb.mono HB13.out.size))
 clear hb HIP x0 x1 x2 x3 x4 x5 d4 p0 p1 p2 p3 p4 p5 HB13
 go_wp2_with fail
 refine (count_anyU 1 (by decide) W14).mono ?_
 rintro o W15 ⟨sc, rfl, hsc, hscr, hb⟩
 have HB15 := Lib.hid (HB14.out.trans (hb.mono HB14.out.size))
 have HIP := Lib.hid (by have h := isPass_any W15 sc hscr (count_heft hsc); rw [count_no hsc] at h; exact h)
 clear hb HB14 hsc hscr
 simp only [StmtV.val, Sp.val]
 go_wp2_with fail
 refine HIP.out.mono ?_
 rintro o W16 ⟨rfl, hb⟩
 have HB16 := Lib.hid (HB15.out.trans (hb.mono HB15.out.size))
 clear hb HIP HB15
 go_wp2_with fail
 refine (num_anyU 1 1 (by decide) W16).mono ?_
 rintro o W17 ⟨rfl, hb⟩
 have HB17 := Lib.hid (HB16.out.trans (hb.mono HB16.out.size))
 clear hb HB16
 go_wp2_with fail
 refine (while_anyU 1 (by decide) (numE 1 1) Sp.none [] W17 (num_now _ 1 1 (by decide) (by decide)) ⟨RowOf.nil, fun _ h => absurd h (by simp)⟩).mono ?_
 rintro o W18 ⟨sp9, rfl, ht9, hb⟩
 have HB18 := Lib.hid (HB17.out.trans (hb.mono HB17.out.size))
 have HIP := Lib.hid (by have h := isPass_any W18 (whU sp9 (numE 1 1) 1 Sp.none []) ht9 one_heft; rw [one_yes] at h; exact h)
 clear hb HB17 ht9
 simp only [whU, StmtV.val, StmtV.kind, StmtV.name, StmtV.es, StmtV.exprs, StmtV.bound, StmtV.ts, StmtV.thn, StmtV.os, StmtV.els, Sp.val, Sp.none, List.length_cons, List.length_nil, Nat.zero_add]
 go_wp2_with fail
 refine HIP.out.mono ?_
 rintro o W19 ⟨rfl, hb⟩
 have HB19 := Lib.hid (HB18.out.trans (hb.mono HB18.out.size))
 clear hb HIP HB18
 go_wp2_with fail
 go_ret
 exact ⟨rfl, HB4.out.trans (HB19.out.mono HB4.out.size)⟩
end Go.Proofs.YtepacjkacjabbaaGreatDoor
namespace Go.Proofs.YtepacjkacjabbaaGreatDoor
open Go Go.RowKit Go.Maps
def ZeroP (W : World) (b : Nat) : Prop := W.heap[b]? = some (.cells zeroP.arr 35 (0, 0))
theorem zero_cell {W : World} {b i : Nat} {u : Value} (hz : ZeroP W b) (h : W.cell? ⟨b, i, none⟩ = some u) : u ∈ zeroP.cells := by
 have hh : W.heap[b]? = _ := hz
 simp only [World.cell?, hh] at h
 exact List.mem_of_getElem? (by simpa [ProgV.arr] using h)
theorem row_avoidZ {α : Type} {n k b : Nat} {W : World} {sp : Sp} {enc : α → List Value} {l : List α} (hz : ZeroP W b) (h : RowOf n W sp k enc l) (hne : ∀ x : α, x ∈ l → ∃ (r : Nat) (u : Value), (enc x)[r]? = some u ∧ u ∉ zeroP.cells) : RowOf n (mask b W) sp k enc l :=
 row_avoid (b := b) h fun off h0 e => by
   obtain ⟨b', off', e', _, hx⟩ := h.row h0
   rw [e] at e'
   cases e'
   obtain ⟨r, u, h1, h2⟩ := hne _ (List.getElem_mem h0)
   exact h2 (zero_cell hz (hx 0 h0 r u h1))
theorem kind_zero {k : Int} (h : k ≠ 0) : Value.int .u8 k ∉ zeroP.cells := by
 simp [zeroP, ProgV.cells, zeroE, Sp.val, Sp.none, ExprV.kind, ExprV.op, ExprV.name, h]
theorem name_zero {s : ByteArray} (h : s ≠ ⟨#[]⟩) : Value.string s ∉ zeroP.cells := by
 simp [zeroP, ProgV.cells, zeroE, Sp.val, Sp.none, ExprV.kind, ExprV.op, ExprV.name, h]
def PlainT (s : StmtV) : Prop := ∀ x ∈ s.pre, x.kind ≠ 0 ∧ ∀ e ∈ x.exprs, e.kind ≠ 0 ∧ e.subs = []
theorem PlainT.of {s t : StmtV} (h : bareT s = bareT t) (ht : PlainT t) : PlainT s := by
 have key : ∀ a c : StmtV, bareT a = c → PlainT c → PlainT a := fun a c hb hc x hx => by
   have h1 := hc (bareT x) (by rw [← hb, bareT_pre]; exact List.mem_map_of_mem hx)
   refine ⟨by rw [← bareT_kind]; exact h1.1, fun e he => ?_⟩
   have h2 := h1.2 (bareX e) (by rw [bareT_exprs]; exact List.mem_map_of_mem he)
   exact ⟨by rw [← bareX_kind]; exact h2.1, List.map_eq_nil_iff.1 (by rw [← bareX_subs]; exact h2.2)⟩
 have key2 : ∀ a : StmtV, PlainT a → PlainT (bareT a) := fun a ha x hx => by
   rw [bareT_pre] at hx
   obtain ⟨y, hy, rfl⟩ := List.mem_map.1 hx
   have h1 := ha y hy
   refine ⟨by rw [bareT_kind]; exact h1.1, fun e he => ?_⟩
   rw [bareT_exprs] at he
   obtain ⟨f, hf, rfl⟩ := List.mem_map.1 he
   exact ⟨by rw [bareX_kind]; exact (h1.2 f hf).1, by rw [bareX_subs, (h1.2 f hf).2]; rfl⟩
 exact key s _ h (key2 t ht)
theorem RdX.avoidZ {n b : Nat} {W : World} {e : ExprV} (h : RdX n W e) (he : e.subs = []) : RdX n (mask b W) e := by
 cases h with
 | mk e k o v w nm row ih => exact .mk e k o v w nm (row_avoid (b := b) row fun off h0 => absurd h0 (by simp [he])) (fun s hs => absurd hs (by simp [he]))
theorem RdT.avoidZ {n b : Nat} {W : World} {s : StmtV} (hz : ZeroP W b) (h : RdT n W s) : PlainT s → RdT n (mask b W) s := by
 induction h with
 | mk s k b' nm er ex tr th orow el ih1 ih2 =>
   intro hk
   have own := hk s (by rw [StmtV.pre_eq]; exact List.mem_cons_self ..)
   have sub : ∀ t, t ∈ s.thn ++ s.els → PlainT t := fun t ht x hx => hk x (by
     rw [StmtV.pre_eq]
     refine List.mem_cons_of_mem _ ?_
     rcases List.mem_append.1 ht with h1 | h1
     · exact List.mem_append_left _ (List.mem_flatMap.2 ⟨t, h1, hx⟩)
     · exact List.mem_append_right _ (List.mem_flatMap.2 ⟨t, h1, hx⟩))
   have kd : ∀ t, t ∈ s.thn ++ s.els → ∃ (r : Nat) (u : Value), (StmtV.cells t)[r]? = some u ∧ u ∉ zeroP.cells := fun t ht => ⟨0, _, rfl, kind_zero (sub t ht t (by rw [StmtV.pre_eq]; exact List.mem_cons_self ..)).1⟩
   exact .mk s k b' nm (row_avoidZ hz er fun e he => ⟨0, _, rfl, kind_zero (own.2 e he).1⟩) (fun e he => (ex e he).avoidZ (own.2 e he).2)
     (row_avoidZ hz tr fun t ht => kd t (List.mem_append_left _ ht)) (fun t ht => ih1 t ht (sub t (List.mem_append_left _ ht))) (row_avoidZ hz orow fun t ht => kd t (List.mem_append_right _ ht)) (fun t ht => ih2 t ht (sub t (List.mem_append_right _ ht)))
theorem smU_avoid {W : World} {n b : Nat} {v ws : Sp} {l : List StmtV} (hz : ZeroP W b) (h : RdP n W (smU v ws Sp.none l [])) (hl : ∀ s, s ∈ l → PlainT s) : RdP n (mask b W) (smU v ws Sp.none l []) := by
 have hx : RdX n (mask b W) (numE 1 1) := h.require.avoidZ rfl
 refine ⟨h.blocks, h.width, ⟨RowOf.nil, fun _ h => absurd h (by simp [smU])⟩, ⟨RowOf.nil, fun _ h => absurd h (by simp [smU])⟩, ⟨row_avoidZ hz h.vars.row fun d hd => ⟨0, .string d.name, rfl, ?_⟩, h.vars.ok⟩, ⟨RowOf.nil, fun _ h => absurd h (by simp [smU])⟩, hx, RowOf.nil, fun _ h => absurd h (by simp [smU]), RowOf.nil, fun _ h => absurd h (by simp [smU]), ⟨row_avoidZ hz h.work.row fun t ht => ⟨0, _, rfl, kind_zero (hl t ht t (by rw [StmtV.pre_eq]; exact List.mem_cons_self ..)).1⟩, fun t ht => (h.work.ok t ht).avoidZ hz (hl t ht)⟩, ⟨RowOf.nil, fun _ h => absurd h (by simp [smU])⟩, hx⟩
 have : d = ⟨xB, 2, 0⟩ := by simpa [smU] using hd
 rw [this]
 exact name_zero (by decide)
theorem cntsW_plain (x y z : Int) : ∀ s, s ∈ cntsW x y z → PlainT s := by
 have h5 : (doS 5 []).pre = [doS 5 []] := by rw [← preT2_eq]; rfl
 have h4 : (doS 4 []).pre = [doS 4 []] := by rw [← preT2_eq]; rfl
 have h3 : (doS 3 [numE 0 1, nameE xB]).pre = [doS 3 [numE 0 1, nameE xB]] := by rw [← preT2_eq]; rfl
 have hi : (cntsI y).pre = [cntsI y, doS 5 []] := by rw [← preT2_eq]; rfl
 have ha : (whS x [doS 4 [], cntsI y]).pre = [whS x [doS 4 [], cntsI y], doS 4 [], cntsI y, doS 5 []] := by rw [← preT2_eq]; rfl
 have hb : (whS z [doS 3 [numE 0 1, nameE xB]]).pre = [whS z [doS 3 [numE 0 1, nameE xB]], doS 3 [numE 0 1, nameE xB]] := by rw [← preT2_eq]; rfl
 intro s hs t ht
 have hs2 : s = whS x [doS 4 [], cntsI y] ∨ s = whS z [doS 3 [numE 0 1, nameE xB]] := by simpa [cntsW] using hs
 rcases hs2 with rfl | rfl
 · rw [ha] at ht
   simp only [List.mem_cons, List.not_mem_nil, or_false] at ht
   rcases ht with rfl | rfl | rfl | rfl <;> refine ⟨by simp [whS, doS, cntsI, StmtV.kind], ?_⟩ <;> intro e he <;> simp [whS, doS, cntsI, StmtV.exprs] at he <;> subst he <;> exact ⟨by decide, rfl⟩
 · rw [hb] at ht
   simp only [List.mem_cons, List.not_mem_nil, or_false] at ht
   rcases ht with rfl | rfl <;> refine ⟨by simp [whS, doS, StmtV.kind], ?_⟩ <;> intro e he <;> simp [whS, doS, StmtV.exprs] at he
   · subst he; exact ⟨by decide, rfl⟩
   · rcases he with rfl | rfl <;> exact ⟨by decide, rfl⟩
end Go.Proofs.YtepacjkacjabbaaGreatDoor
