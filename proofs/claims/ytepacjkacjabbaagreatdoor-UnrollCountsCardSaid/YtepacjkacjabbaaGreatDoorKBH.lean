import Derived.Test.YtepacjkacjabbaaGreatDoorKBG
import Derived.Test.YtepacjkacjabbaaGreatDoorKBC
import Derived.Test.YtepacjkacjabbaaGreatDoorKAI
import Derived.Test.YtepacjkacjabbaaGreatDoorKAJ
import Derived.Test.YtepacjkacjabbaaGreatDoorKAY
import Derived.Test.YtepacjkacjabbaaGreatDoorKBF
import Derived.Laws.ResultCell
namespace Go.Proofs.YtepacjkacjabbaaGreatDoor
open Go Go.RowKit Go.Maps
theorem bareW_rd {n : Nat} {W : World} {p : ProgV} (h : RdP n W p) : RdP n W (bareW p) := by
 obtain ⟨h1, h2, h3, h4, h5, h6, h7, h8, h9, h10, h11, h12, h13, h14⟩ := h
 exact ⟨h1, h2, h3, h4, h5, h6, h7, h8, h9, h10, h11, ⟨RowOf.nil, fun _ h => absurd h (by simp [bareW])⟩, ⟨RowOf.nil, fun _ h => absurd h (by simp [bareW])⟩, h14⟩
theorem wt_few (l : List StmtV) (h : ∀ x ∈ l.flatMap StmtV.pre, LoopOk x) : 0 ≤ wtTs l 0 ∧ wtTs l 0 ≤ 20001 := by
 rcases wt_list h with ⟨h1, h2⟩ | ⟨h1, h2⟩ <;> omega
noncomputable def opsW5 : Array Oper := ((Tryz.f43.body.bind (opsOf 5)).getD #[])
def keepW5 (t : Nat) : Bool := decide (t ≤ 1) || decide (t = 4)
theorem opsW5_ok : stepsB opsW5 13 22 keepW5 = true := by kernel_rfl
set_option maxRecDepth 10000000 in
set_option maxHeartbeats 64000000 in
theorem weight5 {a0 : Act} {w0 : World} (hsz : a0.tmps.size = 22) (bp bq : Nat) (p : ProgV) (f1 : a0.tmps[1]?.getD undef = .pointer (some ⟨bp, 0, none⟩)) (f4 : a0.tmps[4]?.getD undef = .pointer (some ⟨bq, 0, none⟩))
   (hbp : Bx bp w0 p) (hbq : Bx bq w0 (bareW p)) (hp : RdP w0.heap.size w0 p) (hr : ReadyP p) :
   (Code.region 5 opsW5 true).wp Tryz.prog (fun e a w => e = .normal ∧ a.tmps.size = 22 ∧ a.defers = a0.defers ∧ a.tmps[2]?.getD undef = .int .i64 (weightU p) ∧ a.tmps[3]?.getD undef = .int .i64 0 ∧ Below w0.heap.size w0 w) a0 w0 := by
 have hwk := hr.right.loops
 have hh := heft_bareW p
 have hhe := hr.heft
 have hw1 : heftL p.work ≤ 20000 := by omega
 have hw2 : heftL p.recover ≤ 20000 := by omega
 obtain ⟨a1, a2⟩ := wt_few p.work hwk.1
 obtain ⟨b1, b2⟩ := wt_few p.recover hwk.2
 have hweq := weightU_eq hr
 have hsn : 0 ≤ sizedN (countP (bareW p)) ∧ sizedN (countP (bareW p)) ≤ 20000 := by
   rw [bareW_heft hr]
   unfold sizedN
   split <;> omega
 have e1 : IntKind.i64.wrap (sizedN (countP (bareW p)) + wtTs p.work 0) = sizedN (countP (bareW p)) + wtTs p.work 0 := wrap_small (by omega)
 have e2 : IntKind.i64.wrap (sizedN (countP (bareW p)) + wtTs p.work 0 + wtTs p.recover 0) = sizedN (countP (bareW p)) + wtTs p.work 0 + wtTs p.recover 0 := wrap_small (by omega)
 have hbel : ∀ W : World, Below w0.heap.size w0 W → Bx bp W p ∧ Bx bq W (bareW p) := fun W h => ⟨(h.block _ hbp.lt).trans hbp, (h.block _ hbq.lt).trans hbq⟩
 refine wp_region_steps (n := 13) (sz := 22) (keep := keepW5) rfl opsW5_ok hsz (fun _ w => Below w0.heap.size w0 w) (fun _ w w' => Below w.heap.size w w') ((Below.refl _ _).drew) ?_
 have e : opsW5.toList = opsW5.toList := rfl
 conv at e => rhs; arg 1; whnf
 simp only at e
 rw [e]
 clear e
 apply StepsS.exact rfl rfl
 · exact fun _ _ h => h
 · exact fun w => Below.refl _ w
 · rintro L a w ⟨-, hS, -, hsm, haft⟩
   have f4 : a.tmps[4]?.getD undef = _ := (hsm 4 rfl).trans f4
   exact exec_row rfl bq (eval_of f4) 35 (bareW p).arr (0, 0) _ (hbel w hS).2 Tryz.underlying35 rfl (arr_size _)
 apply StepsS.call (f := 53) (args := #[.agg (bareW p).arr]) rfl rfl
 · exact fun _ w w' h hb => h.trans (hb.mono h.size)
 · exact fun w w' hb => hb
 · rintro L a w ⟨-, hS, -, hsm, haft⟩
   have f11 : a.tmps[11]?.getD undef = _ := tmps_of (haft.1 rfl).2
   refine ⟨?_, ?_⟩
   · simp [go_sem, f11]
   · exact sizeP_any w (bareW p) (bareW_rd ((hp.below hS).more hS.size)) (bareW_weight hr)
 apply StepsS.exact rfl rfl
 · exact fun _ _ h => h
 · exact fun w => Below.refl _ w
 · rintro L a w ⟨-, hS, -, hsm, haft⟩
   have f1 : a.tmps[1]?.getD undef = _ := (hsm 1 rfl).trans f1
   simp [go_sem, f1]
   exact rfl
 apply StepsS.exact rfl rfl
 · exact fun _ _ h => h
 · exact fun w => Below.refl _ w
 · rintro L a w ⟨-, hS, -, hsm, haft⟩
   have f13 : a.tmps[13]?.getD undef = _ := tmps_of (haft.1 rfl).2
   have hc : w.cell? ⟨bp, 14, none⟩ = some (.slice p.ws.at_ p.work.length p.ws.cap) := (hbel w hS).1.cell 14 rfl
   simp [go_sem, f13, hc]
   exact rfl
 apply StepsS.call (f := 103) (args := #[.slice p.ws.at_ p.work.length p.ws.cap]) rfl rfl
 · exact fun _ w w' h hb => h.trans (hb.mono h.size)
 · exact fun w w' hb => hb
 · rintro L a w ⟨-, hS, -, hsm, haft⟩
   have f14 : a.tmps[14]?.getD undef = _ := tmps_of (haft.1 rfl).2
   refine ⟨?_, ?_⟩
   · simp [go_sem, f14]
   · exact weight_any p.ws p.work hp.work hw1 hwk.1 w hS hS.size
 apply StepsS.exact rfl rfl
 · exact fun _ _ h => h
 · exact fun w => Below.refl _ w
 · rintro L a w ⟨-, hS, -, hsm, haft⟩
   have f12 : a.tmps[12]?.getD undef = _ := tmps_of (haft.1 rfl).2
   have f15 : a.tmps[15]?.getD undef = _ := tmps_of (haft.2.1 rfl).2
   simp [go_sem, f12, f15, e1]
   exact rfl
 apply StepsS.exact rfl rfl
 · exact fun _ _ h => h
 · exact fun w => Below.refl _ w
 · rintro L a w ⟨-, hS, -, hsm, haft⟩
   have f1 : a.tmps[1]?.getD undef = _ := (hsm 1 rfl).trans f1
   simp [go_sem, f1]
   exact rfl
 apply StepsS.exact rfl rfl
 · exact fun _ _ h => h
 · exact fun w => Below.refl _ w
 · rintro L a w ⟨-, hS, -, hsm, haft⟩
   have f17 : a.tmps[17]?.getD undef = _ := tmps_of (haft.1 rfl).2
   have hc : w.cell? ⟨bp, 15, none⟩ = some (.slice p.cs.at_ p.recover.length p.cs.cap) := (hbel w hS).1.cell 15 rfl
   simp [go_sem, f17, hc]
   exact rfl
 apply StepsS.call (f := 103) (args := #[.slice p.cs.at_ p.recover.length p.cs.cap]) rfl rfl
 · exact fun _ w w' h hb => h.trans (hb.mono h.size)
 · exact fun w w' hb => hb
 · rintro L a w ⟨-, hS, -, hsm, haft⟩
   have f18 : a.tmps[18]?.getD undef = _ := tmps_of (haft.1 rfl).2
   refine ⟨?_, ?_⟩
   · simp [go_sem, f18]
   · exact weight_any p.cs p.recover hp.recover hw2 hwk.2 w hS hS.size
 apply StepsS.exact rfl rfl
 · exact fun _ _ h => h
 · exact fun w => Below.refl _ w
 · rintro L a w ⟨-, hS, -, hsm, haft⟩
   have f16 : a.tmps[16]?.getD undef = _ := tmps_of (haft.1 rfl).2
   have f19 : a.tmps[19]?.getD undef = _ := tmps_of (haft.2.1 rfl).2
   simp [go_sem, f16, f19, e2]
   exact rfl
 refine StepsS.any (fun L v w => v = .int .i64 (weightU p)) rfl ?_ ?_ ?_
 · exact fun _ _ _ _ _ _ _ hP => hP
 · rintro L a w ⟨hL, hS, hbeh, hsm, haft⟩
   have f20 : a.tmps[20]?.getD undef = _ := tmps_of (haft.1 rfl).2
   refine Oper.wp_value (v := .int .i64 (weightU p)) (w' := w) ?_ ?_
   · rw [← hweq]; simp [go_sem, f20]
   · exact ⟨_, rfl, fun e => (by cases e), rfl, hS, Below.refl _ _⟩
 refine StepsS.any (fun L v w => v = .int .i64 (weightU p)) rfl ?_ ?_ ?_
 · exact fun _ _ _ _ _ _ _ hP => hP
 · rintro L a w ⟨hL, hS, hbeh, hsm, haft⟩
   have f21 : a.tmps[21]?.getD undef = _ := tmps_of (haft.1 rfl).2
   refine Oper.wp_value (v := .int .i64 (weightU p)) (w' := w) ?_ ?_
   · simp [go_sem, f21]
   · exact ⟨_, rfl, fun e => (by cases e), rfl, hS, Below.refl _ _⟩
 apply StepsS.exact rfl rfl
 · exact fun _ _ h => h
 · exact fun w => Below.refl _ w
 · rintro L a w ⟨-, hS, -, hsm, haft⟩
   simp [go_sem]
   exact rfl
 rintro L a w hL ⟨hS, hsame, hv⟩
 exact ⟨rfl, hsame.1.trans hsz, hsame.2.1, tmps_of (hv 11), tmps_of (hv 12), hS⟩
theorem act_F22 {a : Act} (h : a.tmps.size = 22) (hd : a.defers = []) : ∃ F : Nat → Value, (∀ i : Nat, F i = a.eval (.tmp i)) ∧ a = ⟨(F 0 :: F 1 :: F 2 :: F 3 :: F 4 :: F 5 :: F 6 :: F 7 :: F 8 :: F 9 :: F 10 :: F 11 :: F 12 :: F 13 :: F 14 :: F 15 :: F 16 :: F 17 :: F 18 :: F 19 :: F 20 :: F 21 :: []).toArray, []⟩ := ⟨fun i => a.eval (.tmp i), fun _ => rfl, act_eq h hd⟩
set_option maxRecDepth 1000000 in
set_option maxHeartbeats 16000000 in
theorem weightU_any (w : World) (p : ProgV) (hp : RdP w.heap.size w p) (hn0 : 0 < w.heap.size) (hmx : MxAt w) (hr : ReadyP p) :
   Calls Tryz.prog 43 #[.agg p.arr] w fun o w' => o = .returned (.tuple #[.int .i64 (weightU p), .int .i64 0]) ∧ Below w.heap.size w w' := by
 have hb1 : Below w.heap.size w (w.alloc (.cells p.arr 35)) := (Below.refl _ _).alloc (Nat.le_refl _) _
 have hB := World.alloc_heap_new w (.cells p.arr 35)
 have hCK := rightU_any _ p (hp.on hb1) (Nat.lt_of_lt_of_le hn0 hb1.size) hr.names hr.weight (hmx.below hb1 hn0)
 rw [decide_eq_true (show (checkP p).2 = 0 ∧ p.procs.length = 0 from ⟨hr.chk, hr.len⟩)] at hCK
 have harrs := arr_size p
 have HCK := Lib.hid hCK
 have HB := Lib.hid hB
 have HB1 := Lib.hid hb1
 have HP := Lib.hid hp
 have HR := Lib.hid hr
 clear hCK hB hb1 hp hr hmx
 obtain ⟨arr, harr⟩ : ∃ arr, arr = p.arr := ⟨_, rfl⟩
 have HARR := Lib.hid harr
 rw [← harr] at HCK HB HB1 harrs ⊢
 clear harr
 go_enter Tryz.func43, Tryz.ntmps43
 go_wp2_with (first | (refine wpList_load_row rfl 35 _ rfl (w.heap.size) rfl 35 _ (0, 0) _ HB.out Tryz.underlying35 rfl harrs ?_) | fail)
 refine HCK.out.mono ?_
 rintro o2 w2 ⟨rfl, hb2⟩
 have hbx := (hb2.block _ (Array.getElem?_eq_some_iff.1 HB.out).1).trans HB.out
 have HBX := Lib.hid hbx
 have hsz2 : w.heap.size < w2.heap.size := (Array.getElem?_eq_some_iff.1 hbx).1
 obtain ⟨wz, hwz⟩ : ∃ wz, wz = w2.alloc (.cells zeroP.arr 35) := ⟨_, rfl⟩
 have hbz : Below w2.heap.size w2 wz := by rw [hwz]; exact (Below.refl _ _).alloc (Nat.le_refl _) _
 have hZ : wz.heap[w2.heap.size]? = some (.cells zeroP.arr 35 (0, 0)) := by rw [hwz]; exact World.alloc_heap_new _ _
 have HZ := Lib.hid hZ
 have HBZ := Lib.hid hbz
 have HWZ := Lib.hid hwz
 have HB2 := Lib.hid hb2
 clear hbx hbz hZ hwz hb2
 go_upto_region 4 with (first
   | (refine wpList_load_row rfl 35 _ rfl (w.heap.size) rfl 35 _ (0, 0) _ HBX.out Tryz.underlying35 rfl harrs ?_)
   | (refine wpList_allocRow (t := 35) rfl rfl (run_zeroP _) ?_; rw [← HWZ.out])
   | (refine wpList_store_row rfl 35 _ _ rfl w2.heap.size arr (by rfl) (by rfl) 35 zeroP.arr HZ.out harrs (by rw [HARR.out]; kernel_rfl) (by rw [HARR.out]; exact arr_one p) ?_)
   | fail)
 have hq0 : Bx w2.heap.size (wz.setRow w2.heap.size arr) p := by unfold Bx; rw [← HARR.out]; exact setRow_heap _ _ _ _ _ _ HZ.out
 have hp0 : Bx w.heap.size (wz.setRow w2.heap.size arr) p := by unfold Bx; rw [← HARR.out]; exact (setRow_other _ _ _ _ (by omega)).trans ((HBZ.out.block _ hsz2).trans HBX.out)
 have hbr : Below w2.heap.size w2 (wz.setRow w2.heap.size arr) := below_setRow HBZ.out (Nat.le_refl _)
 generalize wz.setRow w2.heap.size arr = w3 at *
 have hc14 := hq0.cell 14 rfl
 have hf14 := hq0.free 14
 have hq1 : Bx w2.heap.size (w3.setCell ⟨w2.heap.size, 14, none⟩ (.slice none 0 0)) { p with ws := Sp.none, work := [] } := hq0.put 14 _ (by simp [ProgV.arr, ProgV.cells, Sp.val, Sp.none])
 have hc15 := hq1.cell 15 rfl
 have hf15 := hq1.free 15
 have hq2 : Bx w2.heap.size ((w3.setCell ⟨w2.heap.size, 14, none⟩ (.slice none 0 0)).setCell ⟨w2.heap.size, 15, none⟩ (.slice none 0 0)) (bareW p) := hq1.put 15 _ (by simp [bareW, ProgV.arr, ProgV.cells, Sp.val, Sp.none])
 have hbs : Below w2.heap.size w2 ((w3.setCell ⟨w2.heap.size, 14, none⟩ (.slice none 0 0)).setCell ⟨w2.heap.size, 15, none⟩ (.slice none 0 0)) := (hbr.setCell (p := ⟨w2.heap.size, 14, none⟩) (Nat.le_refl _) _).setCell (p := ⟨w2.heap.size, 15, none⟩) (Nat.le_refl _) _
 have HQ2 := Lib.hid hq2
 have HBS := Lib.hid hbs
 clear hq0 hp0 hbr hq1 hq2 hbs
 go_upto_region 5 with fail
 clear hc14 hf14 hc15 hf15
 generalize (w3.setCell ⟨w2.heap.size, 14, none⟩ (.slice none 0 0)).setCell ⟨w2.heap.size, 15, none⟩ (.slice none 0 0) = w4 at *
 have hlow : Below w.heap.size w w4 := (HB1.out.trans (HB2.out.mono HB1.out.size)).trans (HBS.out.mono (by omega))
 have hbp4 : Bx w.heap.size w4 p := by unfold Bx; rw [← HARR.out]; exact (HBS.out.block _ hsz2).trans HBX.out
 refine Code.wp_mono ?_ (wp_codeQ (C' := .region 5 opsW5 true) (by kernel_rfl) (weight5 rfl w.heap.size w2.heap.size p rfl rfl hbp4 HQ2.out (HP.out.on hlow) HR.out))
 have HLOW := Lib.hid hlow
 clear hlow hbp4
 rintro e a9 w5 ⟨rfl, hsz9, hd9, h2, h3, hb5⟩
 obtain ⟨F, hF, rfl⟩ := act_F22 hsz9 hd9
 have g2 : F 2 = .int .i64 (weightU p) := (hF 2).trans (eval_of h2)
 have g3 : F 3 = .int .i64 0 := (hF 3).trans (eval_of h3)
 rw [g2, g3]
 clear hF g2 g3 hsz9 hd9 h2 h3
 go_wp2_with fail
 go_ret2
 exact ⟨rfl, HLOW.out.trans (hb5.mono HLOW.out.size)⟩
end Go.Proofs.YtepacjkacjabbaaGreatDoor
namespace Go.Proofs.YtepacjkacjabbaaGreatDoor
open Go Go.RowKit Go.Maps
inductive PArgs (p : ProgV) : Array Value → Bool → Prop
 | wk : PArgs p #[.slice p.ws.at_ p.work.length p.ws.cap] true
 | rc : PArgs p #[.slice p.cs.at_ p.recover.length p.cs.cap] false
set_option maxRecDepth 100000 in
set_option maxHeartbeats 1600000 in
theorem depthU_any (w : World) (p : ProgV) (hp : RdP w.heap.size w p) (hn0 : 0 < w.heap.size) (hN : NamesOk p) (hwt : weightP p ≤ 1125899906842624) (hmx : MxAt w) (hr : RightP p) (hc : (checkP p).2 = 0) (hpr : p.procs.length = 0) (hl : heftP p ≤ 20000) :
   Calls Tryz.prog 44 #[.agg p.arr] w fun o w' => o = .returned (.tuple #[.int .i64 (max (min (dpTs p.work 0) 1001) (min (dpTs p.recover 0) 1001)), .int .i64 0]) ∧ Below w.heap.size w w' := by
 have hb1 : Below w.heap.size w (w.alloc (.cells p.arr 35)) := (Below.refl _ _).alloc (Nat.le_refl _) _
 have hB := World.alloc_heap_new w (.cells p.arr 35)
 have hCK := rightU_any _ p (hp.on hb1) (Nat.lt_of_lt_of_le hn0 hb1.size) hN hwt (hmx.below hb1 hn0)
 rw [decide_eq_true (show (checkP p).2 = 0 ∧ p.procs.length = 0 from ⟨hc, hpr⟩)] at hCK
 have hw1 : heftL p.work ≤ 20000 := by unfold heftP at hl; omega
 have hw2 : heftL p.recover ≤ 20000 := by unfold heftP at hl; omega
 have HALL : Hid (∀ W, Below w.heap.size w W → ∀ args b, PArgs p args b → Calls Tryz.prog 104 args W fun o w' => o = .returned (.int .i64 (if b = true then min (dpTs p.work 0) 1001 else min (dpTs p.recover 0) 1001)) ∧ Below W.heap.size W w') := Lib.hid fun W hW args b h => by
   cases h with
   | wk => exact depth_any p.ws p.work hp.work hw1 hr.loops.1 W hW hW.size
   | rc => exact depth_any p.cs p.recover hp.recover hw2 hr.loops.2 W hW hW.size
 have h14 : p.arr[14]? = some (.slice p.ws.at_ p.work.length p.ws.cap) := rfl
 have h15 : p.arr[15]? = some (.slice p.cs.at_ p.recover.length p.cs.cap) := rfl
 have harrs := arr_size p
 have HCK := Lib.hid hCK
 have HB := Lib.hid hB
 have HB1 := Lib.hid hb1
 clear hCK hB hb1 hp hN hwt hmx hr hc hpr hl hw1 hw2
 generalize p.arr = arr at *
 go_enter Tryz.func44, Tryz.ntmps44
 go_wp2_with (first | (refine wpList_load_row rfl 35 _ rfl w.heap.size rfl 35 _ (0, 0) _ HB.out Tryz.underlying35 rfl harrs ?_) | fail)
 refine HCK.out.mono ?_
 rintro o2 w2 ⟨rfl, hb2⟩
 have hbx := (hb2.block _ (Array.getElem?_eq_some_iff.1 HB.out).1).trans HB.out
 have HLW := Lib.hid ((HB1.out.trans (hb2.mono HB1.out.size)).trans (Below.refl _ _).drew)
 have HXB := Lib.hid (((Below.refl w2.heap.size w2).drew.block _ (Array.getElem?_eq_some_iff.1 hbx).1).trans hbx)
 have hcell : ∀ W : World, W.heap[w.heap.size]? = some (.cells arr 35 (0, 0)) → W.cell? ⟨w.heap.size, 14, none⟩ = some (.slice p.ws.at_ p.work.length p.ws.cap) ∧ W.cell? ⟨w.heap.size, 15, none⟩ = some (.slice p.cs.at_ p.recover.length p.cs.cap) := fun W h => ⟨by simp [World.cell?, h, h14], by simp [World.cell?, h, h15]⟩
 have HCELL := Lib.hid hcell
 obtain ⟨c14, c15⟩ := hcell _ hbx
 clear hb2 hbx hcell
 go_upto_region 3 with fail
 go_region_with (first
   | (go_at_call 104; refine (HALL.out _ HLW.out _ true (by with_reducible exact .wk)).mono ?_; rintro o W6 ⟨rfl, hb⟩; have HLn := Lib.hid (HLW.out.trans (hb.mono HLW.out.size)); have HXn := Lib.hid ((hb.block _ (Array.getElem?_eq_some_iff.1 HXB.out).1).trans HXB.out); clear HLW HXB; have HLW := HLn; have HXB := HXn; clear HLn HXn hb c14 c15; obtain ⟨c14, c15⟩ := HCELL.out _ HXB.out)
   | (go_at_call 104; refine (HALL.out _ HLW.out _ false (by with_reducible exact .rc)).mono ?_; rintro o W6 ⟨rfl, hb⟩; have HLn := Lib.hid (HLW.out.trans (hb.mono HLW.out.size)); have HXn := Lib.hid ((hb.block _ (Array.getElem?_eq_some_iff.1 HXB.out).1).trans HXB.out); clear HLW HXB; have HLW := HLn; have HXB := HXn; clear HLn HXn hb c14 c15; obtain ⟨c14, c15⟩ := HCELL.out _ HXB.out)
   | fail)
 all_goals
   go_wp2_with fail
   go_ret2
   exact ⟨rfl, HLW.out⟩
end Go.Proofs.YtepacjkacjabbaaGreatDoor
namespace Go.Proofs.YtepacjkacjabbaaGreatDoor
open Go Go.RowKit Go.Maps
theorem results_row_tmp {P : Program} {fn : Func} {p u : Tmp} {ty : TypeId} (h : fn.results = #[.cell p ty, .tmp u]) (tmps : Array Value) (w : World) (g : Nat) (t : TypeId) (cs : Array Value) (fr : Nat × Nat) (d : TypeDesc)
   (hp : tmps.getD p undef = .pointer (some ⟨g, 0, none⟩)) (hg : w.heap[g]? = some (.cells cs t fr))
   (hu : P.underlying ty = some d) (hd : (match d with | .struct _ | .array _ _ => true | _ => false) = true) (hi : (P.info? ty).map (·.size) = some cs.size) :
   (results fn tmps).run P w = .ok (.tuple #[.agg cs, tmps.getD u undef]) w := by
 rw [results_cell_tmp h, hp]
 simp [asAddr, run_loadVar_row w g t ty cs fr d hg hu hd hi, Result.andThen]
def FlU (lo : Nat) (b : Bool) (w : World) (base : List StmtV) (sp : Sp) (l : List StmtV) (sp1 : Sp) (l1 : List StmtV) : Prop := (b = true → l1.map bareT = (unTs base).map bareT ∧ NewTs lo w sp1 l1) ∧ (b = false → sp1 = sp ∧ l1 = l)
theorem FlU.on {s0 lo : Nat} {w w' : World} {b : Bool} {base : List StmtV} {sp sp1 : Sp} {l l1 : List StmtV} (h : FlU lo b w base sp l sp1 l1) (hm : Mk s0 w w') (hs : s0 < lo) : FlU lo b w' base sp l sp1 l1 := ⟨fun hb => ⟨(h.1 hb).1, (h.1 hb).2.on hm hs⟩, h.2⟩
theorem FlU.off {lo : Nat} {w : World} {base : List StmtV} {sp : Sp} {l : List StmtV} : FlU lo false w base sp l sp l := ⟨fun h => (by cases h), fun _ => ⟨rfl, rfl⟩⟩
noncomputable def opsR10 : Array Oper := ((Tryz.f42.body.bind (opsOf 10)).getD #[])
def keepR10 (t : Nat) : Bool := decide (t ≤ 33)
theorem opsR10_ok : stepsB opsR10 10 43 keepR10 = true := by kernel_rfl
def SR10 (bq lo : Nat) (p q : ProgV) (w0 : World) (L : Nat → Bool) (w : World) : Prop := Mk bq w0 w ∧ ∃ (s1 : Sp) (l1 : List StmtV) (s2 : Sp) (l2 : List StmtV), Bx bq w { q with ws := s1, work := l1, cs := s2, recover := l2 } ∧ FlU lo (L 7) w p.work q.ws q.work s1 l1 ∧ FlU lo (L 9) w p.recover q.cs q.recover s2 l2
theorem SR10.flag {bq lo k : Nat} {p q : ProgV} {w0 : World} {L : Nat → Bool} {w : World} (hk : k ≠ 7 ∧ k ≠ 9) (h : SR10 bq lo p q w0 L w) : SR10 bq lo p q w0 (onL L k) w := by
 unfold SR10 at h ⊢
 rw [onL_other (Ne.symm hk.1), onL_other (Ne.symm hk.2)]
 exact h
theorem SR10.on {bq lo : Nat} {p q : ProgV} {w0 : World} {L : Nat → Bool} {w w' : World} (hs : bq < lo) (h : SR10 bq lo p q w0 L w) (hb : Below w.heap.size w w') : SR10 bq lo p q w0 L w' := by
 obtain ⟨hm, s1, l1, s2, l2, hx, y0, y1⟩ := h
 have hm2 := Mk.of hb hx.lt
 exact ⟨hm.trans hm2, s1, l1, s2, l2, hx.on hb, y0.on hm2 hs, y1.on hm2 hs⟩
set_option maxRecDepth 10000000 in
set_option maxHeartbeats 64000000 in
theorem unroll10 {a0 : Act} {w0 : World} (hsz : a0.tmps.size = 43) (bp bq lo n0 : Nat) (W0 : World) (p q : ProgV) (hlo : bq < lo) (hlw : lo ≤ w0.heap.size) (hn0 : n0 ≤ bq) (hne : bp ≠ bq) (hlow : Below n0 W0 w0)
   (f1 : a0.tmps[1]?.getD undef = .pointer (some ⟨bp, 0, none⟩)) (f8 : a0.tmps[8]?.getD undef = .pointer (some ⟨bq, 0, none⟩)) (hbp : Bx bp w0 p) (hbx : Bx bq w0 q) (hl1 : p.work.length ≤ 1000000) (hl2 : p.recover.length ≤ 1000000) (ih1 : UnOk n0 W0 p.ws p.work) (ih2 : UnOk n0 W0 p.cs p.recover) :
   (Code.region 10 opsR10 true).wp Tryz.prog (fun e a w => e = .normal ∧ a.tmps.size = 43 ∧ a.defers = a0.defers ∧ (∀ t : Nat, keepR10 t = true → a.tmps[t]?.getD undef = a0.tmps[t]?.getD undef) ∧ SR10 bq lo p q w0 (fun _ => true) w) a0 w0 := by
 have hbpl := hbp.lt
 refine wp_region_steps (n := 10) (sz := 43) (keep := keepR10) rfl opsR10_ok hsz (SR10 bq lo p q w0) (fun _ w w' => Mk bq w w') (⟨(Below.refl _ _).drew, q.ws, q.work, q.cs, q.recover, hbx, FlU.off, FlU.off⟩) ?_
 have e : opsR10.toList = opsR10.toList := rfl
 conv at e => rhs; arg 1; whnf
 simp only at e
 rw [e]
 clear e
 apply StepsS.exact rfl rfl
 · exact fun _ _ h => SR10.flag (by decide) h
 · exact fun w => Mk.refl
 · rintro L a w ⟨-, hS, hbeh, hsm, haft⟩
   have f1 : a.tmps[1]?.getD undef = _ := (hsm 1 rfl).trans f1
   simp [go_sem, f1]
   exact rfl
 apply StepsS.exact rfl rfl
 · exact fun _ _ h => SR10.flag (by decide) h
 · exact fun w => Mk.refl
 · rintro L a w ⟨-, hS, hbeh, hsm, haft⟩
   have f34 : a.tmps[34]?.getD undef = _ := tmps_of (haft.1 rfl).2
   have hbp2 : Bx bp w p := (hS.1.heap hne hbpl).trans hbp
   have hc : w.cell? ⟨bp, 14, none⟩ = some (.slice p.ws.at_ p.work.length p.ws.cap) := hbp2.cell 14 rfl
   simp [go_sem, f34, hc]
   exact rfl
 refine StepsS.any (fun L v w => ∃ (sp' : Sp) (l' : List StmtV), v = .slice sp'.at_ l'.length sp'.cap ∧ l'.map bareT = (unTs p.work).map bareT ∧ NewTs lo w sp' l') rfl ?_ ?_ ?_
 · exact fun _ _ _ _ _ _ hm ⟨sp', l', h1, h2, h3⟩ => ⟨sp', l', h1, h2, h3.on hm hlo⟩
 · rintro L a w ⟨hL, hS, hbeh, hsm, haft⟩
   have f35 : a.tmps[35]?.getD undef = _ := tmps_of (haft.1 rfl).2
   have hS2 := hS
   obtain ⟨hm, s1, l1, s2, l2, hx, y0, y1⟩ := hS
   refine Oper.wp_enter (f := 101) (args := #[.slice p.ws.at_ p.work.length p.ws.cap]) (w' := w) ?_ ?_
   · simp [go_sem, f35]
   · refine (ih1 w (hlow.trans (hm.below hn0 (by omega))) (by have := hm.size; omega)).mono ?_
     rintro o w' ⟨A, c, l', rfl, h1, hown, hnew, hb⟩
     have hlen := un_len h1
     exact ⟨_, rfl, _, rfl, fun e => (by cases e), ⟨⟨A, c⟩, l', rfl, h1, (own_newTs' hown (fun s hs => (hnew s hs).newT) (by omega)).less (Nat.le_trans hlw hm.size)⟩, SR10.flag (by decide) (hS2.on hlo hb), Mk.of hb hx.lt⟩
 apply StepsS.exact rfl rfl
 · exact fun _ _ h => SR10.flag (by decide) h
 · exact fun w => Mk.refl
 · rintro L a w ⟨-, hS, hbeh, hsm, haft⟩
   have f1 : a.tmps[1]?.getD undef = _ := (hsm 1 rfl).trans f1
   simp [go_sem, f1]
   exact rfl
 apply StepsS.exact rfl rfl
 · exact fun _ _ h => SR10.flag (by decide) h
 · exact fun w => Mk.refl
 · rintro L a w ⟨-, hS, hbeh, hsm, haft⟩
   have f37 : a.tmps[37]?.getD undef = _ := tmps_of (haft.1 rfl).2
   have hbp2 : Bx bp w p := (hS.1.heap hne hbpl).trans hbp
   have hc : w.cell? ⟨bp, 15, none⟩ = some (.slice p.cs.at_ p.recover.length p.cs.cap) := hbp2.cell 15 rfl
   simp [go_sem, f37, hc]
   exact rfl
 refine StepsS.any (fun L v w => ∃ (sp' : Sp) (l' : List StmtV), v = .slice sp'.at_ l'.length sp'.cap ∧ l'.map bareT = (unTs p.recover).map bareT ∧ NewTs lo w sp' l') rfl ?_ ?_ ?_
 · exact fun _ _ _ _ _ _ hm ⟨sp', l', h1, h2, h3⟩ => ⟨sp', l', h1, h2, h3.on hm hlo⟩
 · rintro L a w ⟨hL, hS, hbeh, hsm, haft⟩
   have f38 : a.tmps[38]?.getD undef = _ := tmps_of (haft.1 rfl).2
   have hS2 := hS
   obtain ⟨hm, s1, l1, s2, l2, hx, y0, y1⟩ := hS
   refine Oper.wp_enter (f := 101) (args := #[.slice p.cs.at_ p.recover.length p.cs.cap]) (w' := w) ?_ ?_
   · simp [go_sem, f38]
   · refine (ih2 w (hlow.trans (hm.below hn0 (by omega))) (by have := hm.size; omega)).mono ?_
     rintro o w' ⟨A, c, l', rfl, h1, hown, hnew, hb⟩
     have hlen := un_len h1
     exact ⟨_, rfl, _, rfl, fun e => (by cases e), ⟨⟨A, c⟩, l', rfl, h1, (own_newTs' hown (fun s hs => (hnew s hs).newT) (by omega)).less (Nat.le_trans hlw hm.size)⟩, SR10.flag (by decide) (hS2.on hlo hb), Mk.of hb hx.lt⟩
 apply StepsS.exact rfl rfl
 · exact fun _ _ h => SR10.flag (by decide) h
 · exact fun w => Mk.refl
 · rintro L a w ⟨-, hS, hbeh, hsm, haft⟩
   have f8 : a.tmps[8]?.getD undef = _ := (hsm 8 rfl).trans f8
   simp [go_sem, f8]
   exact rfl
 refine StepsS.any (fun L v w => True) rfl ?_ ?_ ?_
 · exact fun _ _ _ _ _ _ _ h => h
 · rintro L a w ⟨hL, hS, hbeh, hsm, haft⟩
   have f40 : a.tmps[40]?.getD undef = _ := tmps_of (haft.1 rfl).2
   obtain ⟨sp', l', x36, h1, h2⟩ := (haft.2.1 rfl).2
   have f36 : a.tmps[36]?.getD undef = .slice sp'.at_ l'.length sp'.cap := tmps_of x36
   obtain ⟨hm, s1, l1, s2, l2, hx, y0, y1⟩ := hS
   have hm2 := Mk.set hx.lt 14 (.slice sp'.at_ l'.length sp'.cap)
   have hc := hx.cell 14 rfl
   have hfr := hx.free 14
   refine Oper.wp_skip (w' := w.setCell ⟨bq, 14, none⟩ (.slice sp'.at_ l'.length sp'.cap)) ?_ ?_
   · simp [go_sem, f40, f36, hc, hfr]
   · exact ⟨undef, rfl, fun _ => rfl, trivial, ⟨hm.trans hm2, sp', l', s2, l2, hx.put 14 _ (by simp [ProgV.arr, ProgV.cells, Sp.val]), (by rw [onL_same]; exact ⟨fun _ => ⟨h1, h2.on hm2 hlo⟩, fun h => (by cases h)⟩), (by rw [onL_other (by decide)]; exact y1.on hm2 hlo)⟩, hm2⟩
 apply StepsS.exact rfl rfl
 · exact fun _ _ h => SR10.flag (by decide) h
 · exact fun w => Mk.refl
 · rintro L a w ⟨-, hS, hbeh, hsm, haft⟩
   have f8 : a.tmps[8]?.getD undef = _ := (hsm 8 rfl).trans f8
   simp [go_sem, f8]
   exact rfl
 refine StepsS.any (fun L v w => True) rfl ?_ ?_ ?_
 · exact fun _ _ _ _ _ _ _ h => h
 · rintro L a w ⟨hL, hS, hbeh, hsm, haft⟩
   have f41 : a.tmps[41]?.getD undef = _ := tmps_of (haft.1 rfl).2
   obtain ⟨sp', l', x39, h1, h2⟩ := (haft.2.1 rfl).2
   have f39 : a.tmps[39]?.getD undef = .slice sp'.at_ l'.length sp'.cap := tmps_of x39
   obtain ⟨hm, s1, l1, s2, l2, hx, y0, y1⟩ := hS
   have hm2 := Mk.set hx.lt 15 (.slice sp'.at_ l'.length sp'.cap)
   have hc := hx.cell 15 rfl
   have hfr := hx.free 15
   refine Oper.wp_skip (w' := w.setCell ⟨bq, 15, none⟩ (.slice sp'.at_ l'.length sp'.cap)) ?_ ?_
   · simp [go_sem, f41, f39, hc, hfr]
   · exact ⟨undef, rfl, fun _ => rfl, trivial, ⟨hm.trans hm2, s1, l1, sp', l', hx.put 15 _ (by simp [ProgV.arr, ProgV.cells, Sp.val]), (by rw [onL_other (by decide)]; exact y0.on hm2 hlo), (by rw [onL_same]; exact ⟨fun _ => ⟨h1, h2.on hm2 hlo⟩, fun h => (by cases h)⟩)⟩, hm2⟩
 rintro L a w hL ⟨hS, hsame, hv⟩
 refine ⟨rfl, hsame.1.trans hsz, hsame.2.1, hsame.2.2, ?_⟩
 unfold SR10 at hS ⊢
 rw [hL 7 (by decide), hL 9 (by decide)] at hS
 exact hS
theorem act_F43 {a : Act} (h : a.tmps.size = 43) (hd : a.defers = []) : ∃ F : Nat → Value, (∀ i : Nat, F i = a.eval (.tmp i)) ∧ a = ⟨(F 0 :: F 1 :: F 2 :: F 3 :: F 4 :: F 5 :: F 6 :: F 7 :: F 8 :: F 9 :: F 10 :: F 11 :: F 12 :: F 13 :: F 14 :: F 15 :: F 16 :: F 17 :: F 18 :: F 19 :: F 20 :: F 21 :: F 22 :: F 23 :: F 24 :: F 25 :: F 26 :: F 27 :: F 28 :: F 29 :: F 30 :: F 31 :: F 32 :: F 33 :: F 34 :: F 35 :: F 36 :: F 37 :: F 38 :: F 39 :: F 40 :: F 41 :: F 42 :: []).toArray, []⟩ := ⟨fun i => a.eval (.tmp i), fun _ => rfl, act_eq h hd⟩
theorem unP_bare {p q : ProgV} (h : bareP q = bareP p) {s1 s2 : Sp} {l1 l2 : List StmtV} (h1 : l1.map bareT = (unTs p.work).map bareT) (h2 : l2.map bareT = (unTs p.recover).map bareT) : bareP { q with ws := s1, work := l1, cs := s2, recover := l2 } = bareP (unP p) := by
 unfold bareP at h ⊢
 unfold unP
 injection h
 simp only [*]
theorem unP_rd {n : Nat} {W : World} {q : ProgV} (h : RdP n W q) {s1 s2 : Sp} {l1 l2 : List StmtV} (h1 : RdTs n W s1 l1) (h2 : RdTs n W s2 l2) : RdP n W { q with ws := s1, work := l1, cs := s2, recover := l2 } := by
 obtain ⟨b1, b2, b3, b4, b5, b6, b7, b8, b9, b10, b11, b12, b13, b14⟩ := h
 exact ⟨b1, b2, b3, b4, b5, b6, b7, b8, b9, b10, b11, h1, h2, b14⟩
set_option maxRecDepth 10000000 in
set_option maxHeartbeats 64000000 in
theorem unroll_any (w : World) (p : ProgV) (hp : RdP w.heap.size w p) (hn0 : 0 < w.heap.size) (hmx : MxAt w) (hr : ReadyP p) (hi : p.inits = []) (hwt : weightU p ≤ 20000) (hdt : depthU p ≤ 1000) :
   Calls Tryz.prog 42 #[.agg p.arr] w fun o w' => ∃ q : ProgV, o = .returned (.tuple #[.agg q.arr, .int .i64 0]) ∧ bareP q = bareP (unP p) ∧ RdP w'.heap.size w' q ∧ Below w.heap.size w w' := by
 obtain ⟨hB1, hZ1, hsz1, hb1⟩ := alloc2 w (.cells p.arr 35) (.cells zeroP.arr 35)
 have hWT := weightU_any _ p (hp.on hb1) (Nat.lt_of_lt_of_le hn0 hb1.size) (hmx.below hb1 hn0) hr
 have HDT := Lib.hid fun (W : World) (hW : Below w.heap.size w W) => depthU_any W p (hp.on hW) (Nat.lt_of_lt_of_le hn0 hW.size) hr.names hr.weight (hmx.below hW hn0) hr.right hr.chk hr.len hr.heft
 have HCP := Lib.hid fun (W : World) (hW : Below w.heap.size w W) => copyP_any W p (hp.on hW) hr.heft hi hr.none
 have hlp := hr.right.loops
 have hhl := heft_bareW p
 have hht := hr.heft
 have HU := Lib.hid fun (W : World) (hW : Below w.heap.size w W) => And.intro (unr_any p.ws p.work (hp.work.below hW) (by omega) hlp.1) (unr_any p.cs p.recover (hp.recover.below hW) (by omega) hlp.2)
 have HLN : Hid (p.work.length ≤ 1000000 ∧ p.recover.length ≤ 1000000) := Lib.hid ⟨by have := len_heftM p.work; omega, by have := len_heftM p.recover; omega⟩
 have harrs := arr_size p
 have HWT := Lib.hid hWT
 have HB := Lib.hid hB1
 have HZ := Lib.hid hZ1
 have HB1 := Lib.hid hb1
 have HP := Lib.hid hp
 have hg1 : ¬(weightU p > 20000) := by omega
 have hg2 : ¬(depthU p > 1000) := by omega
 have hd1 : decide (20000 < weightU p) = false := decide_eq_false hg1
 have hd2 : decide (1000 < depthU p) = false := decide_eq_false hg2
 have hdU : max (min (dpTs p.work 0) 1001) (min (dpTs p.recover 0) 1001) = depthU p := rfl
 rw [hdU] at HDT
 clear hWT hB1 hZ1 hb1 hp hr hmx hi hlp hhl hht hwt hdt hdU hg1 hg2
 generalize weightU p = wU at *
 generalize depthU p = dU at *
 obtain ⟨arr, harr⟩ : ∃ arr, arr = p.arr := ⟨_, rfl⟩
 have HARR := Lib.hid harr
 rw [← harr] at HWT HB HZ HB1 harrs hsz1 HDT HCP ⊢
 clear harr
 go_enter Tryz.func42, Tryz.ntmps42
 go_wp2_with (first
   | (refine wpList_load_row rfl 35 _ rfl (w.heap.size) rfl 35 _ (0, 0) _ HB.out Tryz.underlying35 rfl harrs ?_)
   | (refine wpList_allocRow (t := 35) rfl rfl (run_zeroP _) ?_)
   | fail)
 refine HWT.out.mono ?_
 rintro o w2 ⟨rfl, hb2⟩
 generalize (w.alloc (.cells arr 35)).alloc (.cells zeroP.arr 35) = w1 at *
 have hx2 := (hb2.block _ (Array.getElem?_eq_some_iff.1 HB.out).1).trans HB.out
 have hz2 := (hb2.block _ (Array.getElem?_eq_some_iff.1 HZ.out).1).trans HZ.out
 have HX2 := Lib.hid hx2
 have HZ2 := Lib.hid hz2
 have HB2 := Lib.hid (HB1.out.trans (hb2.mono HB1.out.size))
 clear hx2 hz2 hb2 HB HZ HB1 HWT
 go_wp2_with (first | (refine wpList_load_row rfl 35 _ rfl (w.heap.size) rfl 35 _ (0, 0) _ HX2.out Tryz.underlying35 rfl harrs ?_) | fail)
 refine (HDT.out w2 HB2.out).mono ?_
 rintro o w3 ⟨rfl, hb3⟩
 have hx3 := (hb3.block _ (Array.getElem?_eq_some_iff.1 HX2.out).1).trans HX2.out
 have hz3 := (hb3.block _ (Array.getElem?_eq_some_iff.1 HZ2.out).1).trans HZ2.out
 have HX3 := Lib.hid hx3
 have HZ3 := Lib.hid hz3
 have HB3 := Lib.hid (HB2.out.trans (hb3.mono HB2.out.size))
 clear hx3 hz3 hb3 HX2 HZ2 HB2 HDT
 go_wp2_with (first | (refine wpList_load_row rfl 35 _ rfl (w.heap.size) rfl 35 _ (0, 0) _ HX3.out Tryz.underlying35 rfl harrs ?_) | fail)
 refine (HCP.out w3 HB3.out).mono ?_
 rintro o w4 ⟨q, rfl, hbare, hrd, hb4⟩
 have hx4 := (hb4.block _ (Array.getElem?_eq_some_iff.1 HX3.out).1).trans HX3.out
 have hz4 := (hb4.block _ (Array.getElem?_eq_some_iff.1 HZ3.out).1).trans HZ3.out
 have hB4 := HB3.out.trans (hb4.mono HB3.out.size)
 have hlt4 := (Array.getElem?_eq_some_iff.1 hz4).1
 have hblk : ∀ W : World, Below w4.heap.size w4 W → W.heap[w.heap.size]? = some (.cells arr 35 (0, 0)) ∧ W.heap[w.heap.size + 1]? = some (.cells zeroP.arr 35 (0, 0)) := fun W h => ⟨(h.block _ (by omega)).trans hx4, (h.block _ hlt4).trans hz4⟩
 have HBLK := Lib.hid hblk
 have HBARE := Lib.hid hbare
 have HRD := Lib.hid hrd
 have HS3 : Hid (w.heap.size + 2 ≤ w3.heap.size) := Lib.hid (by have := (Array.getElem?_eq_some_iff.1 HZ3.out).1; omega)
 have HB4 := Lib.hid hB4
 clear hx4 hz4 hB4 hb4 hbare hrd hblk HX3 HZ3 HB3 HCP
 have hq0 := World.alloc_heap_new w4 (.cells zeroP.arr 35)
 have HQ0 := Lib.hid hq0
 have HA4 : Hid (Below w4.heap.size w4 (w4.alloc (.cells zeroP.arr 35))) := Lib.hid ((Below.refl _ _).alloc (Nat.le_refl _) _)
 clear hq0
 go_upto_region 10 with (first
   | (refine wpList_allocRow (t := 35) rfl rfl (run_zeroP _) ?_)
   | (refine wpList_store_row rfl 35 _ _ rfl w4.heap.size q.arr (by rfl) (by rfl) 35 zeroP.arr HQ0.out (arr_size _) (by kernel_rfl) (arr_one _) ?_)
   | fail)
 have hbS : Below w4.heap.size w4 ((w4.alloc (.cells zeroP.arr 35)).setRow w4.heap.size q.arr) := below_setRow HA4.out (Nat.le_refl _)
 have hqS : Bx w4.heap.size ((w4.alloc (.cells zeroP.arr 35)).setRow w4.heap.size q.arr) q := setRow_heap _ _ _ _ _ _ HQ0.out
 have hszS : ((w4.alloc (.cells zeroP.arr 35)).setRow w4.heap.size q.arr).heap.size = w4.heap.size + 1 := by rw [size_setRow]; simp
 generalize (w4.alloc (.cells zeroP.arr 35)).setRow w4.heap.size q.arr = w5 at *
 have hbp5 : Bx w.heap.size w5 p := by unfold Bx; rw [← HARR.out]; exact (HBLK.out w5 hbS).1
 have hlow5 := HB4.out.trans (hbS.mono HB4.out.size)
 have hU5 := HU.out w5 hlow5
 refine Code.wp_mono ?_ (wp_codeQ (C' := .region 10 opsR10 true) (by kernel_rfl) (unroll10 rfl w.heap.size w4.heap.size (w4.heap.size + 1) w.heap.size w5 p q (by omega) (by omega) (by omega) (by omega) (Below.refl _ _) rfl rfl hbp5 hqS HLN.out.1 HLN.out.2 hU5.1 hU5.2))
 rintro e a9 w6 ⟨rfl, hsz9, hd9, hsm9, hm6, s1, l1, s2, l2, hx6, y0, y1⟩
 obtain ⟨F, hF, rfl⟩ := act_F43 hsz9 hd9
 have g2 : F 2 = .pointer (some ⟨w.heap.size + 1, 0, none⟩) := (hF 2).trans (eval_of ((hsm9 2 rfl).trans rfl))
 have g8 : F 8 = .pointer (some ⟨w4.heap.size, 0, none⟩) := (hF 8).trans (eval_of ((hsm9 8 rfl).trans rfl))
 rw [g2, g8]
 clear hF g2 g8 hsz9 hd9 hsm9
 obtain ⟨h10, h11⟩ := y0.1 rfl
 obtain ⟨h20, h21⟩ := y1.1 rfl
 have hs6 := hm6.size
 have hB6 : Below w.heap.size w w6 := hlow5.trans (hm6.below (by omega) (by omega))
 have hb46 : Below w4.heap.size w4 w6 := hbS.trans (hm6.below (Nat.le_refl _) (by omega))
 obtain ⟨pf, hpf⟩ : ∃ pf : ProgV, pf = { q with ws := s1, work := l1, cs := s2, recover := l2 } := ⟨_, rfl⟩
 have HX6 : Hid (Bx w4.heap.size w6 pf) := Lib.hid (by rw [hpf]; exact hx6)
 have HZ6 := Lib.hid (HBLK.out w6 hb46).2
 have HPF := Lib.hid hpf
 have HB6 := Lib.hid hB6
 have HB46 := Lib.hid hb46
 have H1 := Lib.hid (And.intro h10 h11)
 have H2 := Lib.hid (And.intro h20 h21)
 clear hm6 hx6 y0 y1 h10 h11 h20 h21 hB6 hb46 hpf hbS hqS hbp5 hlow5 hU5
 go_wp2_with (first
   | (refine wpList_load_row rfl 35 _ rfl w4.heap.size rfl 35 _ (0, 0) _ HX6.out Tryz.underlying35 rfl (arr_size _) ?_)
   | (refine wpList_store_row rfl 35 _ _ rfl (w.heap.size + 1) pf.arr (by rfl) (by rfl) 35 zeroP.arr HZ6.out (arr_size _) (by kernel_rfl) (arr_one _) ?_)
   | fail)
 have hse : (w6.setRow (w.heap.size + 1) pf.arr).heap[w.heap.size + 1]? = some (.cells pf.arr 35 (0, 0)) := setRow_atC HZ6.out pf.arr
 have hz4l := HB4.out.size
 refine bodyPost_ret (results_row_tmp rfl _ _ (w.heap.size + 1) 35 _ (0, 0) _ rfl hse Tryz.underlying35 rfl (arr_size _)) rfl ⟨pf, rfl, ?_, ?_, below_setRow HB6.out (Nat.le_succ _)⟩
 · rw [HPF.out]
   exact unP_bare HBARE.out H1.out.1 H2.out.1
 · have t1 := (newTs_set (g := w.heap.size + 1) (cs := pf.arr) H1.out.2 (by omega)).rd
   have t2 := (newTs_set (g := w.heap.size + 1) (cs := pf.arr) H2.out.2 (by omega)).rd
   have hs3 := HS3.out
   have hrd := (HRD.out.cells (W' := w6.setRow (w.heap.size + 1) pf.arr) fun a u ha hc => by
     obtain ⟨k1, k2⟩ := lowm_cell.1 hc
     exact (cell_setRow_other _ _ _ _ (by omega)).trans ((HB46.out.cell ha).trans k2)).more (n₁ := (w6.setRow (w.heap.size + 1) pf.arr).heap.size) (by rw [size_setRow]; have := HB46.out.size; omega)
   rw [HPF.out] at t1 t2 hrd ⊢
   exact unP_rd hrd ⟨t1.row, t1.ok⟩ ⟨t2.row, t2.ok⟩
end Go.Proofs.YtepacjkacjabbaaGreatDoor
