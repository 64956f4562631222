import Derived.Test.YtepacjkacjabbaaGreatDoorKBJ
import Derived.Test.YtepacjkacjabbaaGreatDoorKBC
import Derived.Test.YtepacjkacjabbaaGreatDoorKAG
import Derived.Test.YtepacjkacjabbaaGreatDoorKAI
import Derived.Laws.Rows
import Derived.Laws.Tables
import Derived.Laws.CopyOwn
import Derived.Test.YtepacjkacjabbaaGreatDoorKBE
namespace Go.Proofs.YtepacjkacjabbaaGreatDoor
open Go Go.RowKit Go.Maps
attribute [local go_sem] Oper.semAt_some
theorem results_free (w : World) (tmps : Array Value) (b2 b3 : Nat) (v : Bool) (h2 : tmps.getD 2 undef = .pointer (some ⟨b2, 0, none⟩)) (h3 : tmps.getD 3 undef = .pointer (some ⟨b3, 0, none⟩)) (c2 : w.cell? ⟨b2, 0, none⟩ = some (.bool v)) (c3 : w.cell? ⟨b3, 0, none⟩ = some (.int .i64 0)) : (results Tryz.f45 tmps).run Tryz.prog w = .ok (.tuple #[.bool v, .int .i64 0]) w := by
 have h2' : tmps[2]?.getD undef = .pointer (some ⟨b2, 0, none⟩) := by simpa using h2
 have h3' : tmps[3]?.getD undef = .pointer (some ⟨b3, 0, none⟩) := by simpa using h3
 simp [results, h2', h3', asAddr, go_sem, c2, c3]
set_option maxRecDepth 10000000 in
set_option maxHeartbeats 64000000 in
theorem freeNo_any (w : World) (p : ProgV) (hp : RdP w.heap.size w p) (hn0 : 0 < w.heap.size) (hmx : MxAt w) (hr : ReadyP p) (hfree : freeB p.work = false) :
   Calls Tryz.prog 45 #[.agg p.arr] w fun o w' => o = .returned (.tuple #[.bool false, .int .i64 0]) ∧ Below w.heap.size w w' := by
 obtain ⟨hB1, hf1, he1, hsz1, hb1⟩ := alloc3 w (.cells p.arr 35) (.cells #[.bool false] 4) (.cells #[.int .i64 0] 37)
 have hCK := rightU_any _ p (hp.on hb1) (Nat.lt_of_lt_of_le hn0 hb1.size) hr.names hr.weight (hmx.below hb1 hn0)
 rw [decide_eq_true (show (checkP p).2 = 0 ∧ p.procs.length = 0 from ⟨hr.chk, hr.len⟩)] at hCK
 have hHF := hr.heft
 have hBW := heft_bareW p
 have HHW : Hid (heftL p.work ≤ 20000) := Lib.hid (by omega)
 have harrs := arr_size p
 have HCK := Lib.hid hCK
 have HB := Lib.hid hB1
 have HF1 := Lib.hid hf1
 have HE1 := Lib.hid he1
 have HB1 := Lib.hid hb1
 have HP := Lib.hid hp
 have HFR := Lib.hid hfree
 have hc14 : ∀ W : World, W.heap[w.heap.size]? = some (.cells p.arr 35 (0, 0)) → W.cell? ⟨w.heap.size, 14, none⟩ = some (.slice p.ws.at_ p.work.length p.ws.cap) ∧ W.cell? ⟨w.heap.size, 15, none⟩ = some (.slice p.cs.at_ p.recover.length p.cs.cap) := fun W h => ⟨(show Bx w.heap.size W p from h).cell 14 rfl, (show Bx w.heap.size W p from h).cell 15 rfl⟩
 have HC14 := Lib.hid hc14
 clear hCK hB1 hf1 he1 hb1 hp hmx hr hHF hBW hfree hc14
 generalize p.arr = arr at *
 refine (callsIn_wide (n := 5)).1 ?_
 refine callsIn_of_wp_marks Tryz.func45 rfl trivial ?_ rfl
 simp only [Tryz.ntmps45, List.size_toArray, List.length_cons, List.length_nil, Nat.reduceAdd, Nat.reduceSub, Array.replicate_succ, Array.replicate_zero, List.push_toArray, List.append_toArray, List.nil_append, List.cons_append]
 refine wpIn_wide.2 ?_
 go_wp2_with (first | (refine wpList_load_row rfl 35 _ rfl w.heap.size rfl 35 _ (0, 0) _ HB.out Tryz.underlying35 rfl harrs ?_) | fail)
 refine HCK.out.mono ?_
 rintro o w2 ⟨rfl, hb2⟩
 generalize ((w.alloc (.cells arr 35)).alloc (.cells #[.bool false] 4)).alloc (.cells #[.int .i64 0] 37) = w1 at *
 have hs2 : w.heap.size + 3 ≤ w2.heap.size := by have := hb2.size; omega
 have hbx := (hb2.block _ (Array.getElem?_eq_some_iff.1 HB.out).1).trans HB.out
 have HF2 := Lib.hid ((hb2.block _ (Array.getElem?_eq_some_iff.1 HF1.out).1).trans HF1.out)
 have HE2 := Lib.hid ((hb2.block _ (Array.getElem?_eq_some_iff.1 HE1.out).1).trans HE1.out)
 have HB2 := Lib.hid (HB1.out.trans (hb2.mono HB1.out.size))
 obtain ⟨c14, c15⟩ := HC14.out w2 hbx
 have hbr : Below w2.heap.size w2 (w2.alloc (.cells #[.slice p.ws.at_ p.work.length p.ws.cap, .slice p.cs.at_ p.recover.length p.cs.cap] 33)) := (Below.refl _ _).alloc (Nat.le_refl _) _
 have HRW := Lib.hid (World.alloc_heap_new w2 (.cells #[.slice p.ws.at_ p.work.length p.ws.cap, .slice p.cs.at_ p.recover.length p.cs.cap] 33))
 have HBR := Lib.hid hbr
 clear hb2 hbx hbr HB HF1 HE1 HB1 HCK hsz1
 go_wp2_with fail
 refine wp_loop_rounds 1 ?_
 clear c14 c15
 generalize w2.alloc (.cells #[.slice p.ws.at_ p.work.length p.ws.cap, .slice p.cs.at_ p.recover.length p.cs.cap] 33) = V at *
 have c0 : V.cell? ⟨w2.heap.size, 0, none⟩ = some (.slice p.ws.at_ p.work.length p.ws.cap) := by simp [World.cell?, HRW.out]
 rw [rounds_succ]
 go_wp2_with fail
 clear c0
 refine (within_any p.ws p.work.length V).mono ?_
 rintro o w5 ⟨rfl, rfl⟩
 have hbx : Below V.heap.size V (V.alloc (.cells #[.slice p.ws.at_ p.work.length p.ws.cap] 33)) := (Below.refl _ _).alloc (Nat.le_refl _) _
 have HXX := Lib.hid (World.alloc_heap_new V (.cells #[.slice p.ws.at_ p.work.length p.ws.cap] 33))
 have HBX := Lib.hid hbx
 clear hbx
 generalize V.alloc (.cells #[.slice p.ws.at_ p.work.length p.ws.cap] 33) = X at *
 go_wp2_with fail
 have HK2 : Hid (Below w2.heap.size w2 X) := Lib.hid (HBR.out.trans (HBX.out.mono HBR.out.size))
 have HKw : Hid (Below w.heap.size w X) := Lib.hid (HB2.out.trans (HK2.out.mono HB2.out.size))
 have HF := Lib.hid ((HK2.out.block _ (by omega)).trans HF2.out)
 have HE := Lib.hid ((HK2.out.block _ (by omega)).trans HE2.out)
 have hXs : w.heap.size + 3 ≤ X.heap.size := by have := HK2.out.size; omega
 have HSEQ := Lib.hid fun n => within_seq p.ws p.work HP.out.work n X V.heap.size HKw.out (by omega) HXX.out
 refine (wpIn_wide (n := 5)).1 ?_
 refine wpIn_rangeFunc_net (T := TW) (n₀ := w.heap.size) rfl (fun h => by cases h) (gf := 165) (lb := #[.pointer (some ⟨V.heap.size, 0, none⟩)]) rfl trivial (enters_of Tryz.func165 (by kernel_rfl) rfl)
   (HSEQ.out _) (by omega) (Below.refl _ _) (fun _ => rfl)
   (fun pre W => W.heap[w.heap.size + 1]? = some (.cells #[.bool false] 4 (0, 0)) ∧ W.heap[w.heap.size + 1 + 1]? = some (.cells #[.int .i64 0] 37 (0, 0)) ∧ Below w.heap.size w W ∧ X.heap.size ≤ W.heap.size ∧ ∀ y ∈ pre, loopB y = false)
   (fun c _ W => c = .ret ∧ W.heap[w.heap.size + 1]? = some (.cells #[.bool false] 4 (0, 0)) ∧ W.heap[w.heap.size + 1 + 1]? = some (.cells #[.int .i64 0] 37 (0, 0)) ∧ Below w.heap.size w W ∧ X.heap.size ≤ W.heap.size)
   ?hI ?hIx ⟨HF.out, HE.out, HKw.out, Nat.le_refl _, fun _ h => absurd h (by simp)⟩
   (fun y a' W => ∃ b6, W.heap[b6]? = some (.cells #[.int .u8 y.kind, .string y.name, .slice y.es.at_ y.exprs.length y.es.cap, .int .i64 y.bound, .slice y.ts.at_ y.thn.length y.ts.cap, .slice y.os.at_ y.els.length y.os.cap] 43 (0, 0)) ∧ a' = { tmps := #[.agg arr, .pointer (some ⟨w.heap.size, 0, none⟩), .pointer (some ⟨w.heap.size + 1, 0, none⟩), .pointer (some ⟨w.heap.size + 1 + 1, 0, none⟩), undef, .slice p.ws.at_ p.work.length p.ws.cap, .pointer (some ⟨b6, 0, none⟩), .agg arr, .bool true, .bool false, .pointer (some ⟨w.heap.size, 14, none⟩), .slice p.ws.at_ p.work.length p.ws.cap, .pointer (some ⟨w.heap.size, 15, none⟩), .slice p.cs.at_ p.recover.length p.cs.cap, .slice (some ⟨w2.heap.size, 0, none⟩) 2 2, .int .i64 2, .int .i64 0, .bool true, .pointer (some ⟨w2.heap.size, 0, none⟩), .slice p.ws.at_ p.work.length p.ws.cap, .slice p.ws.at_ p.work.length p.ws.cap, .func (.func 165) #[] #[.pointer (some ⟨V.heap.size, 0, none⟩)], .agg #[.int .u8 y.kind, .string y.name, .slice y.es.at_ y.exprs.length y.es.cap, .int .i64 y.bound, .slice y.ts.at_ y.thn.length y.ts.cap, .slice y.os.at_ y.els.length y.os.cap], undef, undef, undef], defers := [] })
   ?hAx ?assign ?body ?done ?stop
 case hI =>
   rintro s X' Y rw ⟨h1, h2, h3, h4, h5⟩ hg hr
   have hcl : ∀ (k : Nat) (cs : Array Value) (t : TypeId) (fr : Nat × Nat), X'.heap[k]? = some (Obj.cells cs t fr) → Y.heap[k]? = X'.heap[k]? := fun k cs t fr hk => hg.block k (Array.getElem?_eq_some_iff.1 hk).1 (fun e => by
     obtain ⟨_, o, ho, hc⟩ := hr k e.symm
     rw [hk] at ho
     cases ho
     cases hc)
   exact ⟨(hcl _ _ _ _ h1).trans h1, (hcl _ _ _ _ h2).trans h2, h3.grown hg (by omega) (fun q hq => by have := (hr q hq).1; omega), Nat.le_trans h4 hg.size, h5⟩
 case hIx =>
   rintro c s X' Y rw ⟨h0, h1, h2, h3, h4⟩ hg hr
   have hcl : ∀ (k : Nat) (cs : Array Value) (t : TypeId) (fr : Nat × Nat), X'.heap[k]? = some (Obj.cells cs t fr) → Y.heap[k]? = X'.heap[k]? := fun k cs t fr hk => hg.block k (Array.getElem?_eq_some_iff.1 hk).1 (fun e => by
     obtain ⟨_, o, ho, hc⟩ := hr k e.symm
     rw [hk] at ho
     cases ho
     cases hc)
   exact ⟨h0, (hcl _ _ _ _ h1).trans h1, (hcl _ _ _ _ h2).trans h2, h3.grown hg (by omega) (fun q hq => by have := (hr q hq).1; omega), Nat.le_trans h4 hg.size⟩
 case hAx =>
   rintro y a' _ X' Y rw ⟨b7, h1, h2⟩ hg hr
   refine ⟨b7, (hg.block b7 (Array.getElem?_eq_some_iff.1 h1).1 (fun e' => ?_)).trans h1, h2⟩
   obtain ⟨_, o', ho, hc⟩ := hr b7 e'.symm
   rw [h1] at ho
   cases ho
   cases hc
 case assign =>
   rintro l2 pre y Wc K ⟨h1, h2, h3, h4, h5⟩ hK
   simp only [StmtV.val, Sp.val] at hK ⊢
   have hba : Below Wc.heap.size Wc (Wc.alloc (.cells #[.int .u8 y.kind, .string y.name, .slice y.es.at_ y.exprs.length y.es.cap, .int .i64 y.bound, .slice y.ts.at_ y.thn.length y.ts.cap, .slice y.os.at_ y.els.length y.os.cap] 43)) := (Below.refl _ Wc).alloc (Nat.le_refl _) _
   gi_wp2
   exact hK _ _ (KeepsT.of_below hba) (hba.mono (by omega)) ⟨(hba.block _ (by omega)).trans h1, (hba.block _ (by omega)).trans h2, h3.trans (hba.mono (by omega)), Nat.le_trans h4 hba.size, h5⟩ ⟨_, World.alloc_heap_new _ _, rfl⟩
 case body =>
   rintro l2 pre y a' Wc hl2 ⟨h1, h2, h3, h4, h5⟩ ⟨b6, hb6, rfl⟩ hlen hsp
   obtain ⟨q0, q1, q2, q3, q4, q5⟩ := six_cells hb6
   have hym : y ∈ p.work.flatMap StmtV.pre := hsp.mem (by simp)
   have hIP := loop_any Wc y ((rdT_pre (HP.out.work.ok _ (List.mem_flatMap.1 hym).choose_spec.1) y (List.mem_flatMap.1 hym).choose_spec.2).stays h3 |>.more h3.size) (Nat.le_trans (flat_heftY hym) HHW.out)
   have HIP := Lib.hid hIP
   have H1 := Lib.hid h1
   have H2 := Lib.hid h2
   have H3 := Lib.hid h3
   have H4 := Lib.hid h4
   have H5 := Lib.hid h5
   have hn1 : (1 : Nat) ≤ 5 - 1 - 1 := by omega
   clear hIP h1 h2 h3 h4 h5 hb6 hlen hsp hym
   gi_wp2
   refine ⟨trivial, ?_⟩
   refine (CallsIn.inRound l2 (callsIn_wide.2 HIP.out)).mono ?_
   rintro o4 W4 ⟨rfl, hb4⟩
   have HQ1 := Lib.hid ((hb4.block _ (by have := H4.out; omega)).trans H1.out)
   have HQ2 := Lib.hid ((hb4.block _ (by have := H4.out; omega)).trans H2.out)
   have HSW : Hid (w.heap.size ≤ Wc.heap.size) := Lib.hid (by have := H4.out; omega)
   have HB4 := Lib.hid hb4
   clear hb4 q0 q1 q2 q3 q4 q5 HIP
   cases hip : loopB y with
   | true =>
     clear hip
     have d1 := one_cell HQ1.out
     have d2 := one_cell HQ2.out
     have f1 : W4.frozen? ⟨w.heap.size + 1, 0, none⟩ = false := by unfold World.frozen?; rw [HQ1.out]; rfl
     have f2 : W4.frozen? ⟨w.heap.size + 1 + 1, 0, none⟩ = false := by unfold World.frozen?; rw [HQ2.out]; rfl
     clear hXs hs2 hl2
     gi_wp2
     have e1 : ((W4.setCell ⟨w.heap.size + 1, 0, none⟩ (.bool false)).setCell ⟨w.heap.size + 1 + 1, 0, none⟩ (.int .i64 0)).heap[w.heap.size + 1]? = some (.cells #[.bool false] 4 (0, 0)) := (Below.heap_setCell _ _ _ _ (show w.heap.size + 1 ≠ w.heap.size + 1 + 1 by omega)).trans ((show Boxed W4 (w.heap.size + 1) 4 _ from HQ1.out).set _)
     have e2 : ((W4.setCell ⟨w.heap.size + 1, 0, none⟩ (.bool false)).setCell ⟨w.heap.size + 1 + 1, 0, none⟩ (.int .i64 0)).heap[w.heap.size + 1 + 1]? = some (.cells #[.int .i64 0] 37 (0, 0)) := (show Boxed (W4.setCell ⟨w.heap.size + 1, 0, none⟩ (.bool false)) (w.heap.size + 1 + 1) 37 (.int .i64 0) from (Below.heap_setCell _ _ _ _ (show w.heap.size + 1 + 1 ≠ w.heap.size + 1 by omega)).trans HQ2.out).set _
     refine ⟨((KeepsT.of_below HB4.out).trans (KeepsT.set (a := ⟨w.heap.size + 1, 0, none⟩) HQ1.out rfl _)).trans (KeepsT.set (a := ⟨w.heap.size + 1 + 1, 0, none⟩) ((Below.heap_setCell _ _ _ _ (show w.heap.size + 1 + 1 ≠ w.heap.size + 1 by omega)).trans HQ2.out) rfl _), rfl, e1, e2, ((H3.out.trans (HB4.out.mono HSW.out)).setCell (p := ⟨w.heap.size + 1, 0, none⟩) (by show w.heap.size ≤ w.heap.size + 1; omega) _).setCell (p := ⟨w.heap.size + 1 + 1, 0, none⟩) (by show w.heap.size ≤ w.heap.size + 1 + 1; omega) _, by simp only [World.size_setCell]; exact Nat.le_trans H4.out HB4.out.size⟩
   | false =>
     have HNL : Hid (∀ z ∈ pre ++ [y], loopB z = false) := Lib.hid fun z hz => by
       rcases List.mem_append.1 hz with h | h
       · exact H5.out z h
       · rw [List.mem_singleton.1 h]; exact hip
     clear hip
     gi_wp2
     exact ⟨KeepsT.of_below HB4.out, HB4.out.mono HSW.out, HQ1.out, HQ2.out, H3.out.trans (HB4.out.mono HSW.out), Nat.le_trans H4.out HB4.out.size, HNL.out⟩
 case done =>
   rintro Dq ys Wd hD rfl ⟨-, -, -, -, h5⟩ hK
   exfalso
   have h6 : freeB p.work = true := by
     unfold freeB
     rw [List.all_eq_true]
     intro y hy
     rw [h5 y hy]
     rfl
   rw [HFR.out] at h6
   cases h6
 case stop =>
   rintro Dq c pre Wd hD hp ⟨rfl, h1, h2, h3, h4⟩ hK
   have HKD := Lib.hid hK
   have H1 := Lib.hid h1
   have H2 := Lib.hid h2
   have H3 := Lib.hid h3
   clear hK h1 h2 h3
   gi_wp2
   refine ⟨by simp, .inl ⟨_, _, rfl, run_takeDeferred HKD.out, ?_⟩⟩
   refine ⟨_, results_free _ _ (w.heap.size + 1) (w.heap.size + 1 + 1) false rfl rfl ?_ ?_, rfl, H3.out.trans (below_put _ _ (by omega))⟩
   · exact one_cell ((World.putObj_heap_other (by omega)).trans H1.out)
   · exact one_cell ((World.putObj_heap_other (by omega)).trans H2.out)
end Go.Proofs.YtepacjkacjabbaaGreatDoor
namespace Go.Proofs.YtepacjkacjabbaaGreatDoor
open Go
def smB (work rec : List StmtV) : ProgV := ⟨1, 2, Sp.none, [], Sp.none, [], Sp.none, [⟨xB, 2, 0⟩], Sp.none, [], numE 1 1, Sp.none, [], Sp.none, [], Sp.none, work, Sp.none, rec, numE 1 1⟩
def whS (n : Int) (l : List StmtV) : StmtV := .mk 7 ⟨#[]⟩ Sp.none [nameE xB] n Sp.none l Sp.none []
def doS (k : Int) (ex : List ExprV) : StmtV := .mk k ⟨#[]⟩ Sp.none ex 0 Sp.none [] Sp.none []
def cntsI (y : Int) : StmtV := whS y [doS 5 []]
def cntsW (x y z : Int) : List StmtV := [whS x [doS 4 [], cntsI y], whS z [doS 3 [numE 0 1, nameE xB]]]
def cntsB (x y z : Int) : ProgV := smB (cntsW x y z) [cntsI y]
def cntsK (x y z : Nat) : List Int := ((List.range x).flatMap fun _ => 4 :: (List.range y).map fun _ => 5) ++ (List.range z).map fun _ => 3
mutual
def nX : ExprV → Nat
 | .mk _ _ _ _ _ _ l => 1 + nXs l
def nXs : List ExprV → Nat
 | [] => 0
 | e :: l => nX e + nXs l
end
theorem nXs_of : ∀ {l : List ExprV}, (∀ e ∈ l, nX e = e.pre.length) → nXs l = heftX l
 | [], _ => rfl
 | e :: l, h => by
   rw [nXs, h e (List.mem_cons_self ..), nXs_of fun x hx => h x (List.mem_cons_of_mem _ hx)]
   unfold heftX
   rw [List.map_cons, List.sum_cons]
theorem nX_eq (e : ExprV) : nX e = e.pre.length := by
 induction e using ExprV.ind with
 | h k o v w n sp l ih =>
   rw [nX, nXs_of ih, pre_lenX]
   rfl
theorem nXs_eq (l : List ExprV) : nXs l = heftX l := nXs_of fun e _ => nX_eq e
mutual
def wtT2 : StmtV → Int
 | .mk k n es ex b ts th os el => if loopB (.mk k n es ex b ts th os el) = true then b * (1 + (nXs ex : Int) + wtTs2 th 0) + (1 + (nXs ex : Int)) + 2 else 1 + (nXs ex : Int) + wtTs2 th 0 + wtTs2 el 0
def wtTs2 : List StmtV → Int → Int
 | [], n => n
 | s :: l, n => if n + wtT2 s > 20000 then 20001 else wtTs2 l (n + wtT2 s)
end
theorem wtTs2_of : ∀ {l : List StmtV}, (∀ s ∈ l, wtT2 s = wtT s) → ∀ n, wtTs2 l n = wtTs l n
 | [], _, n => by rw [wtTs2, wtTs]
 | s :: l, h, n => by rw [wtTs2, wtTs, h s (List.mem_cons_self ..), wtTs2_of fun t ht => h t (List.mem_cons_of_mem _ ht)]
theorem wtT2_eq (s : StmtV) : wtT2 s = wtT s := by
 induction s using StmtV.ind with
 | h k n es ex b ts th os el i1 i2 => rw [wtT2, wtT, nXs_eq, wtTs2_of i1, wtTs2_of i2]
theorem wtTs2_eq (l : List StmtV) (n : Int) : wtTs2 l n = wtTs l n := wtTs2_of (fun s _ => wtT2_eq s) n
mutual
def preT2 : StmtV → List StmtV
 | .mk k n es ex b ts th os el => .mk k n es ex b ts th os el :: (preTs2 th ++ preTs2 el)
def preTs2 : List StmtV → List StmtV
 | [] => []
 | s :: l => preT2 s ++ preTs2 l
end
theorem preTs2_of : ∀ {l : List StmtV}, (∀ s ∈ l, preT2 s = s.pre) → preTs2 l = l.flatMap StmtV.pre
 | [], _ => by rw [preTs2]; rfl
 | s :: l, h => by rw [preTs2, h s (List.mem_cons_self ..), preTs2_of fun t ht => h t (List.mem_cons_of_mem _ ht), List.flatMap_cons]
theorem preT2_eq (s : StmtV) : preT2 s = s.pre := by
 induction s using StmtV.ind with
 | h k n es ex b ts th os el i1 i2 =>
   rw [preT2, preTs2_of i1, preTs2_of i2, StmtV.pre_eq]
   rfl
theorem preTs2_eq (l : List StmtV) : preTs2 l = l.flatMap StmtV.pre := preTs2_of fun s _ => preT2_eq s
def opsK2 (l : List StmtV) : List Int := ((preTs2 l).filter fun s => decide (s.kind = 3 ∨ s.kind = 4 ∨ s.kind = 5)).map StmtV.kind
def passesN2 (l : List StmtV) : Nat := (preTs2 l).countP isPass
theorem opsK2_eq (l : List StmtV) : opsK2 l = opsK l := by unfold opsK2 opsK; rw [preTs2_eq]
theorem passesN2_eq (l : List StmtV) : passesN2 l = passesN l := by unfold passesN2 passesN; rw [preTs2_eq]
theorem codes_heft {p : ProgV} {k : Nat} (h : (codesP p 0).length = k) : heftP p = k := by rw [← codesP_len p 0, h]
def weightU2 (p : ProgV) : Int := min (((codesP (bareW p) 0).length : Int) + wtTs2 p.work 0 + wtTs2 p.recover 0) 20001
theorem weightU2_eq (p : ProgV) : weightU2 p = weightU p := by
 unfold weightU2 weightU
 rw [wtTs2_eq, wtTs2_eq, codesP_len]
def goodC (x y z : Nat) : Bool :=
 let p := cntsB x y z
 decide ((codesP p 0).length = 18) && (decide (((probs (codesP p 18) 0).headD (0, 0)).2 = 0) && (decide (weightU2 p ≤ 20000) && (decide (depthU p = max ((x : Int) + max ((y : Int) + 2) 2) ((z : Int) + 2)) && (decide (opsK2 (unTs p.work) = cntsK x y z) && (decide (passesN2 (unTs p.work) = x + 2) && decide (passesN2 (unTs p.recover) = 1))))))
theorem good_all : ((List.range 6).all fun a => (List.range 6).all fun b => (List.range 6).all fun c => goodC (a + 1) (b + 1) (c + 1)) = true := by kernel_rfl
theorem good_one {a b c : Nat} (ha : a < 6) (hb : b < 6) (hc : c < 6) : goodC (a + 1) (b + 1) (c + 1) = true := by
 have h := good_all
 rw [List.all_eq_true] at h
 have h1 := h a (List.mem_range.2 ha)
 rw [List.all_eq_true] at h1
 have h2 := h1 b (List.mem_range.2 hb)
 rw [List.all_eq_true] at h2
 exact h2 c (List.mem_range.2 hc)
theorem smB_names (work rec : List StmtV) : NamesOk (smB work rec) :=
 ⟨fun d hd => by
   have : d = ⟨xB, 2, 0⟩ := by simpa [smB] using hd
   rw [this]; decide, fun q hq => absurd hq (by simp [smB])⟩
theorem ready_of {work rec : List StmtV} {k : Nat} (h : (codesP (smB work rec) 0).length = k) (hk : k ≤ 20000) (h0 : ((probs (codesP (smB work rec) k) 0).headD (0, 0)).2 = 0) : ReadyP (smB work rec) := by
 have e := codes_heft h
 refine ⟨by omega, smB_names _ _, ?_, rfl⟩
 rw [checkP_codes (by omega), e]
 exact h0
structure GoodC (x y z : Nat) : Prop where
 ready : ReadyP (cntsB x y z)
 weight : weightU (cntsB x y z) ≤ 20000
 depth : depthU (cntsB x y z) = max ((x : Int) + max ((y : Int) + 2) 2) ((z : Int) + 2)
 ops : opsK (unTs (cntsB x y z).work) = cntsK x y z
 pass : passesN (unTs (cntsB x y z).work) = x + 2
 recv : passesN (unTs (cntsB x y z).recover) = 1
theorem counts_good {a b c : Nat} (ha : a < 6) (hb : b < 6) (hc : c < 6) : GoodC (a + 1) (b + 1) (c + 1) := by
 have h := good_one ha hb hc
 unfold goodC at h
 simp only [Bool.and_eq_true, decide_eq_true_eq, weightU2_eq, opsK2_eq, passesN2_eq] at h
 obtain ⟨h1, h2, h3, h4, h5, h6, h7⟩ := h
 exact ⟨ready_of h1 (by omega) h2, h3, h4, h5, h6, h7⟩
end Go.Proofs.YtepacjkacjabbaaGreatDoor
namespace Go.Proofs.YtepacjkacjabbaaGreatDoor
open Go
def ltE : ExprV := .mk 6 15 0 0 ⟨#[]⟩ Sp.none [nameE xB, numE 3 2]
def incT : StmtV := .mk 1 xB Sp.none [.mk 6 3 0 0 ⟨#[]⟩ Sp.none [nameE xB, numE 1 2]] 0 Sp.none [] Sp.none []
def countT (n : Int) : StmtV := .mk 7 ⟨#[]⟩ Sp.none [ltE] n Sp.none [incT] Sp.none []
def ifT (l : List StmtV) : StmtV := .mk 6 ⟨#[]⟩ Sp.none [ltE] 0 Sp.none l Sp.none []
theorem awake_ready : ReadyP (smB [countT 2] []) := ready_of (k := 12) (by kernel_rfl) (by decide) (by kernel_rfl)
theorem empty_ready : ReadyP (smB [] []) := ready_of (k := 4) (by kernel_rfl) (by decide) (by kernel_rfl)
theorem awake_weight : weightU (smB [countT 2] []) = 26 := by rw [← weightU2_eq]; kernel_rfl
theorem empty_weight : weightU (smB [] []) = 4 := by rw [← weightU2_eq]; kernel_rfl
theorem awake_depth : depthU (smB [countT 2] []) = 4 := by kernel_rfl
theorem awake_un : (unTs [countT 2]).map bareT = [ifT [incT, ifT [incT, ifT [passT]]]] := by kernel_rfl
theorem awake_pass : passesN (unTs [countT 2]) = 1 ∧ passesN (unTs []) = 0 := ⟨by rw [← passesN2_eq]; kernel_rfl, by rw [← passesN2_eq]; kernel_rfl⟩
theorem awake_free : freeB [countT 2] = false := by unfold freeB; rw [← preTs2_eq]; kernel_rfl
theorem count_pass : isPass (countT 1) = false := by kernel_rfl
theorem one_pass : isPass (.mk 7 ⟨#[]⟩ Sp.none [numE 1 1] 1 Sp.none [] Sp.none []) = true := by kernel_rfl
theorem map_one {α β : Type} {f : α → β} {l : List α} {y : β} (h : l.map f = [y]) : ∃ x, l = [x] ∧ f x = y := by
 match l, h with
 | [x], h => exact ⟨x, rfl, by simpa using h⟩
theorem map_two {α β : Type} {f : α → β} {l : List α} {y z : β} (h : l.map f = [y, z]) : ∃ x x', l = [x, x'] ∧ f x = y ∧ f x' = z := by
 match l, h with
 | [x, x'], h => exact ⟨x, x', rfl, by simpa using h⟩
theorem bare_if {s : StmtV} {l : List StmtV} (h : bareT s = ifT l) : s.kind = 6 ∧ s.thn.map bareT = l := by
 have h1 : (bareT s).kind = 6 := by rw [h]; rfl
 have h2 : (bareT s).thn = l := by rw [h]; rfl
 exact ⟨by rw [← bareT_kind]; exact h1, by rw [← bareT_thn]; exact h2⟩
theorem awake_shape {l : List StmtV} (h : l.map bareT = [ifT [incT, ifT [incT, ifT [passT]]]]) : ∃ s0 x0 s1 x1 s2 t, l = [s0] ∧ s0.kind = 6 ∧ s0.thn = [x0, s1] ∧ s1.kind = 6 ∧ s1.thn = [x1, s2] ∧ s2.thn = [t] ∧ isPass t = true := by
 obtain ⟨s0, e0, h0⟩ := map_one h
 obtain ⟨k0, t0⟩ := bare_if h0
 obtain ⟨x0, s1, e1, _, h1⟩ := map_two t0
 obtain ⟨k1, t1⟩ := bare_if h1
 obtain ⟨x1, s2, e2, _, h2⟩ := map_two t1
 obtain ⟨_, t2⟩ := bare_if h2
 obtain ⟨t, e3, h3⟩ := map_one t2
 refine ⟨s0, x0, s1, x1, s2, t, e0, k0, e1, k1, e2, e3, ?_⟩
 rw [← isPass_bare, h3]
 kernel_rfl
end Go.Proofs.YtepacjkacjabbaaGreatDoor
namespace Go.Proofs.YtepacjkacjabbaaGreatDoor
open Go Go.RowKit Go.Maps
def smU (v ws cs : Sp) (work rec : List StmtV) : ProgV := ⟨1, 2, Sp.none, [], Sp.none, [], v, [⟨xB, 2, 0⟩], Sp.none, [], numE 1 1, Sp.none, [], Sp.none, [], ws, work, cs, rec, numE 1 1⟩
theorem smU_bare (v ws cs : Sp) (work rec : List StmtV) : bareP (smU v ws cs work rec) = bareP (smB work rec) := rfl
theorem num_anyU (x wd : Int) (hx : IntKind.u32.wrap x = x) (w : World) : Calls Tryz.prog 41 #[.int .i64 x, .int .i64 wd] w fun o w' => o = .returned (numE x wd).val ∧ Below w.heap.size w w' := by
 go_enter Tryz.func41, Tryz.ntmps41
 go_wp2_with fail
 exact bodyPost_ret (results_cell_row rfl _ _ w.heap.size 30 _ (0, 0) _ rfl (World.alloc_heap_new _ _) Tryz.underlying30 rfl (by kernel_rfl)) rfl ⟨rfl, (Below.refl _ _).alloc (Nat.le_refl _) _⟩
theorem name_anyU (s : ByteArray) (w : World) : Calls Tryz.prog 57 #[.string s] w fun o w' => o = .returned (nameE s).val ∧ Below w.heap.size w w' := by
 go_enter Tryz.func57, Tryz.ntmps57
 go_wp2_with fail
 exact bodyPost_ret (results_cell_row rfl _ _ w.heap.size 30 _ (0, 0) _ rfl (World.alloc_heap_new _ _) Tryz.underlying30 rfl (by kernel_rfl)) rfl ⟨rfl, (Below.refl _ _).alloc (Nat.le_refl _) _⟩
def biX (op : Int) (e1 e2 : ExprV) (sp : Sp) : ExprV := .mk 6 op 0 0 ⟨#[]⟩ sp [e1, e2]
theorem binary_anyU (op : Int) (ho : 0 ≤ op ∧ op ≤ 255) (e1 e2 : ExprV) (w : World) (he1 : NowX w e1) (he2 : NowX w e2) : Calls Tryz.prog 118 #[.int .u8 op, e1.val, e2.val] w fun o w' => ∃ sp : Sp, o = .returned (biX op e1 e2 sp).val ∧ NowX w' (biX op e1 e2 sp) ∧ Below w.heap.size w w' := by
 have HE1 := Lib.hid he1
 have HE2 := Lib.hid he2
 clear he1 he2
 simp only [ExprV.val, Sp.val]
 go_enter Tryz.func118, Tryz.ntmps118
 go_wp2_with fail
 obtain ⟨h1, h2, h3, h4, h6, h5⟩ := alloc4 w (.cells #[.int .u8 e1.kind, .int .u8 e1.op, .int .u32 e1.value, .int .i64 e1.width, .string e1.name, .slice e1.sp.at_ e1.subs.length e1.sp.cap] 30) (.cells #[.int .u8 e2.kind, .int .u8 e2.op, .int .u32 e2.value, .int .i64 e2.width, .string e2.name, .slice e2.sp.at_ e2.subs.length e2.sp.cap] 30) (.cells #[.int .u8 6, .int .u8 op, .int .u32 0, .int .i64 0, .string ⟨#[]⟩, .slice (some ⟨w.heap.size + 1 + 1 + 1, 0, none⟩) 2 2] 30) (.cells #[.int .u8 e1.kind, .int .u8 e1.op, .int .u32 e1.value, .int .i64 e1.width, .string e1.name, .slice e1.sp.at_ e1.subs.length e1.sp.cap, .int .u8 e2.kind, .int .u8 e2.op, .int .u32 e2.value, .int .i64 e2.width, .string e2.name, .slice e2.sp.at_ e2.subs.length e2.sp.cap] 30)
 refine bodyPost_ret (results_cell_row rfl _ _ (w.heap.size + 1 + 1) 30 _ (0, 0) _ rfl h3 Tryz.underlying30 rfl (by kernel_rfl)) rfl ⟨⟨some ⟨w.heap.size + 1 + 1 + 1, 0, none⟩, 2⟩, rfl, ?_, h5⟩
 exact .mk _ (show (0 : Int) ≤ 6 ∧ (6 : Int) ≤ 255 by decide) ho (show (0 : Int) ≤ 0 ∧ (0 : Int) ≤ 4294967295 by decide) (show (Lit.int .i64 0).wf = true by decide) (show (0 : Nat) ≤ maxLen by decide) (row_two (enc := ExprV.cells) (x := e1) (y := e2) rfl h4) (fun y hy => by
   have hy2 : y = e1 ∨ y = e2 := by simpa [biX, ExprV.subs] using hy
   rcases hy2 with rfl | rfl
   · exact HE1.out.on h5
   · exact HE2.out.on h5)
set_option maxHeartbeats 1000000 in
theorem set_anyU (s : ByteArray) (hs : s.size ≤ maxLen) (e : ExprV) (w : World) (he : NowX w e) : Calls Tryz.prog 40 #[.string s, e.val] w fun o w' => ∃ sp, o = .returned (setT sp s e).val ∧ NowT w' (setT sp s e) ∧ Below w.heap.size w w' := by
 have HE := Lib.hid he
 clear he
 simp only [ExprV.val, Sp.val]
 go_enter Tryz.func40, Tryz.ntmps40
 go_wp2_with fail
 obtain ⟨h1, h2, h3, h4, h5⟩ := alloc3 w (.cells #[.int .u8 e.kind, .int .u8 e.op, .int .u32 e.value, .int .i64 e.width, .string e.name, .slice e.sp.at_ e.subs.length e.sp.cap] 30) (.cells #[.int .u8 1, .string s, .slice (some ⟨w.heap.size + 1 + 1, 0, none⟩) 1 1, .int .i64 0, .slice none 0 0, .slice none 0 0] 43) (.cells #[.int .u8 e.kind, .int .u8 e.op, .int .u32 e.value, .int .i64 e.width, .string e.name, .slice e.sp.at_ e.subs.length e.sp.cap] 30)
 refine bodyPost_ret (results_cell_row rfl _ _ (w.heap.size + 1) 43 _ (0, 0) _ rfl h2 Tryz.underlying43 rfl (by kernel_rfl)) rfl ⟨⟨some ⟨w.heap.size + 1 + 1, 0, none⟩, 1⟩, rfl, ?_, h5⟩
 exact .mk _ (show (0 : Int) ≤ 1 ∧ (1 : Int) ≤ 255 by decide) (show (Lit.int .i64 0).wf = true by decide) hs (row_one (enc := ExprV.cells) (x := e) h3) (fun y hy => by
   have : y = e := by simpa [setT, StmtV.exprs] using hy
   rw [this]; exact HE.out.on h5) RowOf.nil (fun _ h => absurd h (by simp [setT, StmtV.thn])) RowOf.nil (fun _ h => absurd h (by simp [setT, StmtV.els]))
def whU (es : Sp) (e : ExprV) (n : Int) (ts : Sp) (l : List StmtV) : StmtV := .mk 7 ⟨#[]⟩ es [e] n ts l Sp.none []
set_option maxHeartbeats 1000000 in
theorem while_anyU (n : Int) (hn : (Lit.int .i64 n).wf = true) (e : ExprV) (ts : Sp) (l : List StmtV) (w : World) (he : NowX w e) (hl : RdTs w.heap.size w ts l) : Calls Tryz.prog 60 #[.int .i64 n, e.val, ts.val l.length] w fun o w' => ∃ sp, o = .returned (whU sp e n ts l).val ∧ NowT w' (whU sp e n ts l) ∧ Below w.heap.size w w' := by
 have HE := Lib.hid he
 have HL := Lib.hid hl
 clear he hl
 simp only [ExprV.val, Sp.val]
 go_enter Tryz.func60, Tryz.ntmps60
 go_wp2_with fail
 obtain ⟨h1, h2, h3, h4, h5⟩ := alloc3 w (.cells #[.int .u8 e.kind, .int .u8 e.op, .int .u32 e.value, .int .i64 e.width, .string e.name, .slice e.sp.at_ e.subs.length e.sp.cap] 30) (.cells #[.int .u8 7, .string ⟨#[]⟩, .slice (some ⟨w.heap.size + 1 + 1, 0, none⟩) 1 1, .int .i64 n, .slice ts.at_ l.length ts.cap, .slice none 0 0] 43) (.cells #[.int .u8 e.kind, .int .u8 e.op, .int .u32 e.value, .int .i64 e.width, .string e.name, .slice e.sp.at_ e.subs.length e.sp.cap] 30)
 refine bodyPost_ret (results_cell_row rfl _ _ (w.heap.size + 1) 43 _ (0, 0) _ rfl h2 Tryz.underlying43 rfl (by kernel_rfl)) rfl ⟨⟨some ⟨w.heap.size + 1 + 1, 0, none⟩, 1⟩, rfl, ?_, h5⟩
 have hl := HL.out.on h5
 exact .mk _ (show (0 : Int) ≤ 7 ∧ (7 : Int) ≤ 255 by decide) hn (show (0 : Nat) ≤ maxLen by decide) (row_one (enc := ExprV.cells) (x := e) h3) (fun y hy => by
   have : y = e := by simpa [whU, StmtV.exprs] using hy
   rw [this]; exact HE.out.on h5) hl.row hl.ok RowOf.nil (fun _ h => absurd h (by simp [whU, StmtV.els]))
theorem smU_now {W : World} {v ws : Sp} {l : List StmtV} (hv : RowOf W.heap.size W v 3 DeclV.cells [⟨xB, 2, 0⟩]) (hl : RdTs W.heap.size W ws l) : RdP W.heap.size W (smU v ws Sp.none l []) := by
 have hd : RdDs W.heap.size W Sp.none [] := ⟨RowOf.nil, fun _ h => absurd h (by simp)⟩
 have ht : RdTs W.heap.size W Sp.none [] := ⟨RowOf.nil, fun _ h => absurd h (by simp)⟩
 have hn : NowX W (numE 1 1) := num_now W 1 1 (by decide) (by decide)
 refine ⟨show (Lit.int .i64 1).wf = true by decide, show (Lit.int .i64 2).wf = true by decide, hd, hd, ⟨hv, fun d h => ?_⟩, hd, hn, RowOf.nil, fun _ h => absurd h (by simp [smU]), RowOf.nil, fun _ h => absurd h (by simp [smU]), hl, ht, hn⟩
 have : d = ⟨xB, 2, 0⟩ := by simpa [smU] using h
 rw [this]
 exact ⟨by decide, by decide, by decide⟩
set_option maxRecDepth 1000000 in
set_option maxHeartbeats 2000000 in
theorem small_anyU (ws : Sp) (l : List StmtV) (w : World) (h : RdTs w.heap.size w ws l) : Calls Tryz.prog 48 #[ws.val l.length] w fun o w' => ∃ b : Nat, o = .returned (smU ⟨some ⟨b, 0, none⟩, 1⟩ ws Sp.none l []).val ∧ RdP w'.heap.size w' (smU ⟨some ⟨b, 0, none⟩, 1⟩ ws Sp.none l []) ∧ Below w.heap.size w w' := by
 have HTS := Lib.hid h
 have hb0 : Below w.heap.size w (w.alloc (.cells zeroP.arr 35)) := (Below.refl _ _).alloc (Nat.le_refl _) _
 have hB0 := World.alloc_heap_new w (.cells zeroP.arr 35)
 have hs0 : (w.alloc (.cells zeroP.arr 35)).heap.size = w.heap.size + 1 := by simp
 have hN := fun W => num_anyU 1 1 (by decide) W
 simp only [numE, ExprV.val, ExprV.kind, ExprV.op, ExprV.value, ExprV.width, ExprV.name, ExprV.sp, ExprV.subs, Sp.val, Sp.none, List.length_nil] at hN
 have HNM := Lib.hid hN
 clear h hN
 simp only [Sp.val]
 go_enter Tryz.func48, Tryz.ntmps48
 go_upto_region 1 with (first | (refine wpList_allocRow (t := 35) rfl rfl (run_zeroP _) ?_) | fail)
 generalize w.alloc (.cells zeroP.arr 35) = W0 at *
 have HB0 := Lib.hid hb0
 have HX0 := Lib.hid hB0
 have hb1 : Below W0.heap.size W0 (W0.alloc (.cells #[.string xB, .int .i64 2, .int .i64 0] 50)) := (Below.refl _ _).alloc (Nat.le_refl _) _
 have hB1 := World.alloc_heap_new W0 (.cells #[.string xB, .int .i64 2, .int .i64 0] 50)
 have HB1 := Lib.hid hb1
 have HX1 := Lib.hid hB1
 clear hb0 hB0 hb1 hB1
 have hst : (W0.alloc (.cells #[.string xB, .int .i64 2, .int .i64 0] 50)).heap[w.heap.size]? = some (.cells zeroP.arr 35 (0, 0)) ∧ (W0.alloc (.cells #[.string xB, .int .i64 2, .int .i64 0] 50)).heap[w.heap.size + 1]? = some (.cells #[.string xB, .int .i64 2, .int .i64 0] 50 (0, 0)) ∧ Below w.heap.size w (W0.alloc (.cells #[.string xB, .int .i64 2, .int .i64 0] 50)) :=
   ⟨(HB1.out.block _ (by omega)).trans HX0.out, by have h := HX1.out; rw [hs0] at h; exact h, HB0.out.trans (HB1.out.mono (by omega))⟩
 have UPD : Hid (∀ A B : World, Below A.heap.size A B → (A.heap[w.heap.size]? = some (.cells zeroP.arr 35 (0, 0)) ∧ A.heap[w.heap.size + 1]? = some (.cells #[.string xB, .int .i64 2, .int .i64 0] 50 (0, 0)) ∧ Below w.heap.size w A) → (B.heap[w.heap.size]? = some (.cells zeroP.arr 35 (0, 0)) ∧ B.heap[w.heap.size + 1]? = some (.cells #[.string xB, .int .i64 2, .int .i64 0] 50 (0, 0)) ∧ Below w.heap.size w B)) := Lib.hid fun A B hb ⟨h1, h2, h3⟩ =>
   ⟨(hb.block _ (Array.getElem?_eq_some_iff.1 h1).1).trans h1, (hb.block _ (Array.getElem?_eq_some_iff.1 h2).1).trans h2, h3.trans (hb.mono h3.size)⟩
 have HST := Lib.hid hst
 clear hst
 go_wp2_with (first
   | (go_at_call 41; refine (HNM.out _).mono ?_; rintro o2 w2 ⟨rfl, hb2⟩; have HST := Lib.hid (UPD.out _ _ hb2 HST.out); clear hb2)
   | (refine wpList_store_row rfl 35 _ _ rfl w.heap.size (smU ⟨some ⟨w.heap.size + 1, 0, none⟩, 1⟩ ws Sp.none l []).arr (by rfl) (by rfl) 35 zeroP.arr HST.out.1 (arr_size _) (by kernel_rfl) (arr_one _) ?_)
   | fail)
 obtain ⟨h1, h2, h3⟩ := HST.out
 have h4 := setRow_heap w2 w.heap.size zeroP.arr (smU ⟨some ⟨w.heap.size + 1, 0, none⟩, 1⟩ ws Sp.none l []).arr 35 (0, 0) h1
 have h5 : Below w.heap.size w (w2.setRow w.heap.size (smU ⟨some ⟨w.heap.size + 1, 0, none⟩, 1⟩ ws Sp.none l []).arr) := below_setRow h3 (Nat.le_refl _)
 refine bodyPost_ret (results_cell_row rfl _ _ w.heap.size 35 _ (0, 0) _ rfl h4 Tryz.underlying35 rfl (arr_size _)) rfl ⟨w.heap.size + 1, rfl, ?_, h5⟩
 exact smU_now (row_one (enc := DeclV.cells) (x := ⟨xB, 2, 0⟩) (t := 50) (fr := (0, 0)) ((setRow_other _ _ _ _ (by omega)).trans h2)) (HTS.out.on h5)
end Go.Proofs.YtepacjkacjabbaaGreatDoor
namespace Go.Proofs.YtepacjkacjabbaaGreatDoor
open Go Go.RowKit Go.Maps
theorem xB_max : xB.size ≤ maxLen := by decide
set_option maxRecDepth 1000000 in
set_option maxHeartbeats 8000000 in
theorem count_anyU (n : Int) (hn : (Lit.int .i64 n).wf = true) (w : World) : Calls Tryz.prog 58 #[.int .i64 n] w fun o w' => ∃ s : StmtV, o = .returned s.val ∧ bareT s = countT n ∧ NowT w' s ∧ Below w.heap.size w w' := by
 have hb0 : Below w.heap.size w (w.alloc (.cells #[.int .u8 0, .string ⟨#[]⟩, .slice none 0 0, .int .i64 0, .slice none 0 0, .slice none 0 0] 43)) := (Below.refl _ _).alloc (Nat.le_refl _) _
 have hz0 := World.alloc_heap_new w (.cells #[.int .u8 0, .string ⟨#[]⟩, .slice none 0 0, .int .i64 0, .slice none 0 0, .slice none 0 0] 43)
 have HB0 := Lib.hid hb0
 have HZ0 := Lib.hid hz0
 clear hb0 hz0
 go_enter Tryz.func58, Tryz.ntmps58
 go_wp2_with fail
 generalize w.alloc (.cells #[.int .u8 0, .string ⟨#[]⟩, .slice none 0 0, .int .i64 0, .slice none 0 0, .slice none 0 0] 43) = W0 at *
 refine (name_anyU xB W0).mono ?_
 rintro o W1 ⟨rfl, hb1⟩
 have HB1 := Lib.hid (HB0.out.trans (hb1.mono HB0.out.size))
 have HZ1 := Lib.hid ((hb1.block _ (Array.getElem?_eq_some_iff.1 HZ0.out).1).trans HZ0.out)
 clear hb1 HB0 HZ0
 go_wp2_with fail
 refine (num_anyU 3 2 (by decide) W1).mono ?_
 rintro o W2 ⟨rfl, hb2⟩
 have HB2 := Lib.hid (HB1.out.trans (hb2.mono HB1.out.size))
 have HZ2 := Lib.hid ((hb2.block _ (Array.getElem?_eq_some_iff.1 HZ1.out).1).trans HZ1.out)
 clear hb2 HB1 HZ1
 go_wp2_with fail
 refine (binary_anyU 15 ⟨by decide, by decide⟩ (nameE xB) (numE 3 2) W2 (name_now _ _ xB_max) (num_now _ 3 2 (by decide) (by decide))).mono ?_
 rintro o W3 ⟨sp1, rfl, hx1, hb3⟩
 have HB3 := Lib.hid (HB2.out.trans (hb3.mono HB2.out.size))
 have HZ3 := Lib.hid ((hb3.block _ (Array.getElem?_eq_some_iff.1 HZ2.out).1).trans HZ2.out)
 have HX3 := Lib.hid hx1
 clear hb3 hx1 HB2 HZ2
 go_wp2_with fail
 refine (name_anyU xB W3).mono ?_
 rintro o W4 ⟨rfl, hb4⟩
 have HB4 := Lib.hid (HB3.out.trans (hb4.mono HB3.out.size))
 have HZ4 := Lib.hid ((hb4.block _ (Array.getElem?_eq_some_iff.1 HZ3.out).1).trans HZ3.out)
 have HX4 := Lib.hid (HX3.out.on hb4)
 clear hb4 HB3 HZ3 HX3
 go_wp2_with fail
 refine (num_anyU 1 2 (by decide) W4).mono ?_
 rintro o W5 ⟨rfl, hb5⟩
 have HB5 := Lib.hid (HB4.out.trans (hb5.mono HB4.out.size))
 have HZ5 := Lib.hid ((hb5.block _ (Array.getElem?_eq_some_iff.1 HZ4.out).1).trans HZ4.out)
 have HX5 := Lib.hid (HX4.out.on hb5)
 clear hb5 HB4 HZ4 HX4
 go_wp2_with fail
 refine (binary_anyU 3 ⟨by decide, by decide⟩ (nameE xB) (numE 1 2) W5 (name_now _ _ xB_max) (num_now _ 1 2 (by decide) (by decide))).mono ?_
 rintro o W6 ⟨sp2, rfl, hx2, hb6⟩
 have HB6 := Lib.hid (HB5.out.trans (hb6.mono HB5.out.size))
 have HZ6 := Lib.hid ((hb6.block _ (Array.getElem?_eq_some_iff.1 HZ5.out).1).trans HZ5.out)
 have HX6 := Lib.hid (HX5.out.on hb6)
 have HY6 := Lib.hid hx2
 clear hb6 hx2 HB5 HZ5 HX5
 go_wp2_with fail
 refine (set_anyU xB xB_max (biX 3 (nameE xB) (numE 1 2) sp2) W6 HY6.out).mono ?_
 rintro o W7 ⟨sp3, rfl, ht, hb7⟩
 have HB7 := Lib.hid (HB6.out.trans (hb7.mono HB6.out.size))
 have HZ7 := Lib.hid ((hb7.block _ (Array.getElem?_eq_some_iff.1 HZ6.out).1).trans HZ6.out)
 have HX7 := Lib.hid (HX6.out.on hb7)
 have HT7 := Lib.hid ht
 clear hb7 ht HB6 HZ6 HX6 HY6
 have hb8 : Below W7.heap.size W7 (W7.alloc (.cells #[.int .u8 1, .string xB, .slice sp3.at_ 1 sp3.cap, .int .i64 0, .slice none 0 0, .slice none 0 0] 43)) := (Below.refl _ _).alloc (Nat.le_refl _) _
 have hr8 := row_one (enc := StmtV.cells) (x := setT sp3 xB (biX 3 (nameE xB) (numE 1 2) sp2)) (k := 6) (World.alloc_heap_new W7 (.cells #[.int .u8 1, .string xB, .slice sp3.at_ 1 sp3.cap, .int .i64 0, .slice none 0 0, .slice none 0 0] 43))
 have hW := while_anyU n hn (biX 15 (nameE xB) (numE 3 2) sp1) ⟨some ⟨W7.heap.size, 0, none⟩, 1⟩ [setT sp3 xB (biX 3 (nameE xB) (numE 1 2) sp2)] (W7.alloc (.cells #[.int .u8 1, .string xB, .slice sp3.at_ 1 sp3.cap, .int .i64 0, .slice none 0 0, .slice none 0 0] 43)) (HX7.out.on hb8) ⟨hr8, fun t ht => by rw [List.mem_singleton.1 ht]; exact HT7.out.on hb8⟩
 have HW := Lib.hid hW
 have HB8 := Lib.hid (HB7.out.trans (hb8.mono HB7.out.size))
 have HZ8 := Lib.hid ((hb8.block _ (Array.getElem?_eq_some_iff.1 HZ7.out).1).trans HZ7.out)
 clear hb8 hr8 hW HB7 HZ7 HX7 HT7 hn
 simp only [setT, StmtV.val, StmtV.kind, StmtV.name, StmtV.es, StmtV.exprs, StmtV.bound, StmtV.ts, StmtV.thn, StmtV.os, StmtV.els, Sp.val, Sp.none, List.length_cons, List.length_nil, Nat.zero_add]
 go_wp2_with fail
 generalize W7.alloc (.cells #[.int .u8 1, .string xB, .slice sp3.at_ 1 sp3.cap, .int .i64 0, .slice none 0 0, .slice none 0 0] 43) = W8 at *
 refine HW.out.mono ?_
 rintro o W9 ⟨sp4, rfl, ht9, hb9⟩
 have hz9 := (hb9.block _ (Array.getElem?_eq_some_iff.1 HZ8.out).1).trans HZ8.out
 obtain ⟨z0, z1, z2, z3, z4, z5⟩ := six_cells hz9
 have fz : ∀ j, W9.frozen? ⟨w.heap.size, j, none⟩ = false := fun j => by simp [World.frozen?, hz9]
 have f0 := fz 0
 have f1 := fz 1
 have f2 := fz 2
 have f3 := fz 3
 have f4 := fz 4
 have f5 := fz 5
 have HZ9 := Lib.hid hz9
 have HT9 := Lib.hid ht9
 have HB9 := Lib.hid (HB8.out.trans (hb9.mono HB8.out.size))
 clear fz hz9 ht9 hb9 HB8 HZ8 HW
 simp only [whU, StmtV.val, StmtV.kind, StmtV.name, StmtV.es, StmtV.exprs, StmtV.bound, StmtV.ts, StmtV.thn, StmtV.os, StmtV.els, Sp.val, Sp.none, List.length_cons, List.length_nil, Nat.zero_add]
 go_wp2_with fail
 have fin : ∀ wf, wf = six W9 w.heap.size 0 (.int .u8 7) (.string ⟨#[]⟩) (.slice sp4.at_ 1 sp4.cap) (.int .i64 n) (.slice (some ⟨W7.heap.size, 0, none⟩) 1 1) (.slice none 0 0) → NowT wf (whU sp4 (biX 15 (nameE xB) (numE 3 2) sp1) n ⟨some ⟨W7.heap.size, 0, none⟩, 1⟩ [setT sp3 xB (biX 3 (nameE xB) (numE 1 2) sp2)]) := by
   intro wf hwf
   have hav := RdT.avoid (b := w.heap.size) (show zeroS W9 w.heap.size from HZ9.out) HT9.out (fun t ht x hx => by
     have e1 : t = setT sp3 xB (biX 3 (nameE xB) (numE 1 2) sp2) := by simpa [whU, StmtV.thn, StmtV.els] using ht
     subst e1
     rw [StmtV.pre_eq] at hx
     have e2 : x = setT sp3 xB (biX 3 (nameE xB) (numE 1 2) sp2) := by simpa [setT, StmtV.thn, StmtV.els] using hx
     rw [e2]
     exact (by decide : (1 : Int) ≠ 0))
   refine (RdT.cells hav fun p u hp hc => ?_).more (show W9.heap.size ≤ wf.heap.size by rw [hwf, six_size]; exact Nat.le_refl _)
   obtain ⟨k1, k2⟩ := maskO_cell.1 hc
   exact (World.cell?_of_block (by rw [hwf]; exact six_heap _ _ _ _ _ _ _ _ _ (fun e => k1 (by rw [e])))).trans k2
 refine bodyPost_ret (results_cell_row rfl _ _ w.heap.size 43 _ (0, 0) _ rfl (six_own HZ9.out _ _ _ _ _ _) Tryz.underlying43 rfl (stmt_sizeU _ _ _ _ _ _)) rfl ⟨whU sp4 (biX 15 (nameE xB) (numE 3 2) sp1) n ⟨some ⟨W7.heap.size, 0, none⟩, 1⟩ [setT sp3 xB (biX 3 (nameE xB) (numE 1 2) sp2)], rfl, rfl, fin _ rfl, six_below HB9.out (Nat.le_refl _) _ _ _ _ _ _ _⟩
end Go.Proofs.YtepacjkacjabbaaGreatDoor
