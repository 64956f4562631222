import Derived.Test.YtepacjkacjabbaaGreatDoorKAE
import Derived.Deep.Draws
import Derived.StillTailTactics
import Derived.Deep.RegionHeld3
import Derived.Test.YtepacjkacjabbaaGreatDoorKAJ
namespace Go.Proofs.YtepacjkacjabbaaGreatDoor
open Go Go.RowKit
def nodesT (l : List StmtV) : Nat := (l.map fun s => 1 + s.exprs.length).sum
theorem cntT_le : ∀ (l : List StmtV) (b : Int), 0 ≤ b → b ≤ cntT l b ∧ cntT l b ≤ max b 20001 + nodesT l
 | [], b, hb => by simp [cntT, nodesT]; omega
 | s :: l, b, hb => by
   have h1 := stepT_pos s b hb
   have e : nodesT (s :: l) = 1 + s.exprs.length + nodesT l := by simp [nodesT]
   rw [cntT, e]
   by_cases h : stepT s b > 20000
   · rw [if_pos h]; omega
   · rw [if_neg h]
     have h2 := cntT_le l (stepT s b) (by omega)
     omega
def declsN (p : ProgV) : Int := (p.inputs.length : Int) + p.ghosts.length + p.vars.length + p.arrays.length + 1
def initsN (l : List InitV) (b : Int) : Int := l.foldl (fun n i => cntN i.value.pre.length (n + 1)) b
def procsN (l : List ProcV) (b : Int) : Int := l.foldl (fun n q => cntT (q.body.flatMap StmtV.pre) (n + 1 + q.params.length)) b
def countP (p : ProgV) : Int :=
 cntN p.invariant.pre.length (cntT (p.recover.flatMap StmtV.pre) (cntT (p.work.flatMap StmtV.pre) (procsN p.procs (initsN p.inits (cntN p.require.pre.length (declsN p))))))
def weightP (p : ProgV) : Nat := (p.procs.map fun q => 1 + q.params.length + nodesT (q.body.flatMap StmtV.pre)).sum + nodesT (p.work.flatMap StmtV.pre) + nodesT (p.recover.flatMap StmtV.pre)
theorem initsN_le (l : List InitV) : ∀ b : Int, 0 ≤ b → b ≤ initsN l b ∧ initsN l b ≤ max b 20001 + 2 * l.length := by
 induction l with
 | nil => intro b hb; simp [initsN]; omega
 | cons i l ih =>
   intro b hb
   have h1 := cntN_le i.value.pre.length (pre_pos i.value) (b + 1) (by omega)
   have h2 := ih (cntN i.value.pre.length (b + 1)) (by omega)
   have e : initsN (i :: l) b = initsN l (cntN i.value.pre.length (b + 1)) := rfl
   simp only [List.length_cons]
   omega
theorem procsN_le (l : List ProcV) : ∀ b : Int, 0 ≤ b → b ≤ procsN l b ∧ procsN l b ≤ max b 20001 + (l.map fun q => 1 + q.params.length + nodesT (q.body.flatMap StmtV.pre)).sum := by
 induction l with
 | nil => intro b hb; simp [procsN]; omega
 | cons q l ih =>
   intro b hb
   have h1 := cntT_le (q.body.flatMap StmtV.pre) (b + 1 + q.params.length) (by omega)
   have h2 := ih (cntT (q.body.flatMap StmtV.pre) (b + 1 + q.params.length)) (by omega)
   have e : procsN (q :: l) b = procsN l (cntT (q.body.flatMap StmtV.pre) (b + 1 + q.params.length)) := rfl
   simp only [List.map_cons, List.sum_cons]
   omega
structure BoxP (W : World) (q : Nat) (p : ProgV) : Prop where
 heap : W.heap[q]? = some (.cells #[.int .i64 p.blocks, .int .i64 p.width, .slice p.is.at_ p.inputs.length p.is.cap, .slice p.gs.at_ p.ghosts.length p.gs.cap, .slice p.vs.at_ p.vars.length p.vs.cap, .slice p.as.at_ p.arrays.length p.as.cap, .int .u8 p.require.kind, .int .u8 p.require.op, .int .u32 p.require.value, .int .i64 p.require.width, .string p.require.name, .slice p.require.sp.at_ p.require.subs.length p.require.sp.cap, .slice p.ns.at_ p.inits.length p.ns.cap, .slice p.rs.at_ p.procs.length p.rs.cap, .slice p.ws.at_ p.work.length p.ws.cap, .slice p.cs.at_ p.recover.length p.cs.cap, .int .u8 p.invariant.kind, .int .u8 p.invariant.op, .int .u32 p.invariant.value, .int .i64 p.invariant.width, .string p.invariant.name, .slice p.invariant.sp.at_ p.invariant.subs.length p.invariant.sp.cap] 35 (0, 0))
theorem BoxP.at {W : World} {q : Nat} {p : ProgV} (h : BoxP W q p) : W.cell? ⟨q, 12, none⟩ = some (.slice p.ns.at_ p.inits.length p.ns.cap) ∧ W.cell? ⟨q, 13, none⟩ = some (.slice p.rs.at_ p.procs.length p.rs.cap) ∧ W.cell? ⟨q, 14, none⟩ = some (.slice p.ws.at_ p.work.length p.ws.cap) ∧ W.cell? ⟨q, 15, none⟩ = some (.slice p.cs.at_ p.recover.length p.cs.cap) ∧
   W.cell? ⟨q, 16, none⟩ = some (.int .u8 p.invariant.kind) ∧ W.cell? ⟨q, 17, none⟩ = some (.int .u8 p.invariant.op) ∧ W.cell? ⟨q, 18, none⟩ = some (.int .u32 p.invariant.value) ∧ W.cell? ⟨q, 19, none⟩ = some (.int .i64 p.invariant.width) ∧ W.cell? ⟨q, 20, none⟩ = some (.string p.invariant.name) ∧ W.cell? ⟨q, 21, none⟩ = some (.slice p.invariant.sp.at_ p.invariant.subs.length p.invariant.sp.cap) := by
 simp [World.cell?, h.heap]
theorem sum_take {α : Type} (f : α → Nat) (l : List α) (k : Nat) : ((l.take k).map f).sum ≤ (l.map f).sum := by
 have h : ((l.take k ++ l.drop k).map f).sum = (l.map f).sum := by rw [List.take_append_drop]
 rw [List.map_append, List.sum_append] at h
 omega
set_option maxRecDepth 1000000 in
set_option maxHeartbeats 2000000 in
theorem count_any (w : World) (p : ProgV) (h : RdP w.heap.size w p) (hwt : weightP p ≤ 1125899906842624) :
   Calls Tryz.prog 111 #[p.val] w fun o w' => o = .returned (.int .i64 (countP p)) ∧ Below w.heap.size w w' := by
 have hl1 := h.inputs.row.few
 have hl2 := h.ghosts.row.few
 have hl3 := h.vars.row.few
 have hl4 := h.arrays.row.few
 have hl5 := h.irow.few
 have hl6 := h.prow.few
 have HP := Lib.hid h
 have HWT := Lib.hid hwt
 clear h hwt
 simp only [ProgV.val, Sp.val]
 go_enter Tryz.func111, Tryz.ntmps111
 go_wp2_with fail
 have hbB := (Below.refl _ w).alloc (Nat.le_refl _) (.cells #[.int .i64 p.blocks, .int .i64 p.width, .slice p.is.at_ p.inputs.length p.is.cap, .slice p.gs.at_ p.ghosts.length p.gs.cap, .slice p.vs.at_ p.vars.length p.vs.cap, .slice p.as.at_ p.arrays.length p.as.cap, .int .u8 p.require.kind, .int .u8 p.require.op, .int .u32 p.require.value, .int .i64 p.require.width, .string p.require.name, .slice p.require.sp.at_ p.require.subs.length p.require.sp.cap, .slice p.ns.at_ p.inits.length p.ns.cap, .slice p.rs.at_ p.procs.length p.rs.cap, .slice p.ws.at_ p.work.length p.ws.cap, .slice p.cs.at_ p.recover.length p.cs.cap, .int .u8 p.invariant.kind, .int .u8 p.invariant.op, .int .u32 p.invariant.value, .int .i64 p.invariant.width, .string p.invariant.name, .slice p.invariant.sp.at_ p.invariant.subs.length p.invariant.sp.cap] 35)
 have hbox : BoxP (w.alloc (.cells #[.int .i64 p.blocks, .int .i64 p.width, .slice p.is.at_ p.inputs.length p.is.cap, .slice p.gs.at_ p.ghosts.length p.gs.cap, .slice p.vs.at_ p.vars.length p.vs.cap, .slice p.as.at_ p.arrays.length p.as.cap, .int .u8 p.require.kind, .int .u8 p.require.op, .int .u32 p.require.value, .int .i64 p.require.width, .string p.require.name, .slice p.require.sp.at_ p.require.subs.length p.require.sp.cap, .slice p.ns.at_ p.inits.length p.ns.cap, .slice p.rs.at_ p.procs.length p.rs.cap, .slice p.ws.at_ p.work.length p.ws.cap, .slice p.cs.at_ p.recover.length p.cs.cap, .int .u8 p.invariant.kind, .int .u8 p.invariant.op, .int .u32 p.invariant.value, .int .i64 p.invariant.width, .string p.invariant.name, .slice p.invariant.sp.at_ p.invariant.subs.length p.invariant.sp.cap] 35)) w.heap.size p := ⟨World.alloc_heap_new _ _⟩
 have hlt : w.heap.size < (w.alloc (.cells #[.int .i64 p.blocks, .int .i64 p.width, .slice p.is.at_ p.inputs.length p.is.cap, .slice p.gs.at_ p.ghosts.length p.gs.cap, .slice p.vs.at_ p.vars.length p.vs.cap, .slice p.as.at_ p.arrays.length p.as.cap, .int .u8 p.require.kind, .int .u8 p.require.op, .int .u32 p.require.value, .int .i64 p.require.width, .string p.require.name, .slice p.require.sp.at_ p.require.subs.length p.require.sp.cap, .slice p.ns.at_ p.inits.length p.ns.cap, .slice p.rs.at_ p.procs.length p.rs.cap, .slice p.ws.at_ p.work.length p.ws.cap, .slice p.cs.at_ p.recover.length p.cs.cap, .int .u8 p.invariant.kind, .int .u8 p.invariant.op, .int .u32 p.invariant.value, .int .i64 p.invariant.width, .string p.invariant.name, .slice p.invariant.sp.at_ p.invariant.subs.length p.invariant.sp.cap] 35)).heap.size := by simp
 have HPB := Lib.hid ((HP.out.below hbB).more hbB.size)
 generalize w.alloc (.cells #[.int .i64 p.blocks, .int .i64 p.width, .slice p.is.at_ p.inputs.length p.is.cap, .slice p.gs.at_ p.ghosts.length p.gs.cap, .slice p.vs.at_ p.vars.length p.vs.cap, .slice p.as.at_ p.arrays.length p.as.cap, .int .u8 p.require.kind, .int .u8 p.require.op, .int .u32 p.require.value, .int .i64 p.require.width, .string p.require.name, .slice p.require.sp.at_ p.require.subs.length p.require.sp.cap, .slice p.ns.at_ p.inits.length p.ns.cap, .slice p.rs.at_ p.procs.length p.rs.cap, .slice p.ws.at_ p.work.length p.ws.cap, .slice p.cs.at_ p.recover.length p.cs.cap, .int .u8 p.invariant.kind, .int .u8 p.invariant.op, .int .u32 p.invariant.value, .int .i64 p.invariant.width, .string p.invariant.name, .slice p.invariant.sp.at_ p.invariant.subs.length p.invariant.sp.cap] 35) = wB at *
 have HBOX := Lib.hid hbox
 have HBB := Lib.hid hbB
 clear hbox hbB HP
 have hC := countExpr_any wB p.require ((p.inputs.length : Int) + p.ghosts.length + p.vars.length + p.arrays.length + 1) HPB.out.require (by omega)
 simp only [ExprV.val, Sp.val] at hC
 have hn0 := cntN_le p.require.pre.length (pre_pos p.require) ((p.inputs.length : Int) + p.ghosts.length + p.vars.length + p.arrays.length + 1) (by omega)
 generalize hN0 : cntN p.require.pre.length ((p.inputs.length : Int) + p.ghosts.length + p.vars.length + p.arrays.length + 1) = n0 at *
 have HN0 := Lib.hid hN0
 clear hN0
 refine hC.mono ?_
 clear hC
 rintro o w1 ⟨rfl, hb1⟩
 have hbx1 : BoxP w1 w.heap.size p := ⟨(hb1.block w.heap.size hlt).trans HBOX.out.heap⟩
 obtain ⟨c12, -⟩ := hbx1.at
 have hs1 := hb1.size
 go_wp2_with fail
 go_loopw [3, 30] (fun v i wr => ∃ k : Nat, k ≤ p.inits.length ∧ i = .int .i64 k ∧ v = .int .i64 (initsN (p.inits.take k) n0) ∧ Below wB.heap.size wB wr) (fun _ i _ => p.inits.length - (intOf i).toNat)
 case atStart => exact ⟨0, Nat.zero_le _, rfl, by simp [initsN], hb1⟩
 case round =>
   obtain ⟨k, hk, rfl, rfl, hbr⟩ := hrel
   have hszr := hbr.size
   have hin := initsN_le (p.inits.take k) n0 (by omega)
   have hil : (p.inits.take k).length ≤ k := List.length_take_le _ _
   by_cases hltk : k < p.inits.length
   · obtain ⟨b0, off, eA, hbn, hcell⟩ := (HPB.out.irow.below hbr).row (by omega)
     have hts : p.inits.take (k + 1) = p.inits.take k ++ [p.inits[k]] := List.take_succ_eq_append_getElem hltk
     have k0 : wr.cell? ⟨b0, off + k * 7, none⟩ = some (.int .i64 p.inits[k].block) := hcell k hltk 0 _ rfl
     have k1 : wr.cell? ⟨b0, off + k * 7 + 1, none⟩ = some (.int .u8 p.inits[k].value.kind) := hcell k hltk 1 _ rfl
     have k2 : wr.cell? ⟨b0, off + k * 7 + 2, none⟩ = some (.int .u8 p.inits[k].value.op) := hcell k hltk 2 _ rfl
     have k3 : wr.cell? ⟨b0, off + k * 7 + 3, none⟩ = some (.int .u32 p.inits[k].value.value) := hcell k hltk 3 _ rfl
     have k4 : wr.cell? ⟨b0, off + k * 7 + 4, none⟩ = some (.int .i64 p.inits[k].value.width) := hcell k hltk 4 _ rfl
     have k5 : wr.cell? ⟨b0, off + k * 7 + 5, none⟩ = some (.string p.inits[k].value.name) := hcell k hltk 5 _ rfl
     have k6 : wr.cell? ⟨b0, off + k * 7 + 6, none⟩ = some (.slice p.inits[k].value.sp.at_ p.inits[k].value.subs.length p.inits[k].value.sp.cap) := hcell k hltk 6 _ rfl
     have hrx := (HPB.out.inits _ (List.getElem_mem hltk)).value.stays hbr
     have HTS := Lib.hid hts
     generalize p.inits[k] = x at *
     have hstep : initsN (p.inits.take (k + 1)) n0 = cntN x.value.pre.length (initsN (p.inits.take k) n0 + 1) := by rw [HTS.out]; simp [initsN]
     generalize initsN (p.inits.take k) n0 = cur at *
     have HST := Lib.hid hstep
     have hba : Below wr.heap.size wr (wr.alloc (.cells #[.int .i64 x.block, .int .u8 x.value.kind, .int .u8 x.value.op, .int .u32 x.value.value, .int .i64 x.value.width, .string x.value.name, .slice x.value.sp.at_ x.value.subs.length x.value.sp.cap] 149)) := (Below.refl _ wr).alloc (Nat.le_refl _) _
     have hsa := hba.size
     have hCE := countExpr_any _ x.value (cur + 1) ((hrx.stays (hba.mono (by omega))).more (n₁ := (wr.alloc (.cells #[.int .i64 x.block, .int .u8 x.value.kind, .int .u8 x.value.op, .int .u32 x.value.value, .int .i64 x.value.width, .string x.value.name, .slice x.value.sp.at_ x.value.subs.length x.value.sp.cap] 149)).heap.size) (by omega)) (by omega)
     simp only [ExprV.val, Sp.val] at hCE
     have HCE := Lib.hid hCE
     have HBA := Lib.hid hba
     have hj0 : (0 : Int) ≤ (k : Int) := by omega
     have hj1 : (k : Int) < (p.inits.length : Int) := by omega
     clear hcell hts hstep hCE hba hrx c12
     rw [eA]
     clear eA
     go_wp2_with fail
     refine HCE.out.mono ?_
     rintro o w2 ⟨rfl, hb2⟩
     have hb3 := hbr.trans ((HBA.out.trans (hb2.mono HBA.out.size)).mono (by omega))
     clear hb2 k0 k1 k2 k3 k4 k5 k6
     go_wp2_with fail
     go_roundw
     case rel => exact ⟨k + 1, by omega, by go_num, by rw [HST.out], hb3⟩
     case measure => simp [intOf]; omega
   · obtain rfl : k = p.inits.length := by omega
     rw [List.take_length] at hin
     rw [List.take_length]
     generalize hI0 : initsN p.inits n0 = i0 at *
     have HI0 := Lib.hid hI0
     have hbx2 : BoxP wr w.heap.size p := ⟨(hbr.block w.heap.size hlt).trans HBOX.out.heap⟩
     obtain ⟨-, c13, -⟩ := hbx2.at
     have hWr := hbr
     clear hI0 hbx2 c12 hil hk hltk hbx1 hb1
     obtain ⟨wo, rfl⟩ : ∃ y : World, y = wr := ⟨_, rfl⟩
     have hl7 : (p.procs.map fun q => 1 + q.params.length + nodesT (q.body.flatMap StmtV.pre)).sum ≤ 1125899906842624 := by
       have := HWT.out
       unfold weightP at this
       omega
     go_wp2_with fail
     go_loopw [3, 43] (fun v i wr => ∃ k : Nat, k ≤ p.procs.length ∧ i = .int .i64 k ∧ v = .int .i64 (procsN (p.procs.take k) i0) ∧ Below wB.heap.size wB wr) (fun _ i _ => p.procs.length - (intOf i).toNat)
     case atStart => exact ⟨0, Nat.zero_le _, rfl, by simp [procsN], hWr⟩
     case round =>
       obtain ⟨k, hk, rfl, rfl, hbr⟩ := hrel
       have hszr := hbr.size
       have hpn := procsN_le (p.procs.take k) i0 (by omega)
       have hpt := sum_take (fun q : ProcV => 1 + q.params.length + nodesT (q.body.flatMap StmtV.pre)) p.procs k
       by_cases hltk : k < p.procs.length
       · obtain ⟨b0, off, eA, hbn, hcell⟩ := (HPB.out.prow.below hbr).row (by omega)
         have hts : p.procs.take (k + 1) = p.procs.take k ++ [p.procs[k]] := List.take_succ_eq_append_getElem hltk
         have k0 : wr.cell? ⟨b0, off + k * 3, none⟩ = some (.string p.procs[k].name) := hcell k hltk 0 _ rfl
         have k1 : wr.cell? ⟨b0, off + k * 3 + 1, none⟩ = some (.slice p.procs[k].ps.at_ p.procs[k].params.length p.procs[k].ps.cap) := hcell k hltk 1 _ rfl
         have k2 : wr.cell? ⟨b0, off + k * 3 + 2, none⟩ = some (.slice p.procs[k].bs.at_ p.procs[k].body.length p.procs[k].bs.cap) := hcell k hltk 2 _ rfl
         have hrq := HPB.out.procs _ (List.getElem_mem hltk)
         have hrx := hrq.body.below hbr
         have hpf := hrq.params.row.few
         have HTS := Lib.hid hts
         generalize p.procs[k] = x at *
         have hstep : procsN (p.procs.take (k + 1)) i0 = cntT (x.body.flatMap StmtV.pre) (procsN (p.procs.take k) i0 + 1 + x.params.length) := by rw [HTS.out]; simp [procsN]
         generalize procsN (p.procs.take k) i0 = cur at *
         have HST := Lib.hid hstep
         have hba : Below wr.heap.size wr (wr.alloc (.cells #[.string x.name, .slice x.ps.at_ x.params.length x.ps.cap, .slice x.bs.at_ x.body.length x.bs.cap] 54)) := (Below.refl _ wr).alloc (Nat.le_refl _) _
         have hsa := hba.size
         have hCE := countStmts_any _ x.bs x.body (cur + 1 + x.params.length) ((hrx.below (hba.mono (by omega))).more (n₁ := (wr.alloc (.cells #[.string x.name, .slice x.ps.at_ x.params.length x.ps.cap, .slice x.bs.at_ x.body.length x.bs.cap] 54)).heap.size) (by omega)) (by omega)
         simp only [Sp.val] at hCE
         have HCE := Lib.hid hCE
         have HBA := Lib.hid hba
         have hj0 : (0 : Int) ≤ (k : Int) := by omega
         have hj1 : (k : Int) < (p.procs.length : Int) := by omega
         clear hcell hts hstep hCE hba hrx hrq c13
         rw [eA]
         clear eA
         go_wp2_with fail
         refine HCE.out.mono ?_
         rintro o w2 ⟨rfl, hb2⟩
         have hb3 := hbr.trans ((HBA.out.trans (hb2.mono HBA.out.size)).mono (by omega))
         clear hb2 k0 k1 k2
         go_wp2_with fail
         go_roundw
         case rel => exact ⟨k + 1, by omega, by go_num, by rw [HST.out], hb3⟩
         case measure => simp [intOf]; omega
       · obtain rfl : k = p.procs.length := by omega
         rw [List.take_length] at hpn
         rw [List.take_length]
         generalize hI1 : procsN p.procs i0 = i1 at *
         have hw2 : nodesT (p.work.flatMap StmtV.pre) + nodesT (p.recover.flatMap StmtV.pre) ≤ 1125899906842624 := by
           have := HWT.out
           unfold weightP at this
           omega
         have hc1 := cntT_le (p.work.flatMap StmtV.pre) i1 (by omega)
         have hc2 := cntT_le (p.recover.flatMap StmtV.pre) (cntT (p.work.flatMap StmtV.pre) i1) (by omega)
         have hend : countP p = cntN p.invariant.pre.length (cntT (p.recover.flatMap StmtV.pre) (cntT (p.work.flatMap StmtV.pre) i1)) := by
           rw [← hI1, ← HI0.out, ← HN0.out]; rfl
         have HEND := Lib.hid hend
         have HW1 : Hid (∀ W, Below wr.heap.size wr W → Calls Tryz.prog 94 #[.slice p.ws.at_ p.work.length p.ws.cap, .int .i64 i1] W fun o w' => o = .returned (.int .i64 (cntT (p.work.flatMap StmtV.pre) i1)) ∧ Below W.heap.size W w') :=
           Lib.hid fun W hW => countStmts_any W p.ws p.work i1 (((HPB.out.work.below hbr).below (hW.mono hszr)).more (by have := hW.size; omega)) (by omega)
         have HW2 : Hid (∀ W, Below wr.heap.size wr W → Calls Tryz.prog 94 #[.slice p.cs.at_ p.recover.length p.cs.cap, .int .i64 (cntT (p.work.flatMap StmtV.pre) i1)] W fun o w' => o = .returned (.int .i64 (cntT (p.recover.flatMap StmtV.pre) (cntT (p.work.flatMap StmtV.pre) i1))) ∧ Below W.heap.size W w') :=
           Lib.hid fun W hW => countStmts_any W p.cs p.recover _ (((HPB.out.recover.below hbr).below (hW.mono hszr)).more (by have := hW.size; omega)) (by omega)
         have HW3 : Hid (∀ W, Below wr.heap.size wr W → Calls Tryz.prog 86 #[.agg #[.int .u8 p.invariant.kind, .int .u8 p.invariant.op, .int .u32 p.invariant.value, .int .i64 p.invariant.width, .string p.invariant.name, .slice p.invariant.sp.at_ p.invariant.subs.length p.invariant.sp.cap], .int .i64 (cntT (p.recover.flatMap StmtV.pre) (cntT (p.work.flatMap StmtV.pre) i1))] W fun o w' => o = .returned (.int .i64 (countP p)) ∧ Below W.heap.size W w') :=
           Lib.hid fun W hW => by rw [hend]; exact countExpr_any W p.invariant _ (((HPB.out.invariant.stays hbr).stays (hW.mono hszr)).more (by have := hW.size; omega)) (by omega)
         have HCB : Hid (∀ W, Below wr.heap.size wr W → BoxP W w.heap.size p) := Lib.hid fun W hW => ⟨(hW.block w.heap.size (by omega)).trans ((hbr.block w.heap.size hlt).trans HBOX.out.heap)⟩
         obtain ⟨-, -, d14, d15, d16, d17, d18, d19, d20, d21⟩ := (HCB.out wr (Below.refl _ _)).at
         generalize cntT (p.recover.flatMap StmtV.pre) (cntT (p.work.flatMap StmtV.pre) i1) = i3 at *
         generalize cntT (p.work.flatMap StmtV.pre) i1 = i2 at *
         have hbd : Below wr.heap.size wr wr.drew := (Below.refl _ _).drew
         have hbE := HBB.out.trans (hbr.mono HBB.out.size)
         have HBE := Lib.hid hbE
         clear hend hI1 hc1 hc2 hw2 hpt hpn hk hltk c13 hbE
         go_wp2_with fail
         go_region_held3 (fun w' => w'.cell? ⟨w.heap.size, 14, none⟩ = some (.slice p.ws.at_ p.work.length p.ws.cap) ∧ w'.cell? ⟨w.heap.size, 15, none⟩ = some (.slice p.cs.at_ p.recover.length p.cs.cap) ∧ w'.cell? ⟨w.heap.size, 16, none⟩ = some (.int .u8 p.invariant.kind) ∧ w'.cell? ⟨w.heap.size, 17, none⟩ = some (.int .u8 p.invariant.op) ∧ w'.cell? ⟨w.heap.size, 18, none⟩ = some (.int .u32 p.invariant.value) ∧ w'.cell? ⟨w.heap.size, 19, none⟩ = some (.int .i64 p.invariant.width) ∧ w'.cell? ⟨w.heap.size, 20, none⟩ = some (.string p.invariant.name) ∧ w'.cell? ⟨w.heap.size, 21, none⟩ = some (.slice p.invariant.sp.at_ p.invariant.subs.length p.invariant.sp.cap) ∧ Below wr.heap.size wr w')
           (simp [*])
           (first
             | (go_at_call 86; refine (HW3.out _ (by assumption)).mono ?_; rintro e w9 ⟨rfl, hb9⟩; have hb10 := Below.trans (by assumption : Below wr.heap.size wr _) (hb9.mono (Below.size (by assumption))); obtain ⟨-, -, z14, z15, z16, z17, z18, z19, z20, z21⟩ := (HCB.out _ hb10).at)
             | (go_at_call 94; refine (HW1.out _ (by assumption)).mono ?_; clear HW1; rintro e w9 ⟨rfl, hb9⟩; have hb10 := Below.trans (by assumption : Below wr.heap.size wr _) (hb9.mono (Below.size (by assumption))); obtain ⟨-, -, z14, z15, z16, z17, z18, z19, z20, z21⟩ := (HCB.out _ hb10).at)
             | (go_at_call 94; refine (HW2.out _ (by assumption)).mono ?_; clear HW2; rintro e w9 ⟨rfl, hb9⟩; have hb10 := Below.trans (by assumption : Below wr.heap.size wr _) (hb9.mono (Below.size (by assumption))); obtain ⟨-, -, z14, z15, z16, z17, z18, z19, z20, z21⟩ := (HCB.out _ hb10).at)
             | fail)
         go_wp2_with fail
         go_ret
         exact ⟨rfl, HBE.out.trans (hb10.mono (by omega))⟩
end Go.Proofs.YtepacjkacjabbaaGreatDoor
namespace Go.Proofs.YtepacjkacjabbaaGreatDoor
open Go
theorem cntN_light {n : Nat} {b : Int} (hn : 0 < n) (h : cntN n b ≤ 20000) : cntN n b = b + n := by
 unfold cntN at h ⊢
 split <;> omega
theorem cntN_of {n : Nat} {b : Int} (h : b + n ≤ 20000) : cntN n b = b + n := by
 unfold cntN; rw [if_pos h]
def heftX (l : List ExprV) : Nat := (l.map fun e => e.pre.length).sum
def heftT (l : List StmtV) : Nat := (l.map fun s => 1 + heftX s.exprs).sum
theorem foldX_light : ∀ (l : List ExprV) (b : Int), 0 ≤ b → b ≤ 20000 → l.foldl (fun b e => cntN e.pre.length b) b ≤ 20000 → l.foldl (fun b e => cntN e.pre.length b) b = b + heftX l
 | [], b, _, _, _ => by simp [heftX]
 | e :: l, b, h0, hb, h => by
   rw [List.foldl_cons] at h ⊢
   have h1 := cntN_le e.pre.length (pre_pos e) b h0
   have h2 := fold_le l (cntN e.pre.length b) (by omega)
   have h3 := cntN_light (pre_pos e) (b := b) (by omega)
   have ih := foldX_light l (cntN e.pre.length b) (by omega) (by omega) h
   rw [ih, h3]
   simp [heftX]; omega
theorem foldX_of : ∀ (l : List ExprV) (b : Int), b + heftX l ≤ 20000 → l.foldl (fun b e => cntN e.pre.length b) b = b + heftX l
 | [], b, _ => by simp [heftX]
 | e :: l, b, h => by
   have e1 : heftX (e :: l) = e.pre.length + heftX l := by simp [heftX]
   rw [e1] at h ⊢
   rw [List.foldl_cons, cntN_of (by omega), foldX_of l _ (by omega)]
   omega
theorem stepT_light {s : StmtV} {b : Int} (h0 : 0 ≤ b) (h : stepT s b ≤ 20000) : stepT s b = b + (1 + heftX s.exprs : Nat) := by
 unfold stepT at h ⊢
 have := fold_le s.exprs (b + 1) (by omega)
 rw [foldX_light s.exprs (b + 1) (by omega) (by omega) h]
 omega
theorem stepT_of {s : StmtV} {b : Int} (h : b + (1 + heftX s.exprs : Nat) ≤ 20000) : stepT s b = b + (1 + heftX s.exprs : Nat) := by
 unfold stepT
 rw [foldX_of _ _ (by omega)]
 omega
theorem cntT_light : ∀ (l : List StmtV) (b : Int), 0 ≤ b → cntT l b ≤ 20000 → cntT l b = b + heftT l
 | [], b, _, _ => by simp [cntT, heftT]
 | s :: l, b, h0, h => by
   have e1 : heftT (s :: l) = 1 + heftX s.exprs + heftT l := by simp [heftT]
   have h1 := stepT_pos s b h0
   rw [cntT] at h ⊢
   by_cases hs : stepT s b > 20000
   · rw [if_pos hs] at h; omega
   · rw [if_neg hs] at h ⊢
     have h3 := stepT_light (s := s) (b := b) h0 (by omega)
     rw [cntT_light l _ (by omega) h, e1]
     omega
theorem cntT_of : ∀ (l : List StmtV) (b : Int), b + heftT l ≤ 20000 → cntT l b = b + heftT l
 | [], b, _ => by simp [cntT, heftT]
 | s :: l, b, h => by
   have e1 : heftT (s :: l) = 1 + heftX s.exprs + heftT l := by simp [heftT]
   rw [e1] at h ⊢
   have h3 := stepT_of (s := s) (b := b) (by omega)
   have h4 : ¬ stepT s b > 20000 := by omega
   rw [cntT, if_neg h4, cntT_of l _ (by omega)]
   omega
def heftL (l : List StmtV) : Nat := heftT (l.flatMap StmtV.pre)
def heftQ (q : ProcV) : Nat := 1 + q.params.length + heftL q.body
def heftP (p : ProgV) : Nat :=
 (p.inputs.length + p.ghosts.length + p.vars.length + p.arrays.length + 1) + p.require.pre.length + (p.inits.map fun i => 1 + i.value.pre.length).sum + (p.procs.map heftQ).sum + heftL p.work + heftL p.recover + p.invariant.pre.length
theorem initsN_light : ∀ (l : List InitV) (b : Int), 0 ≤ b → initsN l b ≤ 20000 → initsN l b = b + ((l.map fun i => 1 + i.value.pre.length).sum : Nat)
 | [], b, _, _ => by simp [initsN]
 | i :: l, b, h0, h => by
   have e : initsN (i :: l) b = initsN l (cntN i.value.pre.length (b + 1)) := rfl
   rw [e] at h ⊢
   have h1 := cntN_le i.value.pre.length (pre_pos i.value) (b + 1) (by omega)
   have h2 := initsN_le l (cntN i.value.pre.length (b + 1)) (by omega)
   have h3 := cntN_light (pre_pos i.value) (b := b + 1) (by omega)
   rw [initsN_light l _ (by omega) h, h3]
   simp; omega
theorem procsN_light : ∀ (l : List ProcV) (b : Int), 0 ≤ b → procsN l b ≤ 20000 → procsN l b = b + ((l.map heftQ).sum : Nat)
 | [], b, _, _ => by simp [procsN]
 | q :: l, b, h0, h => by
   have e : procsN (q :: l) b = procsN l (cntT (q.body.flatMap StmtV.pre) (b + 1 + q.params.length)) := rfl
   rw [e] at h ⊢
   have h1 := cntT_le (q.body.flatMap StmtV.pre) (b + 1 + q.params.length) (by omega)
   have h2 := procsN_le l (cntT (q.body.flatMap StmtV.pre) (b + 1 + q.params.length)) (by omega)
   have h3 := cntT_light (q.body.flatMap StmtV.pre) (b + 1 + q.params.length) (by omega) (by omega)
   rw [procsN_light l _ (by omega) h, h3]
   simp only [List.map_cons, List.sum_cons, heftQ, heftL]
   omega
theorem countP_light {p : ProgV} (h : countP p ≤ 20000) : countP p = heftP p := by
 unfold countP at h ⊢
 have d0 : (0 : Int) ≤ declsN p := by unfold declsN; omega
 have a1 := cntN_le p.require.pre.length (pre_pos _) (declsN p) d0
 generalize hA : cntN p.require.pre.length (declsN p) = A at *
 have a2 := initsN_le p.inits A (by omega)
 generalize hB : initsN p.inits A = B at *
 have a3 := procsN_le p.procs B (by omega)
 generalize hC : procsN p.procs B = C at *
 have a4 := cntT_le (p.work.flatMap StmtV.pre) C (by omega)
 generalize hD : cntT (p.work.flatMap StmtV.pre) C = D at *
 have a5 := cntT_le (p.recover.flatMap StmtV.pre) D (by omega)
 generalize hE : cntT (p.recover.flatMap StmtV.pre) D = E at *
 have a6 := cntN_le p.invariant.pre.length (pre_pos _) E (by omega)
 have b1 := cntN_light (pre_pos p.require) (b := declsN p) (by omega)
 have b2 := initsN_light p.inits A (by omega) (by omega)
 have b3 := procsN_light p.procs B (by omega) (by omega)
 have b4 := cntT_light (p.work.flatMap StmtV.pre) C (by omega) (by omega)
 have b5 := cntT_light (p.recover.flatMap StmtV.pre) D (by omega) (by omega)
 have b6 := cntN_light (pre_pos p.invariant) (b := E) h
 rw [b6]
 unfold heftP heftL
 have e : declsN p = (p.inputs.length + p.ghosts.length + p.vars.length + p.arrays.length + 1 : Nat) := by unfold declsN; omega
 omega
theorem pre_lenX (e : ExprV) : e.pre.length = 1 + heftX e.subs := by
 rw [ExprV.pre_eq, List.length_cons, List.length_flatMap]
 unfold heftX
 omega
theorem heftL_cons (s : StmtV) (l : List StmtV) : heftL (s :: l) = (1 + heftX s.exprs) + heftL s.thn + heftL s.els + heftL l := by
 unfold heftL heftT
 rw [List.flatMap_cons, StmtV.pre_eq]
 simp [List.map_append, List.sum_append]
 omega
mutual
theorem exprC_len (p : ProgV) (E : Env) (wh : Int) : ∀ (e : ExprV) (d : Nat), (exprC p E wh e d).length = e.pre.length
 | .mk k op v wd nm sp subs, d => by
   rw [exprC, List.length_cons, exprsC_len p E wh subs (d + 1), pre_lenX]
   exact Nat.add_comm _ _
theorem exprsC_len (p : ProgV) (E : Env) (wh : Int) : ∀ (l : List ExprV) (d : Nat), (exprsC p E wh l d).length = heftX l
 | [], _ => by rw [exprsC]; rfl
 | e :: l, d => by
   rw [exprsC, List.length_append, exprC_len p E wh e d, exprsC_len p E wh l d]
   simp [heftX]
end
mutual
theorem stmtC_len (p : ProgV) (E : Env) : ∀ (s : StmtV) (d : Nat), (stmtC p E s d).length = 1 + heftX s.exprs + heftL s.thn + heftL s.els
 | .mk k nm es ex b ts th os el, d => by
   rw [stmtC, List.length_cons, List.length_append, List.length_append, exprsC_len, stmtsC_len p E th (d + 1), stmtsC_len p E el (d + 1)]
   show _ = 1 + heftX ex + heftL th + heftL el
   omega
theorem stmtsC_len (p : ProgV) (E : Env) : ∀ (l : List StmtV) (d : Nat), (stmtsC p E l d).length = heftL l
 | [], _ => by rw [stmtsC]; rfl
 | s :: l, d => by
   rw [stmtsC, List.length_append, stmtC_len p E s d, stmtsC_len p E l d, heftL_cons]
end
theorem declsC_len (p : ProgV) (a : Bool) : ∀ (l : List DeclV) (b : List ByteArray), (declsC p a l b).length = l.length
 | [], _ => by rw [declsC]; rfl
 | d :: l, b => by rw [declsC, List.length_cons, declsC_len p a l _]; rfl
theorem procsC_len (p : ProgV) : ∀ (l : List ProcV) (i : Nat) (b : List ByteArray), (procsC p l i b).length = (l.map heftQ).sum
 | [], _, _ => by rw [procsC]; rfl
 | q :: l, i, b => by
   rw [procsC, List.length_append, procsC_len p l _ _, procC, List.length_cons, List.length_append, declsC_len, stmtsC_len]
   simp [heftQ]; omega
theorem initsC_len (p : ProgV) : ∀ (l : List InitV) (b : List Int), (initsC p l b).length = (l.map fun i => 1 + i.value.pre.length).sum
 | [], _ => by rw [initsC]; rfl
 | x :: l, b => by
   rw [initsC, List.length_append, List.length_cons, initsC_len p l _, exprC_len]
   simp; omega
theorem codesP_len (p : ProgV) (n : Int) : (codesP p n).length = heftP p := by
 unfold codesP
 simp only [List.length_cons, List.length_append, declsC_len, exprC_len, initsC_len, procsC_len, stmtsC_len]
 unfold heftP
 omega
theorem sum_mem {α : Type} (f : α → Nat) (l : List α) (x : α) (h : x ∈ l) : f x ≤ (l.map f).sum := by
 induction l with
 | nil => cases h
 | cons y l ih =>
   simp only [List.map_cons, List.sum_cons]
   rcases List.mem_cons.1 h with e | h
   · rw [e]; omega
   · have := ih h; omega
theorem heft_body {p : ProgV} (h : heftP p ≤ 20000) {q : ProcV} (hq : q ∈ p.procs) : cntT (q.body.flatMap StmtV.pre) 0 ≤ 20000 := by
 have h1 := sum_mem heftQ p.procs q hq
 have h2 : heftT (q.body.flatMap StmtV.pre) ≤ heftQ q := by unfold heftQ heftL; omega
 unfold heftP at h
 rw [cntT_of _ _ (by omega)]
 omega
theorem len_le_sum {α : Type} (f : α → Nat) (hf : ∀ x, 1 ≤ f x) (l : List α) : l.length ≤ (l.map f).sum := by
 induction l with
 | nil => simp
 | cons y l ih => simp only [List.map_cons, List.sum_cons, List.length_cons]; have := hf y; omega
theorem heft_procs {p : ProgV} (h : heftP p ≤ 20000) : p.procs.length ≤ 20000 := by
 have := len_le_sum heftQ (fun q => by unfold heftQ; omega) p.procs
 unfold heftP at h
 omega
theorem heftT_len (l : List StmtV) : l.length ≤ heftT l := len_le_sum _ (fun s => by omega) l
theorem sum_range_get {α : Type} (f : α → Nat) : ∀ l : List α, ((List.range l.length).map fun i => (l[i]?.map f).getD 0).sum = (l.map f).sum
 | [] => rfl
 | x :: l => by
   rw [List.length_cons, List.range_succ_eq_map, List.map_cons, List.map_map, List.sum_cons, List.map_cons, List.sum_cons, ← sum_range_get f l]
   rfl
theorem sum_le_sum {α : Type} (f g : α → Nat) (l : List α) (h : ∀ x ∈ l, f x ≤ g x) : (l.map f).sum ≤ (l.map g).sum := by
 induction l with
 | nil => simp
 | cons y l ih =>
   simp only [List.map_cons, List.sum_cons]
   have := h y (List.mem_cons_self ..)
   have := ih fun x hx => h x (List.mem_cons_of_mem _ hx)
   omega
theorem fuel_light {p : ProgV} (h : heftP p ≤ 20000) : fuelP p ≤ 20002 := by
 have h1 : ((List.range p.procs.length).map fun i => (nextP p i).length).sum ≤ ((List.range p.procs.length).map fun i => (p.procs[i]?.map heftQ).getD 0).sum := by
   refine sum_le_sum _ _ _ fun i hi => ?_
   have hi := List.mem_range.1 hi
   rw [List.getElem?_eq_getElem hi]
   refine Nat.le_trans (nextP_len p i hi) ?_
   have := heftT_len (p.procs[i].body.flatMap StmtV.pre)
   simp only [Option.map_some, Option.getD_some, heftQ, heftL]
   omega
 rw [sum_range_get] at h1
 unfold fuelP
 unfold heftP at h
 omega
end Go.Proofs.YtepacjkacjabbaaGreatDoor
namespace Go.Proofs.YtepacjkacjabbaaGreatDoor
open Go
theorem le_sumM {α : Type} (f : α → Nat) : ∀ (l : List α) (x : α), x ∈ l → f x ≤ (l.map f).sum
 | y :: l, x, h => by
   rw [List.map_cons, List.sum_cons]
   rcases List.mem_cons.1 h with rfl | h
   · omega
   · have := le_sumM f l x h; omega
theorem pre_leM {e s : ExprV} (h : s ∈ e.subs) : s.pre.length ≤ e.pre.length := by
 rw [pre_lenX e]
 have := le_sumM (fun x : ExprV => x.pre.length) e.subs s h
 unfold heftX
 omega
theorem expr_leM {l : List ExprV} {e : ExprV} (h : e ∈ l) : e.pre.length ≤ heftX l := le_sumM (fun x : ExprV => x.pre.length) l e h
theorem len_leM (l : List ExprV) : l.length ≤ heftX l := len_le_sum _ (fun e => pre_pos e) _
theorem heftL_M (s : StmtV) : heftL [s] = 1 + heftX s.exprs + heftL s.thn + heftL s.els := by
 rw [heftL_cons]
 have : heftL [] = 0 := rfl
 omega
theorem heft_leM : ∀ (l : List StmtV) (s : StmtV), s ∈ l → heftL [s] ≤ heftL l
 | y :: l, s, h => by
   rw [heftL_M, heftL_cons]
   rcases List.mem_cons.1 h with rfl | h
   · omega
   · have := heft_leM l s h
     rw [heftL_M] at this
     omega
theorem len_heftM : ∀ l : List StmtV, l.length ≤ heftL l
 | [] => by simp
 | s :: l => by
   rw [heftL_cons, List.length_cons]
   have := len_heftM l
   omega
end Go.Proofs.YtepacjkacjabbaaGreatDoor
namespace Go.Proofs.YtepacjkacjabbaaGreatDoor
open Go Go.RowKit Go.Maps
theorem named_any {F : Nat} {bs : Array Value} {τ : ByteArray → ByteArray} (hτ : ∀ s, s.size ≤ maxLen → (τ s).size ≤ maxLen) {n0 : Nat} {W0 : World} (hT : TurnOk F bs τ n0 W0) (e : ExprV) (hr : RdX n0 W0 e) : e.pre.length ≤ 1000000 → NamOk F bs τ n0 W0 e := by
 induction hr with
 | mk e k o v w n row subs ih =>
   intro hl
   have h1 := len_leM e.subs
   have h2 := pre_lenX e
   exact nam_step F bs τ hτ n0 W0 hT e (.mk e k o v w n row subs) (by omega) fun s hs => ih s hs (Nat.le_trans (pre_leM hs) hl)
theorem keep_any (s : ByteArray) (w : World) : Calls Tryz.prog 150 #[.string s] w fun o w' => o = .returned (.string s) ∧ w' = w := by
 go_enter Tryz.func150, Tryz.ntmps150
 go_wp2_with fail
 go_ret
 exact ⟨rfl, rfl⟩
theorem keep_ok (n0 : Nat) (W0 : World) : TurnOk 150 #[] id n0 W0 := ⟨fun args W => by simp [go_sem], fun W _ _ s _ => keep_any s W⟩
end Go.Proofs.YtepacjkacjabbaaGreatDoor
