/- tree.count, Light, Size. -/
import Derived.Test.YthcboallnbaimaaGreatDoorSizes
import Derived.Deep.Draws
import Derived.StillTailTactics
import Derived.Deep.RegionHeld3
namespace Go.Proofs.YthcboallnbaimaaGreatDoor
open Go Go.RowKit
/-- How many nodes the statements of a list have, each alone. -/
def nodesT (l : List StmtV) : Nat := (l.map fun s => 1 + s.exprs.length).sum
theorem cntT_le : ∀ (l : List StmtV) (b : Int), 0 ≤ b → b ≤ cntT l b ∧ cntT l b ≤ max b 20001 + nodesT l
  | [], b, hb => by simp [cntT, nodesT]; omega
  | s :: l, b, hb => by
    have h1 := stepT_pos s b hb
    have e : nodesT (s :: l) = 1 + s.exprs.length + nodesT l := by simp [nodesT]
    rw [cntT, e]
    by_cases h : stepT s b > 20000
    · rw [if_pos h]; omega
    · rw [if_neg h]
      have h2 := cntT_le l (stepT s b) (by omega)
      omega
def declsN (p : ProgV) : Int := (p.inputs.length : Int) + p.ghosts.length + p.vars.length + p.arrays.length + 1
def initsN (l : List InitV) (b : Int) : Int := l.foldl (fun n i => cntN i.value.pre.length (n + 1)) b
def procsN (l : List ProcV) (b : Int) : Int := l.foldl (fun n q => cntT (q.body.flatMap StmtV.pre) (n + 1 + q.params.length)) b
def countP (p : ProgV) : Int :=
  cntN p.invariant.pre.length (cntT (p.recover.flatMap StmtV.pre) (cntT (p.work.flatMap StmtV.pre) (procsN p.procs (initsN p.inits (cntN p.require.pre.length (declsN p))))))
/-- How much the program weighs where it is too large to be counted. -/
def weightP (p : ProgV) : Nat := (p.procs.map fun q => 1 + q.params.length + nodesT (q.body.flatMap StmtV.pre)).sum + nodesT (p.work.flatMap StmtV.pre) + nodesT (p.recover.flatMap StmtV.pre)
theorem initsN_le (l : List InitV) : ∀ b : Int, 0 ≤ b → b ≤ initsN l b ∧ initsN l b ≤ max b 20001 + 2 * l.length := by
  induction l with
  | nil => intro b hb; simp [initsN]; omega
  | cons i l ih =>
    intro b hb
    have h1 := cntN_le i.value.pre.length (pre_pos i.value) (b + 1) (by omega)
    have h2 := ih (cntN i.value.pre.length (b + 1)) (by omega)
    have e : initsN (i :: l) b = initsN l (cntN i.value.pre.length (b + 1)) := rfl
    simp only [List.length_cons]
    omega
theorem procsN_le (l : List ProcV) : ∀ b : Int, 0 ≤ b → b ≤ procsN l b ∧ procsN l b ≤ max b 20001 + (l.map fun q => 1 + q.params.length + nodesT (q.body.flatMap StmtV.pre)).sum := by
  induction l with
  | nil => intro b hb; simp [procsN]; omega
  | cons q l ih =>
    intro b hb
    have h1 := cntT_le (q.body.flatMap StmtV.pre) (b + 1 + q.params.length) (by omega)
    have h2 := ih (cntT (q.body.flatMap StmtV.pre) (b + 1 + q.params.length)) (by omega)
    have e : procsN (q :: l) b = procsN l (cntT (q.body.flatMap StmtV.pre) (b + 1 + q.params.length)) := rfl
    simp only [List.map_cons, List.sum_cons]
    omega
structure BoxP (W : World) (q : Nat) (p : ProgV) : Prop where
  heap : W.heap[q]? = some (.cells #[.int .i64 p.blocks, .int .i64 p.width, .slice p.is.at_ p.inputs.length p.is.cap, .slice p.gs.at_ p.ghosts.length p.gs.cap, .slice p.vs.at_ p.vars.length p.vs.cap, .slice p.as.at_ p.arrays.length p.as.cap, .int .u8 p.require.kind, .int .u8 p.require.op, .int .u32 p.require.value, .int .i64 p.require.width, .string p.require.name, .slice p.require.sp.at_ p.require.subs.length p.require.sp.cap, .slice p.ns.at_ p.inits.length p.ns.cap, .slice p.rs.at_ p.procs.length p.rs.cap, .slice p.ws.at_ p.work.length p.ws.cap, .slice p.cs.at_ p.recover.length p.cs.cap, .int .u8 p.invariant.kind, .int .u8 p.invariant.op, .int .u32 p.invariant.value, .int .i64 p.invariant.width, .string p.invariant.name, .slice p.invariant.sp.at_ p.invariant.subs.length p.invariant.sp.cap] 39 (0, 0))
theorem BoxP.at {W : World} {q : Nat} {p : ProgV} (h : BoxP W q p) : W.cell? ⟨q, 12, none⟩ = some (.slice p.ns.at_ p.inits.length p.ns.cap) ∧ W.cell? ⟨q, 13, none⟩ = some (.slice p.rs.at_ p.procs.length p.rs.cap) ∧ W.cell? ⟨q, 14, none⟩ = some (.slice p.ws.at_ p.work.length p.ws.cap) ∧ W.cell? ⟨q, 15, none⟩ = some (.slice p.cs.at_ p.recover.length p.cs.cap) ∧
    W.cell? ⟨q, 16, none⟩ = some (.int .u8 p.invariant.kind) ∧ W.cell? ⟨q, 17, none⟩ = some (.int .u8 p.invariant.op) ∧ W.cell? ⟨q, 18, none⟩ = some (.int .u32 p.invariant.value) ∧ W.cell? ⟨q, 19, none⟩ = some (.int .i64 p.invariant.width) ∧ W.cell? ⟨q, 20, none⟩ = some (.string p.invariant.name) ∧ W.cell? ⟨q, 21, none⟩ = some (.slice p.invariant.sp.at_ p.invariant.subs.length p.invariant.sp.cap) := by
  simp [World.cell?, h.heap]
theorem sum_take {α : Type} (f : α → Nat) (l : List α) (k : Nat) : ((l.take k).map f).sum ≤ (l.map f).sum := by
  have h : ((l.take k ++ l.drop k).map f).sum = (l.map f).sum := by rw [List.take_append_drop]
  rw [List.map_append, List.sum_append] at h
  omega
set_option maxRecDepth 1000000 in
set_option maxHeartbeats 2000000 in
theorem count_any (w : World) (p : ProgV) (h : RdP w.heap.size w p) (hwt : weightP p ≤ 1125899906842624) :
    Calls Tryz.prog 63 #[p.val] w fun o w' => o = .returned (.int .i64 (countP p)) ∧ Below w.heap.size w w' := by
  have hl1 := h.inputs.row.few
  have hl2 := h.ghosts.row.few
  have hl3 := h.vars.row.few
  have hl4 := h.arrays.row.few
  have hl5 := h.irow.few
  have hl6 := h.prow.few
  have HP := Lib.hid h
  have HWT := Lib.hid hwt
  clear h hwt
  simp only [ProgV.val, Sp.val]
  go_enter Tryz.func63, Tryz.ntmps63
  go_wp2_with fail
  have hbB := (Below.refl _ w).alloc (Nat.le_refl _) (.cells #[.int .i64 p.blocks, .int .i64 p.width, .slice p.is.at_ p.inputs.length p.is.cap, .slice p.gs.at_ p.ghosts.length p.gs.cap, .slice p.vs.at_ p.vars.length p.vs.cap, .slice p.as.at_ p.arrays.length p.as.cap, .int .u8 p.require.kind, .int .u8 p.require.op, .int .u32 p.require.value, .int .i64 p.require.width, .string p.require.name, .slice p.require.sp.at_ p.require.subs.length p.require.sp.cap, .slice p.ns.at_ p.inits.length p.ns.cap, .slice p.rs.at_ p.procs.length p.rs.cap, .slice p.ws.at_ p.work.length p.ws.cap, .slice p.cs.at_ p.recover.length p.cs.cap, .int .u8 p.invariant.kind, .int .u8 p.invariant.op, .int .u32 p.invariant.value, .int .i64 p.invariant.width, .string p.invariant.name, .slice p.invariant.sp.at_ p.invariant.subs.length p.invariant.sp.cap] 39)
  have hbox : BoxP (w.alloc (.cells #[.int .i64 p.blocks, .int .i64 p.width, .slice p.is.at_ p.inputs.length p.is.cap, .slice p.gs.at_ p.ghosts.length p.gs.cap, .slice p.vs.at_ p.vars.length p.vs.cap, .slice p.as.at_ p.arrays.length p.as.cap, .int .u8 p.require.kind, .int .u8 p.require.op, .int .u32 p.require.value, .int .i64 p.require.width, .string p.require.name, .slice p.require.sp.at_ p.require.subs.length p.require.sp.cap, .slice p.ns.at_ p.inits.length p.ns.cap, .slice p.rs.at_ p.procs.length p.rs.cap, .slice p.ws.at_ p.work.length p.ws.cap, .slice p.cs.at_ p.recover.length p.cs.cap, .int .u8 p.invariant.kind, .int .u8 p.invariant.op, .int .u32 p.invariant.value, .int .i64 p.invariant.width, .string p.invariant.name, .slice p.invariant.sp.at_ p.invariant.subs.length p.invariant.sp.cap] 39)) w.heap.size p := ⟨World.alloc_heap_new _ _⟩
  have hlt : w.heap.size < (w.alloc (.cells #[.int .i64 p.blocks, .int .i64 p.width, .slice p.is.at_ p.inputs.length p.is.cap, .slice p.gs.at_ p.ghosts.length p.gs.cap, .slice p.vs.at_ p.vars.length p.vs.cap, .slice p.as.at_ p.arrays.length p.as.cap, .int .u8 p.require.kind, .int .u8 p.require.op, .int .u32 p.require.value, .int .i64 p.require.width, .string p.require.name, .slice p.require.sp.at_ p.require.subs.length p.require.sp.cap, .slice p.ns.at_ p.inits.length p.ns.cap, .slice p.rs.at_ p.procs.length p.rs.cap, .slice p.ws.at_ p.work.length p.ws.cap, .slice p.cs.at_ p.recover.length p.cs.cap, .int .u8 p.invariant.kind, .int .u8 p.invariant.op, .int .u32 p.invariant.value, .int .i64 p.invariant.width, .string p.invariant.name, .slice p.invariant.sp.at_ p.invariant.subs.length p.invariant.sp.cap] 39)).heap.size := by simp
  have HPB := Lib.hid ((HP.out.below hbB).more hbB.size)
  generalize w.alloc (.cells #[.int .i64 p.blocks, .int .i64 p.width, .slice p.is.at_ p.inputs.length p.is.cap, .slice p.gs.at_ p.ghosts.length p.gs.cap, .slice p.vs.at_ p.vars.length p.vs.cap, .slice p.as.at_ p.arrays.length p.as.cap, .int .u8 p.require.kind, .int .u8 p.require.op, .int .u32 p.require.value, .int .i64 p.require.width, .string p.require.name, .slice p.require.sp.at_ p.require.subs.length p.require.sp.cap, .slice p.ns.at_ p.inits.length p.ns.cap, .slice p.rs.at_ p.procs.length p.rs.cap, .slice p.ws.at_ p.work.length p.ws.cap, .slice p.cs.at_ p.recover.length p.cs.cap, .int .u8 p.invariant.kind, .int .u8 p.invariant.op, .int .u32 p.invariant.value, .int .i64 p.invariant.width, .string p.invariant.name, .slice p.invariant.sp.at_ p.invariant.subs.length p.invariant.sp.cap] 39) = wB at *
  have HBOX := Lib.hid hbox
  have HBB := Lib.hid hbB
  clear hbox hbB HP
  have hC := countExpr_any wB p.require ((p.inputs.length : Int) + p.ghosts.length + p.vars.length + p.arrays.length + 1) HPB.out.require (by omega)
  simp only [ExprV.val, Sp.val] at hC
  have hn0 := cntN_le p.require.pre.length (pre_pos p.require) ((p.inputs.length : Int) + p.ghosts.length + p.vars.length + p.arrays.length + 1) (by omega)
  generalize hN0 : cntN p.require.pre.length ((p.inputs.length : Int) + p.ghosts.length + p.vars.length + p.arrays.length + 1) = n0 at *
  have HN0 := Lib.hid hN0
  clear hN0
  refine hC.mono ?_
  clear hC
  rintro o w1 ⟨rfl, hb1⟩
  have hbx1 : BoxP w1 w.heap.size p := ⟨(hb1.block w.heap.size hlt).trans HBOX.out.heap⟩
  obtain ⟨c12, -⟩ := hbx1.at
  have hs1 := hb1.size
  go_wp2_with fail
  go_loopw [3, 30] (fun v i wr => ∃ k : Nat, k ≤ p.inits.length ∧ i = .int .i64 k ∧ v = .int .i64 (initsN (p.inits.take k) n0) ∧ Below wB.heap.size wB wr) (fun _ i _ => p.inits.length - (intOf i).toNat)
  case atStart => exact ⟨0, Nat.zero_le _, rfl, by simp [initsN], hb1⟩
  case round =>
    obtain ⟨k, hk, rfl, rfl, hbr⟩ := hrel
    have hszr := hbr.size
    have hin := initsN_le (p.inits.take k) n0 (by omega)
    have hil : (p.inits.take k).length ≤ k := List.length_take_le _ _
    by_cases hltk : k < p.inits.length
    · obtain ⟨b0, off, eA, hbn, hcell⟩ := (HPB.out.irow.below hbr).row (by omega)
      have hts : p.inits.take (k + 1) = p.inits.take k ++ [p.inits[k]] := List.take_succ_eq_append_getElem hltk
      have k0 : wr.cell? ⟨b0, off + k * 7, none⟩ = some (.int .i64 p.inits[k].block) := hcell k hltk 0 _ rfl
      have k1 : wr.cell? ⟨b0, off + k * 7 + 1, none⟩ = some (.int .u8 p.inits[k].value.kind) := hcell k hltk 1 _ rfl
      have k2 : wr.cell? ⟨b0, off + k * 7 + 2, none⟩ = some (.int .u8 p.inits[k].value.op) := hcell k hltk 2 _ rfl
      have k3 : wr.cell? ⟨b0, off + k * 7 + 3, none⟩ = some (.int .u32 p.inits[k].value.value) := hcell k hltk 3 _ rfl
      have k4 : wr.cell? ⟨b0, off + k * 7 + 4, none⟩ = some (.int .i64 p.inits[k].value.width) := hcell k hltk 4 _ rfl
      have k5 : wr.cell? ⟨b0, off + k * 7 + 5, none⟩ = some (.string p.inits[k].value.name) := hcell k hltk 5 _ rfl
      have k6 : wr.cell? ⟨b0, off + k * 7 + 6, none⟩ = some (.slice p.inits[k].value.sp.at_ p.inits[k].value.subs.length p.inits[k].value.sp.cap) := hcell k hltk 6 _ rfl
      have hrx := (HPB.out.inits _ (List.getElem_mem hltk)).value.stays hbr
      have HTS := Lib.hid hts
      generalize p.inits[k] = x at *
      have hstep : initsN (p.inits.take (k + 1)) n0 = cntN x.value.pre.length (initsN (p.inits.take k) n0 + 1) := by rw [HTS.out]; simp [initsN]
      generalize initsN (p.inits.take k) n0 = cur at *
      have HST := Lib.hid hstep
      have hba : Below wr.heap.size wr (wr.alloc (.cells #[.int .i64 x.block, .int .u8 x.value.kind, .int .u8 x.value.op, .int .u32 x.value.value, .int .i64 x.value.width, .string x.value.name, .slice x.value.sp.at_ x.value.subs.length x.value.sp.cap] 118)) := (Below.refl _ wr).alloc (Nat.le_refl _) _
      have hsa := hba.size
      have hCE := countExpr_any _ x.value (cur + 1) ((hrx.stays (hba.mono (by omega))).more (n₁ := (wr.alloc (.cells #[.int .i64 x.block, .int .u8 x.value.kind, .int .u8 x.value.op, .int .u32 x.value.value, .int .i64 x.value.width, .string x.value.name, .slice x.value.sp.at_ x.value.subs.length x.value.sp.cap] 118)).heap.size) (by omega)) (by omega)
      simp only [ExprV.val, Sp.val] at hCE
      have HCE := Lib.hid hCE
      have HBA := Lib.hid hba
      have hj0 : (0 : Int) ≤ (k : Int) := by omega
      have hj1 : (k : Int) < (p.inits.length : Int) := by omega
      clear hcell hts hstep hCE hba hrx c12
      rw [eA]
      clear eA
      go_wp2_with fail
      refine HCE.out.mono ?_
      rintro o w2 ⟨rfl, hb2⟩
      have hb3 := hbr.trans ((HBA.out.trans (hb2.mono HBA.out.size)).mono (by omega))
      clear hb2 k0 k1 k2 k3 k4 k5 k6
      go_wp2_with fail
      go_roundw
      case rel => exact ⟨k + 1, by omega, by go_num, by rw [HST.out], hb3⟩
      case measure => simp [intOf]; omega
    · obtain rfl : k = p.inits.length := by omega
      rw [List.take_length] at hin
      rw [List.take_length]
      generalize hI0 : initsN p.inits n0 = i0 at *
      have HI0 := Lib.hid hI0
      have hbx2 : BoxP wr w.heap.size p := ⟨(hbr.block w.heap.size hlt).trans HBOX.out.heap⟩
      obtain ⟨-, c13, -⟩ := hbx2.at
      have hWr := hbr
      clear hI0 hbx2 c12 hil hk hltk hbx1 hb1
      obtain ⟨wo, rfl⟩ : ∃ y : World, y = wr := ⟨_, rfl⟩
      have hl7 : (p.procs.map fun q => 1 + q.params.length + nodesT (q.body.flatMap StmtV.pre)).sum ≤ 1125899906842624 := by
        have := HWT.out
        unfold weightP at this
        omega
      go_wp2_with fail
      go_loopw [3, 43] (fun v i wr => ∃ k : Nat, k ≤ p.procs.length ∧ i = .int .i64 k ∧ v = .int .i64 (procsN (p.procs.take k) i0) ∧ Below wB.heap.size wB wr) (fun _ i _ => p.procs.length - (intOf i).toNat)
      case atStart => exact ⟨0, Nat.zero_le _, rfl, by simp [procsN], hWr⟩
      case round =>
        obtain ⟨k, hk, rfl, rfl, hbr⟩ := hrel
        have hszr := hbr.size
        have hpn := procsN_le (p.procs.take k) i0 (by omega)
        have hpt := sum_take (fun q : ProcV => 1 + q.params.length + nodesT (q.body.flatMap StmtV.pre)) p.procs k
        by_cases hltk : k < p.procs.length
        · obtain ⟨b0, off, eA, hbn, hcell⟩ := (HPB.out.prow.below hbr).row (by omega)
          have hts : p.procs.take (k + 1) = p.procs.take k ++ [p.procs[k]] := List.take_succ_eq_append_getElem hltk
          have k0 : wr.cell? ⟨b0, off + k * 3, none⟩ = some (.string p.procs[k].name) := hcell k hltk 0 _ rfl
          have k1 : wr.cell? ⟨b0, off + k * 3 + 1, none⟩ = some (.slice p.procs[k].ps.at_ p.procs[k].params.length p.procs[k].ps.cap) := hcell k hltk 1 _ rfl
          have k2 : wr.cell? ⟨b0, off + k * 3 + 2, none⟩ = some (.slice p.procs[k].bs.at_ p.procs[k].body.length p.procs[k].bs.cap) := hcell k hltk 2 _ rfl
          have hrq := HPB.out.procs _ (List.getElem_mem hltk)
          have hrx := hrq.body.below hbr
          have hpf := hrq.params.row.few
          have HTS := Lib.hid hts
          generalize p.procs[k] = x at *
          have hstep : procsN (p.procs.take (k + 1)) i0 = cntT (x.body.flatMap StmtV.pre) (procsN (p.procs.take k) i0 + 1 + x.params.length) := by rw [HTS.out]; simp [procsN]
          generalize procsN (p.procs.take k) i0 = cur at *
          have HST := Lib.hid hstep
          have hba : Below wr.heap.size wr (wr.alloc (.cells #[.string x.name, .slice x.ps.at_ x.params.length x.ps.cap, .slice x.bs.at_ x.body.length x.bs.cap] 47)) := (Below.refl _ wr).alloc (Nat.le_refl _) _
          have hsa := hba.size
          have hCE := countStmts_any _ x.bs x.body (cur + 1 + x.params.length) ((hrx.below (hba.mono (by omega))).more (n₁ := (wr.alloc (.cells #[.string x.name, .slice x.ps.at_ x.params.length x.ps.cap, .slice x.bs.at_ x.body.length x.bs.cap] 47)).heap.size) (by omega)) (by omega)
          simp only [Sp.val] at hCE
          have HCE := Lib.hid hCE
          have HBA := Lib.hid hba
          have hj0 : (0 : Int) ≤ (k : Int) := by omega
          have hj1 : (k : Int) < (p.procs.length : Int) := by omega
          clear hcell hts hstep hCE hba hrx hrq c13
          rw [eA]
          clear eA
          go_wp2_with fail
          refine HCE.out.mono ?_
          rintro o w2 ⟨rfl, hb2⟩
          have hb3 := hbr.trans ((HBA.out.trans (hb2.mono HBA.out.size)).mono (by omega))
          clear hb2 k0 k1 k2
          go_wp2_with fail
          go_roundw
          case rel => exact ⟨k + 1, by omega, by go_num, by rw [HST.out], hb3⟩
          case measure => simp [intOf]; omega
        · obtain rfl : k = p.procs.length := by omega
          rw [List.take_length] at hpn
          rw [List.take_length]
          generalize hI1 : procsN p.procs i0 = i1 at *
          have hw2 : nodesT (p.work.flatMap StmtV.pre) + nodesT (p.recover.flatMap StmtV.pre) ≤ 1125899906842624 := by
            have := HWT.out
            unfold weightP at this
            omega
          have hc1 := cntT_le (p.work.flatMap StmtV.pre) i1 (by omega)
          have hc2 := cntT_le (p.recover.flatMap StmtV.pre) (cntT (p.work.flatMap StmtV.pre) i1) (by omega)
          have hend : countP p = cntN p.invariant.pre.length (cntT (p.recover.flatMap StmtV.pre) (cntT (p.work.flatMap StmtV.pre) i1)) := by
            rw [← hI1, ← HI0.out, ← HN0.out]; rfl
          have HEND := Lib.hid hend
          have HW1 : Hid (∀ W, Below wr.heap.size wr W → Calls Tryz.prog 65 #[.slice p.ws.at_ p.work.length p.ws.cap, .int .i64 i1] W fun o w' => o = .returned (.int .i64 (cntT (p.work.flatMap StmtV.pre) i1)) ∧ Below W.heap.size W w') :=
            Lib.hid fun W hW => countStmts_any W p.ws p.work i1 (((HPB.out.work.below hbr).below (hW.mono hszr)).more (by have := hW.size; omega)) (by omega)
          have HW2 : Hid (∀ W, Below wr.heap.size wr W → Calls Tryz.prog 65 #[.slice p.cs.at_ p.recover.length p.cs.cap, .int .i64 (cntT (p.work.flatMap StmtV.pre) i1)] W fun o w' => o = .returned (.int .i64 (cntT (p.recover.flatMap StmtV.pre) (cntT (p.work.flatMap StmtV.pre) i1))) ∧ Below W.heap.size W w') :=
            Lib.hid fun W hW => countStmts_any W p.cs p.recover _ (((HPB.out.recover.below hbr).below (hW.mono hszr)).more (by have := hW.size; omega)) (by omega)
          have HW3 : Hid (∀ W, Below wr.heap.size wr W → Calls Tryz.prog 64 #[.agg #[.int .u8 p.invariant.kind, .int .u8 p.invariant.op, .int .u32 p.invariant.value, .int .i64 p.invariant.width, .string p.invariant.name, .slice p.invariant.sp.at_ p.invariant.subs.length p.invariant.sp.cap], .int .i64 (cntT (p.recover.flatMap StmtV.pre) (cntT (p.work.flatMap StmtV.pre) i1))] W fun o w' => o = .returned (.int .i64 (countP p)) ∧ Below W.heap.size W w') :=
            Lib.hid fun W hW => by rw [hend]; exact countExpr_any W p.invariant _ (((HPB.out.invariant.stays hbr).stays (hW.mono hszr)).more (by have := hW.size; omega)) (by omega)
          have HCB : Hid (∀ W, Below wr.heap.size wr W → BoxP W w.heap.size p) := Lib.hid fun W hW => ⟨(hW.block w.heap.size (by omega)).trans ((hbr.block w.heap.size hlt).trans HBOX.out.heap)⟩
          obtain ⟨-, -, d14, d15, d16, d17, d18, d19, d20, d21⟩ := (HCB.out wr (Below.refl _ _)).at
          generalize cntT (p.recover.flatMap StmtV.pre) (cntT (p.work.flatMap StmtV.pre) i1) = i3 at *
          generalize cntT (p.work.flatMap StmtV.pre) i1 = i2 at *
          have hbd : Below wr.heap.size wr wr.drew := (Below.refl _ _).drew
          have hbE := HBB.out.trans (hbr.mono HBB.out.size)
          have HBE := Lib.hid hbE
          clear hend hI1 hc1 hc2 hw2 hpt hpn hk hltk c13 hbE
          go_wp2_with fail
          go_region_held3 (fun w' => w'.cell? ⟨w.heap.size, 14, none⟩ = some (.slice p.ws.at_ p.work.length p.ws.cap) ∧ w'.cell? ⟨w.heap.size, 15, none⟩ = some (.slice p.cs.at_ p.recover.length p.cs.cap) ∧ w'.cell? ⟨w.heap.size, 16, none⟩ = some (.int .u8 p.invariant.kind) ∧ w'.cell? ⟨w.heap.size, 17, none⟩ = some (.int .u8 p.invariant.op) ∧ w'.cell? ⟨w.heap.size, 18, none⟩ = some (.int .u32 p.invariant.value) ∧ w'.cell? ⟨w.heap.size, 19, none⟩ = some (.int .i64 p.invariant.width) ∧ w'.cell? ⟨w.heap.size, 20, none⟩ = some (.string p.invariant.name) ∧ w'.cell? ⟨w.heap.size, 21, none⟩ = some (.slice p.invariant.sp.at_ p.invariant.subs.length p.invariant.sp.cap) ∧ Below wr.heap.size wr w')
            (simp [*])
            (first
              | (go_at_call 64; refine (HW3.out _ (by assumption)).mono ?_; rintro e w9 ⟨rfl, hb9⟩; have hb10 := Below.trans (by assumption : Below wr.heap.size wr _) (hb9.mono (Below.size (by assumption))); obtain ⟨-, -, z14, z15, z16, z17, z18, z19, z20, z21⟩ := (HCB.out _ hb10).at)
              | (go_at_call 65; refine (HW1.out _ (by assumption)).mono ?_; clear HW1; rintro e w9 ⟨rfl, hb9⟩; have hb10 := Below.trans (by assumption : Below wr.heap.size wr _) (hb9.mono (Below.size (by assumption))); obtain ⟨-, -, z14, z15, z16, z17, z18, z19, z20, z21⟩ := (HCB.out _ hb10).at)
              | (go_at_call 65; refine (HW2.out _ (by assumption)).mono ?_; clear HW2; rintro e w9 ⟨rfl, hb9⟩; have hb10 := Below.trans (by assumption : Below wr.heap.size wr _) (hb9.mono (Below.size (by assumption))); obtain ⟨-, -, z14, z15, z16, z17, z18, z19, z20, z21⟩ := (HCB.out _ hb10).at)
              | fail)
          go_wp2_with fail
          go_ret
          exact ⟨rfl, HBE.out.trans (hb10.mono (by omega))⟩
end Go.Proofs.YthcboallnbaimaaGreatDoor
