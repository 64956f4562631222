/- tree.Light, tree.Size. -/
import Derived.Test.YthcboallnbaimaaGreatDoorTally
import Derived.Deep.CutBlock
import Derived.Deep.CutRange
import Derived.Laws.Rows
namespace Go.Proofs.YthcboallnbaimaaGreatDoor
open Go Go.RowKit
set_option maxRecDepth 1000000 in
set_option maxHeartbeats 2000000 in
theorem lightP_any (w : World) (p : ProgV) (h : RdP w.heap.size w p) (hwt : weightP p ≤ 1125899906842624) :
    Calls Tryz.prog 48 #[p.val] w fun o w' => o = .returned (.bool (decide (countP p ≤ 20000))) ∧ Below w.heap.size w w' := by
  have hb := (Below.refl _ w).alloc (Nat.le_refl _) (.cells #[.int .i64 p.blocks, .int .i64 p.width, .slice p.is.at_ p.inputs.length p.is.cap, .slice p.gs.at_ p.ghosts.length p.gs.cap, .slice p.vs.at_ p.vars.length p.vs.cap, .slice p.as.at_ p.arrays.length p.as.cap, .int .u8 p.require.kind, .int .u8 p.require.op, .int .u32 p.require.value, .int .i64 p.require.width, .string p.require.name, .slice p.require.sp.at_ p.require.subs.length p.require.sp.cap, .slice p.ns.at_ p.inits.length p.ns.cap, .slice p.rs.at_ p.procs.length p.rs.cap, .slice p.ws.at_ p.work.length p.ws.cap, .slice p.cs.at_ p.recover.length p.cs.cap, .int .u8 p.invariant.kind, .int .u8 p.invariant.op, .int .u32 p.invariant.value, .int .i64 p.invariant.width, .string p.invariant.name, .slice p.invariant.sp.at_ p.invariant.subs.length p.invariant.sp.cap] 39)
  have hC := count_any (w.alloc (.cells #[.int .i64 p.blocks, .int .i64 p.width, .slice p.is.at_ p.inputs.length p.is.cap, .slice p.gs.at_ p.ghosts.length p.gs.cap, .slice p.vs.at_ p.vars.length p.vs.cap, .slice p.as.at_ p.arrays.length p.as.cap, .int .u8 p.require.kind, .int .u8 p.require.op, .int .u32 p.require.value, .int .i64 p.require.width, .string p.require.name, .slice p.require.sp.at_ p.require.subs.length p.require.sp.cap, .slice p.ns.at_ p.inits.length p.ns.cap, .slice p.rs.at_ p.procs.length p.rs.cap, .slice p.ws.at_ p.work.length p.ws.cap, .slice p.cs.at_ p.recover.length p.cs.cap, .int .u8 p.invariant.kind, .int .u8 p.invariant.op, .int .u32 p.invariant.value, .int .i64 p.invariant.width, .string p.invariant.name, .slice p.invariant.sp.at_ p.invariant.subs.length p.invariant.sp.cap] 39)) p ((h.below hb).more hb.size) hwt
  simp only [ProgV.val, Sp.val] at hC ⊢
  have HC := Lib.hid hC
  have HB := Lib.hid hb
  have hbox : BoxP (w.alloc (.cells #[.int .i64 p.blocks, .int .i64 p.width, .slice p.is.at_ p.inputs.length p.is.cap, .slice p.gs.at_ p.ghosts.length p.gs.cap, .slice p.vs.at_ p.vars.length p.vs.cap, .slice p.as.at_ p.arrays.length p.as.cap, .int .u8 p.require.kind, .int .u8 p.require.op, .int .u32 p.require.value, .int .i64 p.require.width, .string p.require.name, .slice p.require.sp.at_ p.require.subs.length p.require.sp.cap, .slice p.ns.at_ p.inits.length p.ns.cap, .slice p.rs.at_ p.procs.length p.rs.cap, .slice p.ws.at_ p.work.length p.ws.cap, .slice p.cs.at_ p.recover.length p.cs.cap, .int .u8 p.invariant.kind, .int .u8 p.invariant.op, .int .u32 p.invariant.value, .int .i64 p.invariant.width, .string p.invariant.name, .slice p.invariant.sp.at_ p.invariant.subs.length p.invariant.sp.cap] 39)) w.heap.size p := ⟨World.alloc_heap_new _ _⟩
  have HBX := Lib.hid hbox
  clear hC hb h hwt hbox
  go_enter Tryz.func48, Tryz.ntmps48
  go_upto_region 1 with (fail)
  generalize w.alloc (.cells #[.int .i64 p.blocks, .int .i64 p.width, .slice p.is.at_ p.inputs.length p.is.cap, .slice p.gs.at_ p.ghosts.length p.gs.cap, .slice p.vs.at_ p.vars.length p.vs.cap, .slice p.as.at_ p.arrays.length p.as.cap, .int .u8 p.require.kind, .int .u8 p.require.op, .int .u32 p.require.value, .int .i64 p.require.width, .string p.require.name, .slice p.require.sp.at_ p.require.subs.length p.require.sp.cap, .slice p.ns.at_ p.inits.length p.ns.cap, .slice p.rs.at_ p.procs.length p.rs.cap, .slice p.ws.at_ p.work.length p.ws.cap, .slice p.cs.at_ p.recover.length p.cs.cap, .int .u8 p.invariant.kind, .int .u8 p.invariant.op, .int .u32 p.invariant.value, .int .i64 p.invariant.width, .string p.invariant.name, .slice p.invariant.sp.at_ p.invariant.subs.length p.invariant.sp.cap] 39) = wB at *
  go_wp2_with (refine wpList_load_row rfl 39 _ rfl w.heap.size rfl 39 _ (0, 0) _ HBX.out.heap Tryz.underlying39 rfl (by kernel_rfl) ?_)
  refine HC.out.mono ?_
  rintro o w1 ⟨rfl, hb1⟩
  go_wp2_with fail
  refine (light_any _ _).mono ?_
  rintro o w2 ⟨rfl, rfl⟩
  go_wp2_with fail
  go_ret
  exact ⟨rfl, HB.out.trans (hb1.mono HB.out.size)⟩
set_option maxRecDepth 1000000 in
set_option maxHeartbeats 2000000 in
theorem sizeP_any (w : World) (p : ProgV) (h : RdP w.heap.size w p) (hwt : weightP p ≤ 1125899906842624) :
    Calls Tryz.prog 27 #[p.val] w fun o w' => o = .returned (.int .i64 (sizedN (countP p))) ∧ Below w.heap.size w w' := by
  have hb := (Below.refl _ w).alloc (Nat.le_refl _) (.cells #[.int .i64 p.blocks, .int .i64 p.width, .slice p.is.at_ p.inputs.length p.is.cap, .slice p.gs.at_ p.ghosts.length p.gs.cap, .slice p.vs.at_ p.vars.length p.vs.cap, .slice p.as.at_ p.arrays.length p.as.cap, .int .u8 p.require.kind, .int .u8 p.require.op, .int .u32 p.require.value, .int .i64 p.require.width, .string p.require.name, .slice p.require.sp.at_ p.require.subs.length p.require.sp.cap, .slice p.ns.at_ p.inits.length p.ns.cap, .slice p.rs.at_ p.procs.length p.rs.cap, .slice p.ws.at_ p.work.length p.ws.cap, .slice p.cs.at_ p.recover.length p.cs.cap, .int .u8 p.invariant.kind, .int .u8 p.invariant.op, .int .u32 p.invariant.value, .int .i64 p.invariant.width, .string p.invariant.name, .slice p.invariant.sp.at_ p.invariant.subs.length p.invariant.sp.cap] 39)
  have hC := count_any (w.alloc (.cells #[.int .i64 p.blocks, .int .i64 p.width, .slice p.is.at_ p.inputs.length p.is.cap, .slice p.gs.at_ p.ghosts.length p.gs.cap, .slice p.vs.at_ p.vars.length p.vs.cap, .slice p.as.at_ p.arrays.length p.as.cap, .int .u8 p.require.kind, .int .u8 p.require.op, .int .u32 p.require.value, .int .i64 p.require.width, .string p.require.name, .slice p.require.sp.at_ p.require.subs.length p.require.sp.cap, .slice p.ns.at_ p.inits.length p.ns.cap, .slice p.rs.at_ p.procs.length p.rs.cap, .slice p.ws.at_ p.work.length p.ws.cap, .slice p.cs.at_ p.recover.length p.cs.cap, .int .u8 p.invariant.kind, .int .u8 p.invariant.op, .int .u32 p.invariant.value, .int .i64 p.invariant.width, .string p.invariant.name, .slice p.invariant.sp.at_ p.invariant.subs.length p.invariant.sp.cap] 39)) p ((h.below hb).more hb.size) hwt
  simp only [ProgV.val, Sp.val] at hC ⊢
  have HC := Lib.hid hC
  have HB := Lib.hid hb
  have hbox : BoxP (w.alloc (.cells #[.int .i64 p.blocks, .int .i64 p.width, .slice p.is.at_ p.inputs.length p.is.cap, .slice p.gs.at_ p.ghosts.length p.gs.cap, .slice p.vs.at_ p.vars.length p.vs.cap, .slice p.as.at_ p.arrays.length p.as.cap, .int .u8 p.require.kind, .int .u8 p.require.op, .int .u32 p.require.value, .int .i64 p.require.width, .string p.require.name, .slice p.require.sp.at_ p.require.subs.length p.require.sp.cap, .slice p.ns.at_ p.inits.length p.ns.cap, .slice p.rs.at_ p.procs.length p.rs.cap, .slice p.ws.at_ p.work.length p.ws.cap, .slice p.cs.at_ p.recover.length p.cs.cap, .int .u8 p.invariant.kind, .int .u8 p.invariant.op, .int .u32 p.invariant.value, .int .i64 p.invariant.width, .string p.invariant.name, .slice p.invariant.sp.at_ p.invariant.subs.length p.invariant.sp.cap] 39)) w.heap.size p := ⟨World.alloc_heap_new _ _⟩
  have HBX := Lib.hid hbox
  clear hC hb h hwt hbox
  go_enter Tryz.func27, Tryz.ntmps27
  go_upto_region 1 with (fail)
  generalize w.alloc (.cells #[.int .i64 p.blocks, .int .i64 p.width, .slice p.is.at_ p.inputs.length p.is.cap, .slice p.gs.at_ p.ghosts.length p.gs.cap, .slice p.vs.at_ p.vars.length p.vs.cap, .slice p.as.at_ p.arrays.length p.as.cap, .int .u8 p.require.kind, .int .u8 p.require.op, .int .u32 p.require.value, .int .i64 p.require.width, .string p.require.name, .slice p.require.sp.at_ p.require.subs.length p.require.sp.cap, .slice p.ns.at_ p.inits.length p.ns.cap, .slice p.rs.at_ p.procs.length p.rs.cap, .slice p.ws.at_ p.work.length p.ws.cap, .slice p.cs.at_ p.recover.length p.cs.cap, .int .u8 p.invariant.kind, .int .u8 p.invariant.op, .int .u32 p.invariant.value, .int .i64 p.invariant.width, .string p.invariant.name, .slice p.invariant.sp.at_ p.invariant.subs.length p.invariant.sp.cap] 39) = wB at *
  go_wp2_with (refine wpList_load_row rfl 39 _ rfl w.heap.size rfl 39 _ (0, 0) _ HBX.out.heap Tryz.underlying39 rfl (by kernel_rfl) ?_)
  refine HC.out.mono ?_
  rintro o w1 ⟨rfl, hb1⟩
  go_wp2_with fail
  refine (sized_any _ _).mono ?_
  rintro o w2 ⟨rfl, rfl⟩
  go_wp2_with fail
  go_ret
  exact ⟨rfl, HB.out.trans (hb1.mono HB.out.size)⟩
end Go.Proofs.YthcboallnbaimaaGreatDoor
