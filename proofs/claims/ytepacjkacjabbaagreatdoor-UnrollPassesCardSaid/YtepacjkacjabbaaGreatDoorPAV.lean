import Derived.Test.YtepacjkacjabbaaGreatDoorPAA
import Derived.Test.YtepacjkacjabbaaGreatDoorPAL
import Derived.Deep.CutBlock
import Derived.Deep.CutRange
import Derived.Laws.Rows
import Derived.Test.YtepacjkacjabbaaGreatDoorPAI
import Derived.Test.YtepacjkacjabbaaGreatDoorPAP
import Derived.Deep.DeepCutAuto
import Derived.Test.YtepacjkacjabbaaGreatDoorPAQ
import Derived.Test.YtepacjkacjabbaaGreatDoorPAU
namespace Go.Proofs.YtepacjkacjabbaaGreatDoor
section
open Go Go.RowKit
set_option maxRecDepth 1000000 in
set_option maxHeartbeats 2000000 in
theorem vJ (w:World) (p:af) (h:jW w.heap.size w p) (hwt:eU p≤1125899906842624) :
  Calls Tryz.prog 112 #[p.val] w fun o w'=>o=.returned (.bool (decide (countP p≤20000)))∧Below w.heap.size w w':=by
 have hb:=(Below.refl _ w).alloc (Nat.le_refl _) (.cells #[.int .i64 p.blocks,.int .i64 p.width,.slice p.is.at_ p.inputs.length p.is.cap,.slice p.gs.at_ p.ghosts.length p.gs.cap,.slice p.vs.at_ p.vars.length p.vs.cap,.slice p.as.at_ p.arrays.length p.as.cap,.int .u8 p.require.kind,.int .u8 p.require.op,.int .u32 p.require.value,.int .i64 p.require.width,.string p.require.name,.slice p.require.sp.at_ p.require.subs.length p.require.sp.cap,.slice p.ns.at_ p.inits.length p.ns.cap,.slice p.rs.at_ p.procs.length p.rs.cap,.slice p.ws.at_ p.work.length p.ws.cap,.slice p.cs.at_ p.recover.length p.cs.cap,.int .u8 p.invariant.kind,.int .u8 p.invariant.op,.int .u32 p.invariant.value,.int .i64 p.invariant.width,.string p.invariant.name,.slice p.invariant.sp.at_ p.invariant.subs.length p.invariant.sp.cap] 35);have hC:=xI (w.alloc (.cells #[.int .i64 p.blocks,.int .i64 p.width,.slice p.is.at_ p.inputs.length p.is.cap,.slice p.gs.at_ p.ghosts.length p.gs.cap,.slice p.vs.at_ p.vars.length p.vs.cap,.slice p.as.at_ p.arrays.length p.as.cap,.int .u8 p.require.kind,.int .u8 p.require.op,.int .u32 p.require.value,.int .i64 p.require.width,.string p.require.name,.slice p.require.sp.at_ p.require.subs.length p.require.sp.cap,.slice p.ns.at_ p.inits.length p.ns.cap,.slice p.rs.at_ p.procs.length p.rs.cap,.slice p.ws.at_ p.work.length p.ws.cap,.slice p.cs.at_ p.recover.length p.cs.cap,.int .u8 p.invariant.kind,.int .u8 p.invariant.op,.int .u32 p.invariant.value,.int .i64 p.invariant.width,.string p.invariant.name,.slice p.invariant.sp.at_ p.invariant.subs.length p.invariant.sp.cap] 35)) p ((h.below hb).more hb.size) hwt;simp only [af.val,Sp.val] at hC ⊢;have HC:=zhd hC;have HB:=zhd hb;have hbox:zY (w.alloc (.cells #[.int .i64 p.blocks,.int .i64 p.width,.slice p.is.at_ p.inputs.length p.is.cap,.slice p.gs.at_ p.ghosts.length p.gs.cap,.slice p.vs.at_ p.vars.length p.vs.cap,.slice p.as.at_ p.arrays.length p.as.cap,.int .u8 p.require.kind,.int .u8 p.require.op,.int .u32 p.require.value,.int .i64 p.require.width,.string p.require.name,.slice p.require.sp.at_ p.require.subs.length p.require.sp.cap,.slice p.ns.at_ p.inits.length p.ns.cap,.slice p.rs.at_ p.procs.length p.rs.cap,.slice p.ws.at_ p.work.length p.ws.cap,.slice p.cs.at_ p.recover.length p.cs.cap,.int .u8 p.invariant.kind,.int .u8 p.invariant.op,.int .u32 p.invariant.value,.int .i64 p.invariant.width,.string p.invariant.name,.slice p.invariant.sp.at_ p.invariant.subs.length p.invariant.sp.cap] 35)) w.heap.size p:=⟨zan _ _⟩;have HBX:=zhd hbox;clear hC hb h hwt hbox;go_enter Tryz.func112,Tryz.ntmps112
 go_upto_region 1 with (fail)
 generalize w.alloc (.cells #[.int .i64 p.blocks,.int .i64 p.width,.slice p.is.at_ p.inputs.length p.is.cap,.slice p.gs.at_ p.ghosts.length p.gs.cap,.slice p.vs.at_ p.vars.length p.vs.cap,.slice p.as.at_ p.arrays.length p.as.cap,.int .u8 p.require.kind,.int .u8 p.require.op,.int .u32 p.require.value,.int .i64 p.require.width,.string p.require.name,.slice p.require.sp.at_ p.require.subs.length p.require.sp.cap,.slice p.ns.at_ p.inits.length p.ns.cap,.slice p.rs.at_ p.procs.length p.rs.cap,.slice p.ws.at_ p.work.length p.ws.cap,.slice p.cs.at_ p.recover.length p.cs.cap,.int .u8 p.invariant.kind,.int .u8 p.invariant.op,.int .u32 p.invariant.value,.int .i64 p.invariant.width,.string p.invariant.name,.slice p.invariant.sp.at_ p.invariant.subs.length p.invariant.sp.cap] 35)=wB at *;go_wp2_with (refine wpList_load_row rfl 35 _ rfl w.heap.size rfl 35 _ (0,0) _ HBX.out.heap Tryz.underlying35 rfl (by kernel_rfl) ?_)
 refine HC.out.mono ?_;rintro o w1 ⟨rfl,hb1⟩;go_wp2_with fail
 refine (iC _ _).mono ?_;rintro o w2 ⟨rfl,rfl⟩;go_wp2_with fail
 go_ret
 exact ⟨rfl,HB.out.trans (hb1.mono HB.out.size)⟩
set_option maxRecDepth 1000000 in
set_option maxHeartbeats 2000000 in
theorem yC (w:World) (p:af) (h:jW w.heap.size w p) (hwt:eU p≤1125899906842624) :
  Calls Tryz.prog 53 #[p.val] w fun o w'=>o=.returned (.int .i64 (bW (countP p)))∧Below w.heap.size w w':=by
 have hb:=(Below.refl _ w).alloc (Nat.le_refl _) (.cells #[.int .i64 p.blocks,.int .i64 p.width,.slice p.is.at_ p.inputs.length p.is.cap,.slice p.gs.at_ p.ghosts.length p.gs.cap,.slice p.vs.at_ p.vars.length p.vs.cap,.slice p.as.at_ p.arrays.length p.as.cap,.int .u8 p.require.kind,.int .u8 p.require.op,.int .u32 p.require.value,.int .i64 p.require.width,.string p.require.name,.slice p.require.sp.at_ p.require.subs.length p.require.sp.cap,.slice p.ns.at_ p.inits.length p.ns.cap,.slice p.rs.at_ p.procs.length p.rs.cap,.slice p.ws.at_ p.work.length p.ws.cap,.slice p.cs.at_ p.recover.length p.cs.cap,.int .u8 p.invariant.kind,.int .u8 p.invariant.op,.int .u32 p.invariant.value,.int .i64 p.invariant.width,.string p.invariant.name,.slice p.invariant.sp.at_ p.invariant.subs.length p.invariant.sp.cap] 35);have hC:=xI (w.alloc (.cells #[.int .i64 p.blocks,.int .i64 p.width,.slice p.is.at_ p.inputs.length p.is.cap,.slice p.gs.at_ p.ghosts.length p.gs.cap,.slice p.vs.at_ p.vars.length p.vs.cap,.slice p.as.at_ p.arrays.length p.as.cap,.int .u8 p.require.kind,.int .u8 p.require.op,.int .u32 p.require.value,.int .i64 p.require.width,.string p.require.name,.slice p.require.sp.at_ p.require.subs.length p.require.sp.cap,.slice p.ns.at_ p.inits.length p.ns.cap,.slice p.rs.at_ p.procs.length p.rs.cap,.slice p.ws.at_ p.work.length p.ws.cap,.slice p.cs.at_ p.recover.length p.cs.cap,.int .u8 p.invariant.kind,.int .u8 p.invariant.op,.int .u32 p.invariant.value,.int .i64 p.invariant.width,.string p.invariant.name,.slice p.invariant.sp.at_ p.invariant.subs.length p.invariant.sp.cap] 35)) p ((h.below hb).more hb.size) hwt;simp only [af.val,Sp.val] at hC ⊢;have HC:=zhd hC;have HB:=zhd hb;have hbox:zY (w.alloc (.cells #[.int .i64 p.blocks,.int .i64 p.width,.slice p.is.at_ p.inputs.length p.is.cap,.slice p.gs.at_ p.ghosts.length p.gs.cap,.slice p.vs.at_ p.vars.length p.vs.cap,.slice p.as.at_ p.arrays.length p.as.cap,.int .u8 p.require.kind,.int .u8 p.require.op,.int .u32 p.require.value,.int .i64 p.require.width,.string p.require.name,.slice p.require.sp.at_ p.require.subs.length p.require.sp.cap,.slice p.ns.at_ p.inits.length p.ns.cap,.slice p.rs.at_ p.procs.length p.rs.cap,.slice p.ws.at_ p.work.length p.ws.cap,.slice p.cs.at_ p.recover.length p.cs.cap,.int .u8 p.invariant.kind,.int .u8 p.invariant.op,.int .u32 p.invariant.value,.int .i64 p.invariant.width,.string p.invariant.name,.slice p.invariant.sp.at_ p.invariant.subs.length p.invariant.sp.cap] 35)) w.heap.size p:=⟨zan _ _⟩;have HBX:=zhd hbox;clear hC hb h hwt hbox;go_enter Tryz.func53,Tryz.ntmps53
 go_upto_region 1 with (fail)
 generalize w.alloc (.cells #[.int .i64 p.blocks,.int .i64 p.width,.slice p.is.at_ p.inputs.length p.is.cap,.slice p.gs.at_ p.ghosts.length p.gs.cap,.slice p.vs.at_ p.vars.length p.vs.cap,.slice p.as.at_ p.arrays.length p.as.cap,.int .u8 p.require.kind,.int .u8 p.require.op,.int .u32 p.require.value,.int .i64 p.require.width,.string p.require.name,.slice p.require.sp.at_ p.require.subs.length p.require.sp.cap,.slice p.ns.at_ p.inits.length p.ns.cap,.slice p.rs.at_ p.procs.length p.rs.cap,.slice p.ws.at_ p.work.length p.ws.cap,.slice p.cs.at_ p.recover.length p.cs.cap,.int .u8 p.invariant.kind,.int .u8 p.invariant.op,.int .u32 p.invariant.value,.int .i64 p.invariant.width,.string p.invariant.name,.slice p.invariant.sp.at_ p.invariant.subs.length p.invariant.sp.cap] 35)=wB at *;go_wp2_with (refine wpList_load_row rfl 35 _ rfl w.heap.size rfl 35 _ (0,0) _ HBX.out.heap Tryz.underlying35 rfl (by kernel_rfl) ?_)
 refine HC.out.mono ?_;rintro o w1 ⟨rfl,hb1⟩;go_wp2_with fail
 refine (rP _ _).mono ?_;rintro o w2 ⟨rfl,rfl⟩;go_wp2_with fail
 go_ret
 exact ⟨rfl,HB.out.trans (hb1.mono HB.out.size)⟩
end
section
open Go Go.RowKit Go.Maps
def zeroE:ae:=.mk 0 0 0 0 ⟨#[]⟩ Sp.none []
def bH:af:=⟨0,0,Sp.none,[],Sp.none,[],Sp.none,[],Sp.none,[],zeroE,Sp.none,[],Sp.none,[],Sp.none,[],Sp.none,[],zeroE⟩
theorem gm (w:World):(zeroValue 35).run Tryz.prog w=.ok (.agg bH.arr) w:=(zero_of_info (n:=22) (by kernel_rfl)).1 w
theorem jg (p:af):p.arr.all (·.oneCell')=true:=by kernel_rfl
theorem qK {P:Program} {ops:Array Oper} {rest:List Oper} {o:Oper} {a:Act} {w:World} {Q:Exit→Act→World→Prop} (hw:Region.wanted o (yielded ops a.tmps)=true) (ty:TypeId) (x:Operand) (ho:o.op=.load ty x)
  (g:Nat) (hx:a.eval x=.pointer (some ⟨g,0,none⟩)) (t:TypeId) (cs:Array Value) (fr:Nat × Nat) (d:TypeDesc) (hg:w.heap[g]? = some (.cells cs t fr))
  (hu:P.underlying ty=some d) (hd:(match d with | .struct _ | .array _ _=>true | _=>false)=true) (hi:(P.info? ty).map (·.size)=some cs.size)
  (h:wpList P ops Q rest (a.put o.dst (.agg cs)) w):wpList P ops Q (o::rest) a w :=
 wpList_step fun _ hK=>by rw [if_pos hw];exact wp_load_row ty x ho g hx t cs fr d hg hu hd hi (hK _ _ h)
set_option maxRecDepth 100000 in
set_option maxHeartbeats 4000000 in
theorem Bz {K:gp} {J Jx:List (Int × Int)→World→Prop} (hJ:bN 246 K.B J) (hJx:bN 246 K.B Jx) (hT:j6 K J Jx) {pm:Option Nat} {E:Env} {cs:List Int} (w:World) (hst:iU K J Jx pm E cs w) (hcs:cs.length<1000000) (hwt:eU K.p≤1125899906842624) :
  Calls Tryz.prog 223 #[.pointer (some ⟨K.q,0,none⟩)] w fun o w'=>o=.returned (.tuple #[])∧Told K J Jx pm E (cs++[gL K.p (bW (countP K.p))]) w w':=by
 obtain ⟨over,hk,hs⟩:=hst.ex;have hpart:=fun (W:World) (hW:Below w.heap.size w W)=>(hk.new hW).prog_part
 have HPART:=zhd hpart;have hb1:=zba w (.cells K.p.arr 35);have hbz:=zba w (.cells bH.arr 35);have hB:=zan w (.cells K.p.arr 35);have HB1:=zhd hb1;have HBZ:=zhd hbz;have HBX:=zhd hB;have HK:=zhd hk;have HST:=zhd hst;clear hpart hb1 hbz hB hk hst hs;obtain ⟨sz,hsz⟩:∃sz,bW (countP K.p)=sz:=⟨_,rfl⟩;obtain ⟨l1,hl1⟩:∃x,dx K.p 16 256=x:=⟨_,rfl⟩;obtain ⟨l2,hl2⟩:∃x,dx K.p 2000 20000=x:=⟨_,rfl⟩;have hpe:gL K.p sz=if (decide (K.p.blocks<1) || decide (8<K.p.blocks) || !bG K.p.width)=true then 320 else if (decide (16<K.p.inputs.length) || decide (16<K.p.ghosts.length) || decide (l1<(K.p.vars.length:Int)) || decide (16<K.p.arrays.length) || decide (16<K.p.procs.length) || decide (l2<sz))=true then 5 else 0:=by
  unfold gL;rw [hl1,hl2];have e1:(K.p.blocks<1∨K.p.blocks>8∨bG K.p.width=false)↔((decide (K.p.blocks<1) || decide (8<K.p.blocks) || !bG K.p.width)=true):=by simp [or_assoc]
  have e2:(K.p.inputs.length>16∨K.p.ghosts.length>16∨(K.p.vars.length:Int)>l1∨K.p.arrays.length>16∨K.p.procs.length>16∨sz>l2)↔((decide (16<K.p.inputs.length) || decide (16<K.p.ghosts.length) || decide (l1<(K.p.vars.length:Int)) || decide (16<K.p.arrays.length) || decide (16<K.p.procs.length) || decide (l2<sz))=true):=by simp [or_assoc]
  simp only [e1,e2]
 rw [hsz];obtain ⟨pe,hpe0⟩:∃pe,gL K.p sz=pe:=⟨_,rfl⟩;rw [hpe0] at hpe ⊢;have HPE:=zhd hpe;have HSZ0:=zhd hsz;have HL10:=zhd hl1;have HL20:=zhd hl2;clear hpe hpe0 hsz hl1 hl2;go_enter Tryz.func223,Tryz.ntmps223
 go_upto_region 1 with (first
  | (refine kQ rfl 35 _ rfl K.q 0 rfl K.p.arr _ (HPART.out _ (by first | exact Below.refl _ _ | exact HBZ.out)) Tryz.underlying35 rfl (aN K.p) ?_)
  | (refine aO (t:=35) rfl rfl (gm _) ?_)
  | (refine fU (t:=35) rfl _ _ rfl rfl rfl (aN K.p) rfl (jg K.p) ?_)
  | fail)
 generalize hW1:w.alloc (.cells K.p.arr 35)=W1 at *;generalize hv8:Value.agg K.p.arr=v8;have c0:W1.cell? ⟨w.heap.size,0,none⟩=some (.int .i64 K.p.blocks):=by simp [World.cell?,HBX.out,af.arr,af.cells]
 have c1:W1.cell? ⟨w.heap.size,1,none⟩=some (.int .i64 K.p.width):=by simp [World.cell?,HBX.out,af.arr,af.cells]
 have c2:W1.cell? ⟨w.heap.size,2,none⟩=some (.slice K.p.is.at_ K.p.inputs.length K.p.is.cap):=by simp [World.cell?,HBX.out,af.arr,af.cells,Sp.val]
 have c3:W1.cell? ⟨w.heap.size,3,none⟩=some (.slice K.p.gs.at_ K.p.ghosts.length K.p.gs.cap):=by simp [World.cell?,HBX.out,af.arr,af.cells,Sp.val]
 have c4:W1.cell? ⟨w.heap.size,4,none⟩=some (.slice K.p.vs.at_ K.p.vars.length K.p.vs.cap):=by simp [World.cell?,HBX.out,af.arr,af.cells,Sp.val]
 have c5:W1.cell? ⟨w.heap.size,5,none⟩=some (.slice K.p.as.at_ K.p.arrays.length K.p.as.cap):=by simp [World.cell?,HBX.out,af.arr,af.cells,Sp.val]
 have c13:W1.cell? ⟨w.heap.size,13,none⟩=some (.slice K.p.rs.at_ K.p.procs.length K.p.rs.cap):=by simp [World.cell?,HBX.out,af.arr,af.cells,Sp.val]
 have HLIM:=zhd (fun (a b:Int)=>rz W1 (HK.out.new HB1.out) a b);have hnw:K.n₀≤w.heap.size:=by have:=HK.out.lt;have:=HK.out.q;have:=HK.out.n0;omega
 have HTELL:Hid (∀(W:World) (c:Int),Below w.heap.size w W→Calls Tryz.prog 228 #[.pointer (some ⟨K.q,0,none⟩),.int .i64 c] W fun o W'=>o=.returned (.tuple #[])∧Told K J Jx pm E (cs++[c]) w W'):=zhd fun W c hW =>
  (hT pm E cs W c (HST.out.new hJ hJx hW) hcs).mono fun o W' ⟨h1,h2⟩=>⟨h1,⟨h2.st,(bg.of_below hW hnw).trans h2.keeps⟩⟩
 have HSZ:=zhd (yC W1 K.p ((HK.out.prog.below (HB1.out.mono hnw)).more (by have:=HB1.out.size;omega)) hwt);rw [ut,hv8] at HSZ;rw [HSZ0.out] at HSZ;have hli:=HK.out.prog.inputs.row.few;have hlg:=HK.out.prog.ghosts.row.few;have hlv:=HK.out.prog.vars.row.few;have hla:=HK.out.prog.arrays.row.few;have hlp:=HK.out.prog.prow.few;have HL1:=zhd (HLIM.out 16 256);have HL2:=zhd (HLIM.out 2000 20000);rw [HL10.out] at HL1;rw [HL20.out] at HL2;clear HLIM hwt hW1 HSZ0 HL10 HL20;go_upto_region 3 with (first | (go_at_call 253;refine HL1.out.mono ?_;clear HL1;rintro o7 w7 ⟨rfl,rfl⟩) | (go_at_call 253;refine HL2.out.mono ?_;rintro o7 w7 ⟨rfl,rfl⟩) | fail)
 generalize K.p.blocks=bk at *;generalize K.p.width=wd at *;have HWI:=zhd (bT wd W1);generalize bG wd=wi at *
 go_cut [15] (fun s15 wx=>s15=.bool (decide (bk<1) || decide (8<bk) || !wi)∧W1=wx)
 case first =>
  clear HTELL HSZ HPART HPE;by_cases a1:bk<1
  ·go_wp2_with fail
   go_meet
   case rel=>exact ⟨congrArg Value.bool (by simp [a1]),rfl⟩
  ·by_cases a2:8<bk
   ·go_wp2_with fail
    go_meet
    case rel=>exact ⟨congrArg Value.bool (by simp [a2]),rfl⟩
   ·have d1:decide (bk<1)=false:=decide_eq_false a1
    have d2:decide (8<bk)=false:=decide_eq_false a2;have D1:=zhd d1;have D2:=zhd d2;go_wp2_with (first | (go_at_call 254;refine HWI.out.mono ?_;rintro o7 w7 ⟨rfl,rfl⟩) | fail)
    go_meet
    case rel=>exact ⟨congrArg Value.bool (by rw [D1.out,D2.out];rfl),rfl⟩
 case rest =>
  obtain ⟨rfl,rfl⟩:=hcut;obtain ⟨b3,hb3⟩:∃b,(decide (bk<1) || decide (8<bk) || !wi)=b:=⟨_,rfl⟩;rw [hb3] at HPE ⊢;clear hb3 HWI;cases b3 with
  | true =>
   have hres:pe=320:=by rw [HPE.out];rfl
   have HRES:=zhd hres;clear hres HSZ;go_wp2_with (first | (go_at_call 228;refine (HTELL.out _ _ HB1.out).mono ?_;rintro o9 w9 ⟨rfl,ht9⟩) | fail)
   go_returns
   exact ⟨rfl,by rw [HRES.out];exact ht9⟩
  | false =>
   go_upto_region 5 with fail
   go_cut [32] (fun s32 wx=>s32=.bool (decide (16<K.p.inputs.length) || decide (16<K.p.ghosts.length) || decide (l1<(K.p.vars.length:Int)) || decide (16<K.p.arrays.length) || decide (16<K.p.procs.length) || decide (l2<sz))∧Below W1.heap.size W1 wx)
   case first =>
    clear HTELL HPART HPE;by_cases a0:16<K.p.inputs.length
    ·have d0:decide (16<K.p.inputs.length)=true:=decide_eq_true a0
     have e0:decide ((16:Int)<(K.p.inputs.length:Int))=true:=decide_eq_true (by omega);have D0:=zhd d0;clear a0;clear HSZ;go_wp2_with fail
     go_meet
     case rel=>exact ⟨congrArg Value.bool (by rw [D0.out];rfl),Below.refl _ _⟩
    ·have d0:decide (16<K.p.inputs.length)=false:=decide_eq_false a0
     have e0:decide ((16:Int)<(K.p.inputs.length:Int))=false:=decide_eq_false (by omega);have D0:=zhd d0;clear a0;by_cases a1:16<K.p.ghosts.length
     ·have d1:decide (16<K.p.ghosts.length)=true:=decide_eq_true a1
      have e1:decide ((16:Int)<(K.p.ghosts.length:Int))=true:=decide_eq_true (by omega);have D1:=zhd d1;clear a1;clear HSZ;go_wp2_with fail
      go_meet
      case rel=>exact ⟨congrArg Value.bool (by rw [D0.out,D1.out];rfl),Below.refl _ _⟩
     ·have d1:decide (16<K.p.ghosts.length)=false:=decide_eq_false a1
      have e1:decide ((16:Int)<(K.p.ghosts.length:Int))=false:=decide_eq_false (by omega);have D1:=zhd d1;clear a1;by_cases a2:l1<(K.p.vars.length:Int)
      ·have d2:decide (l1<(K.p.vars.length:Int))=true:=decide_eq_true a2
       have D2:=zhd d2;clear a2;clear HSZ;go_wp2_with fail
       go_meet
       case rel=>exact ⟨congrArg Value.bool (by rw [D0.out,D1.out,D2.out];rfl),Below.refl _ _⟩
      ·have d2:decide (l1<(K.p.vars.length:Int))=false:=decide_eq_false a2
       have D2:=zhd d2;clear a2;by_cases a3:16<K.p.arrays.length
       ·have d3:decide (16<K.p.arrays.length)=true:=decide_eq_true a3
        have e3:decide ((16:Int)<(K.p.arrays.length:Int))=true:=decide_eq_true (by omega);have D3:=zhd d3;clear a3;clear HSZ;go_wp2_with fail
        go_meet
        case rel=>exact ⟨congrArg Value.bool (by rw [D0.out,D1.out,D2.out,D3.out];rfl),Below.refl _ _⟩
       ·have d3:decide (16<K.p.arrays.length)=false:=decide_eq_false a3
        have e3:decide ((16:Int)<(K.p.arrays.length:Int))=false:=decide_eq_false (by omega);have D3:=zhd d3;clear a3;by_cases a4:16<K.p.procs.length
        ·have d4:decide (16<K.p.procs.length)=true:=decide_eq_true a4
         have e4:decide ((16:Int)<(K.p.procs.length:Int))=true:=decide_eq_true (by omega);have D4:=zhd d4;clear a4;clear HSZ;go_wp2_with fail
         go_meet
         case rel=>exact ⟨congrArg Value.bool (by rw [D0.out,D1.out,D2.out,D3.out,D4.out];rfl),Below.refl _ _⟩
        ·have d4:decide (16<K.p.procs.length)=false:=decide_eq_false a4
         have e4:decide ((16:Int)<(K.p.procs.length:Int))=false:=decide_eq_false (by omega);have D4:=zhd d4;clear a4;go_wp2_with (first | (refine qK (by rfl) 35 _ rfl w.heap.size rfl 35 _ (0,0) _ HBX.out Tryz.underlying35 rfl (aN K.p) ?_) | (go_at_call 53;refine HSZ.out.mono ?_;rintro o7 w7 ⟨rfl,hb7⟩;have HB7:=zhd hb7;clear hb7) | fail)
         go_meet
         case rel=>exact ⟨congrArg Value.bool (by rw [D0.out,D1.out,D2.out,D3.out,D4.out];rfl),HB7.out⟩
   case rest =>
    obtain ⟨rfl,hb8⟩:=hcut;obtain ⟨b5,hb5⟩:∃b,(decide (16<K.p.inputs.length) || decide (16<K.p.ghosts.length) || decide (l1<(K.p.vars.length:Int)) || decide (16<K.p.arrays.length) || decide (16<K.p.procs.length) || decide (l2<sz))=b:=⟨_,rfl⟩;rw [hb5] at HPE ⊢;have HB8:=zhd (HB1.out.trans (hb8.mono HB1.out.size));clear hb5 hb8 HSZ c0 c1 c2 c3 c4 c5 c13;cases b5
    all_goals
     have hres:=HPE.out;simp only [Bool.false_eq_true,if_false,if_true] at hres;have HRES:=zhd hres;clear hres;go_wp2_with (first | (go_at_call 228;refine (HTELL.out _ _ HB8.out).mono ?_;rintro o9 w9 ⟨rfl,ht9⟩) | fail)
     go_returns
     exact ⟨rfl,by rw [HRES.out];exact ht9⟩
end
section
open Go Go.RowKit Go.Maps
theorem Gx (y:bn) (xb:Nat) (blk:Int) (W:World) (h:W.cell? ⟨xb,0,none⟩=some (.int .i64 blk)) (hlt:xb<W.heap.size) :
  Calls Tryz.prog 227 #[y.val,.pointer (some ⟨xb,0,none⟩)] W fun o w'=>o=.returned (.bool (decide (y.block=blk)))∧Below W.heap.size W w':=by
 have hb1:=zba W (.cells #[.int .i64 y.block,.int .u8 y.value.kind,.int .u8 y.value.op,.int .u32 y.value.value,.int .i64 y.value.width,.string y.value.name,.slice y.value.sp.at_ y.value.subs.length y.value.sp.cap] 149);have h2:=(hb1.cell (p:=⟨xb,0,none⟩) hlt).trans h;have HB1:=zhd hb1;clear h hb1;simp only [bn.val,Sp.val];by_cases e:y.block=blk
 ·have hd:decide (y.block=blk)=true:=decide_eq_true e
  have he:(y.block == blk)=true:=by simpa using e
  rw [hd];clear hd e;go_enter Tryz.func227,Tryz.ntmps227
  go_wp2_with fail
  go_ret
  exact ⟨rfl,HB1.out⟩
 ·have hd:decide (y.block=blk)=false:=decide_eq_false e
  have he:(y.block == blk)=false:=by simpa using e
  rw [hd];clear hd e;go_enter Tryz.func227,Tryz.ntmps227
  go_wp2_with fail
  go_ret
  exact ⟨rfl,HB1.out⟩
set_option maxRecDepth 1000000 in
set_option maxHeartbeats 2000000 in
theorem Da (w:World) {n₀:Nat} {sp:Sp} {l:List bn} (row:RowOf n₀ w sp 7 bn.cells l) (hn:n₀≤w.heap.size) (k:Nat) (hk:k≤l.length) (c:Nat) (xb:Nat) (blk:Int) (hx:w.cell? ⟨xb,0,none⟩=some (.int .i64 blk)) (hlt:xb<w.heap.size) :
  Calls Tryz.prog 259 #[.slice sp.at_ k c,.func (.func 227) #[] #[.pointer (some ⟨xb,0,none⟩)]] w fun o w'=>(∃z:Int,-1≤z∧o=.returned (.int .i64 z)∧(0≤z↔blk∈(l.take k).map bn.block))∧Below w.heap.size w w':=by
 have hll:=row.few;have HROW:=zhd row;have HX:=zhd hx;clear row hx;go_enter Tryz.func259,Tryz.ntmps259
 go_wp2_with fail
 go_loopw [8] (fun i wr=>∃j:Nat,j≤k∧i=.int .i64 j∧Hid (blk∉(l.take j).map bn.block)∧Below w.heap.size w wr) (fun i _=>k - (intOf i).toNat)
 case atStart=>exact ⟨0,Nat.zero_le _,rfl,zhd (by simp),Below.refl _ _⟩
 case round =>
  obtain ⟨j,hj,rfl,HNO,hb⟩:=hrel;have HB:=zhd hb;clear hb;by_cases hjk:j<k
  ·have hjl:j<l.length:=by omega
   obtain ⟨b,off,eA,hbn,hcell⟩:=(HROW.out.below (HB.out.mono hn)).row (by omega);have k0:wr.cell? ⟨b,off+j*7,none⟩=some (.int .i64 l[j].block):=hcell j hjl 0 _ rfl;have k1:wr.cell? ⟨b,off+j*7+1,none⟩=some (.int .u8 l[j].value.kind):=hcell j hjl 1 _ rfl;have k2:wr.cell? ⟨b,off+j*7+2,none⟩=some (.int .u8 l[j].value.op):=hcell j hjl 2 _ rfl;have k3:wr.cell? ⟨b,off+j*7+3,none⟩=some (.int .u32 l[j].value.value):=hcell j hjl 3 _ rfl;have k4:wr.cell? ⟨b,off+j*7+4,none⟩=some (.int .i64 l[j].value.width):=hcell j hjl 4 _ rfl;have k5:wr.cell? ⟨b,off+j*7+5,none⟩=some (.string l[j].value.name):=hcell j hjl 5 _ rfl;have k6:wr.cell? ⟨b,off+j*7+6,none⟩=some (.slice l[j].value.sp.at_ l[j].value.subs.length l[j].value.sp.cap):=hcell j hjl 6 _ rfl;have hts:l.take (j+1)=l.take j++[l[j]]:=List.take_succ_eq_append_getElem hjl;have hmt:j<k→l[j].block∈(l.take k).map bn.block:=fun h=>List.mem_map.2 ⟨l[j],by rw [List.mem_take_iff_getElem];exact ⟨j,by omega,rfl⟩,rfl⟩
   have HTS:=zhd hts;have HMT:=zhd hmt;generalize l[j]=y at *;have hxw:=(HB.out.cell (p:=⟨xb,0,none⟩) hlt).trans HX.out;have hA1:=Gx y xb blk wr hxw (by have:=HB.out.size;omega);simp only [bn.val,Sp.val] at hA1;have hj0:(0:Int)≤(j:Int):=by omega
   have hj1:(j:Int)<(k:Int):=by omega
   clear hcell hts hmt hxw;rw [eA];clear eA;by_cases e:y.block=blk
   ·rw [decide_eq_true e] at hA1
    have HA1:=zhd hA1;have HE:=zhd e;clear hA1 e;go_wp2_with fail
    refine HA1.out.mono ?_;rintro o w2 ⟨rfl,hb2⟩;have HB2:=zhd hb2;clear hb2 k0 k1 k2 k3 k4 k5 k6;go_wp2_with fail
    go_ret
    exact ⟨⟨j,by omega,rfl,iff_of_true (by omega) (by rw [←HE.out];exact HMT.out hjk)⟩,HB.out.trans (HB2.out.mono HB.out.size)⟩
   ·rw [decide_eq_false e] at hA1
    have HA1:=zhd hA1;have HE:=zhd e;clear hA1 e;go_wp2_with fail
    refine HA1.out.mono ?_;rintro o w2 ⟨rfl,hb2⟩;have HB2:=zhd hb2;clear hb2 k0 k1 k2 k3 k4 k5 k6;go_wp2_with fail
    go_roundw
    case rel=>exact ⟨j+1,by omega,by go_num,zhd (by
     rw [HTS.out,List.map_append,List.mem_append];rintro (h | h)
     ·exact HNO.out h
     ·simp at h;exact HE.out h.symm),HB.out.trans (HB2.out.mono HB.out.size)⟩
    case measure=>simp [intOf];omega
  ·obtain rfl:j=k:=by omega
   go_wp2_with fail
   go_ret
   exact ⟨⟨-1,by omega,rfl,by have:=HNO.out;constructor <;> intro h;omega;exact absurd h this⟩,HB.out⟩
theorem wT (w:World) {n₀:Nat} {sp:Sp} {l:List bn} (row:RowOf n₀ w sp 7 bn.cells l) (hn:n₀≤w.heap.size) (k:Nat) (hk:k≤l.length) (c:Nat) (xb:Nat) (blk:Int) (hx:w.cell? ⟨xb,0,none⟩=some (.int .i64 blk)) (hlt:xb<w.heap.size) :
  Calls Tryz.prog 226 #[.slice sp.at_ k c,.func (.func 227) #[] #[.pointer (some ⟨xb,0,none⟩)]] w fun o w'=>o=.returned (.bool (decide (blk∈(l.take k).map bn.block)))∧Below w.heap.size w w':=by
 have H:=zhd (Da w row hn k hk c xb blk hx hlt);obtain ⟨res,hres⟩:∃res,decide (blk∈(l.take k).map bn.block)=res:=⟨_,rfl⟩;rw [hres];have HR:=zhd hres;clear hres row hx;go_enter Tryz.func226,Tryz.ntmps226
 go_wp2_with (first | (go_at_call 259;refine H.out.mono ?_;rintro o2 w2 ⟨⟨z,hz1,rfl,hz⟩,hb2⟩;have HZ:=zhd hz;have HB2:=zhd hb2;clear hz hb2) | fail)
 go_ret
 exact ⟨by rw [show decide (0≤z)=res by rw [←HR.out,Bool.eq_iff_iff,decide_eq_true_iff,decide_eq_true_iff];exact HZ.out];rfl,HB2.out⟩
end
section
open Go Go.RowKit Go.Maps
def oF (p:af) (j:Nat):List ByteArray:=(List.range j).flatMap fun i=>(listAt p i).map aG.name
def pU (p:af) (j:Nat):List Int:=(List.range j).flatMap fun i=>bB p (decide (i=3)) (listAt p i) (oF p i)
theorem xC (p:af) (j:Nat):oF p (j+1)=oF p j++(listAt p j).map aG.name:=by
 unfold oF;rw [List.range_succ,List.flatMap_append];simp
theorem qW (p:af) (j:Nat):pU p (j+1)=pU p j++bB p (decide (j=3)) (listAt p j) (oF p j):=by
 unfold pU;rw [List.range_succ,List.flatMap_append];simp
theorem xA (p:af):oF p 4=cZ p:=by
 simp [oF,List.range,List.range.loop,listAt,cZ,oO,names2,oN]
theorem EJ (p:af):pU p 4=bB p false p.inputs []++(bB p false p.ghosts (oN p)++(bB p false p.vars (names2 p)++bB p true p.arrays (oO p))):=by
 simp [pU,oF,List.range,List.range.loop,listAt,oO,names2,oN]
theorem wS (p:af) (n:Int):bK p n=((((((([gL p n]++pU p 4)++fC p outside 1 p.require 1)++cO p p.inits [])++bV p p.procs 0 (cZ p))++aH p outside p.work 1)++aH p outside p.recover 1)++fC p outside 2 p.invariant 1):=by
 rw [EJ];unfold bK;simp
theorem mi (p:af):∀j,(pU p j).length=(oF p j).length
 | 0=>rfl
 | j+1=>by rw [qW,xC,List.length_append,List.length_append,mi p j,fJ,List.length_map]
theorem mE (p:af):∀(l:List bn) (b:List Int) (x:bn),cO p (l++[x]) b=cO p l b++(sM p (b++l.map bn.block) x::fC p outside 1 x.value 1)
 | [],b,x=>by simp [cO]
 | y::l,b,x=>by
  rw [List.cons_append,cO,mE p l,cO];simp
theorem sZ (p:af):∀(l:List aK) (i:Nat) (b:List ByteArray) (q:aK),bV p (l++[q]) i b=bV p l i b++jS p (b++l.map aK.name) (i+l.length) q
 | [],i,b,q=>by simp [bV]
 | y::l,i,b,q=>by
  rw [List.cons_append,bV,sZ p l,bV];simp [Nat.add_assoc,Nat.add_comm 1]
theorem FI (p:af) (b b':List ByteArray) (i:Nat) (q:aK):(jS p b i q).length=(jS p b' i q).length:=rfl
structure iG (K:gp) (J Jx:List (Int × Int)→World→Prop) (w:World) (bp mb:Nat) (cs:List Int) (bef:List ByteArray) (X:World):Prop where
 st:∃pm,iU K J Jx pm outside cs X∧pm≠some mb
 keeps:bg K w X
 box:X.heap[bp]? = some (.cells K.p.arr 35 (0,0))
 bef:∃f n,n≤bef.length∧dD X mb n bef f
structure uA (K:gp) (w:World) (bp mb:Nat):Prop where
 hbp:w.heap.size≤bp
 hmb:bp<mb
 hq:K.q<w.heap.size
 hB:K.B≤K.q
 hn0:K.n₀≤w.heap.size
 hmt:K.mt<w.heap.size
 hmp:K.mp<w.heap.size
section
variable {K:gp} {J Jx:List (Int × Int)→World→Prop} {w:World} {bp mb:Nat} {cs:List Int} {bef:List ByteArray} {X X':World}
theorem iG.new (h:iG K J Jx w bp mb cs bef X) (hJ:bN 246 K.B J) (hJx:bN 246 K.B Jx) (F:uA K w bp mb) (hb:Below X.heap.size X X'):iG K J Jx w bp mb cs bef X':=by
 obtain ⟨pm,h1,h2⟩:=h.st;obtain ⟨f,n,h3,h4⟩:=h.bef;exact ⟨⟨pm,h1.new hJ hJx hb,h2⟩,h.keeps.trans (.of_below hb (Nat.le_trans F.hn0 h.keeps.size)),(hb.block _ (zgs h.box).1).trans h.box,⟨f,n,h3,h4.new hb⟩⟩
theorem iG.told (h:iG K J Jx w bp mb cs bef X) (F:uA K w bp mb) {cs':List Int} {pm:Option Nat} (hpm:pm≠some mb) (ht:Told K J Jx pm outside cs' X X'):iG K J Jx w bp mb cs' bef X':=by
 obtain ⟨f,n,h3,h4⟩:=h.bef;have h5:=F.hbp;have h6:=F.hmb;have h7:=F.hq;have h8:=F.hB;exact ⟨⟨pm,ht.st,hpm⟩,h.keeps.trans ht.keeps,ht.keeps.cells _ _ _ _ h.box rfl (by omega),⟨f,n,h3,h4.keeps ht.keeps (by omega)⟩⟩
theorem iG.entered (h:iG K J Jx w bp mb cs bef X) (F:uA K w bp mb) {cs':List Int} (ht:pI K J Jx outside cs' X X'):iG K J Jx w bp mb cs' bef X':=by
 obtain ⟨f,n,h3,h4⟩:=h.bef;have h5:=F.hbp;have h6:=F.hmb;have h7:=F.hq;have h8:=F.hB;obtain ⟨pm,h9,h10⟩:=ht.st;have h11:=h4.map.lt;exact ⟨⟨pm,h9,fun e=>by have:=h10 _ e;omega⟩,h.keeps.trans ht.keeps,ht.keeps.cells _ _ _ _ h.box rfl (by omega),⟨f,n,h3,h4.keeps ht.keeps (by omega)⟩⟩
theorem iG.stored (h:iG K J Jx w bp mb cs bef X) (hJ:bN 246 K.B J) (hJx:bN 246 K.B Jx) (F:uA K w bp mb) (ht:X.mapTurned X' mb) {s:ByteArray} {n:Nat} {f:ByteArray→Option Int} (hn:n≤bef.length) (hb:dD X' mb (n+1) (bef++[s]) f):iG K J Jx w bp mb cs (bef++[s]) X':=by
 have h5:=F.hbp;have h6:=F.hmb;have h7:=F.hq;have h8:=F.hB;have h9:=F.hmt;have h10:=F.hmp;obtain ⟨pm,h1,h2⟩:=h.st;have hlt:=(zgs h.box).1;refine ⟨⟨pm,h1.turned hJ hJx ht (by omega) (by omega) (by omega) h2,h2⟩,h.keeps.turned ht (by omega) F.hn0,(ht.grown.block _ hlt (by intro e;have:=Option.some.inj e;omega)).trans h.box,⟨f,n+1,by simp;omega,hb⟩⟩
end
theorem aW {W:World} {q:Nat} {p:af} (h:W.heap[q]? = some (.cells p.arr 35 (0,0))) (i:Nat) {v:Value} (hv:p.cells[i]? = some v):W.cell? ⟨q,i,none⟩=some v:=by
 simp [World.cell?,h,af.arr,hv]
end
end Go.Proofs.YtepacjkacjabbaaGreatDoor
