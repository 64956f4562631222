import Derived.Test.YtepacjkacjabbaaGreatDoorWAA
import Derived.Test.YtepacjkacjabbaaGreatDoorWAI
import Derived.Deep.CutBlock
import Derived.Deep.CutRange
import Derived.Test.YtepacjkacjabbaaGreatDoorWAC
import Derived.Deep.Draws
import Derived.StillTailTactics
import Derived.Deep.RegionHeld3
import Derived.Deep.QuietTactic
import Derived.BigQuiet
import Derived.Outline
import Derived.StillTail
import Derived.StillTactics
import Derived.OrdersIn
import Derived.TacticsIn
import Derived.BigRegion
namespace Go.Proofs.YtepacjkacjabbaaGreatDoor
section
open Go Go.RowKit Go.Maps
def E8 (K:iA) (pm:Option Nat) (E:Env) (n:Int) (over:Bool) (m:Nat) (W0:World) (e:ae):Prop :=
 ∀w,Below m W0 w→m≤w.heap.size→kC K pm E n over w →
  Calls Tryz.prog 230 #[.pointer (some ⟨K.q,0,none⟩),e.val] w fun o w'=>o=.returned (.int .i64 (bL K.p E e))∧Below w.heap.size w w'
set_option maxRecDepth 1000000 in
theorem K5 {K:iA} {pm:Option Nat} {E:Env} {n:Int} {over:Bool} {m:Nat} {W0:World} {e:ae} (row:RowOf m W0 e.sp 6 ae.cells e.subs) (IH:∀s∈e.subs,E8 K pm E n over m W0 s)
  (w:World) (hb:Below m W0 w) (hm:m≤w.heap.size) (hk:kC K pm E n over w) (B1 B0:Nat) (h1:w.heap[B1]? = some (.cells e.cells.toArray 30 (0,0))) (h0:w.heap[B0]? = some (.cells #[.pointer (some ⟨K.q,0,none⟩)] 242 (0,0)))
  (i:Nat) (hi:i≤2) :
  Calls Tryz.prog 260 #[.int .i64 i,.pointer (some ⟨B1,0,none⟩),.pointer (some ⟨B0,0,none⟩)] w fun o w'=>o=.returned (.int .i64 (bE K.p E e.subs i))∧Below w.heap.size w w':=by
 simp only [ae.cells,Sp.val] at h1;obtain ⟨-,-,-,-,-,c5⟩:=ah h1;have d0:=one_cell h0;have hcap:=row.few;clear h1 h0;by_cases hlt:i<e.subs.length
 ·obtain ⟨b,off,eA,hbn,hcell⟩:=(row.below hb).row (by omega)
  have hs:bE K.p E e.subs i=bL K.p E e.subs[i]:=by rw [bE,List.getElem?_eq_getElem hlt]
  rw [hs];have k0:w.cell? ⟨b,off+i*6,none⟩=some (.int .u8 e.subs[i].kind):=hcell i hlt 0 _ rfl;have k1:w.cell? ⟨b,off+i*6+1,none⟩=some (.int .u8 e.subs[i].op):=hcell i hlt 1 _ rfl;have k2:w.cell? ⟨b,off+i*6+2,none⟩=some (.int .u32 e.subs[i].value):=hcell i hlt 2 _ rfl;have k3:w.cell? ⟨b,off+i*6+3,none⟩=some (.int .i64 e.subs[i].width):=hcell i hlt 3 _ rfl;have k4:w.cell? ⟨b,off+i*6+4,none⟩=some (.string e.subs[i].name):=hcell i hlt 4 _ rfl;have k5:w.cell? ⟨b,off+i*6+5,none⟩=some (.slice e.subs[i].sp.at_ e.subs[i].subs.length e.subs[i].sp.cap):=hcell i hlt 5 _ rfl;have hbd:Below w.heap.size w w.drew:=(Below.refl _ _).drew;have hC:=IH _ (List.getElem_mem hlt) w.drew (hb.trans (hbd.mono hm)) hm (hk.new hbd);generalize e.subs[i]=x at *;simp only [ae.val,Sp.val] at hC;have HC:=zhd hC;have HBD:=zhd hbd;have hj0:(0:Int)≤(i:Int):=by omega
  have hj1:(i:Int)<(e.subs.length:Int):=by omega
  have hj2:decide (e.subs.length≤i)=false:=decide_eq_false (by omega);clear hcell hs hC IH row hk hb hbd;rw [eA] at c5;clear eA;go_enter Tryz.func260,Tryz.ntmps260
  go_wp2
  go_still_tail 6,(by kernel_rfl)
  change wpList _ _ _ _ _ w.drew;go_wp2_with fail
  refine HC.out.mono ?_;rintro o w1 ⟨rfl,hb1⟩;go_wp2_with fail
  go_ret
  exact ⟨rfl,HBD.out.trans hb1⟩
 ·have hs:bE K.p E e.subs i=0:=by rw [bE,List.getElem?_eq_none (by omega)]
  rw [hs];have hj2:decide (e.subs.length≤i)=true:=decide_eq_true (by omega);clear hs IH row hk hb hlt;go_enter Tryz.func260,Tryz.ntmps260
  go_wp2
  go_ret
  exact ⟨rfl,Below.refl _ _⟩
set_option maxRecDepth 1000000 in
set_option maxHeartbeats 4000000 in
theorem iR {K:iA} {pm:Option Nat} {E:Env} {n:Int} {over:Bool} {m:Nat} {W0:World} {e:ae} (h:iG m W0 e):E8 K pm E n over m W0 e:=by
 induction h with
 | mk e kk oo vv wd nm row subs ih =>
  intro w hb hm hk;have hwe:=fZ K.p E e;have hb2:Below w.heap.size w ((w.alloc (.cells #[.pointer (some ⟨K.q,0,none⟩)] 242)).alloc (.cells #[.int .u8 e.kind,.int .u8 e.op,.int .u32 e.value,.int .i64 e.width,.string e.name,.slice e.sp.at_ e.subs.length e.sp.cap] 30)):=((Below.refl _ _).alloc (Nat.le_refl _) _).alloc (by simp) _;have hB1:=zan (w.alloc (.cells #[.pointer (some ⟨K.q,0,none⟩)] 242)) (.cells #[.int .u8 e.kind,.int .u8 e.op,.int .u32 e.value,.int .i64 e.width,.string e.name,.slice e.sp.at_ e.subs.length e.sp.cap] 30);rw [World.size_alloc] at hB1;have hB0:=(Below.heap_alloc (w.alloc (.cells #[.pointer (some ⟨K.q,0,none⟩)] 242)) (.cells #[.int .u8 e.kind,.int .u8 e.op,.int .u32 e.value,.int .i64 e.width,.string e.name,.slice e.sp.at_ e.subs.length e.sp.cap] 30) w.heap.size (by simp)).trans (zan w _);have hs2:((w.alloc (.cells #[.pointer (some ⟨K.q,0,none⟩)] 242)).alloc (.cells #[.int .u8 e.kind,.int .u8 e.op,.int .u32 e.value,.int .i64 e.width,.string e.name,.slice e.sp.at_ e.subs.length e.sp.cap] 30)).heap.size=w.heap.size+2:=by simp
  have HB1:=zhd hB1;have HB0:=zhd hB0;have HB2:=zhd hb2;have HS2:=zhd hs2;have HIH:=zhd ih;have HROW:=zhd row;have HWE:=zhd hwe;have HK:=zhd hk;have HB:=zhd hb;clear hB1 hB0 hb2 hs2 ih row subs hwe hk hb;simp only [ae.val,Sp.val];go_enter Tryz.func230,Tryz.ntmps230
  go_upto_region 1 with (fail)
  generalize (w.alloc (.cells #[.pointer (some ⟨K.q,0,none⟩)] 242)).alloc (.cells #[.int .u8 e.kind,.int .u8 e.op,.int .u32 e.value,.int .i64 e.width,.string e.name,.slice e.sp.at_ e.subs.length e.sp.cap] 30)=W2 at *;have hck:=HK.out.new HB2.out;have hbW:Below m W0 W2:=HB.out.trans (HB2.out.mono hm);have hlt2:w.heap.size+1<W2.heap.size:=by have:=HS2.out;omega
  obtain ⟨c0,c1,c2,c3,c4,c5⟩:=ah HB1.out;have d0:=one_cell HB0.out;have HCK:=zhd hck;have HBW:=zhd hbW;clear hck hbW;have hq1:=HCK.out.c1;have HOK:=zhd oo;clear oo kk vv wd;have fin:∀(r:Int) (o:Ending) (w':World),dw K.p E e.kind e.op e.width e.name (bE K.p E e.subs 0) (bE K.p E e.subs 1)=r→o=.returned (.int .i64 (xX r))→Below W2.heap.size W2 w'→o=.returned (.int .i64 (bL K.p E e))∧Below w.heap.size w w' :=
   fun r o w' h1 h2 h3=>⟨by rw [HWE.out,h1];exact h2,HB2.out.trans (h3.mono (by omega))⟩
  have FIN:=zhd fin;have SUB:Hid (∀(i:Nat) (W:World),i≤2→Below W2.heap.size W2 W→Calls Tryz.prog 260 #[.int .i64 i,.pointer (some ⟨w.heap.size+1,0,none⟩),.pointer (some ⟨w.heap.size,0,none⟩)] W fun o w'=>o=.returned (.int .i64 (bE K.p E e.subs i))∧Below W.heap.size W w') :=
   zhd fun i W hi hW=>K5 HROW.out HIH.out W (HBW.out.trans (hW.mono (by omega))) (by have:=hW.size;omega) (HCK.out.new hW) _ _ ((hW.block _ hlt2).trans HB1.out) ((hW.block _ (by omega)).trans HB0.out) i hi
  clear fin;rcases (show e.kind=1∨e.kind=8∨e.kind=2∨e.kind=3∨e.kind=4∨e.kind=5∨e.kind=6∨e.kind=7∨(e.kind≠1∧e.kind≠8∧e.kind≠2∧e.kind≠3∧e.kind≠4∧e.kind≠5∧e.kind≠6∧e.kind≠7) by omega) with hkd | hkd | hkd | hkd | hkd | hkd | hkd | hkd | hkd
  case inl =>
   have hr:dw K.p E e.kind e.op e.width e.name (bE K.p E e.subs 0) (bE K.p E e.subs 1)=e.width:=by rw [hkd];rfl
   have HR:=zhd hr;rw [hkd] at c0;clear hkd hr;cases hw:bQ e.width
   all_goals
    have HW:=zhd (congrArg (fun b:Bool=>if b=true then e.width else 0) hw);go_wp2_with (go_at_call 254;refine (dS _ _).mono ?_;rintro o9 w9 ⟨rfl,rfl⟩)
    go_ret
    exact FIN.out _ _ _ HR.out (congrArg (fun x=>Ending.returned (.int .i64 x)) HW.out.symm) (Below.refl _ _)
  case inr.inl =>
   have hr:dw K.p E e.kind e.op e.width e.name (bE K.p E e.subs 0) (bE K.p E e.subs 1)=e.width:=by rw [hkd];rfl
   have HR:=zhd hr;rw [hkd] at c0;clear hkd hr;cases hw:bQ e.width
   all_goals
    have HW:=zhd (congrArg (fun b:Bool=>if b=true then e.width else 0) hw);go_wp2_with (go_at_call 254;refine (dS _ _).mono ?_;rintro o9 w9 ⟨rfl,rfl⟩)
    go_ret
    exact FIN.out _ _ _ HR.out (congrArg (fun x=>Ending.returned (.int .i64 x)) HW.out.symm) (Below.refl _ _)
  case inr.inr.inr.inr.inl =>
   have hr:dw K.p E e.kind e.op e.width e.name (bE K.p E e.subs 0) (bE K.p E e.subs 1)=K.p.width:=by rw [hkd];rfl
   have HR:=zhd hr;rw [hkd] at c0;clear hkd hr;cases hw:bQ K.p.width
   all_goals
    have HW:=zhd (congrArg (fun b:Bool=>if b=true then K.p.width else 0) hw);go_wp2_with (go_at_call 254;refine (dS _ _).mono ?_;rintro o9 w9 ⟨rfl,rfl⟩)
    go_ret
    exact FIN.out _ _ _ HR.out (congrArg (fun x=>Ending.returned (.int .i64 x)) HW.out.symm) (Below.refl _ _)
  case inr.inr.inr.inr.inr.inr.inr.inl =>
   have hr:dw K.p E e.kind e.op e.width e.name (bE K.p E e.subs 0) (bE K.p E e.subs 1)=bE K.p E e.subs 1:=by rw [hkd];rfl
   have HR:=zhd hr;rw [hkd] at c0;have HSB:=zhd (SUB.out 1);clear hkd hr SUB;generalize bE K.p E e.subs 1=s1 at *;cases hw:bQ s1
   all_goals
    have HW:=zhd (congrArg (fun b:Bool=>if b=true then s1 else 0) hw);go_wp2_with (first | (go_at_call 254;refine (dS _ _).mono ?_;rintro o9 w9 ⟨rfl,rfl⟩) | (go_at_call 260;refine (HSB.out _ (by omega) (Below.refl _ _)).mono ?_;rintro o8 w8 ⟨rfl,hb8⟩;have HB8:=zhd hb8;clear hb8) | fail)
    go_ret
    exact FIN.out _ _ _ HR.out (congrArg (fun x=>Ending.returned (.int .i64 x)) HW.out.symm) HB8.out
  case inr.inr.inr.inr.inr.inr.inr.inr =>
   have hr:dw K.p E e.kind e.op e.width e.name (bE K.p E e.subs 0) (bE K.p E e.subs 1)=0:=by
    unfold dw;rw [if_neg (by omega),if_neg (by omega),if_neg (by omega),if_neg (by omega),if_neg (by omega)]
   have HR:=zhd hr;have HW:Hid (0=xX 0):=zhd rfl;obtain ⟨h1,h8,h2,h3,h4,h5,h6,h7⟩:=hkd;have g1:(e.kind == 1)=false:=by simpa using h1
   have g2:(e.kind == 2)=false:=by simpa using h2
   have g3:(e.kind == 3)=false:=by simpa using h3
   have g4:(e.kind == 4)=false:=by simpa using h4
   have g5:(e.kind == 5)=false:=by simpa using h5
   have g6:(e.kind == 6)=false:=by simpa using h6
   have g7:(e.kind == 7)=false:=by simpa using h7
   have g8:(e.kind == 8)=false:=by simpa using h8
   have hw:bQ 0=false:=rfl;clear h1 h2 h3 h4 h5 h6 h7 h8 hr;go_wp2_with (go_at_call 254;refine (dS _ _).mono ?_;rintro o9 w9 ⟨rfl,rfl⟩)
   go_ret
   exact FIN.out _ _ _ HR.out (congrArg (fun x=>Ending.returned (.int .i64 x)) HW.out) (Below.refl _ _)
  case inr.inr.inl =>
   have hr:dw K.p E e.kind e.op e.width e.name (bE K.p E e.subs 0) (bE K.p E e.subs 1)=if (aJ K.p E e.name).kind≠0∧((aJ K.p E e.name).kind=4↔(2:Int)=3) then (aJ K.p E e.name).width else 0:=by rw [hkd];rfl
   have HR:=zhd hr;have HF:=zhd (rE W2 HCK.out e.name nm);rw [hkd] at c0 HB1;clear hkd hr SUB;generalize aJ K.p E e.name=x at *;obtain ⟨xk,xw⟩:=x;simp only at HR HF;go_wp2_with fail
   refine HF.out.mono ?_;rintro o w1 ⟨rfl,hb1⟩;have HBN:=zhd (hb1.alloc hb1.size (.cells #[.int .u8 xk,.int .i64 xw] 264));obtain ⟨c0',-,-,-,-,-⟩:=ah ((HBN.out.block _ hlt2).trans HB1.out);clear hb1 c0 c1 c2 c3 c4 c5 d0 hq1;by_cases hx0:xk=0
   ·have HZ:Hid ((if xk≠0∧(xk=4↔(2:Int)=3) then xw else 0)=0):=zhd (if_neg (by omega))
    have HW:Hid (0=xX 0):=zhd rfl;subst hx0;have hw:bQ 0=false:=rfl;go_wp2_with (go_at_call 254;refine (dS _ _).mono ?_;rintro o9 w9 ⟨rfl,rfl⟩)
    go_ret
    exact FIN.out _ _ _ (HR.out.trans HZ.out) (congrArg (fun x=>Ending.returned (.int .i64 x)) HW.out) HBN.out
   ·have g0:(xk == 0)=false:=by simpa using hx0
    have g0':(xk != 0)=true:=by simpa using hx0
    by_cases hx4:xk=4
    ·have HZ:Hid ((if xk≠0∧(xk=4↔(2:Int)=3) then xw else 0)=0):=zhd (if_neg (by omega))
     subst hx4;clear hx0;have HW:Hid (0=xX 0):=zhd rfl;have hw:bQ 0=false:=rfl;go_wp2_with (go_at_call 254;refine (dS _ _).mono ?_;rintro o9 w9 ⟨rfl,rfl⟩)
     go_ret
     exact FIN.out _ _ _ (HR.out.trans HZ.out) (congrArg (fun x=>Ending.returned (.int .i64 x)) HW.out) HBN.out
    ·have HZ:Hid ((if xk≠0∧(xk=4↔(2:Int)=3) then xw else 0)=xw):=zhd (if_pos (by omega))
     have g4:(xk == 4)=false:=by simpa using hx4
     clear hx0 hx4;cases hw:bQ xw
     all_goals
      have HW:=zhd (congrArg (fun b:Bool=>if b=true then xw else 0) hw);go_wp2_with (go_at_call 254;refine (dS _ _).mono ?_;rintro o9 w9 ⟨rfl,rfl⟩)
      go_ret
      exact FIN.out _ _ _ (HR.out.trans HZ.out) (congrArg (fun x=>Ending.returned (.int .i64 x)) HW.out.symm) HBN.out
  case inr.inr.inr.inl =>
   have hr:dw K.p E e.kind e.op e.width e.name (bE K.p E e.subs 0) (bE K.p E e.subs 1)=if (aJ K.p E e.name).kind≠0∧((aJ K.p E e.name).kind=4↔(3:Int)=3) then (aJ K.p E e.name).width else 0:=by rw [hkd];rfl
   have HR:=zhd hr;have HF:=zhd (rE W2 HCK.out e.name nm);rw [hkd] at c0 HB1;clear hkd hr SUB;generalize aJ K.p E e.name=x at *;obtain ⟨xk,xw⟩:=x;simp only at HR HF;go_wp2_with fail
   refine HF.out.mono ?_;rintro o w1 ⟨rfl,hb1⟩;have HBN:=zhd (hb1.alloc hb1.size (.cells #[.int .u8 xk,.int .i64 xw] 264));obtain ⟨c0',-,-,-,-,-⟩:=ah ((HBN.out.block _ hlt2).trans HB1.out);clear hb1 c0 c1 c2 c3 c4 c5 d0 hq1;by_cases hx0:xk=0
   ·have HZ:Hid ((if xk≠0∧(xk=4↔(3:Int)=3) then xw else 0)=0):=zhd (if_neg (by omega))
    have HW:Hid (0=xX 0):=zhd rfl;subst hx0;have hw:bQ 0=false:=rfl;go_wp2_with (go_at_call 254;refine (dS _ _).mono ?_;rintro o9 w9 ⟨rfl,rfl⟩)
    go_ret
    exact FIN.out _ _ _ (HR.out.trans HZ.out) (congrArg (fun x=>Ending.returned (.int .i64 x)) HW.out) HBN.out
   ·have g0:(xk == 0)=false:=by simpa using hx0
    have g0':(xk != 0)=true:=by simpa using hx0
    by_cases hx4:xk=4
    ·have HZ:Hid ((if xk≠0∧(xk=4↔(3:Int)=3) then xw else 0)=xw):=zhd (if_pos (by omega))
     subst hx4;clear hx0;cases hw:bQ xw
     all_goals
      have HW:=zhd (congrArg (fun b:Bool=>if b=true then xw else 0) hw);go_wp2_with (go_at_call 254;refine (dS _ _).mono ?_;rintro o9 w9 ⟨rfl,rfl⟩)
      go_ret
      exact FIN.out _ _ _ (HR.out.trans HZ.out) (congrArg (fun x=>Ending.returned (.int .i64 x)) HW.out.symm) HBN.out
    ·have HZ:Hid ((if xk≠0∧(xk=4↔(3:Int)=3) then xw else 0)=0):=zhd (if_neg (by omega))
     have g4:(xk == 4)=false:=by simpa using hx4
     clear hx0 hx4;have HW:Hid (0=xX 0):=zhd rfl;have hw:bQ 0=false:=rfl;go_wp2_with (go_at_call 254;refine (dS _ _).mono ?_;rintro o9 w9 ⟨rfl,rfl⟩)
     go_ret
     exact FIN.out _ _ _ (HR.out.trans HZ.out) (congrArg (fun x=>Ending.returned (.int .i64 x)) HW.out) HBN.out
  case inr.inr.inr.inr.inr.inl =>
   have hr:dw K.p E e.kind e.op e.width e.name (bE K.p E e.subs 0) (bE K.p E e.subs 1)=iB e.op (bE K.p E e.subs 0):=by rw [hkd];rfl
   obtain ⟨k,hk⟩:∃k:Nat,e.op=(k:Int):=⟨e.op.toNat,by have:=HOK.out;omega⟩;have hk2:k≤255:=by have:=HOK.out;omega
   have HSB:=zhd (SUB.out 0);have HO:=zhd (fun W=>vg k hk2 (bE K.p E e.subs 0) W);have HR:=zhd (hr.trans (by rw [hk]:iB e.op (bE K.p E e.subs 0)=iB (k:Int) (bE K.p E e.subs 0)));rw [hk] at c1 HB1;rw [hkd] at c0 HB1;have HC1:Hid (∀W,Below W2.heap.size W2 W→W.cell? ⟨w.heap.size+1,1,none⟩=some (.int .u8 (k:Int))):=zhd fun W hW=>by
    obtain ⟨-,h,-,-,-,-⟩:=ah ((hW.block _ hlt2).trans HB1.out);exact h
   clear hkd hr SUB hk c2 c3 c4 c5 d0 hq1;generalize bE K.p E e.subs 0=s0 at *;generalize iB (k:Int) s0=r at *;have hbr:Below W2.heap.size W2 W2.drew:=(Below.refl _ _).drew;cases hw:bQ r
   all_goals
    have HW:=zhd (congrArg (fun b:Bool=>if b=true then r else 0) hw);go_wp2_with fail
    go_region_held3 (fun w'=>w'.cell? ⟨w.heap.size+1,1,none⟩=some (.int .u8 (k:Int))∧Below W2.heap.size W2 w') (simp [*])
     (first
      | (go_at_call 260;refine (HSB.out _ (by omega) (by assumption)).mono ?_;rintro o8 w8 ⟨rfl,hb8⟩;have hb9:=Below.trans (by assumption:Below W2.heap.size W2 _) (hb8.mono (Below.size (by assumption)));have z1:=HC1.out _ hb9)
      | (go_at_call 261;refine (HO.out _).mono ?_;rintro o7 w7 ⟨er,rfl,hb7⟩;have hb10:=Below.trans (by assumption:Below W2.heap.size W2 _) (hb7.mono (Below.size (by assumption)));have z2:=HC1.out _ hb10)
      | fail)
    go_wp2_with (go_at_call 254;refine (dS _ _).mono ?_;rintro o9 w9 ⟨rfl,rfl⟩)
    go_ret
    exact FIN.out _ _ _ HR.out (congrArg (fun x=>Ending.returned (.int .i64 x)) HW.out.symm) hb10
  case inr.inr.inr.inr.inr.inr.inl =>
   have hr:dw K.p E e.kind e.op e.width e.name (bE K.p E e.subs 0) (bE K.p E e.subs 1)=iB e.op (bE K.p E e.subs 0):=by rw [hkd];rfl
   obtain ⟨k,hk⟩:∃k:Nat,e.op=(k:Int):=⟨e.op.toNat,by have:=HOK.out;omega⟩;have hk2:k≤255:=by have:=HOK.out;omega
   have HSB:=zhd (SUB.out 0);have HO:=zhd (fun W=>vg k hk2 (bE K.p E e.subs 0) W);have HR:=zhd (hr.trans (by rw [hk]:iB e.op (bE K.p E e.subs 0)=iB (k:Int) (bE K.p E e.subs 0)));rw [hk] at c1 HB1;rw [hkd] at c0 HB1;have HC1:Hid (∀W,Below W2.heap.size W2 W→W.cell? ⟨w.heap.size+1,1,none⟩=some (.int .u8 (k:Int))):=zhd fun W hW=>by
    obtain ⟨-,h,-,-,-,-⟩:=ah ((hW.block _ hlt2).trans HB1.out);exact h
   clear hkd hr SUB hk c2 c3 c4 c5 d0 hq1;generalize bE K.p E e.subs 0=s0 at *;generalize iB (k:Int) s0=r at *;have hbr:Below W2.heap.size W2 W2.drew:=(Below.refl _ _).drew;cases hw:bQ r
   all_goals
    have HW:=zhd (congrArg (fun b:Bool=>if b=true then r else 0) hw);go_wp2_with fail
    go_region_held3 (fun w'=>w'.cell? ⟨w.heap.size+1,1,none⟩=some (.int .u8 (k:Int))∧Below W2.heap.size W2 w') (simp [*])
     (first
      | (go_at_call 260;refine (HSB.out _ (by omega) (by assumption)).mono ?_;rintro o8 w8 ⟨rfl,hb8⟩;have hb9:=Below.trans (by assumption:Below W2.heap.size W2 _) (hb8.mono (Below.size (by assumption)));have z1:=HC1.out _ hb9)
      | (go_at_call 261;refine (HO.out _).mono ?_;rintro o7 w7 ⟨er,rfl,hb7⟩;have hb10:=Below.trans (by assumption:Below W2.heap.size W2 _) (hb7.mono (Below.size (by assumption)));have z2:=HC1.out _ hb10)
      | fail)
    go_wp2_with (go_at_call 254;refine (dS _ _).mono ?_;rintro o9 w9 ⟨rfl,rfl⟩)
    go_ret
    exact FIN.out _ _ _ HR.out (congrArg (fun x=>Ending.returned (.int .i64 x)) HW.out.symm) hb10
end
section
open Go Go.RowKit
theorem y8 (s:ByteArray):s.toList.isEmpty=decide (s=ByteArray.empty):=by
 rw [ByteArray.toList_eq];by_cases h:s=ByteArray.empty
 ·subst h;rfl
 ·rw [decide_eq_false h]
  cases hs:s.data.toList with
  | nil =>
   refine absurd ?_ h;have:s.data=#[]:=Array.toList_inj.1 hs;cases s
   simp at this;rw [this];rfl
  | cons a l=>rfl
theorem iZ {a b:Bool} (h:a=b):Ending.returned (.bool a)=.returned (.bool b):=by rw [h]
theorem dD {B:Nat} {a w:World} (h:Below B a w) (n:Nat):Below B a (w.drewN n):=h.trans ⟨rfl,rfl,rfl,Nat.le_refl _,fun _ _=>rfl⟩
def tQ (k op v wd:Int) (ne:Bool) (n:Int):Bool :=
 if k=1 then (decide (op=0) && ne && decide (n=0))
 else if k=2 then (decide (op=0) && decide (v=0) && decide (wd=0) && decide (n=0))
 else if k=3 then (decide (op=0) && decide (v=0) && decide (wd=0) && decide (n=1))
 else if k=4 then (decide (op=0) && decide (v=0) && decide (wd=0) && ne && decide (n=1))
 else if k=5 then (nN op && !l8 op && decide (v=0) && decide (wd=0) && ne && decide (n=1))
 else if k=6 then (l8 op && decide (v=0) && decide (wd=0) && ne && decide (n=2))
 else if k=7 then (decide (op=0) && decide (v=0) && decide (wd=0) && ne && decide (n=3))
 else if k=8 then (decide (op=0) && decide (v=0) && ne && decide (n=1))
 else false
theorem FV (e:ae):jg e=tQ e.kind e.op e.value e.width e.name.toList.isEmpty e.subs.length:=by
 unfold jg tQ;rw [y8];have h0:∀c:Nat,((e.subs.length:Int)=(c:Int))↔e.subs.length=c:=fun c=>by omega
 have e0:=h0 0;have e1:=h0 1;have e2:=h0 2;have e3:=h0 3
 repeat' split
 all_goals first | rfl | (apply Bool.eq_iff_iff.2;simp [and_assoc];done) | (apply Bool.eq_iff_iff.2;simp [and_assoc];intros;omega)
set_option maxRecDepth 1000000 in
set_option maxHeartbeats 4000000 in
theorem GK (w:World) (e:ae) (oo:0≤e.op∧e.op≤255) (kk:0≤e.kind∧e.kind≤255) (hl:e.subs.length≤2199023255552):Calls Tryz.prog 258 #[e.val] w fun o w'=>o=.returned (.bool (jg e))∧Below w.heap.size w w':=by
 rw [FV];simp only [ae.val,Sp.val];generalize e.subs.length=ln at *;have hln:(0:Int)≤(ln:Int):=by omega
 generalize e.name=nm at *;generalize e.sp=sp at *;generalize e.kind=k at *;generalize e.op=op at *;generalize e.value=v at *;generalize e.width=wd at *;have hsh:tQ k op v wd nm.toList.isEmpty ln=tQ k op v wd nm.toList.isEmpty ln:=rfl
 conv at hsh=>rhs;unfold tQ
 generalize tQ k op v wd nm.toList.isEmpty ln=res at *;have HSH:=zhd hsh;clear hsh;have hb1:=zba w (.cells #[.int .u8 k,.int .u8 op,.int .u32 v,.int .i64 wd,.string nm,.slice sp.at_ ln sp.cap] 30);have hB:=zan w (.cells #[.int .u8 k,.int .u8 op,.int .u32 v,.int .i64 wd,.string nm,.slice sp.at_ ln sp.cap] 30);have HB1:=zhd hb1;have HB:=zhd hB;clear hb1 hB;go_enter Tryz.func258,Tryz.ntmps258
 go_upto_region 1 with (fail)
 generalize w.alloc (.cells #[.int .u8 k,.int .u8 op,.int .u32 v,.int .i64 wd,.string nm,.slice sp.at_ ln sp.cap] 30)=W2 at *;obtain ⟨c0,c1,c2,c3,c4,c5⟩:=ah HB.out
 go_quiet (fail)
 rcases (show k=1∨k=8∨k=2∨k=3∨k=4∨k=5∨k=6∨k=7∨(k≠1∧k≠8∧k≠2∧k≠3∧k≠4∧k≠5∧k≠6∧k≠7) by omega) with hkd | hkd | hkd | hkd | hkd | hkd | hkd | hkd | hkd
 case inl =>
  subst hkd
  go_wp2
  all_goals (go_ret;exact ⟨iZ (by rw [HSH.out];simp_all <;> (apply Bool.eq_iff_iff.2;simp only [beq_iff_eq,decide_eq_true_eq];try omega)),dD HB1.out _⟩)
 case inr.inl =>
  subst hkd
  go_wp2
  all_goals (go_ret;exact ⟨iZ (by rw [HSH.out];simp_all <;> (apply Bool.eq_iff_iff.2;simp only [beq_iff_eq,decide_eq_true_eq];try omega)),dD HB1.out _⟩)
 case inr.inr.inl =>
  subst hkd
  go_wp2
  all_goals (go_ret;exact ⟨iZ (by rw [HSH.out];simp_all <;> (apply Bool.eq_iff_iff.2;simp only [beq_iff_eq,decide_eq_true_eq];try omega)),dD HB1.out _⟩)
 case inr.inr.inr.inl =>
  subst hkd
  go_wp2
  all_goals (go_ret;exact ⟨iZ (by rw [HSH.out];simp_all <;> (apply Bool.eq_iff_iff.2;simp only [beq_iff_eq,decide_eq_true_eq];try omega)),dD HB1.out _⟩)
 case inr.inr.inr.inr.inl =>
  subst hkd
  go_wp2
  all_goals (go_ret;exact ⟨iZ (by rw [HSH.out];simp_all <;> (apply Bool.eq_iff_iff.2;simp only [beq_iff_eq,decide_eq_true_eq];try omega)),dD HB1.out _⟩)
 case inr.inr.inr.inr.inr.inr.inr.inl =>
  subst hkd
  go_wp2
  all_goals (go_ret;exact ⟨iZ (by rw [HSH.out];simp_all <;> (apply Bool.eq_iff_iff.2;simp only [beq_iff_eq,decide_eq_true_eq];try omega)),dD HB1.out _⟩)
 case inr.inr.inr.inr.inr.inr.inr.inr =>
  obtain ⟨h1,h8,h2,h3,h4,h5,h6,h7⟩:=hkd;have g1:(k == 1)=false:=by simpa using h1
  have g2:(k == 2)=false:=by simpa using h2
  have g3:(k == 3)=false:=by simpa using h3
  have g4:(k == 4)=false:=by simpa using h4
  have g5:(k == 5)=false:=by simpa using h5
  have g6:(k == 6)=false:=by simpa using h6
  have g7:(k == 7)=false:=by simpa using h7
  have g8:(k == 8)=false:=by simpa using h8
  have hres:res=false:=by rw [HSH.out];simp [*]
  clear h1 h2 h3 h4 h5 h6 h7 h8;subst hres
  go_wp2
  go_ret
  exact ⟨rfl,dD HB1.out _⟩
 case inr.inr.inr.inr.inr.inl =>
  subst hkd;obtain ⟨ko,hk⟩:∃ko:Nat,op=(ko:Int):=⟨op.toNat,by omega⟩;subst hk;have HN:=zhd (fun W=>xS ko (by omega) W);have HT:=zhd (fun W=>FJ ko (by omega) W);have hE:=mX ko;generalize jB ko=s at *;cases ho:nN (ko:Int) with
  | false =>
   rw [ho] at hE;have hres:res=false:=by rw [HSH.out,ho];rfl
   subst hres;simp only [Bool.not_false] at hE;go_wp2_with (first
    | (go_at_call 273;refine (HN.out _).mono ?_;rintro o7 w7 ⟨rfl,hb7⟩;have HX7:=zhd (Below.trans (dD (Below.refl _ W2) nq) hb7);obtain ⟨z0,z1,z2,z3,z4,z5⟩:=ah ((HX7.out.block _ (zgs HB.out).1).trans HB.out);clear hb7)
    | fail)
   all_goals (go_ret;exact ⟨rfl,HB1.out.trans (HX7.out.mono HB1.out.size)⟩)
  | true =>
   rw [ho] at hE;simp only [Bool.not_true] at hE;have hE':(!s.toList.isEmpty)=true:=by rw [hE];rfl
   cases ht:l8 (ko:Int)
   all_goals
    simp only [ht] at HT;have HSH2:=zhd (HSH.out.trans (by rw [ho,ht]));clear HSH;go_wp2_with (first
     | (go_at_call 273;refine (HN.out _).mono ?_;rintro o7 w7 ⟨rfl,hb7⟩;have HX7:=zhd (Below.trans (dD (Below.refl _ W2) nq) hb7);obtain ⟨z0,z1,z2,z3,z4,z5⟩:=ah ((HX7.out.block _ (zgs HB.out).1).trans HB.out);clear hb7)
     | (go_at_call 274;refine (HT.out _).mono ?_;rintro o8 w8 ⟨rfl,hb8⟩;have HX8:=zhd (Below.trans HX7.out (hb8.mono HX7.out.size));obtain ⟨y0,y1,y2,y3,y4,y5⟩:=ah ((HX8.out.block _ (zgs HB.out).1).trans HB.out);clear hb8 z1 z5)
     | fail)
    all_goals (go_ret;exact ⟨iZ (by rw [HSH2.out];simp_all <;> (apply Bool.eq_iff_iff.2;simp only [beq_iff_eq,decide_eq_true_eq];try omega)),HB1.out.trans (HX8.out.mono HB1.out.size)⟩)
 case inr.inr.inr.inr.inr.inr.inl =>
  subst hkd;obtain ⟨ko,hk⟩:∃ko:Nat,op=(ko:Int):=⟨op.toNat,by omega⟩;subst hk;have HT:=zhd (fun W=>FJ ko (by omega) W);cases ht:l8 (ko:Int)
  all_goals
   simp only [ht] at HT;have HSH2:=zhd (HSH.out.trans (by rw [ht]));clear HSH;go_wp2_with (first
    | (go_at_call 274;refine (HT.out _).mono ?_;rintro o8 w8 ⟨rfl,hb8⟩;have HX8:=zhd (Below.trans (dD (Below.refl _ W2) nq) hb8);obtain ⟨y0,y1,y2,y3,y4,y5⟩:=ah ((HX8.out.block _ (zgs HB.out).1).trans HB.out);clear hb8)
    | fail)
   all_goals (go_ret;exact ⟨iZ (by rw [HSH2.out];simp_all <;> (apply Bool.eq_iff_iff.2;simp only [beq_iff_eq,decide_eq_true_eq];try omega)),HB1.out.trans (HX8.out.mono HB1.out.size)⟩)
end
section
open Go
section
variable {n:Nat} {P:Program} {ops:Array Oper} {md:Region.Mode} {w:World}
theorem yI {o:Oper} {a:Act} {K:Act→Prop} {K':Act→World→Prop} {Q':Exit→Act→World→Prop} (h:∀a,K a→K' a w) (hh:o.still P a w K):o.wpIn Fence.wide n P a w K' Q':=by
 unfold Oper.still at hh;refine ⟨fun _ _=>trivial,?_⟩;rw [show Fence.wide.round=none from rfl,Oper.semAt_none];generalize (execOp a.eval o).run P w=r at *;cases r with
 | ok m w' =>
  cases m <;> simp only [Oper.stillUpon] at hh <;> simp only [Oper.uponIn]
  case enter f args =>
   obtain ⟨rfl,v,hc,hn⟩:=hh;exact ⟨fun h=>(by cases h),callsIn_wide.2 (hc.mono fun e w'' ⟨he,hw⟩=>by subst he;subst hw;exact h _ hn)⟩
  all_goals (obtain ⟨rfl,h2⟩:=hh;exact h _ h2)
 | halt x w'=>simp only [Oper.stillUpon] at hh
theorem xH {i:Nat} {a:Act} {K:Act→Prop} {K':Act→World→Prop} {Q':Exit→Act→World→Prop} (h:∀a,K a→K' a w) (hh:stOp P ops w i K a):wpOpIn Fence.wide n P ops Q' i K' a w:=by
 unfold stOp at hh;unfold wpOpIn
 split
 ·rename_i ho;simp only [ho] at hh;exact h _ hh
 ·rename_i o ho
  simp only [ho] at hh
  split
  ·rename_i hw;simp only [hw,if_true] at hh;exact yI h hh
  ·rename_i hw;simp only [hw] at hh;exact ⟨fun _ _=>trivial,h _ hh⟩
theorem nL {m g:Nat} {L:Array Bool→Act→Prop} {Q':Exit→Act→World→Prop} (hL:∀listed a,L listed a→wpAnyIn Fence.wide n P md ops Q' g listed a w) :
  ∀(f:Nat) (listed:Array Bool) (a:Act),wpAnyL P md ops w m L f listed a→wpAnyIn Fence.wide n P md ops Q' (f+g) listed a w
 | 0,listed,a,h=>by rw [Nat.zero_add];exact hL _ _ h
 | f+1,listed,a,h=>by
  rw [show f+1+g=(f+g)+1 by omega];exact ⟨fun h0=>absurd h0 h.1,fun i hi=>xH (fun a' h'=>nL hL f _ a' h') (h.2 i hi).2⟩
theorem nV {Q':Exit→Act→World→Prop}:∀(l:List Oper) (k:Nat) (listed:Array Bool) (a:Act) (w:World),(∀j,l[j]? = ops[k+j]?) →
  Region.seqB md ops l.length k listed=true→wpListIn Fence.wide n P ops Q' l a w→wpAnyIn Fence.wide n P md ops Q' l.length listed a w
 | [],_,_,_,_,_,hB,h=>⟨by simpa [Region.seqB] using hB,h⟩
 | o::l,k,listed,a,w,hl,hB,h=>by
  have h0:ops[k]? = some o:=by simpa using (hl 0).symm
  simp only [List.length_cons,Region.seqB,Bool.and_eq_true,decide_eq_true_eq] at hB;refine ⟨fun h1=>(by rw [hB.1] at h1;cases h1),fun i hi=>?_⟩;rw [hB.1] at hi;have hik:i=k:=by simpa using hi
  subst hik;have hw:wpOpIn Fence.wide n P ops Q' i (wpListIn Fence.wide n P ops Q' l) a w:=by unfold wpOpIn;simp only [h0];exact h
  exact wpOpIn_mono (fun a' w' h'=>nV l (i+1) _ a' w' (fun j=>by have:=hl (j+1);simpa [Nat.add_assoc,Nat.add_comm 1 j] using this) hB.2 h') hw
theorem nD {id:Nat} {Q:Exit→Act→World→Prop} {a:Act} {w:World} {l:List Oper} (k:Nat) (hm:P.follows .mixedOrders=true) (hB:Region.lexTailB .any l.toArray k=true)
  (h:wpStill P l.toArray w.drew (fun a'=>wpListIn Fence.wide n P l.toArray Q (l.drop k) a' w.drew) (l.take k) a):(Code.region id l.toArray true).wpIn Fence.wide n P Q a w:=by
 simp only [Region.lexTailB,Bool.and_eq_true,decide_eq_true_eq] at hB;obtain ⟨⟨⟨⟨hsel,hn⟩,hs⟩,hc⟩,hlex⟩:=hB;have hn':k<l.length:=by simpa using hn
 have htl:(l.take k).length=k:=by simp;omega
 have hdl:(l.drop k).length=l.toArray.size - k:=by simp
 have inv0:HeadInv .any l.toArray k (Array.replicate l.toArray.size false) :=
  ⟨by simp,fun j oj _ hl=>(by rw [getD_replicate_false] at hl;cases hl),fun t _ ht=>getD_in (by simpa using ht) (getD_replicate_false _ _)⟩
 have H:=wpAnyL_lex (md:=.any) (g:=l.toArray.size - k) hsel hs hc hn (l.take k) 0 _ a (fun j hj=>by
  have hj':j<k:=by rw [htl] at hj;exact hj
  simp [hj']) (by simpa using htl) inv0 (by rw [htl];exact hlex) h
 refine wpIn_region_any hm ?_;have:=nL (n:=n) (Q':=Q) (g:=l.toArray.size - k) (fun listed a' hL=>by
  have:=nV (n:=n) (md:=.any) (Q':=Q) (l.drop k) k listed a' w.drew (fun j=>by simp [List.getElem?_drop]) (by rw [hdl];exact hL.1) hL.2
  rwa [hdl] at this) _ _ _ H
 rw [htl,show k+(l.toArray.size - k)=l.toArray.size by omega] at this;exact this
end
end
section
open Go Go.RowKit Go.Maps
attribute [local go_sem] Oper.semAt_some
def IQ (K:iA) (l:Nat) (J Jx:List (Int × Int)→World→Prop):Prop :=
 ∀pre (x:Int × Int) W1,J pre W1→pre.length<1000000→YieldAt Fence.wide 0 Tryz.prog l #[.agg #[.int .i64 x.1,.int .i64 x.2]] W1 fun e W' =>
  (e=.returned (.bool true)∧J (pre++[x]) W'∧ax TK K.B W1 W'∧Below K.n₀ W1 W')∨(e=.returned (.bool false)∧Jx (pre++[x]) W'∧ax TK K.B W1 W'∧Below K.n₀ W1 W')
theorem GR {K:iA} {pm:Option Nat} {E:Env} {n n':Int} {over:Bool} {W:World} (h:W.heap[K.q]? = some (.cells (K.cells pm E n over) 246 (0,0))) :
  (W.setCell ⟨K.q,26,none⟩ (.int .i64 n')).heap[K.q]? = some (.cells (K.cells pm E n' over) 246 (0,0)):=by
 simp [World.setCell,Array.getElem?_modify,h,iA.cells]
theorem Ja {K:iA} {pm:Option Nat} {E:Env} {n:Int} {over over':Bool} {W:World} (h:W.heap[K.q]? = some (.cells (K.cells pm E n over) 246 (0,0))) :
  (W.setCell ⟨K.q,29,none⟩ (.bool over')).heap[K.q]? = some (.cells (K.cells pm E n over') 246 (0,0)):=by
 simp [World.setCell,Array.getElem?_modify,h,iA.cells]
theorem lT.keep {J Jx:List (Int × Int)→World→Prop} {cs:List Int} {over:Bool} {W W':World} (h:lT J Jx cs over W) (h1:∀l,J l W→J l W') (h2:∀l,Jx l W→Jx l W'):lT J Jx cs over W':=by
 rcases h with ⟨e,h⟩ | ⟨e,l,a,b,h⟩
 ·exact .inl ⟨e,h1 _ h⟩
 ·exact .inr ⟨e,l,a,b,h2 _ h⟩
theorem wY {K:iA} {J Jx:List (Int × Int)→World→Prop} (hJ:dG 246 K.B J) (hJx:dG 246 K.B Jx) {pm:Option Nat} {E:Env} {cs:List Int} {c:Int} {n:Int} {over:Bool} {W W2:World}
  (hk:bO K W W2) (h:kC K pm E n over W2) (hs:lT J Jx (cs++[c]) over W2):Told K J Jx pm E (cs++[c]) W (W2.setCell ⟨K.q,26,none⟩ (.int .i64 ((cs.length:Int)+1))):=by
 have hn:K.n₀≤K.q:=by have:=h.q;have:=h.n0;omega
 have hk2:bO K W2 (W2.setCell ⟨K.q,26,none⟩ (.int .i64 ((cs.length:Int)+1))):=.set h.box hn _;refine ⟨⟨over,?_,hs.keep (fun l hl=>hJ.cell _ hl h.q h.box) (fun l hl=>hJx.cell _ hl h.q h.box)⟩,hk.trans hk2⟩;have e:((cs++[c]).length:Int)=(cs.length:Int)+1:=by simp
 rw [e];exact h.stays hk2 (GR h.box)
theorem lT.quiet {J Jx:List (Int × Int)→World→Prop} {cs:List Int} {c:Int} {over:Bool} {W:World} (h:lT J Jx cs over W) (hc:c=0∨over=true):lT J Jx (cs++[c]) over W:=by
 rcases h with ⟨e,h⟩ | ⟨e,l,a,b,h⟩
 ·rcases hc with hc | hc
  ·exact .inl ⟨e,by rw [mY,if_pos hc,List.append_nil];exact h⟩
  ·rw [hc] at e;cases e
 ·exact .inr ⟨e,l,a,by rw [mY];exact b.trans (List.prefix_append _ _),h⟩
set_option maxRecDepth 1000000 in
set_option maxHeartbeats 1000000 in
theorem Ht (K:iA) (l:Nat) (hy:K.yv=.func (.yield l) #[] #[]) (J Jx:List (Int × Int)→World→Prop) (hJ:dG 246 K.B J) (hJx:dG 246 K.B Jx)
  (hY:IQ K l J Jx):lM K J Jx:=by
 intro pm E cs W c hst hlen;obtain ⟨over,hk,hs⟩:=hst.ex;have HY:=zhd hY;clear hY hst;have c26:=hk.c26;have c28:=hk.c28;have c29:=hk.c29;have f26:=hk.frozen 26;have f29:=hk.frozen 29;rw [hy] at c28;have hb0:∀nq,Below W.heap.size W (W.drewN nq):=fun nq=>⟨rfl,rfl,rfl,Nat.le_refl _,fun _ _=>rfl⟩
 have hn:K.n₀≤W.heap.size:=by have:=hk.lt;have:=hk.q;have:=hk.n0;omega
 have HQ:Hid (∀nq,(c=0∨over=true)→Told K J Jx pm E (cs++[c]) W ((W.drewN nq).setCell ⟨K.q,26,none⟩ (.int .i64 ((cs.length:Int)+1)))) :=
  zhd fun nq hc=>wY hJ hJx (.of_below (hb0 nq) hn) (hk.new (hb0 nq)) ((hs.quiet hc).keep (fun l hl=>hJ.new hl (hb0 nq)) (fun l hl=>hJx.new hl (hb0 nq)))
 have HK:=zhd hk;have HS:=zhd hs;clear hk hs hb0 hn;by_cases hc:c=0
 ·subst hc
  clear hy;go_enter Tryz.func228,Tryz.ntmps228
  go_wp2
  go_quiet (fail)
  go_wp2
  go_returns
  exact ⟨rfl,HQ.out nq (by simp)⟩
 ·have h0:(c == 0)=false:=by simpa using hc
  have h1:(c != 0)=true:=by simpa using hc
  cases over with
  | true =>
   clear hy;go_enter Tryz.func228,Tryz.ntmps228
   go_wp2
   go_quiet (fail)
   go_wp2
   go_returns
   exact ⟨rfl,HQ.out nq (by simp)⟩
  | false =>
   have hn:K.n₀≤W.heap.size:=by have:=HK.out.lt;have:=HK.out.q;have:=HK.out.n0;omega
   have hbd:Below W.heap.size W W.drew:=(Below.refl _ _).drew;have hJ0:J (fU cs 0) W.drew:=by
    rcases HS.out with ⟨_,h⟩ | ⟨e,_⟩
    ·exact hJ.new h hbd
    ·cases e
   obtain ⟨fn,tmps,assign,body,hyl,hR⟩:=HY.out (fU cs 0) ((cs.length:Int),c) W.drew hJ0 (by have:=zC cs 0;omega);have HC:=zhd hc;have HBD:=zhd hbd;clear hy HQ hc hJ0 hbd;refine (callsIn_wide (n:=1)).1 ?_;refine callsIn_of_wp_marks Tryz.func228 rfl trivial ?_ rfl;simp only [Tryz.ntmps228,List.size_toArray,List.length_cons,List.length_nil,Nat.reduceAdd,Nat.reduceSub,Array.replicate_succ,Array.replicate_zero,List.push_toArray,List.append_toArray,List.nil_append,List.cons_append]
   gi_wp2
   refine nD 20 (by kernel_rfl) (by kernel_rfl) ?_;simp only [List.take_succ_cons,List.take_zero,List.drop_succ_cons,List.drop_zero]
   repeat still_step
   refine wpStill_nil ?_;clear c26 c28 c29 f26 f29
   gi_wp2
   refine hR.mono ?_;clear hR hyl;have hq:bO K W W.drew:=.of_below HBD.out hn;have hbox:=(HBD.out.block _ HK.out.lt).trans HK.out.box;rintro o3 W3 (⟨rfl,hJ3,hk3,hb3⟩ | ⟨rfl,hJ3,hk3,hb3⟩)
   ·have hq3:bO K W W3:=hq.trans (.of_keeps hk3 hb3)
    have hck:=HK.out.stays hq3 (hk3.cells _ _ _ _ hbox rfl);have c26:=hck.c26;have f26:=hck.frozen 26;have HE:=zhd (wY hJ hJx hq3 hck (.inl ⟨rfl,by rw [mY,if_neg HC.out];exact hJ3⟩:lT J Jx (cs++[c]) false W3));clear hq3 hck hJ3 hk3 hb3 hbox hq
    gi_wp2
    exact ⟨_,results_none rfl _ _ _,rfl,HE.out⟩
   ·have hq3:bO K W W3:=hq.trans (.of_keeps hk3 hb3)
    have hck:=HK.out.stays hq3 (hk3.cells _ _ _ _ hbox rfl);have f29:=hck.frozen 29;have c29:=hck.c29;have hn3:K.n₀≤K.q:=by have:=hck.q;have:=hck.n0;omega
    have hq4:bO K W (W3.setCell ⟨K.q,29,none⟩ (.bool true)):=hq3.trans (.set hck.box hn3 _);have hck4:=HK.out.stays hq4 (Ja (over':=true) hck.box);have c26:=hck4.c26;have f26:=hck4.frozen 26;have HE:=zhd (wY hJ hJx hq4 hck4 (.inr ⟨rfl,_,by simp,by rw [mY,if_neg HC.out];exact List.prefix_refl _,hJx.cell _ hJ3 hck.q hck.box⟩:lT J Jx (cs++[c]) true _));clear hq3 hck hJ3 hk3 hb3 hbox hq hq4 hck4
    gi_wp2
    exact ⟨_,results_none rfl _ _ _,rfl,HE.out⟩
end
end Go.Proofs.YtepacjkacjabbaaGreatDoor
