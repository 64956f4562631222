import Derived.Test.YtepacjkacjabbaaGreatDoorPAA
import Derived.Test.YtepacjkacjabbaaGreatDoorPAO
import Derived.Test.YtepacjkacjabbaaGreatDoorPAP
import Derived.Deep.DeepCutAuto
namespace Go.Proofs.YtepacjkacjabbaaGreatDoor
section
open Go Go.RowKit Go.Maps
def Kl (K:gp) (J Jx:List (Int × Int)→World→Prop) (pm:Option Nat) (E:Env) (wh:Int) (W0:World) (e:ae):Prop :=
 ∀(cs:List Int) (d:Nat) (w:World),Below K.n₀ W0 w→iU K J Jx pm E cs w→cs.length+(fC K.p E wh e d).length≤1000000→d+(fC K.p E wh e d).length≤1000000 →
  Calls Tryz.prog 225 #[.pointer (some ⟨K.q,0,none⟩),e.val,.int .u8 wh,.int .i64 d] w fun o w'=>o=.returned (.tuple #[])∧Told K J Jx pm E (cs++fC K.p E wh e d) w w'
def codeF (sB nB wB:Bool) (xk ek wh:Int) (dl:Bool):Int :=
 if sB=false then 325
 else if (nB && (decide (xk=0) || (decide (xk=4) != decide (ek=3))))=true then 321
 else if ((decide (wh=1) && (decide (ek=4) || (nB && !decide (xk=1)))) || (decide (wh=2) && nB && (decide (xk=3) || decide (xk=4))))=true then 326
 else if wB=true then 322
 else if dl=true then 319
 else 0
theorem codeF_eq (p:af) (E:Env) (wh:Int) (e:ae) (d:Nat):iR p E wh e d=codeF (jT e) (dL e) (bO p E e) (aJ p E e.name).kind e.kind wh (decide (dx p 32 1000<(d:Int))):=by
 unfold iR codeF;have h1:(dL e=true∧((aJ p E e.name).kind=0∨¬((aJ p E e.name).kind=4↔e.kind=3)))↔((dL e && (decide ((aJ p E e.name).kind=0) || (decide ((aJ p E e.name).kind=4) != decide (e.kind=3))))=true):=by
  by_cases a:(aJ p E e.name).kind=4 <;> by_cases b:e.kind=3 <;> simp [a,b]
 have h2:((wh=1∧(e.kind=4∨dL e=true∧(aJ p E e.name).kind≠1))∨(wh=2∧dL e=true∧((aJ p E e.name).kind=3∨(aJ p E e.name).kind=4))) ↔
   (((decide (wh=1) && (decide (e.kind=4) || (dL e && !decide ((aJ p E e.name).kind=1)))) || (decide (wh=2) && dL e && (decide ((aJ p E e.name).kind=3) || decide ((aJ p E e.name).kind=4))))=true):=by
  simp [and_assoc]
 simp only [h1,h2,gt_iff_lt,decide_eq_true_eq]
theorem nK {W:World} {b:Nat} {t:TypeId} {fr:Nat × Nat} {v0 v1:Value} (h:W.heap[b]? = some (.cells #[v0,v1] t fr)):W.cell? ⟨b,0,none⟩=some v0∧W.cell? ⟨b,1,none⟩=some v1:=by
 simp [World.cell?,h]
theorem Told.after {K:gp} {J Jx:List (Int × Int)→World→Prop} {pm:Option Nat} {E:Env} {cs:List Int} {w w1 w2:World} (h:Told K J Jx pm E cs w1 w2) (hb:bg K w w1):Told K J Jx pm E cs w w2:=⟨h.st,hb.trans h.keeps⟩
set_option maxRecDepth 10000000 in
set_option maxHeartbeats 8000000 in
theorem pY {K:gp} {J Jx:List (Int × Int)→World→Prop} (hJ:bN 246 K.B J) (hJx:bN 246 K.B Jx) (hT:j6 K J Jx) {pm:Option Nat} {E:Env} {wh:Int} {W0:World} {e:ae} (h:iw K.n₀ W0 e) :
  Kl K J Jx pm E wh W0 e:=by
 induction h with
 | mk e kk oo vv wd nm row subs ih =>
  intro cs d w hb hst hlen hd0;have hd:d≤1000000:=by omega
  have HD0:=zhd hd0;clear hd0;obtain ⟨over,hk,hs⟩:=hst.ex;have hlt:=hk.lt;have hnB:K.n₀≤K.B:=hk.n0;have hBq:K.B≤K.q:=hk.q;have hb1:=zba w (.cells #[.int .u8 e.kind,.int .u8 e.op,.int .u32 e.value,.int .i64 e.width,.string e.name,.slice e.sp.at_ e.subs.length e.sp.cap] 30);have hB1:=zan w (.cells #[.int .u8 e.kind,.int .u8 e.op,.int .u32 e.value,.int .i64 e.width,.string e.name,.slice e.sp.at_ e.subs.length e.sp.cap] 30);have hs1:(w.alloc (.cells #[.int .u8 e.kind,.int .u8 e.op,.int .u32 e.value,.int .i64 e.width,.string e.name,.slice e.sp.at_ e.subs.length e.sp.cap] 30)).heap.size=w.heap.size+1:=by simp
  have HF:=zhd (qa _ (hk.new hb1) e.name nm);have HB1:=zhd hB1;have HBW1:=zhd hb1;have HS1:=zhd hs1;have HK:=zhd hk;have HST:=zhd hst;have HB:=zhd hb;have HIH:=zhd ih;have HSUBS:=zhd subs;have HROW:=zhd row;have HLEN:=zhd hlen;clear hb1 hB1 hs1 hk hst hs hb ih subs row hlen;simp only [ae.val,Sp.val];go_enter Tryz.func225,Tryz.ntmps225
  go_upto_region 1 with (fail)
  generalize w.alloc (.cells #[.int .u8 e.kind,.int .u8 e.op,.int .u32 e.value,.int .i64 e.width,.string e.name,.slice e.sp.at_ e.subs.length e.sp.cap] 30)=W1 at *;obtain ⟨c0,c1,c2,c3,c4,c5⟩:=ag HB1.out;have hsx:=HS1.out;obtain ⟨xk,hxk⟩:∃xk,xk=(aJ K.p E e.name).kind:=⟨_,rfl⟩;obtain ⟨xw,hxw⟩:∃xw,xw=(aJ K.p E e.name).width:=⟨_,rfl⟩;rw [←hxk,←hxw] at HF;have HXK:=zhd hxk;clear hxk hxw;go_upto_region 2 with (first | (go_at_call 256;refine HF.out.mono ?_;rintro o2 w2 ⟨rfl,hb2⟩) | fail)
  have HB3:=zhd (hb2.alloc hb2.size (.cells #[.int .u8 xk,.int .i64 xw] 264));have HX:=zhd (zan w2 (.cells #[.int .u8 xk,.int .i64 xw] 264));have hlx:W1.heap.size≤w2.heap.size:=hb2.size;have hlx2:w2.heap.size<(w2.alloc (.cells #[.int .u8 xk,.int .i64 xw] 264)).heap.size:=by simp
  generalize w2.heap.size=b8 at *;generalize w2.alloc (.cells #[.int .u8 xk,.int .i64 xw] 264)=W3 at *;clear hb2 c0 c1 c2 c3 c4 c5 HF;obtain ⟨c0,c1,c2,c3,c4,c5⟩:=ag ((HB3.out.block _ (by omega)).trans HB1.out);generalize (Value.agg #[.int .u8 e.kind,.int .u8 e.op,.int .u32 e.value,.int .i64 e.width,.string e.name,.slice e.sp.at_ e.subs.length e.sp.cap])=v1;generalize hek:e.kind=ek at *
  go_cut [9] (fun s9 wx=>s9=.bool (dL e)∧W3=wx)
  case first=>as_aux_lemma =>
   go_wp2_with fail
   all_goals
    go_meet
    case rel=>exact ⟨congrArg Value.bool (by first | (simp [dL, *];done) | (apply Bool.eq_iff_iff.2;simp [dL, *];try omega)),rfl⟩
  case rest=>as_aux_lemma =>
   obtain ⟨rfl,rfl⟩:=hcut;obtain ⟨nB,hnb⟩:∃nB,dL e=nB:=⟨_,rfl⟩;rw [hnb]
   go_upto_block 0 with (fail)
   go_cut [10] (fun s10 wx=>s10=.bool (bO K.p E e)∧Below W3.heap.size W3 wx)
   case first=>as_aux_lemma =>
    rcases (show ek=6∨ek=7∨ek=1∨ek=8∨(ek≠1∧ek≠8∧ek≠6∧ek≠7) by omega) with hek2 | hek2 | hek2 | hek2 | hek2
    ·by_cases hln:e.subs.length=2
     ·have hwb:bO K.p E e=dV (bF K.p E e.subs 0) (bF K.p E e.subs 1):=by unfold bO;rw [hek,hek2,hln];rfl
      have hrow3:=HROW.out.below (HB.out.trans ((HBW1.out.trans (HB3.out.mono (by omega))).mono (by omega)));obtain ⟨b,off,eA,hbn,hcell⟩:=hrow3.row (by omega);have hsa:bF K.p E e.subs 0=bu K.p E (e.subs[0]'(by omega)):=by rw [bF,List.getElem?_eq_getElem (by omega)]
      have hsb:bF K.p E e.subs 1=bu K.p E (e.subs[1]'(by omega)):=by rw [bF,List.getElem?_eq_getElem (by omega)]
      have hra:=HSUBS.out _ (List.getElem_mem (by omega:0<e.subs.length));have hrb:=HSUBS.out _ (List.getElem_mem (by omega:1<e.subs.length));obtain ⟨s0,hqa⟩:∃s,s=e.subs[0]'(by omega):=⟨_,rfl⟩;obtain ⟨s1,hqb⟩:∃s,s=e.subs[1]'(by omega):=⟨_,rfl⟩;have hca:=hcell 0 (by omega);have hcb:=hcell 1 (by omega);rw [←hqa] at hsa hra hca;rw [←hqb] at hsb hrb hcb;rw [eA] at c5;have HC:Hid (∀W,Below W3.heap.size W3 W→W.cell? ⟨b,off,none⟩=some (.int .u8 s0.kind)∧W.cell? ⟨b,off+1,none⟩=some (.int .u8 s0.op)∧W.cell? ⟨b,off+2,none⟩=some (.int .u32 s0.value)∧W.cell? ⟨b,off+3,none⟩=some (.int .i64 s0.width)∧W.cell? ⟨b,off+4,none⟩=some (.string s0.name)∧W.cell? ⟨b,off+5,none⟩=some (.slice s0.sp.at_ s0.subs.length s0.sp.cap)∧W.cell? ⟨b,off+6,none⟩=some (.int .u8 s1.kind)∧W.cell? ⟨b,off+7,none⟩=some (.int .u8 s1.op)∧W.cell? ⟨b,off+8,none⟩=some (.int .u32 s1.value)∧W.cell? ⟨b,off+9,none⟩=some (.int .i64 s1.width)∧W.cell? ⟨b,off+10,none⟩=some (.string s1.name)∧W.cell? ⟨b,off+11,none⟩=some (.slice s1.sp.at_ s1.subs.length s1.sp.cap)∧W.cell? ⟨w.heap.size,5,none⟩=some (.slice (some ⟨b,off,none⟩) e.subs.length e.sp.cap)):=zhd fun W hW =>
       ⟨(hW.cell (p:=⟨b,_,none⟩) (by simp only;omega)).trans (hca 0 _ rfl),(hW.cell (p:=⟨b,_,none⟩) (by simp only;omega)).trans (hca 1 _ rfl),(hW.cell (p:=⟨b,_,none⟩) (by simp only;omega)).trans (hca 2 _ rfl),(hW.cell (p:=⟨b,_,none⟩) (by simp only;omega)).trans (hca 3 _ rfl),(hW.cell (p:=⟨b,_,none⟩) (by simp only;omega)).trans (hca 4 _ rfl),(hW.cell (p:=⟨b,_,none⟩) (by simp only;omega)).trans (hca 5 _ rfl),
        (hW.cell (p:=⟨b,_,none⟩) (by simp only;omega)).trans (hcb 0 _ rfl),(hW.cell (p:=⟨b,_,none⟩) (by simp only;omega)).trans (hcb 1 _ rfl),(hW.cell (p:=⟨b,_,none⟩) (by simp only;omega)).trans (hcb 2 _ rfl),(hW.cell (p:=⟨b,_,none⟩) (by simp only;omega)).trans (hcb 3 _ rfl),(hW.cell (p:=⟨b,_,none⟩) (by simp only;omega)).trans (hcb 4 _ rfl),(hW.cell (p:=⟨b,_,none⟩) (by simp only;omega)).trans (hcb 5 _ rfl),
        (hW.cell (p:=⟨w.heap.size,5,none⟩) (by simp only;omega)).trans c5⟩
      have HWA:Hid (∀W,Below W3.heap.size W3 W→Calls Tryz.prog 230 #[.pointer (some ⟨K.q,0,none⟩),s0.val] W fun o w'=>o=.returned (.int .i64 (bu K.p E s0))∧Below W.heap.size W w'):=zhd fun W hW =>
       gU hra W (HB.out.trans (((HBW1.out.trans (HB3.out.mono (by omega))).mono (by omega)).trans (hW.mono (by omega)))) (by have:=hW.size;omega) (HK.out.new ((HBW1.out.trans (HB3.out.mono (by omega))).trans (hW.mono (by omega))))
      have HWB:Hid (∀W,Below W3.heap.size W3 W→Calls Tryz.prog 230 #[.pointer (some ⟨K.q,0,none⟩),s1.val] W fun o w'=>o=.returned (.int .i64 (bu K.p E s1))∧Below W.heap.size W w'):=zhd fun W hW =>
       gU hrb W (HB.out.trans (((HBW1.out.trans (HB3.out.mono (by omega))).mono (by omega)).trans (hW.mono (by omega)))) (by have:=hW.size;omega) (HK.out.new ((HBW1.out.trans (HB3.out.mono (by omega))).trans (hW.mono (by omega))))
      obtain ⟨v20,v21,v22,v23,v24,v25,v26,v27,v28,v29,v30,v31,v32⟩:=HC.out W3.drew (Below.refl _ _).drew;have hbd:Below W3.heap.size W3 W3.drew:=(Below.refl _ _).drew;have HWD:=zhd (hwb.trans (by rw [hsa,hsb]));have hj1:decide (e.subs.length=2)=true:=decide_eq_true hln;have hj2:((e.subs.length:Int) == 2)=true:=by rw [hln];rfl
      have hj3:(0:Int)<(e.subs.length:Int):=by omega
      have hj4:(1:Int)<(e.subs.length:Int):=by omega
      clear hwb hrow3 hcell hsa hsb hra hrb hca hcb hqa hqb eA;simp only [ae.val,Sp.val] at HWA HWB;subst hek2;go_wp2_with fail
      go_region_held3 (fun W=>W.cell? ⟨b,off,none⟩=some (.int .u8 s0.kind)∧W.cell? ⟨b,off+1,none⟩=some (.int .u8 s0.op)∧W.cell? ⟨b,off+2,none⟩=some (.int .u32 s0.value)∧W.cell? ⟨b,off+3,none⟩=some (.int .i64 s0.width)∧W.cell? ⟨b,off+4,none⟩=some (.string s0.name)∧W.cell? ⟨b,off+5,none⟩=some (.slice s0.sp.at_ s0.subs.length s0.sp.cap)∧W.cell? ⟨b,off+6,none⟩=some (.int .u8 s1.kind)∧W.cell? ⟨b,off+7,none⟩=some (.int .u8 s1.op)∧W.cell? ⟨b,off+8,none⟩=some (.int .u32 s1.value)∧W.cell? ⟨b,off+9,none⟩=some (.int .i64 s1.width)∧W.cell? ⟨b,off+10,none⟩=some (.string s1.name)∧W.cell? ⟨b,off+11,none⟩=some (.slice s1.sp.at_ s1.subs.length s1.sp.cap)∧W.cell? ⟨w.heap.size,5,none⟩=some (.slice (some ⟨b,off,none⟩) e.subs.length e.sp.cap)∧Below W3.heap.size W3 W) (simp [*])
       (first
        | (go_at_call 230;refine (HWA.out _ (by assumption)).mono ?_;clear HWA;rintro o8 w8 ⟨rfl,hb8⟩;have hb9:=Below.trans (by assumption:Below W3.heap.size W3 _) (hb8.mono (Below.size (by assumption)));obtain ⟨z0,z1,z2,z3,z4,z5,z6,z7,z8,z9,z10,z11,z12⟩:=HC.out _ hb9)
        | (go_at_call 230;refine (HWB.out _ (by assumption)).mono ?_;clear HWB;rintro o7 w7 ⟨rfl,hb7⟩;have hb10:=Below.trans (by assumption:Below W3.heap.size W3 _) (hb7.mono (Below.size (by assumption)));obtain ⟨x0,x1,x2,x3,x4,x5,x6,x7,x8,x9,x10,x11,x12⟩:=HC.out _ hb10)
        | (go_at_call 229;refine (iy _ _ _).mono ?_;rintro o6 w6 ⟨rfl,rfl⟩)
        | fail)
      go_wp2_with fail
      go_meet
      case rel=>exact ⟨congrArg Value.bool HWD.out.symm,by assumption⟩
     ·have hwb:bO K.p E e=false:=by unfold bO;rw [hek,hek2,if_neg (by omega),if_neg (by omega)];rw [if_neg (by omega),if_neg (by omega)]
      have HWD:=zhd hwb;have hj1:decide (e.subs.length=2)=false:=decide_eq_false hln;have hj2:((e.subs.length:Int) == 2)=false:=by simp;omega
      clear hwb;subst hek2;go_wp2_with fail
      go_meet
      case rel=>exact ⟨congrArg Value.bool HWD.out.symm,Below.refl _ _⟩
    ·by_cases hln:e.subs.length=3
     ·have hwb:bO K.p E e=dV (bF K.p E e.subs 1) (bF K.p E e.subs 2):=by unfold bO;rw [hek,hek2,hln];rfl
      have hrow3:=HROW.out.below (HB.out.trans ((HBW1.out.trans (HB3.out.mono (by omega))).mono (by omega)));obtain ⟨b,off,eA,hbn,hcell⟩:=hrow3.row (by omega);have hsa:bF K.p E e.subs 1=bu K.p E (e.subs[1]'(by omega)):=by rw [bF,List.getElem?_eq_getElem (by omega)]
      have hsb:bF K.p E e.subs 2=bu K.p E (e.subs[2]'(by omega)):=by rw [bF,List.getElem?_eq_getElem (by omega)]
      have hra:=HSUBS.out _ (List.getElem_mem (by omega:1<e.subs.length));have hrb:=HSUBS.out _ (List.getElem_mem (by omega:2<e.subs.length));obtain ⟨s1,hqa⟩:∃s,s=e.subs[1]'(by omega):=⟨_,rfl⟩;obtain ⟨s2,hqb⟩:∃s,s=e.subs[2]'(by omega):=⟨_,rfl⟩;have hca:=hcell 1 (by omega);have hcb:=hcell 2 (by omega);rw [←hqa] at hsa hra hca;rw [←hqb] at hsb hrb hcb;rw [eA] at c5;have HC:Hid (∀W,Below W3.heap.size W3 W→W.cell? ⟨b,off+6,none⟩=some (.int .u8 s1.kind)∧W.cell? ⟨b,off+7,none⟩=some (.int .u8 s1.op)∧W.cell? ⟨b,off+8,none⟩=some (.int .u32 s1.value)∧W.cell? ⟨b,off+9,none⟩=some (.int .i64 s1.width)∧W.cell? ⟨b,off+10,none⟩=some (.string s1.name)∧W.cell? ⟨b,off+11,none⟩=some (.slice s1.sp.at_ s1.subs.length s1.sp.cap)∧W.cell? ⟨b,off+12,none⟩=some (.int .u8 s2.kind)∧W.cell? ⟨b,off+13,none⟩=some (.int .u8 s2.op)∧W.cell? ⟨b,off+14,none⟩=some (.int .u32 s2.value)∧W.cell? ⟨b,off+15,none⟩=some (.int .i64 s2.width)∧W.cell? ⟨b,off+16,none⟩=some (.string s2.name)∧W.cell? ⟨b,off+17,none⟩=some (.slice s2.sp.at_ s2.subs.length s2.sp.cap)∧W.cell? ⟨w.heap.size,5,none⟩=some (.slice (some ⟨b,off,none⟩) e.subs.length e.sp.cap)):=zhd fun W hW =>
       ⟨(hW.cell (p:=⟨b,_,none⟩) (by simp only;omega)).trans (hca 0 _ rfl),(hW.cell (p:=⟨b,_,none⟩) (by simp only;omega)).trans (hca 1 _ rfl),(hW.cell (p:=⟨b,_,none⟩) (by simp only;omega)).trans (hca 2 _ rfl),(hW.cell (p:=⟨b,_,none⟩) (by simp only;omega)).trans (hca 3 _ rfl),(hW.cell (p:=⟨b,_,none⟩) (by simp only;omega)).trans (hca 4 _ rfl),(hW.cell (p:=⟨b,_,none⟩) (by simp only;omega)).trans (hca 5 _ rfl),
        (hW.cell (p:=⟨b,_,none⟩) (by simp only;omega)).trans (hcb 0 _ rfl),(hW.cell (p:=⟨b,_,none⟩) (by simp only;omega)).trans (hcb 1 _ rfl),(hW.cell (p:=⟨b,_,none⟩) (by simp only;omega)).trans (hcb 2 _ rfl),(hW.cell (p:=⟨b,_,none⟩) (by simp only;omega)).trans (hcb 3 _ rfl),(hW.cell (p:=⟨b,_,none⟩) (by simp only;omega)).trans (hcb 4 _ rfl),(hW.cell (p:=⟨b,_,none⟩) (by simp only;omega)).trans (hcb 5 _ rfl),
        (hW.cell (p:=⟨w.heap.size,5,none⟩) (by simp only;omega)).trans c5⟩
      have HWA:Hid (∀W,Below W3.heap.size W3 W→Calls Tryz.prog 230 #[.pointer (some ⟨K.q,0,none⟩),s1.val] W fun o w'=>o=.returned (.int .i64 (bu K.p E s1))∧Below W.heap.size W w'):=zhd fun W hW =>
       gU hra W (HB.out.trans (((HBW1.out.trans (HB3.out.mono (by omega))).mono (by omega)).trans (hW.mono (by omega)))) (by have:=hW.size;omega) (HK.out.new ((HBW1.out.trans (HB3.out.mono (by omega))).trans (hW.mono (by omega))))
      have HWB:Hid (∀W,Below W3.heap.size W3 W→Calls Tryz.prog 230 #[.pointer (some ⟨K.q,0,none⟩),s2.val] W fun o w'=>o=.returned (.int .i64 (bu K.p E s2))∧Below W.heap.size W w'):=zhd fun W hW =>
       gU hrb W (HB.out.trans (((HBW1.out.trans (HB3.out.mono (by omega))).mono (by omega)).trans (hW.mono (by omega)))) (by have:=hW.size;omega) (HK.out.new ((HBW1.out.trans (HB3.out.mono (by omega))).trans (hW.mono (by omega))))
      obtain ⟨v20,v21,v22,v23,v24,v25,v26,v27,v28,v29,v30,v31,v32⟩:=HC.out W3.drew (Below.refl _ _).drew;have hbd:Below W3.heap.size W3 W3.drew:=(Below.refl _ _).drew;have HWD:=zhd (hwb.trans (by rw [hsa,hsb]));have hj1:decide (e.subs.length=3)=true:=decide_eq_true hln;have hj2:((e.subs.length:Int) == 3)=true:=by rw [hln];rfl
      have hj3:(1:Int)<(e.subs.length:Int):=by omega
      have hj4:(2:Int)<(e.subs.length:Int):=by omega
      clear hwb hrow3 hcell hsa hsb hra hrb hca hcb hqa hqb eA;simp only [ae.val,Sp.val] at HWA HWB;subst hek2;go_wp2_with fail
      go_region_held3 (fun W=>W.cell? ⟨b,off+6,none⟩=some (.int .u8 s1.kind)∧W.cell? ⟨b,off+7,none⟩=some (.int .u8 s1.op)∧W.cell? ⟨b,off+8,none⟩=some (.int .u32 s1.value)∧W.cell? ⟨b,off+9,none⟩=some (.int .i64 s1.width)∧W.cell? ⟨b,off+10,none⟩=some (.string s1.name)∧W.cell? ⟨b,off+11,none⟩=some (.slice s1.sp.at_ s1.subs.length s1.sp.cap)∧W.cell? ⟨b,off+12,none⟩=some (.int .u8 s2.kind)∧W.cell? ⟨b,off+13,none⟩=some (.int .u8 s2.op)∧W.cell? ⟨b,off+14,none⟩=some (.int .u32 s2.value)∧W.cell? ⟨b,off+15,none⟩=some (.int .i64 s2.width)∧W.cell? ⟨b,off+16,none⟩=some (.string s2.name)∧W.cell? ⟨b,off+17,none⟩=some (.slice s2.sp.at_ s2.subs.length s2.sp.cap)∧W.cell? ⟨w.heap.size,5,none⟩=some (.slice (some ⟨b,off,none⟩) e.subs.length e.sp.cap)∧Below W3.heap.size W3 W) (simp [*])
       (first
        | (go_at_call 230;refine (HWA.out _ (by assumption)).mono ?_;clear HWA;rintro o8 w8 ⟨rfl,hb8⟩;have hb9:=Below.trans (by assumption:Below W3.heap.size W3 _) (hb8.mono (Below.size (by assumption)));obtain ⟨z0,z1,z2,z3,z4,z5,z6,z7,z8,z9,z10,z11,z12⟩:=HC.out _ hb9)
        | (go_at_call 230;refine (HWB.out _ (by assumption)).mono ?_;clear HWB;rintro o7 w7 ⟨rfl,hb7⟩;have hb10:=Below.trans (by assumption:Below W3.heap.size W3 _) (hb7.mono (Below.size (by assumption)));obtain ⟨x0,x1,x2,x3,x4,x5,x6,x7,x8,x9,x10,x11,x12⟩:=HC.out _ hb10)
        | (go_at_call 229;refine (iy _ _ _).mono ?_;rintro o6 w6 ⟨rfl,rfl⟩)
        | fail)
      go_wp2_with fail
      go_meet
      case rel=>exact ⟨congrArg Value.bool HWD.out.symm,by assumption⟩
     ·have hwb:bO K.p E e=false:=by unfold bO;rw [hek,hek2,if_neg (by omega),if_neg (by omega)];rw [if_neg (by omega),if_neg (by omega)]
      have HWD:=zhd hwb;have hj1:decide (e.subs.length=3)=false:=decide_eq_false hln;have hj2:((e.subs.length:Int) == 3)=false:=by simp;omega
      clear hwb;subst hek2;go_wp2_with fail
      go_meet
      case rel=>exact ⟨congrArg Value.bool HWD.out.symm,Below.refl _ _⟩
    ·have hwb:bO K.p E e=((!bG e.width) || decide (qh e.width<e.value)):=by unfold bO;rw [hek,hek2];rfl
     subst hek2;have HM:=zhd (Bj e.width W3);cases hw:bG e.width with
     | false =>
      have e2:nY e.width=220:=by simp [nY,hw]
      have HWD:=zhd (hwb.trans (by rw [hw];rfl:_=true));rw [e2] at HM;generalize qh e.width=mw at *;clear hwb e2;go_wp2_with (first | (go_at_call 257;refine HM.out.mono ?_;rintro o6 w6 ⟨rfl,rfl⟩) | fail)
      go_meet
      case rel=>exact ⟨congrArg Value.bool HWD.out.symm,Below.refl _ _⟩
     | true =>
      have e2:nY e.width=0:=by simp [nY,hw]
      have HWD:=zhd (hwb.trans (by rw [hw];rfl:_=decide (qh e.width<e.value)));rw [e2] at HM;generalize qh e.width=mw at *;clear hwb e2;go_wp2_with (first | (go_at_call 257;refine HM.out.mono ?_;rintro o6 w6 ⟨rfl,rfl⟩) | fail)
      all_goals
       go_meet
       case rel=>exact ⟨congrArg Value.bool (by rw [HWD.out]),Below.refl _ _⟩
    ·have hwb:bO K.p E e=!bG e.width:=by unfold bO;rw [hek,hek2];rfl
     have HWD:=zhd hwb;clear hwb;subst hek2;go_wp2_with (first | (go_at_call 254;refine (bT _ _).mono ?_;rintro o6 w6 ⟨rfl,rfl⟩) | fail)
     all_goals
      go_meet
      case rel=>exact ⟨congrArg Value.bool (by rw [HWD.out]),Below.refl _ _⟩
    ·obtain ⟨h1,h8,h6,h7⟩:=hek2
     have hwb:bO K.p E e=false:=by unfold bO;rw [hek,if_neg (by omega),if_neg (by omega),if_neg (by omega),if_neg (by omega)]
     have HWD:=zhd hwb;have g1:(ek == 1)=false:=by simpa using h1
     have g6:(ek == 6)=false:=by simpa using h6
     have g7:(ek == 7)=false:=by simpa using h7
     have g8:(ek == 8)=false:=by simpa using h8
     clear hwb h1 h8 h6 h7;go_wp2_with fail
     go_meet
     case rel=>exact ⟨congrArg Value.bool HWD.out.symm,Below.refl _ _⟩
   case rest=>as_aux_lemma =>
    obtain ⟨rfl,hb4⟩:=hcut;have hcf:=codeF_eq K.p E wh e d;rw [←HXK.out,hek,hnb] at hcf;generalize bO K.p E e=wB at *;have hb14:Below w.heap.size w wc:=HBW1.out.trans ((HB3.out.trans (hb4.mono (by omega))).mono (by omega));have hbox4:=(hb4.block _ (by omega)).trans ((HB3.out.block _ (by omega)).trans HB1.out);have hx4:=(hb4.block _ (by omega)).trans HX.out;have hs4:=hb4.size;have HSH:=zhd (FR wc e oo (by rw [hek];omega) HROW.out.few);simp only [ae.val,Sp.val] at HSH;rw [hek] at HSH;have HB14:=zhd hb14;have HBOX4:=zhd hbox4;have HX4:=zhd hx4;have HCF:=zhd hcf;have HLIM:=zhd (fun (W:World) (hW:Below w.heap.size w W)=>rz W (HK.out.new hW) 32 1000);have HTELL:Hid (∀(W:World) (c:Int),Below w.heap.size w W→W.heap[w.heap.size]? = some (.cells #[.int .u8 ek,.int .u8 e.op,.int .u32 e.value,.int .i64 e.width,.string e.name,.slice e.sp.at_ e.subs.length e.sp.cap] 30 (0,0))→Calls Tryz.prog 228 #[.pointer (some ⟨K.q,0,none⟩),.int .i64 c] W fun o W'=>o=.returned (.tuple #[])∧Told K J Jx pm E (cs++[c]) w W'∧W'.heap[w.heap.size]? = some (.cells #[.int .u8 ek,.int .u8 e.op,.int .u32 e.value,.int .i64 e.width,.string e.name,.slice e.sp.at_ e.subs.length e.sp.cap] 30 (0,0))):=zhd fun W c hW hbx =>
     (hT pm E cs W c (HST.out.new hJ hJx hW) (by have:=HLEN.out;rw [kD] at this;simp at this;omega)).mono fun o W' ⟨h1,h2⟩=>⟨h1,h2.after (.of_below hW (by omega)),h2.keeps.cells _ _ _ _ hbx rfl (by omega)⟩
    generalize dx K.p 32 1000=lim at *;clear hcf hb14 hbox4 hx4 c0 c1 c2 c3 c4 c5 hb4;obtain ⟨c0,c1,c2,c3,c4,c5⟩:=ag HBOX4.out
    go_upto_block 1 with (fail)
    go_cut [2,9,10] (fun s2 s9 s10 wx=>s2=.int .u8 wh∧Told K J Jx pm E (cs++[iR K.p E wh e d]) w wx∧wx.heap[w.heap.size]? = some (.cells #[.int .u8 ek,.int .u8 e.op,.int .u32 e.value,.int .i64 e.width,.string e.name,.slice e.sp.at_ e.subs.length e.sp.cap] 30 (0,0)))
    case first=>as_aux_lemma =>
     obtain ⟨sB,hsb⟩:∃sB,jT e=sB:=⟨_,rfl⟩;rw [hsb] at HSH HCF;clear hsb;cases sB
     case false =>
      have HCF2:Hid (∀W,Told K J Jx pm E (cs++[325]) w W→Told K J Jx pm E (cs++[iR K.p E wh e d]) w W):=zhd fun W h=>by rw [HCF.out];simp [codeF, *]
      go_wp2_with (first | (go_at_call 258;refine HSH.out.mono ?_;rintro o5 w5 ⟨rfl,hb5⟩;have HB5:=zhd (HB14.out.trans (hb5.mono HB14.out.size));obtain ⟨x0,x1⟩:=nK ((hb5.block _ (zgs HX4.out).1).trans HX4.out);have HBOX5:=zhd ((hb5.block _ (zgs HBOX4.out).1).trans HBOX4.out);obtain ⟨k0,k1,k2,k3,k4,k5⟩:=ag HBOX5.out;clear hb5 c0 c1 c2 c3 c4 c5) | (go_at_call 228;refine (HTELL.out _ _ HB5.out HBOX5.out).mono ?_;rintro o6 w6 ⟨rfl,ht6,hbx6⟩;have HT6:=zhd ht6;have HBX6:=zhd hbx6;clear ht6 hbx6) | fail)
      go_meet
      case rel=>exact ⟨rfl,HCF2.out _ HT6.out,HBX6.out⟩
     case true =>
      go_upto_region 16 with (first | (go_at_call 258;refine HSH.out.mono ?_;rintro o5 w5 ⟨rfl,hb5⟩;have HB5:=zhd (HB14.out.trans (hb5.mono HB14.out.size));obtain ⟨x0,x1⟩:=nK ((hb5.block _ (zgs HX4.out).1).trans HX4.out);have HBOX5:=zhd ((hb5.block _ (zgs HBOX4.out).1).trans HBOX4.out);obtain ⟨k0,k1,k2,k3,k4,k5⟩:=ag HBOX5.out;clear hb5 c0 c1 c2 c3 c4 c5) | fail)
      go_cut [2,9,107] (fun s2 s9 s107 wx=>s2=.int .u8 wh∧s9=.bool nB∧s107=.bool (nB && (decide (xk=0) || (decide (xk=4) != decide (ek=3))))∧w5=wx)
      case first=>as_aux_lemma =>
       clear HCF HTELL HLIM HIH HSUBS HROW HLEN HB HST HK;cases nB
       ·go_wp2_with fail
        go_meet
        case rel=>exact ⟨rfl,rfl,congrArg Value.bool (by simp),rfl⟩
       ·by_cases hx0:xk=0
        ·subst hx0
         go_wp2_with fail
         go_meet
         case rel=>exact ⟨rfl,rfl,congrArg Value.bool (by simp),rfl⟩
        ·have g0:(xk == 0)=false:=by simpa using hx0
         obtain ⟨b4,hb4⟩:∃b,(xk == 4)=b:=⟨_,rfl⟩;obtain ⟨b3,hb3⟩:∃b,(ek == 3)=b:=⟨_,rfl⟩;have h4:decide (xk=4)=b4:=by rw [←hb4];rfl
         have h3:decide (ek=3)=b3:=by rw [←hb3];rfl
         have H0:=zhd (decide_eq_false hx0);have H4:=zhd h4;have H3:=zhd h3;clear hx0 h4 h3;cases b4 <;> cases b3
         all_goals
          go_wp2_with fail
          go_meet
          case rel=>exact ⟨rfl,rfl,congrArg Value.bool (by rw [H0.out,H4.out,H3.out];rfl),rfl⟩
      case rest=>as_aux_lemma =>
       obtain ⟨rfl,rfl,rfl,rfl⟩:=hcut;obtain ⟨c16,h16⟩:∃b,(nB && (decide (xk=0) || (decide (xk=4) != decide (ek=3))))=b:=⟨_,rfl⟩;rw [h16];cases c16 with
       | true =>
        have HCF2:Hid (∀W,Told K J Jx pm E (cs++[321]) w W→Told K J Jx pm E (cs++[iR K.p E wh e d]) w W):=zhd fun W h=>by rw [HCF.out];simp [codeF, *]
        clear h16;go_wp2_with (first | (go_at_call 253;refine (HLIM.out _ HB5.out).mono ?_;rintro o7 w7 ⟨rfl,rfl⟩) | (go_at_call 228;refine (HTELL.out _ _ HB5.out HBOX5.out).mono ?_;rintro o6 w6 ⟨rfl,ht6,hbx6⟩;have HT6:=zhd ht6;have HBX6:=zhd hbx6;clear ht6 hbx6) | fail)
        go_meet
        case rel=>exact ⟨rfl,HCF2.out _ HT6.out,HBX6.out⟩
       | false =>
        go_upto_region 18 with fail
        go_cut [2,9,125] (fun s2 s9 s125 wx=>s2=.int .u8 wh∧s9=.bool nB∧s125=.bool (decide (wh=1) && (decide (ek=4) || (nB && !decide (xk=1))))∧w5=wx)
        case first=>as_aux_lemma =>
         clear HCF HTELL HLIM HIH HSUBS HROW HLEN HB HST HK h16;obtain ⟨b1,hw1⟩:∃b,(wh == 1)=b:=⟨_,rfl⟩;obtain ⟨b4,hb4⟩:∃b,(ek == 4)=b:=⟨_,rfl⟩;obtain ⟨b3,hb3⟩:∃b,(xk == 1)=b:=⟨_,rfl⟩;have hb3':(xk != 1)=!b3:=by rw [←hb3];rfl
         have H1:=zhd (show decide (wh=1)=b1 by rw [←hw1];rfl);have H4:=zhd (show decide (ek=4)=b4 by rw [←hb4];rfl);have H3:=zhd (show decide (xk=1)=b3 by rw [←hb3];rfl);cases b1
         case false =>
          go_wp2_with fail
          go_meet
          case rel=>exact ⟨rfl,rfl,congrArg Value.bool (by rw [H1.out];rfl),rfl⟩
         case true =>
          cases b4
          case true =>
           go_wp2_with fail
           go_meet
           case rel=>exact ⟨by first | rfl | (have:=of_decide_eq_true H1.out;rw [this]),rfl,congrArg Value.bool (by rw [H1.out,H4.out];rfl),rfl⟩
          case false =>
           cases nB <;> cases b3
           all_goals
            simp only [Bool.not_true,Bool.not_false] at hb3';go_wp2_with fail
            go_meet
            case rel=>exact ⟨by first | rfl | (have:=of_decide_eq_true H1.out;rw [this]),rfl,congrArg Value.bool (by rw [H1.out,H4.out];first | rfl | (rw [H3.out];rfl)),rfl⟩
        case rest=>as_aux_lemma =>
         obtain ⟨rfl,rfl,rfl,rfl⟩:=hcut;obtain ⟨c18,h18⟩:∃b,(decide (wh=1) && (decide (ek=4) || (nB && !decide (xk=1))))=b:=⟨_,rfl⟩;rw [h18];cases c18 with
         | true =>
          have HCF2:Hid (∀W,Told K J Jx pm E (cs++[326]) w W→Told K J Jx pm E (cs++[iR K.p E wh e d]) w W):=zhd fun W h=>by rw [HCF.out];simp [codeF, *]
          clear h16 h18;go_wp2_with (first | (go_at_call 253;refine (HLIM.out _ HB5.out).mono ?_;rintro o7 w7 ⟨rfl,rfl⟩) | (go_at_call 228;refine (HTELL.out _ _ HB5.out HBOX5.out).mono ?_;rintro o6 w6 ⟨rfl,ht6,hbx6⟩;have HT6:=zhd ht6;have HBX6:=zhd hbx6;clear ht6 hbx6) | fail)
          go_meet
          case rel=>exact ⟨rfl,HCF2.out _ HT6.out,HBX6.out⟩
         | false =>
          go_upto_region 19 with fail
          go_cut [2,9,125] (fun s2 s9 s125 wx=>s2=.int .u8 wh∧s9=.bool nB∧s125=.bool (decide (wh=2) && nB && (decide (xk=3) || decide (xk=4)))∧w5=wx)
          case first=>as_aux_lemma =>
           clear HCF HTELL HLIM HIH HSUBS HROW HLEN HB HST HK h16 h18;obtain ⟨b1,hw1⟩:∃b,(wh == 2)=b:=⟨_,rfl⟩;obtain ⟨b4,hb4⟩:∃b,(xk == 4)=b:=⟨_,rfl⟩;obtain ⟨b3,hb3⟩:∃b,(xk == 3)=b:=⟨_,rfl⟩;have H1:=zhd (show decide (wh=2)=b1 by rw [←hw1];rfl);have H4:=zhd (show decide (xk=4)=b4 by rw [←hb4];rfl);have H3:=zhd (show decide (xk=3)=b3 by rw [←hb3];rfl);cases b1
           case false =>
            go_wp2_with fail
            go_meet
            case rel=>exact ⟨rfl,rfl,congrArg Value.bool (by rw [H1.out];rfl),rfl⟩
           case true =>
            cases nB
            case false =>
             go_wp2_with fail
             go_meet
             case rel=>exact ⟨by first | rfl | (have:=of_decide_eq_true H1.out;rw [this]),rfl,congrArg Value.bool (by rw [H1.out];rfl),rfl⟩
            case true =>
             cases b3 <;> cases b4
             all_goals
              go_wp2_with fail
              go_meet
              case rel=>exact ⟨by first | rfl | (have:=of_decide_eq_true H1.out;rw [this]),rfl,congrArg Value.bool (by rw [H1.out,H3.out,H4.out];rfl),rfl⟩
          case rest=>as_aux_lemma =>
           obtain ⟨rfl,rfl,rfl,rfl⟩:=hcut;obtain ⟨c19,h19⟩:∃b,(decide (wh=2) && nB && (decide (xk=3) || decide (xk=4)))=b:=⟨_,rfl⟩;rw [h19];cases c19 with
           | true =>
            have HCF2:Hid (∀W,Told K J Jx pm E (cs++[326]) w W→Told K J Jx pm E (cs++[iR K.p E wh e d]) w W):=zhd fun W h=>by rw [HCF.out];simp [codeF, *]
            clear h16 h18 h19;go_wp2_with (first | (go_at_call 253;refine (HLIM.out _ HB5.out).mono ?_;rintro o7 w7 ⟨rfl,rfl⟩) | (go_at_call 228;refine (HTELL.out _ _ HB5.out HBOX5.out).mono ?_;rintro o6 w6 ⟨rfl,ht6,hbx6⟩;have HT6:=zhd ht6;have HBX6:=zhd hbx6;clear ht6 hbx6) | fail)
            go_meet
            case rel=>exact ⟨rfl,HCF2.out _ HT6.out,HBX6.out⟩
           | false =>
            cases wB with
            | true =>
             have HCF2:Hid (∀W,Told K J Jx pm E (cs++[322]) w W→Told K J Jx pm E (cs++[iR K.p E wh e d]) w W):=zhd fun W h=>by rw [HCF.out];simp [codeF, *]
             clear h16 h18 h19;go_wp2_with (first | (go_at_call 253;refine (HLIM.out _ HB5.out).mono ?_;rintro o7 w7 ⟨rfl,rfl⟩) | (go_at_call 228;refine (HTELL.out _ _ HB5.out HBOX5.out).mono ?_;rintro o6 w6 ⟨rfl,ht6,hbx6⟩;have HT6:=zhd ht6;have HBX6:=zhd hbx6;clear ht6 hbx6) | fail)
             go_meet
             case rel=>exact ⟨rfl,HCF2.out _ HT6.out,HBX6.out⟩
            | false =>
             obtain ⟨dl,hdl⟩:∃b,decide (lim<(d:Int))=b:=⟨_,rfl⟩;cases dl with
             | true =>
              have HCF2:Hid (∀W,Told K J Jx pm E (cs++[319]) w W→Told K J Jx pm E (cs++[iR K.p E wh e d]) w W):=zhd fun W h=>by rw [HCF.out];simp [codeF, *]
              clear h16 h18 h19;go_wp2_with (first | (go_at_call 253;refine (HLIM.out _ HB5.out).mono ?_;rintro o7 w7 ⟨rfl,rfl⟩) | (go_at_call 228;refine (HTELL.out _ _ HB5.out HBOX5.out).mono ?_;rintro o6 w6 ⟨rfl,ht6,hbx6⟩;have HT6:=zhd ht6;have HBX6:=zhd hbx6;clear ht6 hbx6) | fail)
              go_meet
              case rel=>exact ⟨rfl,HCF2.out _ HT6.out,HBX6.out⟩
             | false =>
              have HCF2:Hid (∀W,Told K J Jx pm E (cs++[0]) w W→Told K J Jx pm E (cs++[iR K.p E wh e d]) w W):=zhd fun W h=>by rw [HCF.out];simp [codeF, *]
              clear h16 h18 h19;go_wp2_with (first | (go_at_call 253;refine (HLIM.out _ HB5.out).mono ?_;rintro o7 w7 ⟨rfl,rfl⟩) | (go_at_call 228;refine (HTELL.out _ _ HB5.out HBOX5.out).mono ?_;rintro o6 w6 ⟨rfl,ht6,hbx6⟩;have HT6:=zhd ht6;have HBX6:=zhd hbx6;clear ht6 hbx6) | fail)
              go_meet
              case rel=>exact ⟨rfl,HCF2.out _ HT6.out,HBX6.out⟩
    case rest=>as_aux_lemma =>
     obtain ⟨rfl,ht,hbx⟩:=hcut;obtain ⟨k0,k1,k2,k3,k4,k5⟩:=ag hbx;have HT0:=zhd ht;have hcap:=HROW.out.few;clear HCF HSH HTELL HLIM HB14 HBOX4 HX4 hbx ht c0 c1 c2 c3 c4 c5;go_wp2_with fail
     go_loopw [172] (fun i wr=>∃k:Nat,k≤e.subs.length∧i=.int .i64 k∧Told K J Jx pm E (cs++iR K.p E wh e d::bI K.p E wh (e.subs.take k) (d+1)) w wr) (fun i _=>e.subs.length - (intOf i).toNat)
     case atStart=>exact ⟨0,Nat.zero_le _,rfl,by rw [List.take_zero,bI];exact HT0.out⟩
     case round =>
      obtain ⟨k,hk,rfl,htk⟩:=hrel;have HTK:=zhd htk;clear htk k0 k1 k2 k3 k4 k5;by_cases hlt2:k<e.subs.length
      ·obtain ⟨b,off,eA,hbn,hcell⟩:=(HROW.out.below (HB.out.trans HTK.out.keeps.low)).row (by omega)
       have hmem:e.subs[k]∈e.subs:=List.getElem_mem hlt2;have hts:e.subs.take (k+1)=e.subs.take k++[e.subs[k]]:=List.take_succ_eq_append_getElem hlt2;have k0:wr.cell? ⟨b,off+k*6,none⟩=some (.int .u8 e.subs[k].kind):=hcell k hlt2 0 _ rfl;have k1:wr.cell? ⟨b,off+k*6+1,none⟩=some (.int .u8 e.subs[k].op):=hcell k hlt2 1 _ rfl;have k2:wr.cell? ⟨b,off+k*6+2,none⟩=some (.int .u32 e.subs[k].value):=hcell k hlt2 2 _ rfl;have k3:wr.cell? ⟨b,off+k*6+3,none⟩=some (.int .i64 e.subs[k].width):=hcell k hlt2 3 _ rfl;have k4:wr.cell? ⟨b,off+k*6+4,none⟩=some (.string e.subs[k].name):=hcell k hlt2 4 _ rfl;have k5:wr.cell? ⟨b,off+k*6+5,none⟩=some (.slice e.subs[k].sp.at_ e.subs[k].subs.length e.subs[k].sp.cap):=hcell k hlt2 5 _ rfl;have HIX:=zhd (HIH.out _ hmem);have hle:(fC K.p E wh e d).length=1+(bI K.p E wh (e.subs.take k) (d+1)).length+(fC K.p E wh e.subs[k] (d+1)).length+(bI K.p E wh (e.subs.drop (k+1)) (d+1)).length:=by
        have e1:e.subs=(e.subs.take k++[e.subs[k]])++e.subs.drop (k+1):=by rw [←hts,List.take_append_drop]
        rw [kD]
        conv=>lhs;rw [e1]
        simp only [bU,List.flatMap_append,List.length_append,List.length_cons,List.flatMap_cons,List.flatMap_nil,List.append_nil];omega
       have HTS:=zhd hts;generalize e.subs[k]=x at *;have hbn2:=zba wr (.cells #[.int .u8 x.kind,.int .u8 x.op,.int .u32 x.value,.int .i64 x.width,.string x.name,.slice x.sp.at_ x.subs.length x.sp.cap] 30);have hsw:=HTK.out.keeps.size;have hst2:=HTK.out.st.new hJ hJx hbn2;have hC:=HIX.out _ (d+1) _ ((HB.out.trans HTK.out.keeps.low).trans (hbn2.mono (by omega))) hst2 (by have:=HLEN.out;simp only [List.length_append,List.length_cons];omega) (by have:=HD0.out;omega);simp only [ae.val,Sp.val] at hC;have hcast:(((d+1:Nat)):Int)=(d:Int)+1:=by omega
       rw [hcast] at hC;have HCX:=zhd hC;have HBN2:=zhd hbn2;have hj0:(0:Int)≤(k:Int):=by omega
       have hj1:(k:Int)<(e.subs.length:Int):=by omega
       clear hcell hmem hts hle hbn2 hst2 hC hcast;rw [eA];clear eA;go_wp2_with fail
       refine HCX.out.mono ?_;rintro o w2 ⟨rfl,ht2⟩;have HT2:=zhd (ht2.after (HTK.out.keeps.trans (.of_below HBN2.out (by omega))));clear ht2 k0 k1 k2 k3 k4 k5;go_wp2_with fail
       go_roundw
       case rel=>exact ⟨k+1,by omega,by go_num,by
        rw [HTS.out,bU,List.flatMap_append,←bU]
        simpa using HT2.out⟩
       case measure=>simp [intOf];omega
      ·obtain rfl:k=e.subs.length:=by omega
       go_wp2_with fail
       go_returns
       have:=HTK.out;rw [List.take_length,←kD] at this;exact ⟨rfl,this⟩
end
end Go.Proofs.YtepacjkacjabbaaGreatDoor
