import Derived.Test.YtepacjkacjabbaaGreatDoorPAA
import Derived.Test.YtepacjkacjabbaaGreatDoorPBJ
import Derived.Test.YtepacjkacjabbaaGreatDoorPAF
import Derived.Laws.Tables
import Derived.Laws.CopyOwn
import Derived.Test.YtepacjkacjabbaaGreatDoorPAY
import Derived.Test.YtepacjkacjabbaaGreatDoorPAZ
import Derived.Test.YtepacjkacjabbaaGreatDoorPAM
import Derived.Test.YtepacjkacjabbaaGreatDoorPAO
import Derived.Test.YtepacjkacjabbaaGreatDoorRows
import Derived.Test.YtepacjkacjabbaaGreatDoorProg
import Derived.WalkKit
import Derived.ProofKit
import Derived.OpenShut
import Derived.Below
namespace Go.Proofs.YtepacjkacjabbaaGreatDoor
section
open Go Go.RowKit Go.Maps
theorem IV {l l' r r':List aa} (h:l.map ah=l'.map ah) (h2:r.map ah=r'.map ah):aD (zX l r)=aD (zX l' r'):=by
 unfold aD zX;simp only [h,h2]
structure L8 (p:af):Prop where
 ready:dC p
 weight:bJ p=26
 depth:iX p=4
 inits:p.inits=[]
 free:lV p.work=false
 un:(aX p.work).map ah=[EX [rf,EX [rf,EX [dh]]]]
 pass:dW (aX p.work)=1
 rec0:dW (aX p.recover)=0
theorem Kv {v ws:Sp} {s:aa} (h:ah s=fH 2):L8 (BJ v ws Sp.none [s] []):=by
 have hb:ah (fH 2)=fH 2:=by kernel_rfl
 have hm:[s].map ah=[fH 2].map ah:=by rw [List.map_cons,List.map_cons,h,hb]
 have e:aD (BJ v ws Sp.none [s] [])=aD (zX [fH 2] []):=(BK _ _ _ _ _).trans (IV hm rfl);have hu:=Jc hm;refine ⟨Af.same e,by rw [qJ e];exact yR,by rw [Az e];exact Ae,rfl,?_,hu.trans GD,?_,uL.2⟩
 ·show lV [s]=false
  rw [CW hm];exact Ct
 ·show dW (aX [s])=1
  rw [lI hu];exact uL.1
theorem KC {v:Sp}:dC (BJ v Sp.none Sp.none [] [])∧bJ (BJ v Sp.none Sp.none [] [])=4:=by
 have e:aD (BJ v Sp.none Sp.none [] [])=aD (zX [] []):=BK _ _ _ _ _;exact ⟨AA.same e,by rw [qJ e];exact y8⟩
theorem CG {sc:aa} (h:ah sc=fH 1):ay [sc]≤20000:=by
 have e:ay [sc]=ay [fH 1]:=by rw [←eH,List.map_cons,List.map_nil,h]
 have e0:ay []=0:=rfl;have x1:aF (fH 1).exprs=3:=by rw [←zB];kernel_rfl
 have x2:aF rf.exprs=3:=by rw [←zB];kernel_rfl
 have y1:(fH 1).thn=[rf]:=rfl;have y2:(fH 1).els=[]:=rfl;have y3:rf.thn=[]:=rfl;have y4:rf.els=[]:=rfl;rw [e,bR,x1,y1,y2,bR,x2,y3,y4,e0]
 decide
theorem GI {sc:aa} (h:ah sc=fH 1):aY sc=false:=by rw [←eG,h];exact CJ
theorem Ic {sp:Sp}:ay [DY sp (dB 1 1) 1 Sp.none []]≤20000:=by
 have e0:ay []=0:=rfl;have x1:aF (DY sp (dB 1 1) 1 Sp.none []).exprs=1:=by rw [←zB];kernel_rfl
 have y1:(DY sp (dB 1 1) 1 Sp.none []).thn=[]:=rfl;have y2:(DY sp (dB 1 1) 1 Sp.none []).els=[]:=rfl;rw [bR,x1,y1,y2,e0]
 decide
theorem JL {sp:Sp}:aY (DY sp (dB 1 1) 1 Sp.none [])=true:=by
 rw [←eG];exact Ig
theorem rG {W:World} {n:Nat} {sp:Sp} {l:List aa} (h:RowOf n W sp 6 aa.cells l) (h0:0<l.length):∃b off,sp.at_=some ⟨b,off,none⟩∧b<n∧∀j (hj:j<l.length) r u,(l[j]).cells[r]? = some u→W.cell? ⟨b,off+j*6+r,none⟩=some u:=h.row h0
set_option maxRecDepth 10000000 in
set_option maxHeartbeats 64000000 in
theorem Cs (w:World) (hn0:0<w.heap.size) (hmx:MxAt w):Calls Tryz.prog 26 #[] w fun o w'=>o=.returned (.bool true)∧Below w.heap.size w w':=by
 have HMX:=zhd hmx;clear hmx;go_enter Tryz.func26,Tryz.ntmps26
 go_wp2_with fail
 refine (uW 2 (by decide) w).mono ?_;rintro o W1 ⟨s,rfl,hs,hsr,hb1⟩;have hb2:=zba W1 (.cells #[.int .u8 s.kind,.string s.name,.slice s.es.at_ s.exprs.length s.es.cap,.int .i64 s.bound,.slice s.ts.at_ s.thn.length s.ts.cap,.slice s.os.at_ s.els.length s.os.cap] 43);have hr2:=row_one (enc:=aa.cells) (x:=s) (k:=6) (zan W1 (.cells #[.int .u8 s.kind,.string s.name,.slice s.es.at_ s.exprs.length s.es.cap,.int .i64 s.bound,.slice s.ts.at_ s.thn.length s.ts.cap,.slice s.os.at_ s.els.length s.os.cap] 43));have hSM:=wD ⟨some ⟨W1.heap.size,0,none⟩,1⟩ [s] (W1.alloc (.cells #[.int .u8 s.kind,.string s.name,.slice s.es.at_ s.exprs.length s.es.cap,.int .i64 s.bound,.slice s.ts.at_ s.thn.length s.ts.cap,.slice s.os.at_ s.els.length s.os.cap] 43)) ⟨hr2,fun t ht=>by rw [List.mem_singleton.1 ht];exact hsr.on hb2⟩;have HSM:=zhd hSM;have HS:=zhd hs;have HB2:=zhd (hb1.trans (hb2.mono hb1.size));clear hb1 hb2 hr2 hSM hs hsr;simp only [aa.val,Sp.val];go_wp2_with fail
 generalize W1.alloc (.cells #[.int .u8 s.kind,.string s.name,.slice s.es.at_ s.exprs.length s.es.cap,.int .i64 s.bound,.slice s.ts.at_ s.thn.length s.ts.cap,.slice s.os.at_ s.els.length s.os.cap] 43)=W2 at *;refine HSM.out.mono ?_;rintro o W3 ⟨bv,rfl,hrd,hb3⟩;have HAW:=zhd (Kv (v:=⟨some ⟨bv,0,none⟩,1⟩) (ws:=⟨some ⟨W1.heap.size,0,none⟩,1⟩) HS.out);have HB3:=zhd (HB2.out.trans (hb3.mono HB2.out.size));obtain ⟨p,hp⟩:∃p,p=BJ ⟨some ⟨bv,0,none⟩,1⟩ ⟨some ⟨W1.heap.size,0,none⟩,1⟩ Sp.none [s] []:=⟨_,rfl⟩;rw [←hp] at HAW hrd ⊢;have hpv:p.val=.agg p.arr:=rfl;rw [hpv];have HRD:=zhd hrd;clear hb3 hp hrd HSM HS HB2 hpv;have hz:=zan W3 (.cells bH.arr 35);have HZ:=zhd hz;have HA:Hid (Below W3.heap.size W3 (W3.alloc (.cells bH.arr 35))):=zhd ((Below.refl _ _).alloc (Nat.le_refl _) _);clear hz;go_upto_region 2 with (first
  | (refine aO (t:=35) rfl rfl (gm _) ?_)
  | (refine wpList_store_row rfl 35 _ _ rfl W3.heap.size p.arr (by rfl) (by rfl) 35 bH.arr HZ.out (aN _) (by kernel_rfl) (jg _) ?_)
  | fail)
 have hb4:Below W3.heap.size W3 ((W3.alloc (.cells bH.arr 35)).setRow W3.heap.size p.arr):=below_setRow HA.out (Nat.le_refl _);have HX4:=zhd (setRow_heap _ _ _ p.arr _ _ HZ.out);have HB4:=zhd (HB3.out.trans (hb4.mono HB3.out.size));have HR4:=zhd (HRD.out.on hb4);clear hb4 HZ HA HB3 HRD;generalize (W3.alloc (.cells bH.arr 35)).setRow W3.heap.size p.arr=W4 at *;generalize W3.heap.size=b1 at *;have hn4:0<W4.heap.size:=Nat.lt_of_lt_of_le hn0 HB4.out.size;have HM4:=zhd (HMX.out.below HB4.out hn0);have HUN:=zhd (wK W4 p HR4.out hn4 HM4.out HAW.out.ready HAW.out.inits (by rw [HAW.out.weight];decide) (by rw [HAW.out.depth];decide));go_wp2_with (first | (refine wpList_load_row rfl 35 _ rfl b1 rfl 35 p.arr (0,0) _ HX4.out Tryz.underlying35 rfl (aN _) ?_) | fail)
 refine HUN.out.mono ?_;rintro o W5 ⟨q,rfl,hqb,hqr,hb5⟩;have hz:=zan W5 (.cells bH.arr 35);have HZ:=zhd hz;have HA:Hid (Below W5.heap.size W5 (W5.alloc (.cells bH.arr 35))):=zhd ((Below.refl _ _).alloc (Nat.le_refl _) _);have HQB:=zhd hqb;have HQR:=zhd hqr;have HX5:=zhd ((hb5.block _ (zgs HX4.out).1).trans HX4.out);have HB5:=zhd hb5;clear hz hqb hqr hb5 HUN;go_upto_region 3 with (first
  | (refine aO (t:=35) rfl rfl (gm _) ?_)
  | (refine wpList_store_row rfl 35 _ _ rfl W5.heap.size q.arr (by rfl) (by rfl) 35 bH.arr HZ.out (aN _) (by kernel_rfl) (jg _) ?_)
  | fail)
 have hb6:Below W5.heap.size W5 ((W5.alloc (.cells bH.arr 35)).setRow W5.heap.size q.arr):=below_setRow HA.out (Nat.le_refl _);have HY6:=zhd (setRow_heap _ _ _ q.arr _ _ HZ.out);have HX6:=zhd ((hb6.block _ (zgs HX5.out).1).trans HX5.out);have HQ6:=zhd (HQR.out.on hb6);have HB6:=zhd (HB5.out.trans (hb6.mono HB5.out.size));clear hb6 HZ HA HX5 HB5 HQR;generalize (W5.alloc (.cells bH.arr 35)).setRow W5.heap.size q.arr=W6 at *;generalize W5.heap.size=b2 at *;have hqw:(q.work).map ah=[EX [rf,EX [rf,EX [dh]]]]:=(congrArg af.work HQB.out).trans HAW.out.un;obtain ⟨s0,t0,s1,t1,s2,tp,e0,k0,e1,k1,e2,e3,hpass⟩:=Ag hqw;have HSHP:=zhd (And.intro e0 (And.intro k0 (And.intro e1 (And.intro k1 (And.intro e2 (And.intro e3 hpass))))));clear hqw e0 k0 e1 k1 e2 e3 hpass HQB;have HC:=zhd (by have h:=mQ W6 p (HR4.out.on HB6.out) (Nat.lt_of_lt_of_le hn4 HB6.out.size) (HM4.out.below HB6.out hn4) HAW.out.ready;rw [HAW.out.weight] at h;exact h);go_wp2_with (first | (refine wpList_load_row rfl 35 _ rfl b1 rfl 35 p.arr (0,0) _ HX6.out Tryz.underlying35 rfl (aN _) ?_) | fail)
 refine HC.out.mono ?_;rintro o W7 ⟨rfl,hb⟩;have HX7:=zhd ((hb.block _ (zgs HX6.out).1).trans HX6.out);have HY7:=zhd ((hb.block _ (zgs HY6.out).1).trans HY6.out);have HQ7:=zhd (HQ6.out.on hb);have HB7:=zhd (HB6.out.trans (hb.mono HB6.out.size));clear hb HX6 HY6 HQ6 HB6 HC;go_wp2_with fail
 refine (wD Sp.none [] W7 ⟨RowOf.nil,fun _ h=>absurd h (by simp)⟩).mono ?_;rintro o W8 ⟨bv0,rfl,hrd0,hb⟩;have HX8:=zhd ((hb.block _ (zgs HX7.out).1).trans HX7.out);have HY8:=zhd ((hb.block _ (zgs HY7.out).1).trans HY7.out);have HQ8:=zhd (HQ7.out.on hb);have HB8:=zhd (HB7.out.trans (hb.mono HB7.out.size));obtain ⟨pe,hpe⟩:∃pe,pe=BJ ⟨some ⟨bv0,0,none⟩,1⟩ Sp.none Sp.none [] []:=⟨_,rfl⟩;have hep:=KC (v:=⟨some ⟨bv0,0,none⟩,1⟩);rw [←hpe] at hrd0 hep ⊢;have hpv:pe.val=.agg pe.arr:=rfl;rw [hpv];have HC:=zhd (by have h:=mQ W8 pe hrd0 (Nat.lt_of_lt_of_le hn4 HB8.out.size) (HM4.out.below HB8.out hn4) hep.1;rw [hep.2] at h;exact h);clear hb HX7 HY7 HQ7 HB7 hrd0 hep hpe hpv;go_wp2_with fail
 refine HC.out.mono ?_;rintro o W9 ⟨rfl,hb⟩;have HX9:=zhd ((hb.block _ (zgs HX8.out).1).trans HX8.out);have HY9:=zhd ((hb.block _ (zgs HY8.out).1).trans HY8.out);have HQ9:=zhd (HQ8.out.on hb);have HB9:=zhd (HB8.out.trans (hb.mono HB8.out.size));clear hb HX8 HY8 HQ8 HB8 HC;have HC:=zhd (by have h:=uZ W9 p (HR4.out.on HB9.out) (Nat.lt_of_lt_of_le hn4 HB9.out.size) HAW.out.ready.names HAW.out.ready.weight (HM4.out.below HB9.out hn4) HAW.out.ready.right HAW.out.ready.chk HAW.out.ready.len HAW.out.ready.heft;have e:max (min (gz p.work 0) 1001) (min (gz p.recover 0) 1001)=4:=HAW.out.depth;rw [e] at h;exact h);go_wp2_with (first | (refine wpList_load_row rfl 35 _ rfl b1 rfl 35 p.arr (0,0) _ HX9.out Tryz.underlying35 rfl (aN _) ?_) | fail)
 refine HC.out.mono ?_;rintro o W10 ⟨rfl,hb⟩;have HX10:=zhd ((hb.block _ (zgs HX9.out).1).trans HX9.out);have HY10:=zhd ((hb.block _ (zgs HY9.out).1).trans HY9.out);have HQ10:=zhd (HQ9.out.on hb);have HB10:=zhd (HB9.out.trans (hb.mono HB9.out.size));clear hb HX9 HY9 HQ9 HB9 HC;have HC:=zhd (by have h:=DC W10 p (HR4.out.on HB10.out) (Nat.lt_of_lt_of_le hn4 HB10.out.size) (HM4.out.below HB10.out hn4) HAW.out.ready HAW.out.inits (by rw [HAW.out.weight];decide) (by rw [HAW.out.depth];decide);rw [HAW.out.pass,HAW.out.rec0] at h;exact h);go_wp2_with (first | (refine wpList_load_row rfl 35 _ rfl b1 rfl 35 p.arr (0,0) _ HX10.out Tryz.underlying35 rfl (aN _) ?_) | fail)
 refine HC.out.mono ?_;rintro o W11 ⟨rfl,hb⟩;have HX11:=zhd ((hb.block _ (zgs HX10.out).1).trans HX10.out);have HY11:=zhd ((hb.block _ (zgs HY10.out).1).trans HY10.out);have HQ11:=zhd (HQ10.out.on hb);have HB11:=zhd (HB10.out.trans (hb.mono HB10.out.size));clear hb HX10 HY10 HQ10 HB10 HC;have HC:=zhd (CX W11 p (HR4.out.on HB11.out) (Nat.lt_of_lt_of_le hn4 HB11.out.size) (HM4.out.below HB11.out hn4) HAW.out.ready HAW.out.free);go_wp2_with (first | (refine wpList_load_row rfl 35 _ rfl b1 rfl 35 p.arr (0,0) _ HX11.out Tryz.underlying35 rfl (aN _) ?_) | fail)
 refine HC.out.mono ?_;rintro o W12 ⟨rfl,hb⟩;have HX12:=zhd ((hb.block _ (zgs HX11.out).1).trans HX11.out);have HY12:=zhd ((hb.block _ (zgs HY11.out).1).trans HY11.out);have HQ12:=zhd (HQ11.out.on hb);have HB12:=zhd (HB11.out.trans (hb.mono HB11.out.size));clear hb HX11 HY11 HQ11 HB11 HC;obtain ⟨e0,k0,e1,k1,e2,e3,hpass⟩:=HSHP.out;have hw0:=HQ12.out.work;obtain ⟨ba,oa,ea,-,ha⟩:=rG hw0.row (show 0<q.work.length by rw [e0];exact Nat.one_pos);have hs0:eu W12.heap.size W12 s0:=hw0.ok s0 (by rw [e0];exact List.mem_singleton.2 rfl);obtain ⟨bb,ob,eb,-,hbc⟩:=rG hs0.then_.row (show 0<s0.thn.length by rw [e1];exact Nat.succ_pos _);have hs1:eu W12.heap.size W12 s1:=hs0.then_.ok s1 (by rw [e1];simp);obtain ⟨bc,oc,ec,-,hcc⟩:=rG hs1.then_.row (show 0<s1.thn.length by rw [e2];exact Nat.succ_pos _);have hs2:eu W12.heap.size W12 s2:=hs1.then_.ok s2 (by rw [e2];simp);obtain ⟨bd,od,ed,-,hdc⟩:=rG hs2.then_.row (show 0<s2.thn.length by rw [e3];exact Nat.succ_pos _);have htp:eu W12.heap.size W12 tp:=hs2.then_.ok tp (by rw [e3];simp);have c14:W12.cell? ⟨b2,14,none⟩=some (.slice (some ⟨ba,oa,none⟩) 1 q.ws.cap):=by
  have h:=(show Bx b2 W12 q from HY12.out).cell 14 rfl;rw [e0,show q.ws.val [s0].length=.slice q.ws.at_ 1 q.ws.cap from rfl,ea] at h;exact h
 have a0:W12.cell? ⟨ba,oa,none⟩=some (.int .u8 6):=by
  have h:=ha 0 (by rw [e0];exact Nat.one_pos) 0 (.int .u8 s0.kind) (by simp only [e0];rfl);rw [k0] at h;exact h
 have a4:W12.cell? ⟨ba,oa+4,none⟩=some (.slice (some ⟨bb,ob,none⟩) 2 s0.ts.cap):=by
  have h:=ha 0 (by rw [e0];exact Nat.one_pos) 4 (.slice s0.ts.at_ s0.thn.length s0.ts.cap) (by simp only [e0];rfl);rw [e1,eb] at h;exact h
 have s1c:∀r u,s1.cells[r]? = some u→W12.cell? ⟨bb,ob+6+r,none⟩=some u:=fun r u hu=>by
  have h:=hbc 1 (by rw [e1];exact Nat.one_lt_two) r u (by simp only [e1];exact hu);exact h
 have b0:W12.cell? ⟨bb,ob+6,none⟩=some (.int .u8 6):=by have h:=s1c 0 _ rfl;rw [k1] at h;exact h
 have b1':W12.cell? ⟨bb,ob+6+1,none⟩=some (.string s1.name):=s1c 1 _ rfl;have b2':W12.cell? ⟨bb,ob+6+2,none⟩=some (.slice s1.es.at_ s1.exprs.length s1.es.cap):=s1c 2 _ rfl;have b3':W12.cell? ⟨bb,ob+6+3,none⟩=some (.int .i64 s1.bound):=s1c 3 _ rfl;have b4':W12.cell? ⟨bb,ob+6+4,none⟩=some (.slice (some ⟨bc,oc,none⟩) 2 s1.ts.cap):=by
  have h:=s1c 4 (.slice s1.ts.at_ s1.thn.length s1.ts.cap) rfl;rw [e2,ec] at h;exact h
 have b5':W12.cell? ⟨bb,ob+6+5,none⟩=some (.slice s1.os.at_ s1.els.length s1.os.cap):=s1c 5 _ rfl;have d4:W12.cell? ⟨bc,oc+6+4,none⟩=some (.slice (some ⟨bd,od,none⟩) 1 s2.ts.cap):=by
  have h:=hcc 1 (by rw [e2];exact Nat.one_lt_two) 4 (.slice s2.ts.at_ s2.thn.length s2.ts.cap) (by simp only [e2];rfl);rw [e3,ed] at h;exact h
 have tpc:∀r u,tp.cells[r]? = some u→W12.cell? ⟨bd,od+r,none⟩=some u:=fun r u hu=>by
  have h:=hdc 0 (by rw [e3];exact Nat.one_pos) r u (by simp only [e3];exact hu)
  rwa [Nat.zero_mul,Nat.add_zero] at h
 have HTP:=zhd (And.intro htp hpass);have HTC:=zhd tpc;have HD4:=zhd d4;have HLT:Hid (bc<W12.heap.size∧bd<W12.heap.size):=zhd (by
  obtain ⟨x1,y1,f1,g1,-⟩:=rG hs1.then_.row (show 0<s1.thn.length by rw [e2];exact Nat.succ_pos _);obtain ⟨x2,y2,f2,g2,-⟩:=rG hs2.then_.row (show 0<s2.thn.length by rw [e3];exact Nat.succ_pos _);rw [ec] at f1;rw [ed] at f2;cases f1;cases f2;exact ⟨g1,g2⟩)
 clear e0 k0 e1 k1 e2 e3 hpass hw0 ea ha hs0 eb hbc hs1 ec hcc hs2 ed hdc htp s1c tpc d4 HSHP;go_upto_region 11 with fail
 clear c14 a0 a4 b0 b1' b2' b3' b4' b5';have hb13:=zba W12 (.cells #[.int .u8 6,.string s1.name,.slice s1.es.at_ s1.exprs.length s1.es.cap,.int .i64 s1.bound,.slice (some ⟨bc,oc,none⟩) 2 s1.ts.cap,.slice s1.os.at_ s1.els.length s1.os.cap] 43);obtain ⟨x0,x1,x2,x3,x4,x5⟩:=ag (zan W12 (.cells #[.int .u8 6,.string s1.name,.slice s1.es.at_ s1.exprs.length s1.es.cap,.int .i64 s1.bound,.slice (some ⟨bc,oc,none⟩) 2 s1.ts.cap,.slice s1.os.at_ s1.els.length s1.os.cap] 43));have d4:=(hb13.cell (p:=⟨bc,oc+6+4,none⟩) HLT.out.1).trans HD4.out;have tq:∀r u,tp.cells[r]? = some u→(W12.alloc (.cells #[.int .u8 6,.string s1.name,.slice s1.es.at_ s1.exprs.length s1.es.cap,.int .i64 s1.bound,.slice (some ⟨bc,oc,none⟩) 2 s1.ts.cap,.slice s1.os.at_ s1.els.length s1.os.cap] 43)).cell? ⟨bd,od+r,none⟩=some u:=fun r u hu=>(hb13.cell (p:=⟨bd,od+r,none⟩) HLT.out.2).trans (HTC.out r u hu)
 have p0:=tq 0 _ rfl;have p1:=tq 1 _ rfl;have p2:=tq 2 _ rfl;have p3:=tq 3 _ rfl;have p4:=tq 4 _ rfl;have p5:=tq 5 _ rfl;rw [Nat.add_zero] at p0;simp only [Sp.val] at p2 p4 p5;have hbp:ah tp=dh:=by have h:=(pX _ _).1 HTP.out.2;rw [h];exact xz
 have HIP:=zhd (by have h:=fK (W12.alloc (.cells #[.int .u8 6,.string s1.name,.slice s1.es.at_ s1.exprs.length s1.es.cap,.int .i64 s1.bound,.slice (some ⟨bc,oc,none⟩) 2 s1.ts.cap,.slice s1.os.at_ s1.els.length s1.os.cap] 43)) tp ((HTP.out.1.stays hb13).more hb13.size) (vH hbp);rw [HTP.out.2] at h;exact h);have HB13:=zhd (HB12.out.trans (hb13.mono HB12.out.size));clear hb13 tq hbp HTP HTC HD4 HX12 HY12 HQ12 HB12;generalize W12.alloc (.cells #[.int .u8 6,.string s1.name,.slice s1.es.at_ s1.exprs.length s1.es.cap,.int .i64 s1.bound,.slice (some ⟨bc,oc,none⟩) 2 s1.ts.cap,.slice s1.os.at_ s1.els.length s1.os.cap] 43)=W13 at *;go_wp2_with fail
 refine HIP.out.mono ?_;rintro o W14 ⟨rfl,hb⟩;have HB14:=zhd (HB13.out.trans (hb.mono HB13.out.size));clear hb HIP x0 x1 x2 x3 x4 x5 d4 p0 p1 p2 p3 p4 p5 HB13;go_wp2_with fail
 refine (uW 1 (by decide) W14).mono ?_;rintro o W15 ⟨sc,rfl,hsc,hscr,hb⟩;have HB15:=zhd (HB14.out.trans (hb.mono HB14.out.size));have HIP:=zhd (by have h:=fK W15 sc hscr (CG hsc);rw [GI hsc] at h;exact h);clear hb HB14 hsc hscr;simp only [aa.val,Sp.val];go_wp2_with fail
 refine HIP.out.mono ?_;rintro o W16 ⟨rfl,hb⟩;have HB16:=zhd (HB15.out.trans (hb.mono HB15.out.size));clear hb HIP HB15;go_wp2_with fail
 refine (qj 1 1 (by decide) W16).mono ?_;rintro o W17 ⟨rfl,hb⟩;have HB17:=zhd (HB16.out.trans (hb.mono HB16.out.size));clear hb HB16;go_wp2_with fail
 refine (wN 1 (by decide) (dB 1 1) Sp.none [] W17 (nA _ 1 1 (by decide) (by decide)) ⟨RowOf.nil,fun _ h=>absurd h (by simp)⟩).mono ?_;rintro o W18 ⟨sp9,rfl,ht9,hb⟩;have HB18:=zhd (HB17.out.trans (hb.mono HB17.out.size));have HIP:=zhd (by have h:=fK W18 (DY sp9 (dB 1 1) 1 Sp.none []) ht9 Ic;rw [JL] at h;exact h);clear hb HB17 ht9;simp only [DY,aa.val,aa.kind,aa.name,aa.es,aa.exprs,aa.bound,aa.ts,aa.thn,aa.os,aa.els,Sp.val,Sp.none,List.length_cons,List.length_nil,Nat.zero_add];go_wp2_with fail
 refine HIP.out.mono ?_;rintro o W19 ⟨rfl,hb⟩;have HB19:=zhd (HB18.out.trans (hb.mono HB18.out.size));clear hb HIP HB18;go_wp2_with fail
 go_ret
 exact ⟨rfl,HB4.out.trans (HB19.out.mono HB4.out.size)⟩
end
section
open Go Go.RowKit
theorem IM {W:World} {b i:Nat} {t:TypeId} {cs:Array Value} {v:Value} (h:W.heap[b]? = some (.cells cs t (0,0))):W.setCell ⟨b,i,none⟩ v=W.setRow b (cs.setIfInBounds i v):=by
 refine AZ rfl rfl rfl rfl fun k=>?_
 by_cases hk:k=b
 ·subst hk
  rw [setRow_heap _ _ _ _ _ _ h];simp [World.setCell,Array.getElem?_modify,h]
 ·rw [setRow_other _ _ _ _ hk]
  exact Below.heap_setCell _ _ _ _ hk
end
section
open Go Go.RowKit Go.Maps
theorem EU (l:List ae):aF l≤fQ l:=by
 unfold aF fQ;induction l with
 | nil=>exact Nat.le_refl _
 | cons e l ih =>
  rw [List.map_cons,List.map_cons,List.sum_cons,List.sum_cons];have h:∀m:List ae,m.length≤(m.map fun x=>1+x.name.size).sum:=fun m=>by
   induction m with
   | nil=>exact Nat.le_refl _
   | cons x m ih=>rw [List.length_cons,List.map_cons,List.sum_cons];omega
  have h2:e.pre.length≤BV e:=h e.pre;exact Nat.add_le_add h2 ih
theorem ET (s:aa):xX s≤zO s:=by
 induction s using aa.ind with
 | h k n es ex b ts th os el i1 i2 =>
  have each:∀l:List aa,(∀s∈l,xX s≤zO s)→ay l≤fF l:=fun l=>by
   induction l with
   | nil=>intro _;exact Nat.le_refl _
   | cons s l ih =>
    intro hl;have h1:=hl s (List.mem_cons_self ..);have h2:=ih fun t ht=>hl t (List.mem_cons_of_mem _ ht)
    rw [gH,pu];unfold zO at h1;omega
  have a:=each th i1;have b:=each el i2;have c:=EU ex;show 1+aF ex+ay th+ay el≤1+n.size+fQ ex+fF th+fF el;omega
theorem GZ {s:aa} (h:aB [s] 200 0≤200):ay [s]≤200:=by
 have h1:=EQ [s] 200 0 h;have h2:=ET s;rw [pu,yG] at h1;rw [gH,gT];unfold zO at h2;omega
noncomputable def opsUP:Array Oper:=((Tryz.f4.body.bind (opsOf 3)).getD #[])
def Dn (t:Nat):Bool:=decide (t≤8) || decide (18≤t)
theorem Iu:dR opsUP 9 37 Dn=true:=by kernel_rfl
theorem Jf {P:Program} {Q:Exit→Act→World→Prop} {a:Act} {w:World} {C C':Code} (h:C=C') (h2:C'.wp P Q a w):C.wp P Q a w:=by subst h;exact h2
set_option maxRecDepth 10000000 in
set_option maxHeartbeats 64000000 in
theorem Lc {a0:Act} {w0:World} (hsz:a0.tmps.size=37) (b1:Nat) (s:aa) (f1:a0.tmps[1]?.getD undef=.pointer (some ⟨b1,0,none⟩)) (hbx:w0.heap[b1]? = some (.cells #[.int .u8 s.kind,.string s.name,.slice s.es.at_ s.exprs.length s.es.cap,.int .i64 s.bound,.slice s.ts.at_ s.thn.length s.ts.cap,.slice s.os.at_ s.els.length s.os.cap] 43 (0,0))) (hrd:eu w0.heap.size w0 s) (hw:ay [s]≤20000) :
  (Code.region 3 opsUP true).wp Tryz.prog (fun e a w=>e=.normal∧a.tmps.size=37∧a.defers=a0.defers∧(∀t:Nat,Dn t=true→a.tmps[t]?.getD undef=a0.tmps[t]?.getD undef)∧a.tmps[17]?.getD undef=.bool false∧Below w0.heap.size w0 w) a0 w0:=by
 have hb1:b1<w0.heap.size:=(zgs hbx).1;obtain ⟨x0,x1,x2,x3,x4,x5⟩:=ag hbx;refine aP (n:=9) (sz:=37) (keep:=Dn) rfl Iu hsz (fun _ w=>Below w0.heap.size w0 w) (fun _ w w'=>Below w.heap.size w w') ((Below.refl _ _).drew) ?_;have e:opsUP.toList=opsUP.toList:=rfl
 conv at e=>rhs;arg 1;whnf
 simp only at e;rw [e];clear e
 apply ak.exact rfl rfl
 ·exact fun _ _ h=>h
 ·exact fun w=>Below.refl _ w
 ·rintro L a w ⟨-,hS,-,hsm,haft⟩
  have f1:a.tmps[1]?.getD undef=_:=(hsm 1 rfl).trans f1;have c0:=(hS.cell (p:=⟨b1,0,none⟩) hb1).trans (x0);have c1:=(hS.cell (p:=⟨b1,1,none⟩) hb1).trans (x1);have c2:=(hS.cell (p:=⟨b1,2,none⟩) hb1).trans (x2);have c3:=(hS.cell (p:=⟨b1,3,none⟩) hb1).trans (x3);have c4:=(hS.cell (p:=⟨b1,4,none⟩) hb1).trans (x4);have c5:=(hS.cell (p:=⟨b1,5,none⟩) hb1).trans (x5);simp [go_sem,f1,c0,c1,c2,c3,c4,c5];exact rfl
 refine ak.any (fun L v w=>v=.bool (aY s)) rfl ?_ ?_ ?_
 ·exact fun _ _ _ _ _ _ _ hP=>hP
 ·rintro L a w ⟨hL,hS,hbeh,hsm,haft⟩
  have f9:a.tmps[9]?.getD undef=_:=aj (haft.1 rfl).2;refine Oper.wp_enter (f:=27) (args:=#[.agg #[.int .u8 s.kind,.string s.name,.slice s.es.at_ s.exprs.length s.es.cap,.int .i64 s.bound,.slice s.ts.at_ s.thn.length s.ts.cap,.slice s.os.at_ s.els.length s.os.cap]]) (w':=w) ?_ ?_
  ·simp [go_sem,f9]
  ·refine (fK w s ((hrd.stays hS).more hS.size) hw).mono ?_
   rintro o w' ⟨rfl,hb2⟩;exact ⟨_,rfl,_,rfl,fun e=>(by cases e),rfl,hS.trans (hb2.mono hS.size),hb2⟩
 apply ak.exact rfl rfl
 ·exact fun _ _ h=>h
 ·exact fun w=>Below.refl _ w
 ·rintro L a w ⟨-,hS,-,hsm,haft⟩
  have f1:a.tmps[1]?.getD undef=_:=(hsm 1 rfl).trans f1;have c0:=(hS.cell (p:=⟨b1,0,none⟩) hb1).trans (x0);have c1:=(hS.cell (p:=⟨b1,1,none⟩) hb1).trans (x1);have c2:=(hS.cell (p:=⟨b1,2,none⟩) hb1).trans (x2);have c3:=(hS.cell (p:=⟨b1,3,none⟩) hb1).trans (x3);have c4:=(hS.cell (p:=⟨b1,4,none⟩) hb1).trans (x4);have c5:=(hS.cell (p:=⟨b1,5,none⟩) hb1).trans (x5);simp [go_sem,f1,c0,c1,c2,c3,c4,c5];exact rfl
 refine ak.any (fun L v w=>∃b,v=.slice (some ⟨b,0,none⟩) 1 1∧RowOf w.heap.size w ⟨some ⟨b,0,none⟩,1⟩ 6 aa.cells [s]) rfl ?_ ?_ ?_
 ·exact fun _ _ _ _ _ _ hR hP=>hP.imp fun b h2=>⟨h2.1,(h2.2.below hR).more hR.size⟩
 ·rintro L a w ⟨hL,hS,hbeh,hsm,haft⟩
  have f11:a.tmps[11]?.getD undef=_:=aj (haft.1 rfl).2;have hb2:=zba w (.cells #[.int .u8 s.kind,.string s.name,.slice s.es.at_ s.exprs.length s.es.cap,.int .i64 s.bound,.slice s.ts.at_ s.thn.length s.ts.cap,.slice s.os.at_ s.els.length s.os.cap] 43);refine Oper.wp_value (v:=.slice (some ⟨w.heap.size,0,none⟩) 1 1) (w':=w.alloc (.cells #[.int .u8 s.kind,.string s.name,.slice s.es.at_ s.exprs.length s.es.cap,.int .i64 s.bound,.slice s.ts.at_ s.thn.length s.ts.cap,.slice s.os.at_ s.els.length s.os.cap] 43)) ?_ ?_
  ·simp [go_sem,f11]
  ·exact ⟨_,rfl,fun e=>(by cases e),⟨_,rfl,row_one (enc:=aa.cells) (x:=s) (zan w _)⟩,hS.trans (hb2.mono hS.size),hb2⟩
 refine ak.any (fun L v w=>∃A c y,v=.slice A 1 c∧ah y=ah s∧RowOf w.heap.size w ⟨A,c⟩ 6 aa.cellsR [y]∧jy w y) rfl ?_ ?_ ?_
 ·exact fun _ _ _ _ _ _ hR hP=>hP.imp fun A h=>h.imp fun c h=>h.imp fun y h2=>⟨h2.1,h2.2.1,(h2.2.2.1.below hR).more hR.size,h2.2.2.2.on hR⟩
 ·rintro L a w ⟨hL,hS,hbeh,hsm,haft⟩
  obtain ⟨b,x12,hr12⟩:=(haft.1 rfl).2;have f12:a.tmps[12]?.getD undef=.slice (some ⟨b,0,none⟩) 1 1:=aj x12;have hst:eu w.heap.size w s:=(hrd.stays hS).more hS.size;refine Oper.wp_enter (f:=29) (args:=#[.slice (some ⟨b,0,none⟩) 1 1]) (w':=w) ?_ ?_
  ·simp [go_sem,f12]
  ·refine (vZ (n0:=w.heap.size) (W0:=w) 900000 (sp:=⟨some ⟨b,0,none⟩,1⟩) (l:=[s]) (by omega) (Nat.le_refl _) ⟨hr12,fun t ht=>by rw [List.mem_singleton.1 ht];exact hst⟩ w (Below.refl _ _) (Nat.le_refl _)).mono ?_
   rintro o w' ⟨A,c,m,rfl,hm,hacc,hb2⟩;have hl1:m.length=1:=by simpa using congrArg List.length hm
   match m,hl1 with
   | [y],_ =>
   have hy:ah y=ah s:=by simpa using hm
   obtain ⟨hrow,hel⟩:=hacc.row Jz (fun _=>rfl) (by simp);exact ⟨_,rfl,_,rfl,fun e=>(by cases e),⟨A,c,y,rfl,hy,hrow.cells fun _ _ _ hc=>(az.1 hc).2,j5.cells (hel y (List.mem_singleton.2 rfl)) (Nat.le_refl _) fun _ _ _ hc=>(dZ.1 hc).2.2⟩,hS.trans (hb2.mono hS.size),hb2⟩
 refine ak.any (fun L v w=>∃b off y,v=.pointer (some ⟨b,off,none⟩)∧ah y=ah s∧b<w.heap.size∧(∀(r:Nat) (u:Value),y.cellsR[r]? = some u→w.cell? ⟨b,off+r,none⟩=some u)∧jy w y) rfl ?_ ?_ ?_
 ·exact fun _ _ _ _ _ _ hR hP=>hP.imp fun b h=>h.imp fun c h=>h.imp fun y h2=>⟨h2.1,h2.2.1,Nat.lt_of_lt_of_le h2.2.2.1 hR.size,fun r u hu=>(hR.cell (p:=⟨b,c+r,none⟩) h2.2.2.1).trans (h2.2.2.2.1 r u hu),h2.2.2.2.2.on hR⟩
 ·rintro L a w ⟨hL,hS,hbeh,hsm,haft⟩
  obtain ⟨A,c,y,x13,hy,hrow,hnow⟩:=(haft.1 rfl).2;obtain ⟨b,off,hA,hlt,hcell⟩:=hrow.row (by simp);change A=_ at hA;subst hA;have f13:a.tmps[13]?.getD undef=.slice (some ⟨b,off,none⟩) 1 c:=aj x13;refine Oper.wp_value (v:=.pointer (some ⟨b,off,none⟩)) (w':=w) ?_ ?_
  ·simp [go_sem,f13]
  ·exact ⟨_,rfl,fun e=>(by cases e),⟨b,off,y,rfl,hy,hlt,fun r u hu=>by simpa using hcell 0 (by simp) r u hu,hnow⟩,hS,Below.refl _ _⟩
 refine ak.any (fun L v w=>∃y:aa,v=.agg #[.int .i64 y.kind,.string y.name,.slice y.es.at_ y.exprs.length y.es.cap,.int .i64 y.bound,.slice y.ts.at_ y.thn.length y.ts.cap,.slice y.os.at_ y.els.length y.os.cap]∧ah y=ah s∧jy w y) rfl ?_ ?_ ?_
 ·exact fun _ _ _ _ _ _ hR hP=>hP.imp fun y h2=>⟨h2.1,h2.2.1,h2.2.2.on hR⟩
 ·rintro L a w ⟨hL,hS,hbeh,hsm,haft⟩
  obtain ⟨b,off,y,x14,hy,hlt,hcell,hnow⟩:=(haft.1 rfl).2;have f14:a.tmps[14]?.getD undef=.pointer (some ⟨b,off,none⟩):=aj x14;have c0:=hcell 0 _ rfl;have c1:=hcell 1 _ rfl;have c2:=hcell 2 _ rfl;have c3:=hcell 3 _ rfl;have c4:=hcell 4 _ rfl;have c5:=hcell 5 _ rfl;rw [Nat.add_zero] at c0;refine Oper.wp_value (v:=.agg #[.int .i64 y.kind,.string y.name,.slice y.es.at_ y.exprs.length y.es.cap,.int .i64 y.bound,.slice y.ts.at_ y.thn.length y.ts.cap,.slice y.os.at_ y.els.length y.os.cap]) (w':=w) ?_ ?_
  ·simp [go_sem,f14,c0,c1,c2,c3,c4,c5,Sp.val]
  ·exact ⟨_,rfl,fun e=>(by cases e),⟨y,rfl,hy,hnow⟩,hS,Below.refl _ _⟩
 refine ak.any (fun L v w=>v=.bool (aY s)) rfl ?_ ?_ ?_
 ·exact fun _ _ _ _ _ _ _ hP=>hP
 ·rintro L a w ⟨hL,hS,hbeh,hsm,haft⟩
  obtain ⟨y,x15,hy,hnow⟩:=(haft.1 rfl).2;have f15:a.tmps[15]?.getD undef=.agg #[.int .i64 y.kind,.string y.name,.slice y.es.at_ y.exprs.length y.es.cap,.int .i64 y.bound,.slice y.ts.at_ y.thn.length y.ts.cap,.slice y.os.at_ y.els.length y.os.cap]:=aj x15;have heq:aY y=aY s:=by rw [←eG,hy,eG]
  refine Oper.wp_enter (f:=28) (args:=#[.agg #[.int .i64 y.kind,.string y.name,.slice y.es.at_ y.exprs.length y.es.cap,.int .i64 y.bound,.slice y.ts.at_ y.thn.length y.ts.cap,.slice y.os.at_ y.els.length y.os.cap]]) (w':=w) ?_ ?_
  ·simp [go_sem,f15]
  ·refine (Bc w y hnow).mono ?_
   rintro o w' ⟨rfl,hb2⟩;exact ⟨_,rfl,_,rfl,fun e=>(by cases e),by rw [heq],hS.trans (hb2.mono hS.size),hb2⟩
 refine ak.any (fun L v w=>v=.bool false) rfl ?_ ?_ ?_
 ·exact fun _ _ _ _ _ _ _ hP=>hP
 ·rintro L a w ⟨hL,hS,hbeh,hsm,haft⟩
  have f10:a.tmps[10]?.getD undef=_:=aj (haft.1 rfl).2;have f16:a.tmps[16]?.getD undef=_:=aj (haft.2.1 rfl).2;refine Oper.wp_value (v:=.bool false) (w':=w) ?_ ?_
  ·simp [go_sem,f10,f16]
  ·exact ⟨_,rfl,fun e=>(by cases e),rfl,hS,Below.refl _ _⟩
 rintro L a w hL ⟨hS,hsame,hv⟩;exact ⟨rfl,hsame.1.trans hsz,hsame.2.1,hsame.2.2,aj (hv 8),hS⟩
set_option maxHeartbeats 1000000 in
theorem Bu (w:World):Calls Tryz.prog 30 #[] w fun o w'=>o=.returned (.agg #[.int .u8 7,.string ⟨#[]⟩,.slice (some ⟨w.heap.size+1,0,none⟩) 1 1,.int .i64 1,.slice none 0 0,.slice none 0 0])∧w'.heap[w.heap.size+1]? = some (.cells #[.int .u8 1,.int .u8 0,.int .u32 1,.int .i64 1,.string ⟨#[]⟩,.slice none 0 0] 30 (0,0))∧Below w.heap.size w w':=by
 go_enter Tryz.func30,Tryz.ntmps30
 go_wp2_with fail
 obtain ⟨h1,h2,h3,h4⟩:=gY w (.cells #[.int .u8 7,.string ⟨#[]⟩,.slice (some ⟨w.heap.size+1,0,none⟩) 1 1,.int .i64 1,.slice none 0 0,.slice none 0 0] 43) (.cells #[.int .u8 1,.int .u8 0,.int .u32 1,.int .i64 1,.string ⟨#[]⟩,.slice none 0 0] 30);exact bodyPost_ret (results_cell_row rfl _ _ w.heap.size 43 _ (0,0) _ rfl h1 Tryz.underlying43 rfl (by kernel_rfl)) rfl ⟨rfl,h2,h4⟩
def Jj (sp:Sp) (v:Int):aa:=.mk 7 ⟨#[]⟩ sp [dB v 1] 1 Sp.none [] Sp.none []
theorem IC {W:World} {b:Nat} {v:Int} (hv:0≤v∧v≤4294967295) (h:W.heap[b]? = some (.cells #[.int .u8 1,.int .u8 0,.int .u32 v,.int .i64 1,.string ⟨#[]⟩,.slice none 0 0] 30 (0,0))):eu W.heap.size W (Jj ⟨some ⟨b,0,none⟩,1⟩ v) :=
 .mk _ (show (0:Int)≤7∧(7:Int)≤255 by decide) (show (Lit.int .i64 1).wf=true by decide) (show (0:Nat)≤maxLen by decide) (row_one (enc:=ae.cells) (x:=dB v 1) h) (fun y hy=>by
  have:y=dB v 1:=by simpa [Jj,aa.exprs] using hy
  rw [this];exact nA _ v 1 hv (by decide)) RowOf.nil (fun _ h=>absurd h (by simp [Jj,aa.thn])) RowOf.nil (fun _ h=>absurd h (by simp [Jj,aa.els]))
theorem Ki (sp:Sp):aY (Jj sp 1)=true∧aY (Jj sp 0)=false:=by
 rw [←eG,←eG];exact ⟨rfl,rfl⟩
theorem Ep (sp:Sp) (v:Int):ay [Jj sp v]≤20000:=by
 rw [gH,gT];have:xX (Jj sp v)=2:=by
  show 1+aF [dB v 1]+ay []+ay []=2;rw [gT];have e1:(dB v 1).pre.length=1:=by rw [ae.pre_eq];rfl
  unfold aF;rw [List.map_cons,e1]
  rfl
 omega
set_option maxRecDepth 10000000 in
set_option maxHeartbeats 8000000 in
theorem unrollPasses_any (w:World) (hn0:0<w.heap.size) (hmx:MxAt w) (s:aa) (hr:eu w.heap.size w s) (hn:kV s) :
  Calls Tryz.prog 4 #[.agg #[.int .u8 s.kind,.string s.name,.slice s.es.at_ s.exprs.length s.es.cap,.int .i64 s.bound,.slice s.ts.at_ s.thn.length s.ts.cap,.slice s.os.at_ s.els.length s.os.cap]] w fun o w'=>o=.returned (.bool true)∧Below w.heap.size w w':=by
 have hba:=zba w (.cells #[.int .u8 s.kind,.string s.name,.slice s.es.at_ s.exprs.length s.es.cap,.int .i64 s.bound,.slice s.ts.at_ s.thn.length s.ts.cap,.slice s.os.at_ s.els.length s.os.cap] 43);have hxa:=zan w (.cells #[.int .u8 s.kind,.string s.name,.slice s.es.at_ s.exprs.length s.es.cap,.int .i64 s.bound,.slice s.ts.at_ s.thn.length s.ts.cap,.slice s.os.at_ s.els.length s.os.cap] 43);obtain ⟨h1,h2,h3,h4⟩:=gY w (.cells #[.int .u8 s.kind,.string s.name,.slice s.es.at_ s.exprs.length s.es.cap,.int .i64 s.bound,.slice s.ts.at_ s.thn.length s.ts.cap,.slice s.os.at_ s.els.length s.os.cap] 43) (.cells #[.int .u8 s.kind,.string s.name,.slice s.es.at_ s.exprs.length s.es.cap,.int .i64 s.bound,.slice s.ts.at_ s.thn.length s.ts.cap,.slice s.os.at_ s.els.length s.os.cap] 43);have HAW:=zhd fun (W:World) (hb:Below w.heap.size w W)=>Cs W (Nat.lt_of_lt_of_le hn0 hb.size) (hmx.below hb hn0)
 have HF:=zhd (AQ ((w.alloc (.cells #[.int .u8 s.kind,.string s.name,.slice s.es.at_ s.exprs.length s.es.cap,.int .i64 s.bound,.slice s.ts.at_ s.thn.length s.ts.cap,.slice s.os.at_ s.els.length s.os.cap] 43)).alloc (.cells #[.int .u8 s.kind,.string s.name,.slice s.es.at_ s.exprs.length s.es.cap,.int .i64 s.bound,.slice s.ts.at_ s.thn.length s.ts.cap,.slice s.os.at_ s.els.length s.os.cap] 43)) ⟨some ⟨w.heap.size+1,0,none⟩,1⟩ [s] ⟨row_one (enc:=aa.cells) (x:=s) h2,fun t ht=>by rw [List.mem_singleton.1 ht];exact (hr.stays h4).more h4.size⟩ (fun t ht=>by rw [List.mem_singleton.1 ht];exact hn) 200 (by decide) (by decide));have H1:=zhd h1;have H4:=zhd h4;have HR:=zhd ((hr.stays h4).more h4.size);clear h1 h2 h3 h4 hba hxa hn hmx hr;go_enter Tryz.func4,Tryz.ntmps4
 go_wp2_with fail
 refine HF.out.mono ?_;rintro o w3 ⟨rfl,hb3⟩;have HB3:=zhd (H4.out.trans (hb3.mono H4.out.size));have HX3:=zhd ((hb3.block _ (zgs H1.out).1).trans H1.out);have HR3:=zhd ((HR.out.stays hb3).more hb3.size);clear hb3 HF H1 H4 HR;by_cases hf:aB [s] 200 0≤200
 ·have hd:decide (aB [s] 200 0≤200)=true:=decide_eq_true hf
  have HW:=zhd (GZ hf);rw [hd];clear hf hd;go_upto_region 3 with fail
  refine Code.wp_mono ?_ (Jf (C':=.region 3 opsUP true) (by kernel_rfl) (Lc rfl w.heap.size s rfl HX3.out HR3.out (Nat.le_trans HW.out (by decide))));rintro e a9 w4 ⟨rfl,hsz9,hd9,hkp,h17,hb4⟩;have HB4:=zhd (HB3.out.trans (hb4.mono HB3.out.size));obtain ⟨F,hF,hfr⟩:=Eb hsz9;rw [hfr,hd9];simp only [List.range,List.range.loop,List.map];have g17:F 17=.bool false:=(hF 17).trans (au h17);rw [g17];clear hF hfr hsz9 hd9 hkp h17 g17 hb4 HX3 HR3 HB3 HW;go_wp2_with fail
  refine (Bu _).mono ?_;rintro o w5 ⟨rfl,hE,hb5⟩;have HE:=zhd hE;have HB5:=zhd (HB4.out.trans (hb5.mono HB4.out.size));have hlt:w4.heap.size+1<w5.heap.size:=(zgs hE).1;have hs4:w.heap.size≤w4.heap.size:=HB4.out.size;obtain ⟨e0,e1,e2,e3,e4,e5⟩:=ag hE;have hfz:w5.frozen? ⟨w4.heap.size+1,2,none⟩=false:=IQ hE _;have hset:=IM (i:=2) (v:=.int .u32 0) hE;have hz:(w5.setCell ⟨w4.heap.size+1,2,none⟩ (.int .u32 0)).heap[w4.heap.size+1]? = some (.cells #[.int .u8 1,.int .u8 0,.int .u32 0,.int .i64 1,.string ⟨#[]⟩,.slice none 0 0] 30 (0,0)):=by
   rw [hset];exact setRow_heap _ _ _ _ _ _ hE
  have hbs:Below w.heap.size w (w5.setCell ⟨w4.heap.size+1,2,none⟩ (.int .u32 0)):=by
   rw [hset];exact below_setRow HB5.out (by omega)
  have hba:Below (w5.setCell ⟨w4.heap.size+1,2,none⟩ (.int .u32 0)).heap.size (w5.setCell ⟨w4.heap.size+1,2,none⟩ (.int .u32 0)) ((w5.setCell ⟨w4.heap.size+1,2,none⟩ (.int .u32 0)).alloc (.cells #[.int .u8 7,.string ⟨#[]⟩,.slice (some ⟨w4.heap.size+1,0,none⟩) 1 1,.int .i64 1,.slice none 0 0,.slice none 0 0] 43)):=(Below.refl _ _).alloc (Nat.le_refl _) _;have HZ:=zhd ((hba.block _ (zgs hz).1).trans hz);have HBZ:=zhd (hbs.trans (hba.mono hbs.size));clear hE hb5 hset hz hbs hba e0 e1 e3 e4 e5;go_wp2_with fail
  refine (fK _ (Jj ⟨some ⟨w4.heap.size+1,0,none⟩,1⟩ 0) (IC (by decide) HZ.out) (Ep _ _)).mono ?_;rintro o w6 ⟨rfl,hb6⟩;have HB6:=zhd (HBZ.out.trans (hb6.mono HBZ.out.size));rw [(Ki _).2];clear hb6 HBZ HZ e2 hfz HB5;go_wp2_with fail
  refine (Bu _).mono ?_;rintro o w7 ⟨rfl,hE7,hb7⟩;have HE7:=zhd hE7;have HB7:=zhd (HB6.out.trans (hb7.mono HB6.out.size));clear hE7 hb7 HB6;go_wp2_with fail
  refine (fK _ (Jj ⟨some ⟨w6.heap.size+1,0,none⟩,1⟩ 1) (IC (by decide) HE7.out) (Ep _ _)).mono ?_;rintro o w8 ⟨rfl,hb8⟩;have HB8:=zhd (HB7.out.trans (hb8.mono HB7.out.size));rw [(Ki _).1];clear hb8 HB7;go_wp2_with fail
  refine (HAW.out _ HB8.out).mono ?_;rintro o w9 ⟨rfl,hb9⟩;have HB9:=zhd (HB8.out.trans (hb9.mono HB8.out.size));clear hb9;go_wp2_with fail
  go_ret
  exact ⟨rfl,HB9.out⟩
 ·have hd:decide (aB [s] 200 0≤200)=false:=decide_eq_false hf
  rw [hd];clear hf hd;go_wp2_with fail
  refine (HAW.out _ HB3.out).mono ?_;rintro o w4 ⟨rfl,hb4⟩;have HB4:=zhd (HB3.out.trans (hb4.mono HB3.out.size));clear hb4;go_wp2_with fail
  go_ret
  exact ⟨rfl,HB4.out⟩
end
section
open Go Go.RowKit Go.Maps
theorem MxAt.pos {W:World} (h:MxAt W):0<W.heap.size:=by
 obtain ⟨m,hm⟩:=h;rcases Nat.eq_zero_or_pos W.heap.size with h0 | h0
 ·have:W.heap[0]? = none:=by simp [h0]
  simp [World.cell?,this] at hm
 ·exact h0
theorem MxAt.shaped {W:World} (h:W.ShapedOpen Tryz.prog):MxAt W:=Tryz.laysM144.s1_3 W h
theorem JU {H:Type} {P:Program} {t:TypeId} {ts:List TypeId} {s:ByteArray} {r:List (DataW H)} (h:(DataW.weightsEach P (t::ts) (DataW.lit (.string s.data.toList)::r)).all (·≤reachBytes)=true):s.size≤140737488355328:=by
 simp only [DataW.weightsEach,DataW.weights,List.cons_append,List.nil_append,List.all_cons,Bool.and_eq_true,decide_eq_true_eq] at h;have h1:=h.1;have:s.data.toList.length=s.size:=by simp
 rw [this] at h1;unfold reachBytes at h1;omega
end
section
open Go Go.RowKit Go.WideShapes Go.ChangeShapes
section
variable {H:Type} {enc:TypeId × Value→H} {P:Program}
theorem post_below {f:Func} {s:ChangeSpec} {apart fresh handsOn again:Bool} {W W':World} {args:Array Value} {v:Value} {ds gs:List (DataW H)} {bf pa pv:List MemPlace}
  (hW:DataW.Whole enc P f.params.toList s.vars apart W args.toList ds gs bf)
  (hres:∀(b:Nat) (sp:Nat→Bool) (hd:Bool),DataW.TrodAll enc P W' b sp hd f.resultTypes.toList (v.resultList f.resultTypes.size) (s.fn H (ds++gs)).results [])
  (hargs:∀sp:Nat→Bool,(∀x∈bf,sp x.block=true)→DataW.TrodAll enc P W' 0 sp true f.params.toList args.toList (s.fn H (ds++gs)).args pa)
  (hvars:∀sp:Nat→Bool,(∀x∈bf,sp x.block=true)→DataW.TrodVars enc P W' sp s.vars (s.fn H (ds++gs)).vars pv)
  (hps:bf=pa++pv) (hb:Below W.heap.size W W')
  (hok:∀(j:Nat) (t:TypeId) (r:Value),f.resultTypes[j]? = some t→(v.resultList f.resultTypes.size)[j]? = some r→Value.okWide P W' .any 0 t r) :
  s.post enc P f apart fresh handsOn again W args v W':=by
 have hlt:∀x∈bf,x.block<W.heap.size:=fun x hx=>hW.lt x hx
 have hold:∀x∈bf,(fun b=>decide (b<W.heap.size)) x.block=true:=fun x hx=>by simpa using hlt x hx
 refine ⟨ds,gs,bf,[],pa,pv,hW,hres _ _ _,hargs _ hold,hvars _ hold,World.keptBut_mono (fun x hx=>⟨hx,?_⟩) (hb.frame (·∈bf)),fun _=>?_⟩
 ·rw [hps,List.mem_append] at hx
  exact Or.inr hx
 ·obtain ⟨_,_,_,_,_,hz,hn⟩:=hW
  refine ⟨hok,_,_,([]++pa)++pv,⟨[]++pa,pv,trodAll_append (hargs _ (fun _ _=>rfl)) (hres _ _ _),hvars _ (fun _ _=>rfl),rfl,?_,?_⟩,?_⟩
  ·intro b off hx
   have hin:MemPlace.cell b off∈bf:=by rw [hps];simpa using hx
   rw [hb.frozen (hlt _ hin)];exact hz b off hin
  ·intro ha
   have:=hn ha;rw [hps] at this
   simpa using this
  ·intro x hx _
   rw [hps]
   simpa using hx
end
end
end Go.Proofs.YtepacjkacjabbaaGreatDoor
