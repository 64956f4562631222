import Derived.Test.YtepacjkacjabbaaGreatDoorWAA
import Derived.Test.YtepacjkacjabbaaGreatDoorWBJ
import Derived.Test.YtepacjkacjabbaaGreatDoorWAW
import Derived.Deep.MidRow
namespace Go.Proofs.YtepacjkacjabbaaGreatDoor
section
open Go Go.RowKit Go.Maps
theorem Cx {l l' r r':List aa} (h:l.map ag=l'.map ag) (h2:r.map ag=r'.map ag):aH (Ag l r)=aH (Ag l' r'):=by
 unfold aH Ag;simp only [h,h2]
structure Nq (p:af):Prop where
 ready:dM p
 weight:bD p=26
 depth:gV p=4
 inits:p.inits=[]
 free:nJ p.work=false
 un:(aZ p.work).map ag=[F9 [uu,F9 [uu,F9 [eG]]]]
 pass:fQ (aZ p.work)=1
 rec0:fQ (aZ p.recover)=0
theorem LV {v ws:Sp} {s:aa} (h:ag s=ic 2):Nq (qb v ws Sp.none [s] []):=by
 have hb:ag (ic 2)=ic 2:=by kernel_rfl
 have hm:[s].map ag=[ic 2].map ag:=by rw [List.map_cons,List.map_cons,h,hb]
 have e:aH (qb v ws Sp.none [s] [])=aH (Ag [ic 2] []):=(wH _ _ _ _ _).trans (Cx hm rfl);have hu:=xh hm;refine ⟨Dg.same e,by rw [mE e];exact Ar,by rw [uV e];exact BH,rfl,?_,hu.trans IV,?_,ym.2⟩
 ·show nJ [s]=false
  rw [Eb hm];exact Dn
 ·show fQ (aZ [s])=1
  rw [mG hu];exact ym.1
theorem xU {v:Sp}:dM (qb v Sp.none Sp.none [] [])∧bD (qb v Sp.none Sp.none [] [])=4:=by
 have e:aH (qb v Sp.none Sp.none [] [])=aH (Ag [] []):=wH _ _ _ _ _;exact ⟨BZ.same e,by rw [mE e];exact AQ⟩
theorem Dw {sc:aa} (h:ag sc=ic 1):ay [sc]≤20000:=by
 have e:ay [sc]=ay [ic 1]:=by rw [←eQ,List.map_cons,List.map_nil,h]
 have e0:ay []=0:=rfl;have x1:aN (ic 1).exprs=3:=by rw [←AL];kernel_rfl
 have x2:aN uu.exprs=3:=by rw [←AL];kernel_rfl
 have y1:(ic 1).thn=[uu]:=rfl;have y2:(ic 1).els=[]:=rfl;have y3:uu.thn=[]:=rfl;have y4:uu.els=[]:=rfl;rw [e,fT,x1,y1,y2,fT,x2,y3,y4,e0]
 decide
theorem J4 {sc:aa} (h:ag sc=ic 1):eO sc=false:=by rw [←j5,h];exact D8
theorem Ia {sp:Sp}:ay [Aq sp (aR 1 1) 1 Sp.none []]≤20000:=by
 have e0:ay []=0:=rfl;have x1:aN (Aq sp (aR 1 1) 1 Sp.none []).exprs=1:=by rw [←AL];kernel_rfl
 have y1:(Aq sp (aR 1 1) 1 Sp.none []).thn=[]:=rfl;have y2:(Aq sp (aR 1 1) 1 Sp.none []).els=[]:=rfl;rw [fT,x1,y1,y2,e0]
 decide
theorem Kt {sp:Sp}:eO (Aq sp (aR 1 1) 1 Sp.none [])=true:=by
 rw [←j5];exact I8
theorem ug {W:World} {n:Nat} {sp:Sp} {l:List aa} (h:RowOf n W sp 6 aa.cells l) (h0:0<l.length):∃b off,sp.at_=some ⟨b,off,none⟩∧b<n∧∀j (hj:j<l.length) r u,(l[j]).cells[r]? = some u→W.cell? ⟨b,off+j*6+r,none⟩=some u:=h.row h0
set_option maxRecDepth 10000000 in
set_option maxHeartbeats 64000000 in
theorem Eu (w:World) (hn0:0<w.heap.size) (hmx:MxAt w):Calls Tryz.prog 26 #[] w fun o w'=>o=.returned (.bool true)∧Below w.heap.size w w':=by
 have HMX:=zhd hmx;clear hmx;go_enter Tryz.func26,Tryz.ntmps26
 go_wp2_with fail
 refine (wV 2 (by decide) w).mono ?_;rintro o W1 ⟨s,rfl,hs,hsr,hb1⟩;have hb2:=zba W1 (.cells #[.int .u8 s.kind,.string s.name,.slice s.es.at_ s.exprs.length s.es.cap,.int .i64 s.bound,.slice s.ts.at_ s.thn.length s.ts.cap,.slice s.os.at_ s.els.length s.os.cap] 43);have hr2:=row_one (enc:=aa.cells) (x:=s) (k:=6) (zan W1 (.cells #[.int .u8 s.kind,.string s.name,.slice s.es.at_ s.exprs.length s.es.cap,.int .i64 s.bound,.slice s.ts.at_ s.thn.length s.ts.cap,.slice s.os.at_ s.els.length s.os.cap] 43));have hSM:=kW ⟨some ⟨W1.heap.size,0,none⟩,1⟩ [s] (W1.alloc (.cells #[.int .u8 s.kind,.string s.name,.slice s.es.at_ s.exprs.length s.es.cap,.int .i64 s.bound,.slice s.ts.at_ s.thn.length s.ts.cap,.slice s.os.at_ s.els.length s.os.cap] 43)) ⟨hr2,fun t ht=>by rw [List.mem_singleton.1 ht];exact hsr.on hb2⟩;have HSM:=zhd hSM;have HS:=zhd hs;have HB2:=zhd (hb1.trans (hb2.mono hb1.size));clear hb1 hb2 hr2 hSM hs hsr;simp only [aa.val,Sp.val];go_wp2_with fail
 generalize W1.alloc (.cells #[.int .u8 s.kind,.string s.name,.slice s.es.at_ s.exprs.length s.es.cap,.int .i64 s.bound,.slice s.ts.at_ s.thn.length s.ts.cap,.slice s.os.at_ s.els.length s.os.cap] 43)=W2 at *;refine HSM.out.mono ?_;rintro o W3 ⟨bv,rfl,hrd,hb3⟩;have HAW:=zhd (LV (v:=⟨some ⟨bv,0,none⟩,1⟩) (ws:=⟨some ⟨W1.heap.size,0,none⟩,1⟩) HS.out);have HB3:=zhd (HB2.out.trans (hb3.mono HB2.out.size));obtain ⟨p,hp⟩:∃p,p=qb ⟨some ⟨bv,0,none⟩,1⟩ ⟨some ⟨W1.heap.size,0,none⟩,1⟩ Sp.none [s] []:=⟨_,rfl⟩;rw [←hp] at HAW hrd ⊢;have hpv:p.val=.agg p.arr:=rfl;rw [hpv];have HRD:=zhd hrd;clear hb3 hp hrd HSM HS HB2 hpv;have hz:=zan W3 (.cells aD.arr 35);have HZ:=zhd hz;have HA:Hid (Below W3.heap.size W3 (W3.alloc (.cells aD.arr 35))):=zhd ((Below.refl _ _).alloc (Nat.le_refl _) _);clear hz;go_upto_region 2 with (first
  | (refine aC (t:=35) rfl rfl (bU _) ?_)
  | (refine wpList_store_row rfl 35 _ _ rfl W3.heap.size p.arr (by rfl) (by rfl) 35 aD.arr HZ.out (aB _) (by kernel_rfl) (eD _) ?_)
  | fail)
 have hb4:Below W3.heap.size W3 ((W3.alloc (.cells aD.arr 35)).setRow W3.heap.size p.arr):=below_setRow HA.out (Nat.le_refl _);have HX4:=zhd (setRow_heap _ _ _ p.arr _ _ HZ.out);have HB4:=zhd (HB3.out.trans (hb4.mono HB3.out.size));have HR4:=zhd (HRD.out.on hb4);clear hb4 HZ HA HB3 HRD;generalize (W3.alloc (.cells aD.arr 35)).setRow W3.heap.size p.arr=W4 at *;generalize W3.heap.size=b1 at *;have hn4:0<W4.heap.size:=Nat.lt_of_lt_of_le hn0 HB4.out.size;have HM4:=zhd (HMX.out.below HB4.out hn0);have HUN:=zhd (mV W4 p HR4.out hn4 HM4.out HAW.out.ready HAW.out.inits (by rw [HAW.out.weight];decide) (by rw [HAW.out.depth];decide));go_wp2_with (first | (refine wpList_load_row rfl 35 _ rfl b1 rfl 35 p.arr (0,0) _ HX4.out Tryz.underlying35 rfl (aB _) ?_) | fail)
 refine HUN.out.mono ?_;rintro o W5 ⟨q,rfl,hqb,hqr,hb5⟩;have hz:=zan W5 (.cells aD.arr 35);have HZ:=zhd hz;have HA:Hid (Below W5.heap.size W5 (W5.alloc (.cells aD.arr 35))):=zhd ((Below.refl _ _).alloc (Nat.le_refl _) _);have HQB:=zhd hqb;have HQR:=zhd hqr;have HX5:=zhd ((hb5.block _ (zgs HX4.out).1).trans HX4.out);have HB5:=zhd hb5;clear hz hqb hqr hb5 HUN;go_upto_region 3 with (first
  | (refine aC (t:=35) rfl rfl (bU _) ?_)
  | (refine wpList_store_row rfl 35 _ _ rfl W5.heap.size q.arr (by rfl) (by rfl) 35 aD.arr HZ.out (aB _) (by kernel_rfl) (eD _) ?_)
  | fail)
 have hb6:Below W5.heap.size W5 ((W5.alloc (.cells aD.arr 35)).setRow W5.heap.size q.arr):=below_setRow HA.out (Nat.le_refl _);have HY6:=zhd (setRow_heap _ _ _ q.arr _ _ HZ.out);have HX6:=zhd ((hb6.block _ (zgs HX5.out).1).trans HX5.out);have HQ6:=zhd (HQR.out.on hb6);have HB6:=zhd (HB5.out.trans (hb6.mono HB5.out.size));clear hb6 HZ HA HX5 HB5 HQR;generalize (W5.alloc (.cells aD.arr 35)).setRow W5.heap.size q.arr=W6 at *;generalize W5.heap.size=b2 at *;have hqw:(q.work).map ag=[F9 [uu,F9 [uu,F9 [eG]]]]:=(congrArg af.work HQB.out).trans HAW.out.un;obtain ⟨s0,t0,s1,t1,s2,tp,e0,k0,e1,k1,e2,e3,hpass⟩:=Ch hqw;have HSHP:=zhd (And.intro e0 (And.intro k0 (And.intro e1 (And.intro k1 (And.intro e2 (And.intro e3 hpass))))));clear hqw e0 k0 e1 k1 e2 e3 hpass HQB;have HC:=zhd (by have h:=gT W6 p (HR4.out.on HB6.out) (Nat.lt_of_lt_of_le hn4 HB6.out.size) (HM4.out.below HB6.out hn4) HAW.out.ready;rw [HAW.out.weight] at h;exact h);go_wp2_with (first | (refine wpList_load_row rfl 35 _ rfl b1 rfl 35 p.arr (0,0) _ HX6.out Tryz.underlying35 rfl (aB _) ?_) | fail)
 refine HC.out.mono ?_;rintro o W7 ⟨rfl,hb⟩;have HX7:=zhd ((hb.block _ (zgs HX6.out).1).trans HX6.out);have HY7:=zhd ((hb.block _ (zgs HY6.out).1).trans HY6.out);have HQ7:=zhd (HQ6.out.on hb);have HB7:=zhd (HB6.out.trans (hb.mono HB6.out.size));clear hb HX6 HY6 HQ6 HB6 HC;go_wp2_with fail
 refine (kW Sp.none [] W7 ⟨RowOf.nil,fun _ h=>absurd h (by simp)⟩).mono ?_;rintro o W8 ⟨bv0,rfl,hrd0,hb⟩;have HX8:=zhd ((hb.block _ (zgs HX7.out).1).trans HX7.out);have HY8:=zhd ((hb.block _ (zgs HY7.out).1).trans HY7.out);have HQ8:=zhd (HQ7.out.on hb);have HB8:=zhd (HB7.out.trans (hb.mono HB7.out.size));obtain ⟨pe,hpe⟩:∃pe,pe=qb ⟨some ⟨bv0,0,none⟩,1⟩ Sp.none Sp.none [] []:=⟨_,rfl⟩;have hep:=xU (v:=⟨some ⟨bv0,0,none⟩,1⟩);rw [←hpe] at hrd0 hep ⊢;have hpv:pe.val=.agg pe.arr:=rfl;rw [hpv];have HC:=zhd (by have h:=gT W8 pe hrd0 (Nat.lt_of_lt_of_le hn4 HB8.out.size) (HM4.out.below HB8.out hn4) hep.1;rw [hep.2] at h;exact h);clear hb HX7 HY7 HQ7 HB7 hrd0 hep hpe hpv;go_wp2_with fail
 refine HC.out.mono ?_;rintro o W9 ⟨rfl,hb⟩;have HX9:=zhd ((hb.block _ (zgs HX8.out).1).trans HX8.out);have HY9:=zhd ((hb.block _ (zgs HY8.out).1).trans HY8.out);have HQ9:=zhd (HQ8.out.on hb);have HB9:=zhd (HB8.out.trans (hb.mono HB8.out.size));clear hb HX8 HY8 HQ8 HB8 HC;have HC:=zhd (by have h:=qy W9 p (HR4.out.on HB9.out) (Nat.lt_of_lt_of_le hn4 HB9.out.size) HAW.out.ready.names HAW.out.ready.weight (HM4.out.below HB9.out hn4) HAW.out.ready.right HAW.out.ready.chk HAW.out.ready.len HAW.out.ready.heft;have e:max (min (il p.work 0) 1001) (min (il p.recover 0) 1001)=4:=HAW.out.depth;rw [e] at h;exact h);go_wp2_with (first | (refine wpList_load_row rfl 35 _ rfl b1 rfl 35 p.arr (0,0) _ HX9.out Tryz.underlying35 rfl (aB _) ?_) | fail)
 refine HC.out.mono ?_;rintro o W10 ⟨rfl,hb⟩;have HX10:=zhd ((hb.block _ (zgs HX9.out).1).trans HX9.out);have HY10:=zhd ((hb.block _ (zgs HY9.out).1).trans HY9.out);have HQ10:=zhd (HQ9.out.on hb);have HB10:=zhd (HB9.out.trans (hb.mono HB9.out.size));clear hb HX9 HY9 HQ9 HB9 HC;have HC:=zhd (by have h:=E5 W10 p (HR4.out.on HB10.out) (Nat.lt_of_lt_of_le hn4 HB10.out.size) (HM4.out.below HB10.out hn4) HAW.out.ready HAW.out.inits (by rw [HAW.out.weight];decide) (by rw [HAW.out.depth];decide);rw [HAW.out.pass,HAW.out.rec0] at h;exact h);go_wp2_with (first | (refine wpList_load_row rfl 35 _ rfl b1 rfl 35 p.arr (0,0) _ HX10.out Tryz.underlying35 rfl (aB _) ?_) | fail)
 refine HC.out.mono ?_;rintro o W11 ⟨rfl,hb⟩;have HX11:=zhd ((hb.block _ (zgs HX10.out).1).trans HX10.out);have HY11:=zhd ((hb.block _ (zgs HY10.out).1).trans HY10.out);have HQ11:=zhd (HQ10.out.on hb);have HB11:=zhd (HB10.out.trans (hb.mono HB10.out.size));clear hb HX10 HY10 HQ10 HB10 HC;have HC:=zhd (DF W11 p (HR4.out.on HB11.out) (Nat.lt_of_lt_of_le hn4 HB11.out.size) (HM4.out.below HB11.out hn4) HAW.out.ready HAW.out.free);go_wp2_with (first | (refine wpList_load_row rfl 35 _ rfl b1 rfl 35 p.arr (0,0) _ HX11.out Tryz.underlying35 rfl (aB _) ?_) | fail)
 refine HC.out.mono ?_;rintro o W12 ⟨rfl,hb⟩;have HX12:=zhd ((hb.block _ (zgs HX11.out).1).trans HX11.out);have HY12:=zhd ((hb.block _ (zgs HY11.out).1).trans HY11.out);have HQ12:=zhd (HQ11.out.on hb);have HB12:=zhd (HB11.out.trans (hb.mono HB11.out.size));clear hb HX11 HY11 HQ11 HB11 HC;obtain ⟨e0,k0,e1,k1,e2,e3,hpass⟩:=HSHP.out;have hw0:=HQ12.out.work;obtain ⟨ba,oa,ea,-,ha⟩:=ug hw0.row (show 0<q.work.length by rw [e0];exact Nat.one_pos);have hs0:gz W12.heap.size W12 s0:=hw0.ok s0 (by rw [e0];exact List.mem_singleton.2 rfl);obtain ⟨bb,ob,eb,-,hbc⟩:=ug hs0.then_.row (show 0<s0.thn.length by rw [e1];exact Nat.succ_pos _);have hs1:gz W12.heap.size W12 s1:=hs0.then_.ok s1 (by rw [e1];simp);obtain ⟨bc,oc,ec,-,hcc⟩:=ug hs1.then_.row (show 0<s1.thn.length by rw [e2];exact Nat.succ_pos _);have hs2:gz W12.heap.size W12 s2:=hs1.then_.ok s2 (by rw [e2];simp);obtain ⟨bd,od,ed,-,hdc⟩:=ug hs2.then_.row (show 0<s2.thn.length by rw [e3];exact Nat.succ_pos _);have htp:gz W12.heap.size W12 tp:=hs2.then_.ok tp (by rw [e3];simp);have c14:W12.cell? ⟨b2,14,none⟩=some (.slice (some ⟨ba,oa,none⟩) 1 q.ws.cap):=by
  have h:=(show Bx b2 W12 q from HY12.out).cell 14 rfl;rw [e0,show q.ws.val [s0].length=.slice q.ws.at_ 1 q.ws.cap from rfl,ea] at h;exact h
 have a0:W12.cell? ⟨ba,oa,none⟩=some (.int .u8 6):=by
  have h:=ha 0 (by rw [e0];exact Nat.one_pos) 0 (.int .u8 s0.kind) (by simp only [e0];rfl);rw [k0] at h;exact h
 have a4:W12.cell? ⟨ba,oa+4,none⟩=some (.slice (some ⟨bb,ob,none⟩) 2 s0.ts.cap):=by
  have h:=ha 0 (by rw [e0];exact Nat.one_pos) 4 (.slice s0.ts.at_ s0.thn.length s0.ts.cap) (by simp only [e0];rfl);rw [e1,eb] at h;exact h
 have s1c:∀r u,s1.cells[r]? = some u→W12.cell? ⟨bb,ob+6+r,none⟩=some u:=fun r u hu=>by
  have h:=hbc 1 (by rw [e1];exact Nat.one_lt_two) r u (by simp only [e1];exact hu);exact h
 have b0:W12.cell? ⟨bb,ob+6,none⟩=some (.int .u8 6):=by have h:=s1c 0 _ rfl;rw [k1] at h;exact h
 have b1':W12.cell? ⟨bb,ob+6+1,none⟩=some (.string s1.name):=s1c 1 _ rfl;have b2':W12.cell? ⟨bb,ob+6+2,none⟩=some (.slice s1.es.at_ s1.exprs.length s1.es.cap):=s1c 2 _ rfl;have b3':W12.cell? ⟨bb,ob+6+3,none⟩=some (.int .i64 s1.bound):=s1c 3 _ rfl;have b4':W12.cell? ⟨bb,ob+6+4,none⟩=some (.slice (some ⟨bc,oc,none⟩) 2 s1.ts.cap):=by
  have h:=s1c 4 (.slice s1.ts.at_ s1.thn.length s1.ts.cap) rfl;rw [e2,ec] at h;exact h
 have b5':W12.cell? ⟨bb,ob+6+5,none⟩=some (.slice s1.os.at_ s1.els.length s1.os.cap):=s1c 5 _ rfl;have d4:W12.cell? ⟨bc,oc+6+4,none⟩=some (.slice (some ⟨bd,od,none⟩) 1 s2.ts.cap):=by
  have h:=hcc 1 (by rw [e2];exact Nat.one_lt_two) 4 (.slice s2.ts.at_ s2.thn.length s2.ts.cap) (by simp only [e2];rfl);rw [e3,ed] at h;exact h
 have tpc:∀r u,tp.cells[r]? = some u→W12.cell? ⟨bd,od+r,none⟩=some u:=fun r u hu=>by
  have h:=hdc 0 (by rw [e3];exact Nat.one_pos) r u (by simp only [e3];exact hu)
  rwa [Nat.zero_mul,Nat.add_zero] at h
 have HTP:=zhd (And.intro htp hpass);have HTC:=zhd tpc;have HD4:=zhd d4;have HLT:Hid (bc<W12.heap.size∧bd<W12.heap.size):=zhd (by
  obtain ⟨x1,y1,f1,g1,-⟩:=ug hs1.then_.row (show 0<s1.thn.length by rw [e2];exact Nat.succ_pos _);obtain ⟨x2,y2,f2,g2,-⟩:=ug hs2.then_.row (show 0<s2.thn.length by rw [e3];exact Nat.succ_pos _);rw [ec] at f1;rw [ed] at f2;cases f1;cases f2;exact ⟨g1,g2⟩)
 clear e0 k0 e1 k1 e2 e3 hpass hw0 ea ha hs0 eb hbc hs1 ec hcc hs2 ed hdc htp s1c tpc d4 HSHP;go_upto_region 11 with fail
 clear c14 a0 a4 b0 b1' b2' b3' b4' b5';have hb13:=zba W12 (.cells #[.int .u8 6,.string s1.name,.slice s1.es.at_ s1.exprs.length s1.es.cap,.int .i64 s1.bound,.slice (some ⟨bc,oc,none⟩) 2 s1.ts.cap,.slice s1.os.at_ s1.els.length s1.os.cap] 43);obtain ⟨x0,x1,x2,x3,x4,x5⟩:=ah (zan W12 (.cells #[.int .u8 6,.string s1.name,.slice s1.es.at_ s1.exprs.length s1.es.cap,.int .i64 s1.bound,.slice (some ⟨bc,oc,none⟩) 2 s1.ts.cap,.slice s1.os.at_ s1.els.length s1.os.cap] 43));have d4:=(hb13.cell (p:=⟨bc,oc+6+4,none⟩) HLT.out.1).trans HD4.out;have tq:∀r u,tp.cells[r]? = some u→(W12.alloc (.cells #[.int .u8 6,.string s1.name,.slice s1.es.at_ s1.exprs.length s1.es.cap,.int .i64 s1.bound,.slice (some ⟨bc,oc,none⟩) 2 s1.ts.cap,.slice s1.os.at_ s1.els.length s1.os.cap] 43)).cell? ⟨bd,od+r,none⟩=some u:=fun r u hu=>(hb13.cell (p:=⟨bd,od+r,none⟩) HLT.out.2).trans (HTC.out r u hu)
 have p0:=tq 0 _ rfl;have p1:=tq 1 _ rfl;have p2:=tq 2 _ rfl;have p3:=tq 3 _ rfl;have p4:=tq 4 _ rfl;have p5:=tq 5 _ rfl;rw [Nat.add_zero] at p0;simp only [Sp.val] at p2 p4 p5;have hbp:ag tp=eG:=by have h:=(sG _ _).1 HTP.out.2;rw [h];exact zS
 have HIP:=zhd (by have h:=jQ (W12.alloc (.cells #[.int .u8 6,.string s1.name,.slice s1.es.at_ s1.exprs.length s1.es.cap,.int .i64 s1.bound,.slice (some ⟨bc,oc,none⟩) 2 s1.ts.cap,.slice s1.os.at_ s1.els.length s1.os.cap] 43)) tp ((HTP.out.1.stays hb13).more hb13.size) (wM hbp);rw [HTP.out.2] at h;exact h);have HB13:=zhd (HB12.out.trans (hb13.mono HB12.out.size));clear hb13 tq hbp HTP HTC HD4 HX12 HY12 HQ12 HB12;generalize W12.alloc (.cells #[.int .u8 6,.string s1.name,.slice s1.es.at_ s1.exprs.length s1.es.cap,.int .i64 s1.bound,.slice (some ⟨bc,oc,none⟩) 2 s1.ts.cap,.slice s1.os.at_ s1.els.length s1.os.cap] 43)=W13 at *;go_wp2_with fail
 refine HIP.out.mono ?_;rintro o W14 ⟨rfl,hb⟩;have HB14:=zhd (HB13.out.trans (hb.mono HB13.out.size));clear hb HIP x0 x1 x2 x3 x4 x5 d4 p0 p1 p2 p3 p4 p5 HB13;go_wp2_with fail
 refine (wV 1 (by decide) W14).mono ?_;rintro o W15 ⟨sc,rfl,hsc,hscr,hb⟩;have HB15:=zhd (HB14.out.trans (hb.mono HB14.out.size));have HIP:=zhd (by have h:=jQ W15 sc hscr (Dw hsc);rw [J4 hsc] at h;exact h);clear hb HB14 hsc hscr;simp only [aa.val,Sp.val];go_wp2_with fail
 refine HIP.out.mono ?_;rintro o W16 ⟨rfl,hb⟩;have HB16:=zhd (HB15.out.trans (hb.mono HB15.out.size));clear hb HIP HB15;go_wp2_with fail
 refine (oJ 1 1 (by decide) W16).mono ?_;rintro o W17 ⟨rfl,hb⟩;have HB17:=zhd (HB16.out.trans (hb.mono HB16.out.size));clear hb HB16;go_wp2_with fail
 refine (qC 1 (by decide) (aR 1 1) Sp.none [] W17 (rJ _ 1 1 (by decide) (by decide)) ⟨RowOf.nil,fun _ h=>absurd h (by simp)⟩).mono ?_;rintro o W18 ⟨sp9,rfl,ht9,hb⟩;have HB18:=zhd (HB17.out.trans (hb.mono HB17.out.size));have HIP:=zhd (by have h:=jQ W18 (Aq sp9 (aR 1 1) 1 Sp.none []) ht9 Ia;rw [Kt] at h;exact h);clear hb HB17 ht9;simp only [Aq,aa.val,aa.kind,aa.name,aa.es,aa.exprs,aa.bound,aa.ts,aa.thn,aa.os,aa.els,Sp.val,Sp.none,List.length_cons,List.length_nil,Nat.zero_add];go_wp2_with fail
 refine HIP.out.mono ?_;rintro o W19 ⟨rfl,hb⟩;have HB19:=zhd (HB18.out.trans (hb.mono HB18.out.size));clear hb HIP HB18;go_wp2_with fail
 go_ret
 exact ⟨rfl,HB4.out.trans (HB19.out.mono HB4.out.size)⟩
end
section
open Go Go.RowKit Go.Maps
theorem vM {P:Program} {α:Type} {k:Nat} {enc:α→List Value} {w:World} {ops:Array Oper} {o:Oper} {a:Act} {K:Act→World→Prop} {Q:Exit→Act→World→Prop} {E:Prop} (hgd:o.guard=none) (s x:Operand) (t:TypeId)
  (ho:o.op=.call { callee:=.builtin .append,args:=#[s,x],argTypes:=#[t,t] }) {B:Nat} {e:TypeId} (hE:nK P t e k) (hk:∀x,(enc x).length=k) (h1:∀x:α,∀u∈enc x,u.oneCell'=true) (v:Value) (l:List α) (hs:a.eval s=v) (hown:aG B w e k enc v l)
  {n:Nat} (sp:Sp) (l2:List α) (hx:a.eval x=.slice sp.at_ l2.length sp.cap) (hr:RowOf n w sp k enc l2) (hlen:l.length+l2.length≤1000000) (hB:B≤w.heap.size)
  (h:∀v' w',aG B w' e k enc v' (l++l2)→w.grownBy w' v.ownBlock→(v'.ownBlock=v.ownBlock∨v'.ownBlock=some w.heap.size)→K (a.put o.dst v') w') :
  if Region.wanted o (yielded ops a.tmps)=true then Oper.wp P o a w K Q else E:=by
 have hw:Region.wanted o (yielded ops a.tmps)=true:=by simp [Region.wanted,hgd]
 rw [if_pos hw];obtain ⟨v',w',hrun,h2,h3,h4⟩:=lC (P:=P) (ty:=o.type) hE hk h1 hown hr hlen hB;unfold Oper.wp execOp;simp only [ho,resolve,invoke,builtin,Sem.run_bind,Sem.run_pure,Result.andThen_ok,List.map_toArray,List.map_cons,List.map_nil,hs,hx,hrun];exact h v' w' h2 h3 h4
def kr (lo:Nat) (g:Option Nat) (W:World) (s:ae):Prop:=iG W.heap.size (dA lo (gH g W)) s
section
variable {lo q:Nat} {g:Option Nat} {W W':World} {s:ae}
theorem kr.newX (h:kr lo g W s):aU lo W s:=iG.cells h fun _ _ _ hc=>av.2 ⟨(bH.1 hc).1,(bH.1 hc).2.2⟩
theorem kr.on (h:kr lo g W s) (hb:Below W.heap.size (mask q W) (mask q W')) (hq:q<lo):kr lo g W' s :=
 (iG.cells h fun p u hp hc=>by
  obtain ⟨h1,h2,h3⟩:=bH.1 hc;exact bH.2 ⟨h1,h2,(World.cell?_of_block (dB hb hp (by omega))).trans h3⟩).more (bS hb)
theorem kr.below (h:kr lo g W s) (hb:Below W.heap.size W W'):kr lo g W' s :=
 (iG.cells h fun _ _ hp hc=>bH.2 ⟨(bH.1 hc).1,(bH.1 hc).2.1,(hb.cell hp).trans (bH.1 hc).2.2⟩).more hb.size
theorem kr.grow {g':Option Nat} (h:kr lo g W s) (hg:W.grownBy W' g) (hat:g'=g∨g'=some W.heap.size):kr lo g' W' s :=
 (iG.cells h fun p u hp hc=>by
  obtain ⟨h1,h2,h3⟩:=bH.1 hc;refine bH.2 ⟨h1,?_,(World.cell?_of_block (hg.block _ hp (fun e=>h2 e.symm))).trans h3⟩;rcases hat with rfl | rfl
  ·exact h2
  ·intro e
   have:=Option.some.inj e;omega).more hg.size
theorem kr.set {b:Nat} {cs:Array Value} (h:kr lo g W s) (hb:b<lo):kr lo g (W.setRow b cs) s:=by
 unfold kr;rw [size_setRow];refine iG.cells h fun p u _ hc=>?_
 obtain ⟨h1,h2,h3⟩:=bH.1 hc;exact bH.2 ⟨h1,h2,(cell_setRow_other W b cs p (by omega)).trans h3⟩
theorem aU.tox {lo':Nat} (h:aU lo W s) (hg:∀b,g=some b→b<lo) (hl:lo'≤lo):kr lo' g W s :=
 iG.cells h fun p u _ hc=>by
  obtain ⟨h1,h2⟩:=av.1 hc;exact bH.2 ⟨by omega,fun e=>by have:=hg _ e;omega,h2⟩
end
def qx (p:af) (A:Option Addr) (c:Nat) (l:List aQ):af:={ p with ns:=⟨A,c⟩,inits:=l }
structure vF (q:Nat) (lv:Sp) (ls:List Int) (at_:Nat) (p:af) (M:gy) (s0:Nat) (j:Int) (A:Option Addr) (c:Nat) (l:List aQ) (w W:World):Prop where
 mkr0:mP q (q+1) lv ls at_ (qx p A c l) false W
 eq:q=w.heap.size+1
 rd:fe s0 (dA (q+1) W) p
 q0:q+1≤s0
 sW:s0≤W.heap.size
 own:aG s0 W 149 7 aQ.cells (.slice A l.length c) l
 vals:∀x∈l,0≤x.block∧x.block<j∧(Lit.int .i64 x.block).wf=true∧WX M 1 1 M.w x.value∧kr s0 (Value.slice A l.length c).ownBlock W x.value
 pw:l.Pairwise (fun x y=>x.block<y.block)
 len:(l.length:Int)≤j
 low:Below w.heap.size w W
 res:W.heap[w.heap.size]? = some (.cells aD.arr 35 (0,0))
section
variable {q:Nat} {lv:Sp} {ls:List Int} {at_ at':Nat} {p:af} {M:gy} {s0:Nat} {j:Int} {A:Option Addr} {c:Nat} {l:List aQ} {w W W':World}
theorem vF.start (h:rf q lv ls at_ p false w W) (hp:qx p none 0 []=p):vF q lv ls at_ p M W.heap.size 0 none 0 [] w W :=
 ⟨by rw [hp];exact h.mkr0,h.eq,h.rd,h.lt,Nat.le_refl _,aG.nil,fun _ hx=>absurd hx (by simp),.nil,by simp,h.low,h.res⟩
theorem vF.lt (h:vF q lv ls at_ p M s0 j A c l w W):q<W.heap.size:=h.mkr0.box_lt
theorem vF.next {n':Nat} (h:vF q lv ls at_ p M s0 j A c l w W) (h0:mP q n' lv ls at' (qx p A c l) false W') (hb:Below W.heap.size (mask q W) (mask q W')):vF q lv ls at' p M s0 j A c l w W':=by
 have hq:=h.lt;have he:=h.eq;have hs:=bS hb;have h1:=h.q0;have h2:=h.sW;refine ⟨⟨h0.box,h0.le,h0.few,h.mkr0.list.below (hb.mono h.mkr0.nW),h0.byte,Nat.lt_succ_self _,by omega⟩,he,h.rd.cells (fun a u ha hu=>fI hb (Nat.lt_succ_self _) a u (by omega) hu),h1,by omega,dC h.own hb (by omega),fun x hx=>?_,h.pw,h.len,?_,(dB hb (by omega) (by omega)).trans h.res⟩
 ·obtain ⟨a1,a2,a3,a4,a5⟩:=h.vals x hx
  exact ⟨a1,a2,a3,a4,a5.on hb (by omega)⟩
 ·exact h.low.trans (mZ (by omega) (hb.mono (by omega)))
theorem vF.full (h:vF q lv ls at_ p M s0 j A c l w W):mP q W.heap.size lv ls at_ (qx p A c l) false W:=h.mkr0.raise h.mkr0.nW (Nat.le_refl _)
theorem vF.on (h:vF q lv ls at_ p M s0 j A c l w W) (hb:Below W.heap.size W W'):vF q lv ls at_ p M s0 j A c l w W':=h.next (h.full.on hb) (ai h.lt hb)
theorem vF.mkr (h:vF q lv ls at_ p M s0 j A c l w W) (hp:M.prm=false) (hM:M.ok) (hN:M.N=std) (hw:p.width=M.w) (hi:p.inputs=gL M) (hg:p.ghosts=lI M) (hv:p.vars=wQ M):Am q W.heap.size lv ls at_ (qx p A c l) M W:=by
 have hc:∀(a:Addr) (u:Value),a.block<s0→(dA (q+1) W).cell? a=some u→(mask q W).cell? a=some u:=fun a u _ hu=>by
  obtain ⟨h1,h2⟩:=av.1 hu;exact (World.cell?_of_block (bg (show a.block≠q by omega))).trans h2
 exact ⟨by rw [hp];exact h.full,hM,hN,hw,hi,hg,hv,(h.rd.inputs.row.cells hc).more h.sW,(h.rd.ghosts.row.cells hc).more h.sW,(h.rd.vars.row.cells hc).more h.sW⟩
theorem vF.skip (h:vF q lv ls at_ p M s0 j A c l w W):vF q lv ls at_ p M s0 (j+1) A c l w W :=
 { h with vals:=fun x hx=>by obtain ⟨a1,a2,a3⟩:=h.vals x hx;exact ⟨a1,by omega,a3⟩,len:=by have:=h.len;omega }
theorem vF.app (h:vF q lv ls at_ p M s0 j A c l w W) (hj:0≤j) (hjw:(Lit.int .i64 j).wf=true) {e:ae} {lo:Nat} (hwx:WX M 1 1 M.w e) (hnx:aU lo W e) (hlo:s0≤lo) (hol:∀b,(Value.slice A l.length c).ownBlock=some b→b<lo)
  {o:Obj} {W2:World} {A2:Option Addr} {c2:Nat} (hown:aG s0 W2 149 7 aQ.cells (.slice A2 (l++[(⟨j,e⟩:aQ)]).length c2) (l++[(⟨j,e⟩:aQ)])) (hg:(W.alloc o).grownBy W2 (Value.slice A l.length c).ownBlock)
  (hat:(Value.slice A2 (l++[(⟨j,e⟩:aQ)]).length c2).ownBlock=(Value.slice A l.length c).ownBlock∨(Value.slice A2 (l++[(⟨j,e⟩:aQ)]).length c2).ownBlock=some (W.alloc o).heap.size) :
  vF q lv ls at_ p M s0 (j+1) A2 c2 (l++[(⟨j,e⟩:aQ)]) w (W2.setCell ⟨q,14,none⟩ (.slice A2 (l++[(⟨j,e⟩:aQ)]).length c2)):=by
 have hba:Below W.heap.size W (W.alloc o):=(Below.refl _ _).alloc (Nat.le_refl _) _;have h1:=h.on hba;have he:=h.eq;have hq0:=h.q0;have hsW:=h.sW;have hown1:=h1.own;have hlow:Below s0 (W.alloc o) W2:=hown1.below hg (Nat.le_refl _) (Below.refl _ _) h1.sW;have hlow':Below (w.heap.size+1+1) (W.alloc o) W2:=hlow.mono (by omega);have hbox:W2.heap[q]? = some (.cells (gW lv ls.length at_ (qx p A c l) false).toArray 145 (0,0)):=(hlow.block q (by omega)).trans h1.mkr0.box;have hset:W2.setCell ⟨q,14,none⟩ (.slice A2 (l++[(⟨j,e⟩:aQ)]).length c2)=W2.setRow q (gW lv ls.length at_ (qx p A2 c2 (l++[(⟨j,e⟩:aQ)])) false).toArray:=by
  rw [sH hbox]
  rfl
 have hbs:=Go.below_setRow (Below.refl w.heap.size W2) (show w.heap.size≤q by omega) (gW lv ls.length at_ (qx p A2 c2 (l++[(⟨j,e⟩:aQ)])) false).toArray;have hm:mask q (W2.setRow q (gW lv ls.length at_ (qx p A2 c2 (l++[(⟨j,e⟩:aQ)])) false).toArray)=mask q W2:=by
  refine oV rfl rfl rfl rfl fun k=>?_
  by_cases hk:k=q
  ·subst hk;rw [jG,jG,size_setRow]
  ·rw [bg hk,bg hk,setRow_other _ _ _ _ hk]
 rw [hset];have hsz2:=hlow.size;have hsz1:=hba.size;refine ⟨⟨setRow_heap _ _ _ _ _ _ hbox,h.mkr0.le,h.mkr0.few,by rw [hm];exact h1.mkr0.list.below (ai h1.lt (hlow.mono (by omega))),h.mkr0.byte,Nat.lt_succ_self _,by rw [size_setRow];omega⟩,he,?_,hq0,by rw [size_setRow];omega,?_,fun x hx=>?_,?_,?_,(h1.low.trans (hlow.mono (by omega))).trans hbs,(setRow_other _ _ _ _ (by omega)).trans ((hlow.block _ (by omega)).trans h1.res)⟩
 ·refine h1.rd.cells fun a u ha hu=>?_
  obtain ⟨b1,b2⟩:=av.1 hu;exact av.2 ⟨b1,(cell_setRow_other _ _ _ _ (by omega)).trans ((hlow.cell ha).trans b2)⟩
 ·exact hown.kept fun g _ _ hB _=>setRow_other _ _ _ _ (by omega)
 ·rcases List.mem_append.1 hx with hx | hx
  ·obtain ⟨a1,a2,a3,a4,a5⟩:=h1.vals x hx
   exact ⟨a1,by omega,a3,a4,(a5.grow hg hat).set (show q<s0 by omega)⟩
  ·rw [List.mem_singleton.1 hx]
   exact ⟨hj,by show j<j+1;omega,hjw,hwx,(((hnx.tox hol hlo).below hba).grow hg hat).set (show q<s0 by omega)⟩
 ·rw [List.pairwise_append]
  refine ⟨h.pw,by simp,fun x hx y hy=>?_⟩;rw [List.mem_singleton.1 hy];exact (h.vals x hx).2.1
 ·have:=h.len
  simp only [List.length_append,List.length_cons,List.length_nil];omega
theorem vF.done (h:vF q lv ls at_ p M s0 j A c l w W) (hl:l.length≤1000):rf q lv ls at_ (qx p A c l) false w W:=by
 have h1:=h.q0;have hrow:RowOf W.heap.size (dA (q+1) W) ⟨A,c⟩ 7 aQ.cells l:=by
  obtain ⟨sp,e,hr,hb⟩:=h.own.row (fun _=>rfl) (by omega);have:sp=⟨A,c⟩:=by
   unfold Sp.val at e;injection e with e1 e2 e3;rw [e1,e3]
  subst this;exact hr.low' fun a ha=>by have:=(hb a ha).1;omega
 have hx:∀x∈l,JP W.heap.size (dA (q+1) W) x:=fun x hx=>by
  obtain ⟨a1,a2,a3,a4,a5⟩:=h.vals x hx;exact ⟨a3,(a5.newX.less h1:aU (q+1) W x.value)⟩
 exact ⟨h.mkr0,h.eq,{ (h.rd.more h.sW) with irow:=hrow,inits:=hx },h.low,h.res⟩
end
end
end Go.Proofs.YtepacjkacjabbaaGreatDoor
