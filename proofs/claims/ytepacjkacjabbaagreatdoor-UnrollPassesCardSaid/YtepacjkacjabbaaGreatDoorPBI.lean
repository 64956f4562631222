import Derived.Test.YtepacjkacjabbaaGreatDoorPAA
import Derived.Test.YtepacjkacjabbaaGreatDoorPBH
import Derived.Test.YtepacjkacjabbaaGreatDoorPAH
namespace Go.Proofs.YtepacjkacjabbaaGreatDoor
section
open Go Go.RowKit Go.Maps
attribute [local go_sem] Oper.semAt_some
theorem Jt {a:Act} (h:a.tmps.size=49):∃F:Nat→Value,(∀i:Nat,F i=a.eval (.tmp i))∧a=⟨(F 0::F 1::F 2::F 3::F 4::F 5::F 6::F 7::F 8::F 9::F 10::F 11::F 12::F 13::F 14::F 15::F 16::F 17::F 18::F 19::F 20::F 21::F 22::F 23::F 24::F 25::F 26::F 27::F 28::F 29::F 30::F 31::F 32::F 33::F 34::F 35::F 36::F 37::F 38::F 39::F 40::F 41::F 42::F 43::F 44::F 45::F 46::F 47::F 48::[]).toArray,a.defers⟩:=by
 obtain ⟨tm,df⟩:=a;have h2:(⟨tm,[]⟩:Act).tmps.size=49:=h;have e:=mf h2 rfl;refine ⟨fun i=>(⟨tm,df⟩:Act).eval (.tmp i),fun _=>rfl,?_⟩;have e2:tm=((fun i=>(⟨tm,[]⟩:Act).eval (.tmp i)) 0::(fun i=>(⟨tm,[]⟩:Act).eval (.tmp i)) 1::(fun i=>(⟨tm,[]⟩:Act).eval (.tmp i)) 2::(fun i=>(⟨tm,[]⟩:Act).eval (.tmp i)) 3::(fun i=>(⟨tm,[]⟩:Act).eval (.tmp i)) 4::(fun i=>(⟨tm,[]⟩:Act).eval (.tmp i)) 5::(fun i=>(⟨tm,[]⟩:Act).eval (.tmp i)) 6::(fun i=>(⟨tm,[]⟩:Act).eval (.tmp i)) 7::(fun i=>(⟨tm,[]⟩:Act).eval (.tmp i)) 8::(fun i=>(⟨tm,[]⟩:Act).eval (.tmp i)) 9::(fun i=>(⟨tm,[]⟩:Act).eval (.tmp i)) 10::(fun i=>(⟨tm,[]⟩:Act).eval (.tmp i)) 11::(fun i=>(⟨tm,[]⟩:Act).eval (.tmp i)) 12::(fun i=>(⟨tm,[]⟩:Act).eval (.tmp i)) 13::(fun i=>(⟨tm,[]⟩:Act).eval (.tmp i)) 14::(fun i=>(⟨tm,[]⟩:Act).eval (.tmp i)) 15::(fun i=>(⟨tm,[]⟩:Act).eval (.tmp i)) 16::(fun i=>(⟨tm,[]⟩:Act).eval (.tmp i)) 17::(fun i=>(⟨tm,[]⟩:Act).eval (.tmp i)) 18::(fun i=>(⟨tm,[]⟩:Act).eval (.tmp i)) 19::(fun i=>(⟨tm,[]⟩:Act).eval (.tmp i)) 20::(fun i=>(⟨tm,[]⟩:Act).eval (.tmp i)) 21::(fun i=>(⟨tm,[]⟩:Act).eval (.tmp i)) 22::(fun i=>(⟨tm,[]⟩:Act).eval (.tmp i)) 23::(fun i=>(⟨tm,[]⟩:Act).eval (.tmp i)) 24::(fun i=>(⟨tm,[]⟩:Act).eval (.tmp i)) 25::(fun i=>(⟨tm,[]⟩:Act).eval (.tmp i)) 26::(fun i=>(⟨tm,[]⟩:Act).eval (.tmp i)) 27::(fun i=>(⟨tm,[]⟩:Act).eval (.tmp i)) 28::(fun i=>(⟨tm,[]⟩:Act).eval (.tmp i)) 29::(fun i=>(⟨tm,[]⟩:Act).eval (.tmp i)) 30::(fun i=>(⟨tm,[]⟩:Act).eval (.tmp i)) 31::(fun i=>(⟨tm,[]⟩:Act).eval (.tmp i)) 32::(fun i=>(⟨tm,[]⟩:Act).eval (.tmp i)) 33::(fun i=>(⟨tm,[]⟩:Act).eval (.tmp i)) 34::(fun i=>(⟨tm,[]⟩:Act).eval (.tmp i)) 35::(fun i=>(⟨tm,[]⟩:Act).eval (.tmp i)) 36::(fun i=>(⟨tm,[]⟩:Act).eval (.tmp i)) 37::(fun i=>(⟨tm,[]⟩:Act).eval (.tmp i)) 38::(fun i=>(⟨tm,[]⟩:Act).eval (.tmp i)) 39::(fun i=>(⟨tm,[]⟩:Act).eval (.tmp i)) 40::(fun i=>(⟨tm,[]⟩:Act).eval (.tmp i)) 41::(fun i=>(⟨tm,[]⟩:Act).eval (.tmp i)) 42::(fun i=>(⟨tm,[]⟩:Act).eval (.tmp i)) 43::(fun i=>(⟨tm,[]⟩:Act).eval (.tmp i)) 44::(fun i=>(⟨tm,[]⟩:Act).eval (.tmp i)) 45::(fun i=>(⟨tm,[]⟩:Act).eval (.tmp i)) 46::(fun i=>(⟨tm,[]⟩:Act).eval (.tmp i)) 47::(fun i=>(⟨tm,[]⟩:Act).eval (.tmp i)) 48::[]).toArray:=congrArg Act.tmps e;exact congrArg (fun t=>(⟨t,df⟩:Act)) e2
noncomputable def opsP13:Array Oper:=((Tryz.f47.body.bind (opsOf 13)).getD #[])
def Ef (t:Nat):Bool:=decide (t=7)
theorem Fx:dR opsP13 9 49 Ef=true:=by kernel_rfl
set_option maxRecDepth 10000000 in
set_option maxHeartbeats 16000000 in
theorem KG {a0:Act} {w0:World} (hsz:a0.tmps.size=49) (b B1:Nat) (c0 c1:Int) (f7:a0.tmps[7]?.getD undef=.pointer (some ⟨b,0,none⟩)) (hv:w0.cell? ⟨b,0,none⟩=some (.slice (some ⟨B1,0,none⟩) 2 2)) (d0:w0.cell? ⟨B1,0,none⟩=some (.int .i64 c0)) (d1:w0.cell? ⟨B1,1,none⟩=some (.int .i64 c1)) :
  (Code.region 13 opsP13 true).wp Tryz.prog (fun e a w=>e=.normal∧a.tmps.size=49∧a.defers=a0.defers∧a.tmps[2]?.getD undef=.int .i64 c0∧a.tmps[3]?.getD undef=.int .i64 c1∧a.tmps[4]?.getD undef=.int .i64 0∧w=w0.drew) a0 w0:=by
 have ev:∀a:Addr,w0.drew.cell? a=w0.cell? a:=fun _=>rfl
 refine aP (n:=9) (sz:=49) (keep:=Ef) rfl Fx hsz (fun _ w=>w=w0.drew) (fun _ w w'=>w'=w) rfl ?_;have e:opsP13.toList=opsP13.toList:=rfl
 conv at e=>rhs;arg 1;whnf
 simp only at e;rw [e];clear e
 apply ak.exact rfl rfl
 ·exact fun _ _ h=>h
 ·exact fun w=>rfl
 ·rintro L a w ⟨-,hS,-,hsm,haft⟩
  have f7:a.tmps[7]?.getD undef=_:=(hsm 7 rfl).trans f7;have cv:w.cell? ⟨b,0,none⟩=_:=(by rw [hS];exact ev _:w.cell? ⟨b,0,none⟩=w0.cell? ⟨b,0,none⟩).trans hv;simp [go_sem,f7,cv];exact rfl
 apply ak.exact rfl rfl
 ·exact fun _ _ h=>h
 ·exact fun w=>rfl
 ·rintro L a w ⟨-,hS,-,hsm,haft⟩
  have f43:a.tmps[43]?.getD undef=_:=aj (haft.1 rfl).2;simp [go_sem,f43];exact rfl
 apply ak.exact rfl rfl
 ·exact fun _ _ h=>h
 ·exact fun w=>rfl
 ·rintro L a w ⟨-,hS,-,hsm,haft⟩
  have f44:a.tmps[44]?.getD undef=_:=aj (haft.1 rfl).2;have c0:w.cell? ⟨B1,0,none⟩=_:=(by rw [hS];exact ev _:w.cell? ⟨B1,0,none⟩=w0.cell? ⟨B1,0,none⟩).trans d0;simp [go_sem,f44,c0];exact rfl
 apply ak.exact rfl rfl
 ·exact fun _ _ h=>h
 ·exact fun w=>rfl
 ·rintro L a w ⟨-,hS,-,hsm,haft⟩
  have f7:a.tmps[7]?.getD undef=_:=(hsm 7 rfl).trans f7;have cv:w.cell? ⟨b,0,none⟩=_:=(by rw [hS];exact ev _:w.cell? ⟨b,0,none⟩=w0.cell? ⟨b,0,none⟩).trans hv;simp [go_sem,f7,cv];exact rfl
 apply ak.exact rfl rfl
 ·exact fun _ _ h=>h
 ·exact fun w=>rfl
 ·rintro L a w ⟨-,hS,-,hsm,haft⟩
  have f46:a.tmps[46]?.getD undef=_:=aj (haft.1 rfl).2;simp [go_sem,f46];exact rfl
 apply ak.exact rfl rfl
 ·exact fun _ _ h=>h
 ·exact fun w=>rfl
 ·rintro L a w ⟨-,hS,-,hsm,haft⟩
  have f47:a.tmps[47]?.getD undef=_:=aj (haft.1 rfl).2;have c1:w.cell? ⟨B1,1,none⟩=_:=(by rw [hS];exact ev _:w.cell? ⟨B1,1,none⟩=w0.cell? ⟨B1,1,none⟩).trans d1;simp [go_sem,f47,c1];exact rfl
 apply ak.exact rfl rfl
 ·exact fun _ _ h=>h
 ·exact fun w=>rfl
 ·rintro L a w ⟨-,hS,-,hsm,haft⟩
  have f45:a.tmps[45]?.getD undef=_:=aj (haft.1 rfl).2;simp [go_sem,f45];exact rfl
 apply ak.exact rfl rfl
 ·exact fun _ _ h=>h
 ·exact fun w=>rfl
 ·rintro L a w ⟨-,hS,-,hsm,haft⟩
  have f48:a.tmps[48]?.getD undef=_:=aj (haft.1 rfl).2;simp [go_sem,f48];exact rfl
 apply ak.exact rfl rfl
 ·exact fun _ _ h=>h
 ·exact fun w=>rfl
 ·rintro L a w ⟨-,hS,-,hsm,haft⟩
  simp [go_sem];exact rfl
 rintro L a w hL ⟨hS,hsame,hv⟩;exact ⟨rfl,hsame.1.trans hsz,hsame.2.1,aj (hv 6),aj (hv 7),aj (hv 8),hS⟩
theorem pz {W:World} {b:Nat} {t:TypeId} {fr:Nat × Nat} {v0 v1:Value} (h:W.heap[b]? = some (.cells #[v0,v1] t fr)):W.cell? ⟨b,0,none⟩=some v0∧W.cell? ⟨b,1,none⟩=some v1:=by
 simp [World.cell?,h]
theorem FH (s:aa):∀y∈s.pre,ay [y]≤ay [s]:=by
 induction s using aa.ind with
 | h k n es ex b ts th os el i1 i2 =>
  intro y hy;rw [aa.pre_eq] at hy;rcases List.mem_cons.1 hy with e | hy
  ·rw [e];exact Nat.le_refl _
  ·have hM:=bR (.mk k n es ex b ts th os el)
   have h1:ay (aa.mk k n es ex b ts th os el).thn=ay th:=rfl;have h2:ay (aa.mk k n es ex b ts th os el).els=ay el:=rfl;rcases List.mem_append.1 hy with hy | hy
   ·obtain ⟨t,ht,hy⟩:=List.mem_flatMap.1 hy
    have a1:=i1 t ht y hy;have a2:=bM th t ht;omega
   ·obtain ⟨t,ht,hy⟩:=List.mem_flatMap.1 hy
    have a1:=i2 t ht y hy;have a2:=bM el t ht;omega
theorem oK {l:List aa} {y:aa} (hy:y∈l.flatMap aa.pre):ay [y]≤ay l:=by
 obtain ⟨s,hs,hy⟩:=List.mem_flatMap.1 hy;exact Nat.le_trans (FH s y hy) (bM l s hs)
def dM (l:List aa):Nat:=l.countP aY
theorem lH (l:List aa) (y:aa):dM (l++[y])=if aY y=true then dM l+1 else dM l:=by
 unfold dM;rw [List.countP_append,List.countP_singleton]
 split <;> omega
theorem yt (l:List aa):dM l≤l.length:=List.countP_le_length
set_option maxRecDepth 10000000 in
set_option maxHeartbeats 64000000 in
theorem DC (w:World) (p:af) (hp:jW w.heap.size w p) (hn0:0<w.heap.size) (hmx:MxAt w) (hr:dC p) (hi:p.inits=[]) (hwt:bJ p≤20000) (hdt:iX p≤1000) :
  Calls Tryz.prog 47 #[.agg p.arr] w fun o w'=>o=.returned (.tuple #[.int .i64 (dW (aX p.work)),.int .i64 (dW (aX p.recover)),.int .i64 0])∧Below w.heap.size w w':=by
 have hb1:=zba w (.cells p.arr 35);have hB:=zan w (.cells p.arr 35);have HUN:=zhd (wK _ p (hp.on hb1) (Nat.lt_of_lt_of_le hn0 hb1.size) (hmx.below hb1 hn0) hr hi hwt hdt);have HFW:=zhd (KO hr hwt);have harrs:=aN p;have HB:=zhd hB;have HB1:=zhd hb1;clear hB hb1 hp hmx hr hi hwt hdt;generalize p.arr=arr at *;refine (callsIn_wide (n:=5)).1 ?_;refine callsIn_of_wp_marks Tryz.func47 rfl trivial ?_ rfl;simp only [Tryz.ntmps47,List.size_toArray,List.length_cons,List.length_nil,Nat.reduceAdd,Nat.reduceSub,Array.replicate_succ,Array.replicate_zero,List.push_toArray,List.append_toArray,List.nil_append,List.cons_append];refine wpIn_wide.2 ?_;go_wp2_with (first | (refine wpList_load_row rfl 35 _ rfl w.heap.size rfl 35 _ (0,0) _ HB.out Tryz.underlying35 rfl harrs ?_) | fail)
 refine HUN.out.mono ?_;rintro o w2 ⟨q,rfl,hbare,hrd,hb2⟩;have hq0:=zan w2 (.cells bH.arr 35);have HQ0:=zhd hq0;have HA2:Hid (Below w2.heap.size w2 (w2.alloc (.cells bH.arr 35))):=zhd ((Below.refl _ _).alloc (Nat.le_refl _) _);have HBARE:=zhd hbare;have HRD:=zhd hrd;have HBU:=zhd (HB1.out.trans (hb2.mono HB1.out.size));clear hq0 hbare hrd hb2 HUN;go_upto_region 4 with (first
  | (refine aO (t:=35) rfl rfl (gm _) ?_)
  | (refine wpList_store_row rfl 35 _ _ rfl w2.heap.size q.arr (by rfl) (by rfl) 35 bH.arr HQ0.out (aN _) (by kernel_rfl) (jg _) ?_)
  | fail)
 have hb3:Below w2.heap.size w2 ((w2.alloc (.cells bH.arr 35)).setRow w2.heap.size q.arr):=below_setRow HA2.out (Nat.le_refl _);have hq3:Bx w2.heap.size ((w2.alloc (.cells bH.arr 35)).setRow w2.heap.size q.arr) q:=setRow_heap _ _ _ _ _ _ HQ0.out;have hs3:((w2.alloc (.cells bH.arr 35)).setRow w2.heap.size q.arr).heap.size=w2.heap.size+1:=by rw [size_setRow];simp
 generalize (w2.alloc (.cells bH.arr 35)).setRow w2.heap.size q.arr=w3 at *;obtain ⟨hn4,hv4,hs4,hb4⟩:=gY w3 (.cells #[.int .i64 0,.int .i64 0] 3) (.cells #[.slice (some ⟨w2.heap.size+1,0,none⟩) 2 2] 87);rw [hs3] at hn4 hv4;have hq4:=hq3.on hb4;have c14:=hq4.cell 14 rfl;have c15:=hq4.cell 15 rfl;simp only [Sp.val] at c14 c15;have HN4:=zhd hn4;have HV4:=zhd hv4;have HB4:=zhd (hb3.trans (hb4.mono (by omega)));have HS4:=zhd hs4;clear hn4 hv4 hs4 hb4 hq4 hb3 hq3;go_upto_region 5 with fail
 generalize (w3.alloc (.cells #[.int .i64 0,.int .i64 0] 3)).alloc (.cells #[.slice (some ⟨w2.heap.size+1,0,none⟩) 2 2] 87)=w4 at *;have hs4:w4.heap.size=w2.heap.size+3:=by rw [HS4.out,hs3]
 obtain ⟨wr,hwr⟩:∃wr,wr=w4.alloc (.cells #[.slice q.ws.at_ q.work.length q.ws.cap,.slice q.cs.at_ q.recover.length q.cs.cap] 33):=⟨_,rfl⟩;have hbr:Below w4.heap.size w4 wr:=by rw [hwr];exact (Below.refl _ _).alloc (Nat.le_refl _) _
 have hr4:=zan w4 (.cells #[.slice q.ws.at_ q.work.length q.ws.cap,.slice q.cs.at_ q.recover.length q.cs.cap] 33);rw [←hwr,hs4] at hr4;have HR4:=zhd hr4;have HBR:=zhd hbr;have HWR:=zhd hwr;clear hr4 hbr hwr hs3;have hbw:q.work.map ah=(aX p.work).map ah:=congrArg af.work HBARE.out;have hbc:q.recover.map ah=(aX p.recover).map ah:=congrArg af.recover HBARE.out;have HF0:Hid (ay q.work≤20000):=zhd (by rw [←eH,hbw,eH];exact HFW.out.1);have HF1:Hid (ay q.recover≤20000):=zhd (by rw [←eH,hbc,eH];exact HFW.out.2);have HFL0:Hid ((q.work.flatMap aa.pre).length≤20000):=zhd (Nat.le_trans (AX _) HF0.out);have HFL1:Hid ((q.recover.flatMap aa.pre).length≤20000):=zhd (Nat.le_trans (AX _) HF1.out);have HP0:Hid (dM (q.work.flatMap aa.pre)=dW (aX p.work)):=zhd (lI hbw);have HP1:Hid (dM (q.recover.flatMap aa.pre)=dW (aX p.recover)):=zhd (lI hbc);have HN0:=zhd ((HBR.out.block _ (by omega)).trans HN4.out);have HV0:=zhd ((HBR.out.block _ (by omega)).trans HV4.out);have HL0:=HR4;have HB0:=zhd (HB4.out.trans (HBR.out.mono (by omega)));have hVs0:w2.heap.size+4≤wr.heap.size:=by have:=(zgs HR4.out).1;omega
 have HS4':=zhd hs4;clear hbw hbc HN4 HV4 HB4 HBR;go_wp2_with fail
 refine wp_loop_rounds 3 ?_;rw [←HWR.out];clear hs4 c14 c15;obtain ⟨V0,rfl⟩:∃V0,V0=wr:=⟨wr,rfl⟩;clear HWR HS4' HS4 HR4;have c0a:V0.cell? ⟨w2.heap.size+3,0,none⟩=some (.slice q.ws.at_ q.work.length q.ws.cap):=by simp [World.cell?,HL0.out]
 have hbi:=zba V0 (.cells #[.int .i64 0] 3);have HBI0:=zhd hbi;have HXI0:=zhd (zan V0 (.cells #[.int .i64 0] 3));have HSI0:Hid ((V0.alloc (.cells #[.int .i64 0] 3)).heap.size=V0.heap.size+1):=zhd (by simp);clear hbi;rw [rounds_succ];go_wp2_with fail
 generalize V0.alloc (.cells #[.int .i64 0] 3)=I0 at *;clear c0a;refine (pF q.ws q.work.length I0).mono ?_;rintro o w5 ⟨rfl,rfl⟩;have hbx:=zba I0 (.cells #[.slice q.ws.at_ q.work.length q.ws.cap] 33);have HXX0:=zhd (zan I0 (.cells #[.slice q.ws.at_ q.work.length q.ws.cap] 33));have HSX0:Hid ((I0.alloc (.cells #[.slice q.ws.at_ q.work.length q.ws.cap] 33)).heap.size=I0.heap.size+1):=zhd (by simp);have HBX0:=zhd hbx;clear hbx;generalize I0.alloc (.cells #[.slice q.ws.at_ q.work.length q.ws.cap] 33)=X0 at *;go_wp2_with fail
 have hsz0:V0.heap.size+2=X0.heap.size:=by have h1:=HSI0.out;have h2:=HSX0.out;omega
 have HKV:Hid (Below V0.heap.size V0 X0):=zhd (HBI0.out.trans (HBX0.out.mono HBI0.out.size));have HN':=zhd ((HKV.out.block _ (by omega)).trans HN0.out);have HV':=zhd ((HKV.out.block _ (by omega)).trans HV0.out);have HL':=zhd ((HKV.out.block _ (by omega)).trans HL0.out);have HI':=zhd ((HBX0.out.block _ (by have:=HSI0.out;omega)).trans HXI0.out);have HB':=zhd (HB0.out.trans (HKV.out.mono (by omega)));have HSEQ0:=zhd fun n=>pG q.ws q.work HRD.out.work n X0 I0.heap.size HB'.out (by omega) HXX0.out
 refine (wpIn_wide (n:=5)).1 ?_;refine bi (T:=TW) (n₀:=w2.heap.size) rfl (fun h=>by cases h) (gf:=165) (lb:=#[.pointer (some ⟨I0.heap.size,0,none⟩)]) rfl trivial (enters_of Tryz.func165 (by kernel_rfl) rfl)
  (HSEQ0.out _) (by omega) (Below.refl _ _) (fun _=>rfl)
  (fun pre W=>W.heap[w2.heap.size+1]? = some (.cells #[.int .i64 (dM pre:Nat),.int .i64 0] 3 (0,0))∧W.heap[w2.heap.size+1+1]? = some (.cells #[.slice (some ⟨w2.heap.size+1,0,none⟩) 2 2] 87 (0,0))∧W.heap[w2.heap.size+3]? = some (.cells #[.slice q.ws.at_ q.work.length q.ws.cap,.slice q.cs.at_ q.recover.length q.cs.cap] 33 (0,0))∧W.heap[V0.heap.size]? = some (.cells #[.int .i64 0] 3 (0,0))∧Below w2.heap.size w2 W∧X0.heap.size≤W.heap.size)
  (fun _ _ _=>False)
  ?hI0 ?hIx0 ⟨HN'.out,HV'.out,HL'.out,HI'.out,HB'.out,Nat.le_refl _⟩
  (fun y a' W=>∃b7,W.heap[b7]? = some (.cells #[.int .u8 y.kind,.string y.name,.slice y.es.at_ y.exprs.length y.es.cap,.int .i64 y.bound,.slice y.ts.at_ y.thn.length y.ts.cap,.slice y.os.at_ y.els.length y.os.cap] 43 (0,0))∧a'={ tmps:=#[.agg arr,.pointer (some ⟨w.heap.size,0,none⟩),.int .i64 0,.int .i64 0,.int .i64 0,.pointer (some ⟨w2.heap.size,0,none⟩),.int .i64 0,.pointer (some ⟨w2.heap.size+1+1,0,none⟩),.pointer (some ⟨V0.heap.size,0,none⟩),.slice q.ws.at_ q.work.length q.ws.cap,.pointer (some ⟨b7,0,none⟩),.tuple #[.agg q.arr,.int .i64 0],.agg arr,.tuple #[.agg q.arr,.int .i64 0],.agg q.arr,.int .i64 0,.int .i64 0,.bool false,undef,.slice (some ⟨w2.heap.size+1,0,none⟩) 2 2,.pointer (some ⟨w2.heap.size,14,none⟩),.slice q.ws.at_ q.work.length q.ws.cap,.pointer (some ⟨w2.heap.size,15,none⟩),.slice q.cs.at_ q.recover.length q.cs.cap,.slice (some ⟨w2.heap.size+3,0,none⟩) 2 2,.int .i64 2,.int .i64 0,.bool true,.int .i64 0,.pointer (some ⟨w2.heap.size+3,0,none⟩),.slice q.ws.at_ q.work.length q.ws.cap,.slice q.ws.at_ q.work.length q.ws.cap,.func (.func 165) #[] #[.pointer (some ⟨I0.heap.size,0,none⟩)],.agg #[.int .u8 y.kind,.string y.name,.slice y.es.at_ y.exprs.length y.es.cap,.int .i64 y.bound,.slice y.ts.at_ y.thn.length y.ts.cap,.slice y.os.at_ y.els.length y.os.cap],undef,undef,undef,undef,undef,undef,undef,undef,undef,undef,undef,undef,undef,undef,undef],defers:=[] })
  ?hAx0 ?assign0 ?body0 ?done0 ?stop0
 case hI0 =>
  rintro s X' Y rw ⟨h1,h2,h3,h4,h5,h6⟩ hg hr;have hcl:∀(k:Nat) (cs:Array Value) (t:TypeId) (fr:Nat × Nat),X'.heap[k]? = some (Obj.cells cs t fr)→Y.heap[k]? = X'.heap[k]? := fun k cs t fr hk=>hg.block k (zgs hk).1 (fun e=>by
   obtain ⟨_,o,ho,hc⟩:=hr k e.symm;rw [hk] at ho;cases ho
   cases hc)
  exact ⟨(hcl _ _ _ _ h1).trans h1,(hcl _ _ _ _ h2).trans h2,(hcl _ _ _ _ h3).trans h3,(hcl _ _ _ _ h4).trans h4,h5.grown hg h5.size (fun q hq=>by have:=(hr q hq).1;omega),Nat.le_trans h6 hg.size⟩
 case hIx0=>rintro c s X' Y rw h;cases h
 case hAx0 =>
  rintro y a' _ X' Y rw ⟨b7,h1,h2⟩ hg hr;refine ⟨b7,(hg.block b7 (zgs h1).1 (fun e'=>?_)).trans h1,h2⟩;obtain ⟨_,o',ho,hc⟩:=hr b7 e'.symm;rw [h1] at ho;cases ho
  cases hc
 case assign0 =>
  rintro l2 pre y Wc K ⟨h1,h2,h3,h4,h5,h6⟩ hK;simp only [aa.val,Sp.val] at hK ⊢;have hba:=zba Wc (.cells #[.int .u8 y.kind,.string y.name,.slice y.es.at_ y.exprs.length y.es.cap,.int .i64 y.bound,.slice y.ts.at_ y.thn.length y.ts.cap,.slice y.os.at_ y.els.length y.os.cap] 43)
  gi_wp2
  exact hK _ _ (ax.of_below hba) (hba.mono (by omega)) ⟨(hba.block _ (by omega)).trans h1,(hba.block _ (by omega)).trans h2,(hba.block _ (by omega)).trans h3,(hba.block _ (by omega)).trans h4,h5.trans (hba.mono (by omega)),Nat.le_trans h6 hba.size⟩ ⟨_,zan _ _,rfl⟩
 case body0 =>
  rintro l2 pre y a' Wc hl2 ⟨h1,h2,h3,h4,h5,h6⟩ ⟨b7,hb7,rfl⟩ hlen hsp;obtain ⟨q0,q1,q2,q3,q4,q5⟩:=ag hb7;have hpl:=yt pre;have hym:y∈q.work.flatMap aa.pre:=hsp.mem (by simp);have hIP:=fK Wc y ((nG (HRD.out.work.ok _ (List.mem_flatMap.1 hym).choose_spec.1) y (List.mem_flatMap.1 hym).choose_spec.2).stays h5 |>.more h5.size) (Nat.le_trans (oK hym) HF0.out);have HIP:=zhd hIP;have hc20:dM pre≤20000:=by have:=hlen;have:=HFL0.out;omega
  have H1:=zhd h1;have H2:=zhd h2;have H3:=zhd h3;have H4:=zhd h4;have H5:=zhd h5;have H6:=zhd h6;have hn1:(1:Nat)≤5 - 1 - 1:=by omega
  clear hIP h1 h2 h3 h4 h5 h6 hb7 hlen hsp hym
  gi_wp2
  refine ⟨trivial,?_⟩;refine (CallsIn.inRound l2 (callsIn_wide.2 HIP.out)).mono ?_;rintro o4 W4 ⟨rfl,hb4⟩;have H1:=zhd ((hb4.block _ (by have:=H6.out;omega)).trans H1.out);have H2:=zhd ((hb4.block _ (by have:=H6.out;omega)).trans H2.out);have H3:=zhd ((hb4.block _ (by have:=H6.out;omega)).trans H3.out);have H4:=zhd ((hb4.block _ (by have:=H6.out;omega)).trans H4.out);have HSW:Hid (w2.heap.size≤Wc.heap.size):=zhd (by have:=H6.out;omega);have HB4:=zhd hb4;clear hb4 q0 q1 q2 q3 q4 q5 HIP;cases hip:aY y with
  | true =>
   have HPF:Hid (dM (pre++[y])=dM pre+1):=zhd (by rw [lH,if_pos hip]);clear hip;have hw:wrap64 ((dM pre:Nat)+1:Int)=((dM pre+1:Nat):Int):=by rw [IntWalk.wrap64_in _ ⟨by omega,by omega⟩];rfl
   obtain ⟨d0,d1⟩:=pz H1.out;have dv:=one_cell H2.out;have di:=one_cell H4.out;have df:W4.frozen? ⟨w2.heap.size+1,0,none⟩=false:=by unfold World.frozen?;rw [H1.out];rfl
   have HNE:Hid (w2.heap.size+1+1≠w2.heap.size+1∧w2.heap.size+3≠w2.heap.size+1∧V0.heap.size≠w2.heap.size+1):=zhd ⟨by omega,by omega,by omega⟩;clear hsz0 hVs0 hpl hc20 hn1
   gi_wp2
   have hset:(W4.setCell ⟨w2.heap.size+1,0,none⟩ (.int .i64 ((dM pre+1:Nat):Int))).heap[w2.heap.size+1]? = some (.cells #[.int .i64 (dM (pre++[y]):Nat),.int .i64 0] 3 (0,0)):=by
    rw [HPF.out];simp [World.setCell,Array.getElem?_modify,H1.out]
   have hoth:∀k,k≠w2.heap.size+1→(W4.setCell ⟨w2.heap.size+1,0,none⟩ (.int .i64 ((dM pre+1:Nat):Int))).heap[k]? = W4.heap[k]? := fun k hk=>Below.heap_setCell _ _ _ k hk
   first
    | rw [hw]
    | skip
   refine ⟨(ax.of_below HB4.out).trans (ax.set (a:=⟨w2.heap.size+1,0,none⟩) H1.out rfl _),(HB4.out.mono HSW.out).setCell (p:=⟨w2.heap.size+1,0,none⟩) (by show w2.heap.size≤w2.heap.size+1;omega) _,hset,(hoth _ HNE.out.1).trans H2.out,(hoth _ HNE.out.2.1).trans H3.out,(hoth _ HNE.out.2.2).trans H4.out,(H5.out.trans (HB4.out.mono HSW.out)).setCell (p:=⟨w2.heap.size+1,0,none⟩) (by show w2.heap.size≤w2.heap.size+1;omega) _,by simp only [World.size_setCell];exact Nat.le_trans H6.out HB4.out.size⟩
  | false =>
   have HPF:Hid (dM (pre++[y])=dM pre):=zhd (by rw [lH,hip,if_neg (by simp)]);clear hip
   gi_wp2
   exact ⟨ax.of_below HB4.out,HB4.out.mono HSW.out,by rw [HPF.out];exact H1.out,H2.out,H3.out,H4.out,H5.out.trans (HB4.out.mono HSW.out),Nat.le_trans H6.out HB4.out.size⟩
 case stop0=>rintro Dq c pre Wd hD _ h;cases h
 case done0 =>
 rintro D0 ys V1 hD0 rfl ⟨hn1,hv1,hl1,-,hb1,hs1⟩ hk0;have HN1:=zhd hn1;have HV1:=zhd hv1;have HL1:=zhd hl1;have HB1:=zhd hb1;have HD0:=zhd hk0;have hd0l:=(zgs hk0).1;have hVs1:w2.heap.size+4≤V1.heap.size:=by omega
 clear hn1 hv1 hl1 hb1 hk0 HN0 HV0 HL0 HB0 HKV HN' HV' HL' HI' HB' HSEQ0 HBI0 HXI0 HSI0 HXX0 HSX0 HBX0;go_wp2_with fail
 have c1a:V1.cell? ⟨w2.heap.size+3,1,none⟩=some (.slice q.cs.at_ q.recover.length q.cs.cap):=by simp [World.cell?,HL1.out]
 have hbi:=zba V1 (.cells #[.int .i64 1] 3);have HBI1:=zhd hbi;have HXI1:=zhd (zan V1 (.cells #[.int .i64 1] 3));have HSI1:Hid ((V1.alloc (.cells #[.int .i64 1] 3)).heap.size=V1.heap.size+1):=zhd (by simp);clear hbi;rw [rounds_succ];go_wp2_with fail
 generalize V1.alloc (.cells #[.int .i64 1] 3)=I1 at *;clear c1a;refine (pF q.cs q.recover.length I1).mono ?_;rintro o w5 ⟨rfl,rfl⟩;have hbx:=zba I1 (.cells #[.slice q.cs.at_ q.recover.length q.cs.cap] 33);have HXX1:=zhd (zan I1 (.cells #[.slice q.cs.at_ q.recover.length q.cs.cap] 33));have HSX1:Hid ((I1.alloc (.cells #[.slice q.cs.at_ q.recover.length q.cs.cap] 33)).heap.size=I1.heap.size+1):=zhd (by simp);have HBX1:=zhd hbx;clear hbx;generalize I1.alloc (.cells #[.slice q.cs.at_ q.recover.length q.cs.cap] 33)=X1 at *;go_wp2_with fail
 have hsz1:V1.heap.size+2=X1.heap.size:=by have h1:=HSI1.out;have h2:=HSX1.out;omega
 have HKV:Hid (Below V1.heap.size V1 X1):=zhd (HBI1.out.trans (HBX1.out.mono HBI1.out.size));have HN':=zhd ((HKV.out.block _ (by omega)).trans HN1.out);have HV':=zhd ((HKV.out.block _ (by omega)).trans HV1.out);have HL':=zhd ((HKV.out.block _ (by omega)).trans HL1.out);have HI':=zhd ((HBX1.out.block _ (by have:=HSI1.out;omega)).trans HXI1.out);have HB':=zhd (HB1.out.trans (HKV.out.mono (by omega)));have HSEQ1:=zhd fun n=>pG q.cs q.recover HRD.out.recover n X1 I1.heap.size HB'.out (by omega) HXX1.out
 have HD':=zhd ((HKV.out.block _ (by omega)).trans HD0.out);refine (wpIn_wide (n:=5)).1 ?_;refine bi (T:=TW) (n₀:=w2.heap.size) rfl (fun h=>by cases h) (gf:=165) (lb:=#[.pointer (some ⟨I1.heap.size,0,none⟩)]) rfl trivial (enters_of Tryz.func165 (by kernel_rfl) rfl)
  (HSEQ1.out _) (by omega) (Below.refl _ _) (fun _=>rfl)
  (fun pre W=>W.heap[w2.heap.size+1]? = some (.cells #[.int .i64 (dM (q.work.flatMap aa.pre):Nat),.int .i64 (dM pre:Nat)] 3 (0,0))∧W.heap[w2.heap.size+1+1]? = some (.cells #[.slice (some ⟨w2.heap.size+1,0,none⟩) 2 2] 87 (0,0))∧W.heap[w2.heap.size+3]? = some (.cells #[.slice q.ws.at_ q.work.length q.ws.cap,.slice q.cs.at_ q.recover.length q.cs.cap] 33 (0,0))∧W.heap[V1.heap.size]? = some (.cells #[.int .i64 1] 3 (0,0))∧Below w2.heap.size w2 W∧X1.heap.size≤W.heap.size∧W.heap[D0]? = some (.deferred (some [])))
  (fun _ _ _=>False)
  ?hI1 ?hIx1 ⟨HN'.out,HV'.out,HL'.out,HI'.out,HB'.out,Nat.le_refl _,HD'.out⟩
  (fun y a' W=>∃b7,W.heap[b7]? = some (.cells #[.int .u8 y.kind,.string y.name,.slice y.es.at_ y.exprs.length y.es.cap,.int .i64 y.bound,.slice y.ts.at_ y.thn.length y.ts.cap,.slice y.os.at_ y.els.length y.os.cap] 43 (0,0))∧a'={ tmps:=#[.agg arr,.pointer (some ⟨w.heap.size,0,none⟩),.int .i64 0,.int .i64 0,.int .i64 0,.pointer (some ⟨w2.heap.size,0,none⟩),.int .i64 0,.pointer (some ⟨w2.heap.size+1+1,0,none⟩),.pointer (some ⟨V1.heap.size,0,none⟩),.slice q.cs.at_ q.recover.length q.cs.cap,.pointer (some ⟨b7,0,none⟩),.tuple #[.agg q.arr,.int .i64 0],.agg arr,.tuple #[.agg q.arr,.int .i64 0],.agg q.arr,.int .i64 0,.int .i64 0,.bool false,undef,.slice (some ⟨w2.heap.size+1,0,none⟩) 2 2,.pointer (some ⟨w2.heap.size,14,none⟩),.slice q.ws.at_ q.work.length q.ws.cap,.pointer (some ⟨w2.heap.size,15,none⟩),.slice q.cs.at_ q.recover.length q.cs.cap,.slice (some ⟨w2.heap.size+3,0,none⟩) 2 2,.int .i64 2,.int .i64 1,.bool true,.int .i64 1,.pointer (some ⟨w2.heap.size+3,1,none⟩),.slice q.cs.at_ q.recover.length q.cs.cap,.slice q.cs.at_ q.recover.length q.cs.cap,.func (.func 165) #[] #[.pointer (some ⟨I1.heap.size,0,none⟩)],.agg #[.int .u8 y.kind,.string y.name,.slice y.es.at_ y.exprs.length y.es.cap,.int .i64 y.bound,.slice y.ts.at_ y.thn.length y.ts.cap,.slice y.os.at_ y.els.length y.os.cap],undef,undef,undef,undef,undef,undef,undef,undef,.int .i64 1,undef,undef,undef,undef,undef,undef],defers:=[] })
  ?hAx1 ?assign1 ?body1 ?done1 ?stop1
 case hI1 =>
  rintro s X' Y rw ⟨h1,h2,h3,h4,h5,h6,h7⟩ hg hr;have hcl:∀(k:Nat) (cs:Array Value) (t:TypeId) (fr:Nat × Nat),X'.heap[k]? = some (Obj.cells cs t fr)→Y.heap[k]? = X'.heap[k]? := fun k cs t fr hk=>hg.block k (zgs hk).1 (fun e=>by
   obtain ⟨_,o,ho,hc⟩:=hr k e.symm;rw [hk] at ho;cases ho
   cases hc)
  exact ⟨(hcl _ _ _ _ h1).trans h1,(hcl _ _ _ _ h2).trans h2,(hcl _ _ _ _ h3).trans h3,(hcl _ _ _ _ h4).trans h4,h5.grown hg h5.size (fun q hq=>by have:=(hr q hq).1;omega),Nat.le_trans h6 hg.size,(hg.block D0 (zgs h7).1 (fun e=>by have:=(hr D0 e.symm).1;omega)).trans h7⟩
 case hIx1=>rintro c s X' Y rw h;cases h
 case hAx1 =>
  rintro y a' _ X' Y rw ⟨b7,h1,h2⟩ hg hr;refine ⟨b7,(hg.block b7 (zgs h1).1 (fun e'=>?_)).trans h1,h2⟩;obtain ⟨_,o',ho,hc⟩:=hr b7 e'.symm;rw [h1] at ho;cases ho
  cases hc
 case assign1 =>
  rintro l2 pre y Wc K ⟨h1,h2,h3,h4,h5,h6,h7⟩ hK;simp only [aa.val,Sp.val] at hK ⊢;have hba:=zba Wc (.cells #[.int .u8 y.kind,.string y.name,.slice y.es.at_ y.exprs.length y.es.cap,.int .i64 y.bound,.slice y.ts.at_ y.thn.length y.ts.cap,.slice y.os.at_ y.els.length y.os.cap] 43)
  gi_wp2
  exact hK _ _ (ax.of_below hba) (hba.mono (by omega)) ⟨(hba.block _ (by omega)).trans h1,(hba.block _ (by omega)).trans h2,(hba.block _ (by omega)).trans h3,(hba.block _ (by omega)).trans h4,h5.trans (hba.mono (by omega)),Nat.le_trans h6 hba.size,(hba.block _ (by omega)).trans h7⟩ ⟨_,zan _ _,rfl⟩
 case body1 =>
  rintro l2 pre y a' Wc hl2 ⟨h1,h2,h3,h4,h5,h6,h7⟩ ⟨b7,hb7,rfl⟩ hlen hsp;obtain ⟨q0,q1,q2,q3,q4,q5⟩:=ag hb7;have hpl:=yt pre;have hym:y∈q.recover.flatMap aa.pre:=hsp.mem (by simp);have hIP:=fK Wc y ((nG (HRD.out.recover.ok _ (List.mem_flatMap.1 hym).choose_spec.1) y (List.mem_flatMap.1 hym).choose_spec.2).stays h5 |>.more h5.size) (Nat.le_trans (oK hym) HF1.out);have HIP:=zhd hIP;have hc20:dM pre≤20000:=by have:=hlen;have:=HFL1.out;omega
  have H1:=zhd h1;have H2:=zhd h2;have H3:=zhd h3;have H4:=zhd h4;have H5:=zhd h5;have H6:=zhd h6;have H7:=zhd h7;have hn1:(1:Nat)≤5 - 1 - 1:=by omega
  clear hIP h1 h2 h3 h4 h5 h6 h7 hb7 hlen hsp hym
  gi_wp2
  refine ⟨trivial,?_⟩;refine (CallsIn.inRound l2 (callsIn_wide.2 HIP.out)).mono ?_;rintro o4 W4 ⟨rfl,hb4⟩;have H1:=zhd ((hb4.block _ (by have:=H6.out;omega)).trans H1.out);have H2:=zhd ((hb4.block _ (by have:=H6.out;omega)).trans H2.out);have H3:=zhd ((hb4.block _ (by have:=H6.out;omega)).trans H3.out);have H4:=zhd ((hb4.block _ (by have:=H6.out;omega)).trans H4.out);have H7:=zhd ((hb4.block _ (by have:=H6.out;omega)).trans H7.out);have HSW:Hid (w2.heap.size≤Wc.heap.size):=zhd (by have:=H6.out;omega);have HB4:=zhd hb4;clear hb4 q0 q1 q2 q3 q4 q5 HIP;cases hip:aY y with
  | true =>
   have HPF:Hid (dM (pre++[y])=dM pre+1):=zhd (by rw [lH,if_pos hip]);clear hip;have hw:wrap64 ((dM pre:Nat)+1:Int)=((dM pre+1:Nat):Int):=by rw [IntWalk.wrap64_in _ ⟨by omega,by omega⟩];rfl
   obtain ⟨d0,d1⟩:=pz H1.out;have dv:=one_cell H2.out;have di:=one_cell H4.out;have df:W4.frozen? ⟨w2.heap.size+1,1,none⟩=false:=by unfold World.frozen?;rw [H1.out];rfl
   have HNE:Hid (w2.heap.size+1+1≠w2.heap.size+1∧w2.heap.size+3≠w2.heap.size+1∧V1.heap.size≠w2.heap.size+1∧D0≠w2.heap.size+1):=zhd ⟨by omega,by omega,by omega,by omega⟩;clear hsz1 hVs1 hpl hc20 hn1 hsz0 hVs0 hd0l hD0 hs1
   gi_wp2
   have hset:(W4.setCell ⟨w2.heap.size+1,1,none⟩ (.int .i64 ((dM pre+1:Nat):Int))).heap[w2.heap.size+1]? = some (.cells #[.int .i64 (dM (q.work.flatMap aa.pre):Nat),.int .i64 (dM (pre++[y]):Nat)] 3 (0,0)):=by
    rw [HPF.out];simp [World.setCell,Array.getElem?_modify,H1.out]
   have hoth:∀k,k≠w2.heap.size+1→(W4.setCell ⟨w2.heap.size+1,1,none⟩ (.int .i64 ((dM pre+1:Nat):Int))).heap[k]? = W4.heap[k]? := fun k hk=>Below.heap_setCell _ _ _ k hk
   first
    | rw [hw]
    | skip
   refine ⟨(ax.of_below HB4.out).trans (ax.set (a:=⟨w2.heap.size+1,1,none⟩) H1.out rfl _),(HB4.out.mono HSW.out).setCell (p:=⟨w2.heap.size+1,1,none⟩) (by show w2.heap.size≤w2.heap.size+1;omega) _,hset,(hoth _ HNE.out.1).trans H2.out,(hoth _ HNE.out.2.1).trans H3.out,(hoth _ HNE.out.2.2.1).trans H4.out,(H5.out.trans (HB4.out.mono HSW.out)).setCell (p:=⟨w2.heap.size+1,1,none⟩) (by show w2.heap.size≤w2.heap.size+1;omega) _,by simp only [World.size_setCell];exact Nat.le_trans H6.out HB4.out.size,(hoth _ HNE.out.2.2.2).trans H7.out⟩
  | false =>
   have HPF:Hid (dM (pre++[y])=dM pre):=zhd (by rw [lH,hip,if_neg (by simp)]);clear hip
   gi_wp2
   exact ⟨ax.of_below HB4.out,HB4.out.mono HSW.out,by rw [HPF.out];exact H1.out,H2.out,H3.out,H4.out,H5.out.trans (HB4.out.mono HSW.out),Nat.le_trans H6.out HB4.out.size,H7.out⟩
 case stop1=>rintro Dq c pre Wd hD _ h;cases h
 case done1 =>
 rintro D1 ys V2 hD1 rfl ⟨hn2,hv2,hl2,-,hb2,hs2,hd0⟩ hk1;have HN2:=zhd hn2;have HV2:=zhd hv2;have HL2:=zhd hl2;have HB2:=zhd hb2;have HD1:=zhd hk1;have HD0:=zhd hd0;have hd1l:=(zgs hk1).1;have hVs2:w2.heap.size+4≤V2.heap.size:=by omega
 clear hn2 hv2 hl2 hb2 hk1 HN1 HV1 HL1 HB1 HKV HN' HV' HL' HI' HB' HSEQ1 HBI1 HXI1 HSI1 HXX1 HSX1 HBX1 HD' hd0;go_wp2_with fail
 rw [rounds_succ];obtain ⟨d0,d1⟩:=pz HN2.out;have dv:=one_cell HV2.out;have HDD:Hid (D0≠D1∧w2.heap.size≤D0∧w2.heap.size≤D1):=zhd ⟨by omega,by omega,by omega⟩;clear hVs2 hsz1 hsz0 hs1 hs2 hVs1 hVs0 hd0l hd1l;go_upto_region 13 with fail
 refine Code.wp_mono ?_ (fV (C':=.region 13 opsP13 true) (by kernel_rfl) (KG rfl (w2.heap.size+1+1) (w2.heap.size+1) _ _ rfl dv d0 d1));rintro e a9 w9 ⟨rfl,hsz9,hd9,e2,e3,e4,rfl⟩;obtain ⟨F,hF,hfr⟩:=Jt hsz9;rw [hfr,hd9];have g2:F 2=_:=(hF 2).trans (au e2);have g3:F 3=_:=(hF 3).trans (au e3);have g4:F 4=_:=(hF 4).trans (au e4);rw [g2,g3,g4];clear hfr hF g2 g3 g4 e2 e3 e4 hsz9 hd9 d0 d1 dv;go_wp2_with fail
 have k1:V2.drew.heap[D1]? = some (.deferred (some [])):=HD1.out;have k0:(V2.drew.putObj D1 (.deferred none)).heap[D0]? = some (.deferred (some [])):=(World.putObj_heap_other HDD.out.1).trans HD0.out;refine ⟨by simp,.inl ⟨_,_,rfl,run_takeDeferred k1,?_⟩⟩;refine ⟨by simp,.inl ⟨_,_,rfl,run_takeDeferred k0,?_⟩⟩;refine ⟨_,results_tmp3 rfl _ _ _,?_,HBU.out.trans (((HB2.out.drew.trans (bD _ _ HDD.out.2.2)).trans (bD _ _ HDD.out.2.1)).mono HBU.out.size)⟩;rw [←HP0.out,←HP1.out]
 rfl
end
end Go.Proofs.YtepacjkacjabbaaGreatDoor
