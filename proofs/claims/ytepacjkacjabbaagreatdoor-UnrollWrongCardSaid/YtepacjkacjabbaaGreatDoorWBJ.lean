import Derived.Test.YtepacjkacjabbaaGreatDoorWAA
import Derived.Test.YtepacjkacjabbaaGreatDoorWBI
import Derived.Test.YtepacjkacjabbaaGreatDoorWAW
import Derived.Test.YtepacjkacjabbaaGreatDoorWBD
import Derived.Test.YtepacjkacjabbaaGreatDoorWAS
namespace Go.Proofs.YtepacjkacjabbaaGreatDoor
section
open Go Go.RowKit Go.Maps
attribute [local go_sem] Oper.semAt_some
theorem Al (w:World) (tmps:Array Value) (b2 b3:Nat) (v:Bool) (h2:tmps.getD 2 undef=.pointer (some ⟨b2,0,none⟩)) (h3:tmps.getD 3 undef=.pointer (some ⟨b3,0,none⟩)) (c2:w.cell? ⟨b2,0,none⟩=some (.bool v)) (c3:w.cell? ⟨b3,0,none⟩=some (.int .i64 0)):(results Tryz.f45 tmps).run Tryz.prog w=.ok (.tuple #[.bool v,.int .i64 0]) w:=by
 have h2':tmps[2]?.getD undef=.pointer (some ⟨b2,0,none⟩):=by simpa using h2
 have h3':tmps[3]?.getD undef=.pointer (some ⟨b3,0,none⟩):=by simpa using h3
 simp [results,h2',h3',asAddr,go_sem,c2,c3]
set_option maxRecDepth 10000000 in
set_option maxHeartbeats 64000000 in
theorem DF (w:World) (p:af) (hp:fe w.heap.size w p) (hn0:0<w.heap.size) (hmx:MxAt w) (hr:dM p) (hfree:nJ p.work=false) :
  Calls Tryz.prog 45 #[.agg p.arr] w fun o w'=>o=.returned (.tuple #[.bool false,.int .i64 0])∧Below w.heap.size w w':=by
 obtain ⟨hB1,hf1,he1,hsz1,hb1⟩:=tZ w (.cells p.arr 35) (.cells #[.bool false] 4) (.cells #[.int .i64 0] 37);have hCK:=jV _ p (hp.on hb1) (Nat.lt_of_lt_of_le hn0 hb1.size) hr.names hr.weight (hmx.below hb1 hn0);rw [decide_eq_true (show (dL p).2=0∧p.procs.length=0 from ⟨hr.chk,hr.len⟩)] at hCK;have hHF:=hr.heft;have hBW:=jZ p;have HHW:Hid (ay p.work≤20000):=zhd (by omega);have harrs:=aB p;have HCK:=zhd hCK;have HB:=zhd hB1;have HF1:=zhd hf1;have HE1:=zhd he1;have HB1:=zhd hb1;have HP:=zhd hp;have HFR:=zhd hfree;have hc14:∀W:World,W.heap[w.heap.size]? = some (.cells p.arr 35 (0,0))→W.cell? ⟨w.heap.size,14,none⟩=some (.slice p.ws.at_ p.work.length p.ws.cap)∧W.cell? ⟨w.heap.size,15,none⟩=some (.slice p.cs.at_ p.recover.length p.cs.cap):=fun W h=>⟨(show Bx w.heap.size W p from h).cell 14 rfl,(show Bx w.heap.size W p from h).cell 15 rfl⟩
 have HC14:=zhd hc14;clear hCK hB1 hf1 he1 hb1 hp hmx hr hHF hBW hfree hc14;generalize p.arr=arr at *;refine (callsIn_wide (n:=5)).1 ?_;refine callsIn_of_wp_marks Tryz.func45 rfl trivial ?_ rfl;simp only [Tryz.ntmps45,List.size_toArray,List.length_cons,List.length_nil,Nat.reduceAdd,Nat.reduceSub,Array.replicate_succ,Array.replicate_zero,List.push_toArray,List.append_toArray,List.nil_append,List.cons_append];refine wpIn_wide.2 ?_;go_wp2_with (first | (refine wpList_load_row rfl 35 _ rfl w.heap.size rfl 35 _ (0,0) _ HB.out Tryz.underlying35 rfl harrs ?_) | fail)
 refine HCK.out.mono ?_;rintro o w2 ⟨rfl,hb2⟩;generalize ((w.alloc (.cells arr 35)).alloc (.cells #[.bool false] 4)).alloc (.cells #[.int .i64 0] 37)=w1 at *;have hs2:w.heap.size+3≤w2.heap.size:=by have:=hb2.size;omega
 have hbx:=(hb2.block _ (zgs HB.out).1).trans HB.out;have HF2:=zhd ((hb2.block _ (zgs HF1.out).1).trans HF1.out);have HE2:=zhd ((hb2.block _ (zgs HE1.out).1).trans HE1.out);have HB2:=zhd (HB1.out.trans (hb2.mono HB1.out.size));obtain ⟨c14,c15⟩:=HC14.out w2 hbx;have hbr:=zba w2 (.cells #[.slice p.ws.at_ p.work.length p.ws.cap,.slice p.cs.at_ p.recover.length p.cs.cap] 33);have HRW:=zhd (zan w2 (.cells #[.slice p.ws.at_ p.work.length p.ws.cap,.slice p.cs.at_ p.recover.length p.cs.cap] 33));have HBR:=zhd hbr;clear hb2 hbx hbr HB HF1 HE1 HB1 HCK hsz1;go_wp2_with fail
 refine wp_loop_rounds 1 ?_;clear c14 c15;generalize w2.alloc (.cells #[.slice p.ws.at_ p.work.length p.ws.cap,.slice p.cs.at_ p.recover.length p.cs.cap] 33)=V at *;have c0:V.cell? ⟨w2.heap.size,0,none⟩=some (.slice p.ws.at_ p.work.length p.ws.cap):=by simp [World.cell?,HRW.out]
 rw [rounds_succ];go_wp2_with fail
 clear c0;refine (nC p.ws p.work.length V).mono ?_;rintro o w5 ⟨rfl,rfl⟩;have hbx:=zba V (.cells #[.slice p.ws.at_ p.work.length p.ws.cap] 33);have HXX:=zhd (zan V (.cells #[.slice p.ws.at_ p.work.length p.ws.cap] 33));have HBX:=zhd hbx;clear hbx;generalize V.alloc (.cells #[.slice p.ws.at_ p.work.length p.ws.cap] 33)=X at *;go_wp2_with fail
 have HK2:Hid (Below w2.heap.size w2 X):=zhd (HBR.out.trans (HBX.out.mono HBR.out.size));have HKw:Hid (Below w.heap.size w X):=zhd (HB2.out.trans (HK2.out.mono HB2.out.size));have HF:=zhd ((HK2.out.block _ (by omega)).trans HF2.out);have HE:=zhd ((HK2.out.block _ (by omega)).trans HE2.out);have hXs:w.heap.size+3≤X.heap.size:=by have:=HK2.out.size;omega
 have HSEQ:=zhd fun n=>nu p.ws p.work HP.out.work n X V.heap.size HKw.out (by omega) HXX.out
 refine (wpIn_wide (n:=5)).1 ?_;refine bB (T:=TW) (n₀:=w.heap.size) rfl (fun h=>by cases h) (gf:=165) (lb:=#[.pointer (some ⟨V.heap.size,0,none⟩)]) rfl trivial (enters_of Tryz.func165 (by kernel_rfl) rfl)
  (HSEQ.out _) (by omega) (Below.refl _ _) (fun _=>rfl)
  (fun pre W=>W.heap[w.heap.size+1]? = some (.cells #[.bool false] 4 (0,0))∧W.heap[w.heap.size+1+1]? = some (.cells #[.int .i64 0] 37 (0,0))∧Below w.heap.size w W∧X.heap.size≤W.heap.size∧∀y∈pre,fK y=false)
  (fun c _ W=>c=.ret∧W.heap[w.heap.size+1]? = some (.cells #[.bool false] 4 (0,0))∧W.heap[w.heap.size+1+1]? = some (.cells #[.int .i64 0] 37 (0,0))∧Below w.heap.size w W∧X.heap.size≤W.heap.size)
  ?hI ?hIx ⟨HF.out,HE.out,HKw.out,Nat.le_refl _,fun _ h=>absurd h (by simp)⟩
  (fun y a' W=>∃b6,W.heap[b6]? = some (.cells #[.int .u8 y.kind,.string y.name,.slice y.es.at_ y.exprs.length y.es.cap,.int .i64 y.bound,.slice y.ts.at_ y.thn.length y.ts.cap,.slice y.os.at_ y.els.length y.os.cap] 43 (0,0))∧a'={ tmps:=#[.agg arr,.pointer (some ⟨w.heap.size,0,none⟩),.pointer (some ⟨w.heap.size+1,0,none⟩),.pointer (some ⟨w.heap.size+1+1,0,none⟩),undef,.slice p.ws.at_ p.work.length p.ws.cap,.pointer (some ⟨b6,0,none⟩),.agg arr,.bool true,.bool false,.pointer (some ⟨w.heap.size,14,none⟩),.slice p.ws.at_ p.work.length p.ws.cap,.pointer (some ⟨w.heap.size,15,none⟩),.slice p.cs.at_ p.recover.length p.cs.cap,.slice (some ⟨w2.heap.size,0,none⟩) 2 2,.int .i64 2,.int .i64 0,.bool true,.pointer (some ⟨w2.heap.size,0,none⟩),.slice p.ws.at_ p.work.length p.ws.cap,.slice p.ws.at_ p.work.length p.ws.cap,.func (.func 165) #[] #[.pointer (some ⟨V.heap.size,0,none⟩)],.agg #[.int .u8 y.kind,.string y.name,.slice y.es.at_ y.exprs.length y.es.cap,.int .i64 y.bound,.slice y.ts.at_ y.thn.length y.ts.cap,.slice y.os.at_ y.els.length y.os.cap],undef,undef,undef],defers:=[] })
  ?hAx ?assign ?body ?done ?stop
 case hI =>
  rintro s X' Y rw ⟨h1,h2,h3,h4,h5⟩ hg hr;have hcl:∀(k:Nat) (cs:Array Value) (t:TypeId) (fr:Nat × Nat),X'.heap[k]? = some (Obj.cells cs t fr)→Y.heap[k]? = X'.heap[k]? := fun k cs t fr hk=>hg.block k (zgs hk).1 (fun e=>by
   obtain ⟨_,o,ho,hc⟩:=hr k e.symm;rw [hk] at ho;cases ho
   cases hc)
  exact ⟨(hcl _ _ _ _ h1).trans h1,(hcl _ _ _ _ h2).trans h2,h3.grown hg (by omega) (fun q hq=>by have:=(hr q hq).1;omega),Nat.le_trans h4 hg.size,h5⟩
 case hIx =>
  rintro c s X' Y rw ⟨h0,h1,h2,h3,h4⟩ hg hr;have hcl:∀(k:Nat) (cs:Array Value) (t:TypeId) (fr:Nat × Nat),X'.heap[k]? = some (Obj.cells cs t fr)→Y.heap[k]? = X'.heap[k]? := fun k cs t fr hk=>hg.block k (zgs hk).1 (fun e=>by
   obtain ⟨_,o,ho,hc⟩:=hr k e.symm;rw [hk] at ho;cases ho
   cases hc)
  exact ⟨h0,(hcl _ _ _ _ h1).trans h1,(hcl _ _ _ _ h2).trans h2,h3.grown hg (by omega) (fun q hq=>by have:=(hr q hq).1;omega),Nat.le_trans h4 hg.size⟩
 case hAx =>
  rintro y a' _ X' Y rw ⟨b7,h1,h2⟩ hg hr;refine ⟨b7,(hg.block b7 (zgs h1).1 (fun e'=>?_)).trans h1,h2⟩;obtain ⟨_,o',ho,hc⟩:=hr b7 e'.symm;rw [h1] at ho;cases ho
  cases hc
 case assign =>
  rintro l2 pre y Wc K ⟨h1,h2,h3,h4,h5⟩ hK;simp only [aa.val,Sp.val] at hK ⊢;have hba:=zba Wc (.cells #[.int .u8 y.kind,.string y.name,.slice y.es.at_ y.exprs.length y.es.cap,.int .i64 y.bound,.slice y.ts.at_ y.thn.length y.ts.cap,.slice y.os.at_ y.els.length y.os.cap] 43)
  gi_wp2
  exact hK _ _ (ax.of_below hba) (hba.mono (by omega)) ⟨(hba.block _ (by omega)).trans h1,(hba.block _ (by omega)).trans h2,h3.trans (hba.mono (by omega)),Nat.le_trans h4 hba.size,h5⟩ ⟨_,zan _ _,rfl⟩
 case body =>
  rintro l2 pre y a' Wc hl2 ⟨h1,h2,h3,h4,h5⟩ ⟨b6,hb6,rfl⟩ hlen hsp;obtain ⟨q0,q1,q2,q3,q4,q5⟩:=ah hb6;have hym:y∈p.work.flatMap aa.pre:=hsp.mem (by simp);have hIP:=ru Wc y ((pF (HP.out.work.ok _ (List.mem_flatMap.1 hym).choose_spec.1) y (List.mem_flatMap.1 hym).choose_spec.2).stays h3 |>.more h3.size) (Nat.le_trans (qV hym) HHW.out);have HIP:=zhd hIP;have H1:=zhd h1;have H2:=zhd h2;have H3:=zhd h3;have H4:=zhd h4;have H5:=zhd h5;have hn1:(1:Nat)≤5 - 1 - 1:=by omega
  clear hIP h1 h2 h3 h4 h5 hb6 hlen hsp hym
  gi_wp2
  refine ⟨trivial,?_⟩;refine (CallsIn.inRound l2 (callsIn_wide.2 HIP.out)).mono ?_;rintro o4 W4 ⟨rfl,hb4⟩;have HQ1:=zhd ((hb4.block _ (by have:=H4.out;omega)).trans H1.out);have HQ2:=zhd ((hb4.block _ (by have:=H4.out;omega)).trans H2.out);have HSW:Hid (w.heap.size≤Wc.heap.size):=zhd (by have:=H4.out;omega);have HB4:=zhd hb4;clear hb4 q0 q1 q2 q3 q4 q5 HIP;cases hip:fK y with
  | true =>
   clear hip;have d1:=one_cell HQ1.out;have d2:=one_cell HQ2.out;have f1:W4.frozen? ⟨w.heap.size+1,0,none⟩=false:=by unfold World.frozen?;rw [HQ1.out];rfl
   have f2:W4.frozen? ⟨w.heap.size+1+1,0,none⟩=false:=by unfold World.frozen?;rw [HQ2.out];rfl
   clear hXs hs2 hl2
   gi_wp2
   have e1:((W4.setCell ⟨w.heap.size+1,0,none⟩ (.bool false)).setCell ⟨w.heap.size+1+1,0,none⟩ (.int .i64 0)).heap[w.heap.size+1]? = some (.cells #[.bool false] 4 (0,0)):=(Below.heap_setCell _ _ _ _ (show w.heap.size+1≠w.heap.size+1+1 by omega)).trans ((show Boxed W4 (w.heap.size+1) 4 _ from HQ1.out).set _);have e2:((W4.setCell ⟨w.heap.size+1,0,none⟩ (.bool false)).setCell ⟨w.heap.size+1+1,0,none⟩ (.int .i64 0)).heap[w.heap.size+1+1]? = some (.cells #[.int .i64 0] 37 (0,0)):=(show Boxed (W4.setCell ⟨w.heap.size+1,0,none⟩ (.bool false)) (w.heap.size+1+1) 37 (.int .i64 0) from (Below.heap_setCell _ _ _ _ (show w.heap.size+1+1≠w.heap.size+1 by omega)).trans HQ2.out).set _;refine ⟨((ax.of_below HB4.out).trans (ax.set (a:=⟨w.heap.size+1,0,none⟩) HQ1.out rfl _)).trans (ax.set (a:=⟨w.heap.size+1+1,0,none⟩) ((Below.heap_setCell _ _ _ _ (show w.heap.size+1+1≠w.heap.size+1 by omega)).trans HQ2.out) rfl _),rfl,e1,e2,((H3.out.trans (HB4.out.mono HSW.out)).setCell (p:=⟨w.heap.size+1,0,none⟩) (by show w.heap.size≤w.heap.size+1;omega) _).setCell (p:=⟨w.heap.size+1+1,0,none⟩) (by show w.heap.size≤w.heap.size+1+1;omega) _,by simp only [World.size_setCell];exact Nat.le_trans H4.out HB4.out.size⟩
  | false =>
   have HNL:Hid (∀z∈pre++[y],fK z=false):=zhd fun z hz=>by
    rcases List.mem_append.1 hz with h | h
    ·exact H5.out z h
    ·rw [List.mem_singleton.1 h];exact hip
   clear hip
   gi_wp2
   exact ⟨ax.of_below HB4.out,HB4.out.mono HSW.out,HQ1.out,HQ2.out,H3.out.trans (HB4.out.mono HSW.out),Nat.le_trans H4.out HB4.out.size,HNL.out⟩
 case done =>
  rintro Dq ys Wd hD rfl ⟨-,-,-,-,h5⟩ hK
  exfalso
  have h6:nJ p.work=true:=by
   unfold nJ;rw [List.all_eq_true];intro y hy;rw [h5 y hy]
   rfl
  rw [HFR.out] at h6;cases h6
 case stop =>
  rintro Dq c pre Wd hD hp ⟨rfl,h1,h2,h3,h4⟩ hK;have HKD:=zhd hK;have H1:=zhd h1;have H2:=zhd h2;have H3:=zhd h3;clear hK h1 h2 h3
  gi_wp2
  refine ⟨by simp,.inl ⟨_,_,rfl,run_takeDeferred HKD.out,?_⟩⟩;refine ⟨_,Al _ _ (w.heap.size+1) (w.heap.size+1+1) false rfl rfl ?_ ?_,rfl,H3.out.trans (bT _ _ (by omega))⟩
  ·exact one_cell ((World.putObj_heap_other (by omega)).trans H1.out)
  ·exact one_cell ((World.putObj_heap_other (by omega)).trans H2.out)
end
section
open Go Go.RowKit Go.Maps
theorem ww:Tryz.prog.built 35 []=some aD.arr:=by kernel_rfl
set_option maxRecDepth 10000000 in
set_option maxHeartbeats 16000000 in
theorem ny (w:World) (p:af) (hp:fe w.heap.size w p) (hn0:0<w.heap.size) (hmx:MxAt w) (hN:dP p) (hwt:eu p≤1125899906842624) (hbad:¬((dL p).2=0∧p.procs.length=0)) :
  Calls Tryz.prog 42 #[.agg p.arr] w fun o w'=>o=.returned (.tuple #[.agg aD.arr,.int .i64 380])∧Below w.heap.size w w':=by
 obtain ⟨hB1,hZ1,hsz1,hb1⟩:=je w (.cells p.arr 35) (.cells aD.arr 35);have HWT:=zhd (qj _ p (hp.on hb1) (Nat.lt_of_lt_of_le hn0 hb1.size) hN hwt (hmx.below hb1 hn0) hbad);have HDT:=zhd fun (W:World) (hW:Below w.heap.size w W)=>sK W p (hp.on hW) (Nat.lt_of_lt_of_le hn0 hW.size) hN hwt (hmx.below hW hn0) hbad
 have harrs:=aB p;have HB:=zhd hB1;have HZ:=zhd hZ1;have HB1:=zhd hb1;clear hB1 hZ1 hb1 hp hmx;obtain ⟨arr,harr⟩:∃arr,arr=p.arr:=⟨_,rfl⟩;rw [←harr] at HWT HB HZ HB1 harrs hsz1 HDT ⊢;clear harr;go_enter Tryz.func42,Tryz.ntmps42
 go_wp2_with (first
  | (refine wpList_load_row rfl 35 _ rfl (w.heap.size) rfl 35 _ (0,0) _ HB.out Tryz.underlying35 rfl harrs ?_)
  | (refine aC (t:=35) rfl rfl (bU _) ?_)
  | fail)
 refine HWT.out.mono ?_;rintro o w2 ⟨rfl,hb2⟩;generalize (w.alloc (.cells arr 35)).alloc (.cells aD.arr 35)=w1 at *;have HX2:=zhd ((hb2.block _ (zgs HB.out).1).trans HB.out);have HZ2:=zhd ((hb2.block _ (zgs HZ.out).1).trans HZ.out);have HB2:=zhd (HB1.out.trans (hb2.mono HB1.out.size));clear hb2 HB HZ HB1 HWT;go_wp2_with (first | (refine wpList_load_row rfl 35 _ rfl (w.heap.size) rfl 35 _ (0,0) _ HX2.out Tryz.underlying35 rfl harrs ?_) | fail)
 refine (HDT.out w2 HB2.out).mono ?_;rintro o w3 ⟨rfl,hb3⟩;have HX3:=zhd ((hb3.block _ (zgs HX2.out).1).trans HX2.out);have HZ3:=zhd ((hb3.block _ (zgs HZ2.out).1).trans HZ2.out);have HB3:=zhd (HB2.out.trans (hb3.mono HB2.out.size));clear hb3 HX2 HZ2 HB2 HDT;go_wp2_with (first
  | (refine wpList_build rfl 35 _ rfl aD.arr ww ?_)
  | (refine wpList_store_row rfl 35 _ _ rfl (w.heap.size+1) aD.arr (by rfl) (by rfl) 35 aD.arr HZ3.out (aB _) (by kernel_rfl) (eD _) ?_)
  | fail)
 have hz4:=setRow_heap w3 (w.heap.size+1) aD.arr aD.arr 35 (0,0) HZ3.out;exact bodyPost_ret (kz rfl _ _ (w.heap.size+1) 35 _ (0,0) _ rfl hz4 Tryz.underlying35 rfl (aB _)) rfl ⟨rfl,below_setRow HB3.out (Nat.le_succ _)⟩
set_option maxRecDepth 10000000 in
set_option maxHeartbeats 16000000 in
theorem rD (w:World) (p:af) (hp:fe w.heap.size w p) (hn0:0<w.heap.size) (hmx:MxAt w) (hr:dM p) (hh:20000<bD p) :
  Calls Tryz.prog 42 #[.agg p.arr] w fun o w'=>o=.returned (.tuple #[.agg aD.arr,.int .i64 5])∧Below w.heap.size w w':=by
 obtain ⟨hB1,hZ1,hsz1,hb1⟩:=je w (.cells p.arr 35) (.cells aD.arr 35);have HWT:=zhd (gT _ p (hp.on hb1) (Nat.lt_of_lt_of_le hn0 hb1.size) (hmx.below hb1 hn0) hr);have HDT:=zhd fun (W:World) (hW:Below w.heap.size w W)=>qy W p (hp.on hW) (Nat.lt_of_lt_of_le hn0 hW.size) hr.names hr.weight (hmx.below hW hn0) hr.right hr.chk hr.len hr.heft
 have hdU:max (min (il p.work 0) 1001) (min (il p.recover 0) 1001)=gV p:=rfl;rw [hdU] at HDT;have hd1:decide (20000<bD p)=true:=decide_eq_true hh;clear hdU hh hr;generalize bD p=wU at *;generalize gV p=dU at *;have harrs:=aB p;have HB:=zhd hB1;have HZ:=zhd hZ1;have HB1:=zhd hb1;clear hB1 hZ1 hb1 hp hmx;obtain ⟨arr,harr⟩:∃arr,arr=p.arr:=⟨_,rfl⟩;rw [←harr] at HWT HB HZ HB1 harrs hsz1 HDT ⊢;clear harr;go_enter Tryz.func42,Tryz.ntmps42
 go_wp2_with (first
  | (refine wpList_load_row rfl 35 _ rfl (w.heap.size) rfl 35 _ (0,0) _ HB.out Tryz.underlying35 rfl harrs ?_)
  | (refine aC (t:=35) rfl rfl (bU _) ?_)
  | fail)
 refine HWT.out.mono ?_;rintro o w2 ⟨rfl,hb2⟩;generalize (w.alloc (.cells arr 35)).alloc (.cells aD.arr 35)=w1 at *;have HX2:=zhd ((hb2.block _ (zgs HB.out).1).trans HB.out);have HZ2:=zhd ((hb2.block _ (zgs HZ.out).1).trans HZ.out);have HB2:=zhd (HB1.out.trans (hb2.mono HB1.out.size));clear hb2 HB HZ HB1 HWT;go_wp2_with (first | (refine wpList_load_row rfl 35 _ rfl (w.heap.size) rfl 35 _ (0,0) _ HX2.out Tryz.underlying35 rfl harrs ?_) | fail)
 refine (HDT.out w2 HB2.out).mono ?_;rintro o w3 ⟨rfl,hb3⟩;have HX3:=zhd ((hb3.block _ (zgs HX2.out).1).trans HX2.out);have HZ3:=zhd ((hb3.block _ (zgs HZ2.out).1).trans HZ2.out);have HB3:=zhd (HB2.out.trans (hb3.mono HB2.out.size));clear hb3 HX2 HZ2 HB2 HDT;go_wp2_with (first
  | (refine wpList_build rfl 35 _ rfl aD.arr ww ?_)
  | (refine wpList_store_row rfl 35 _ _ rfl (w.heap.size+1) aD.arr (by rfl) (by rfl) 35 aD.arr HZ3.out (aB _) (by kernel_rfl) (eD _) ?_)
  | fail)
 have hz4:=setRow_heap w3 (w.heap.size+1) aD.arr aD.arr 35 (0,0) HZ3.out;exact bodyPost_ret (kz rfl _ _ (w.heap.size+1) 35 _ (0,0) _ rfl hz4 Tryz.underlying35 rfl (aB _)) rfl ⟨rfl,below_setRow HB3.out (Nat.le_succ _)⟩
theorem yG (w:World) (tmps:Array Value) (b2 b3:Nat) (v:Bool) (e:Int) (h2:tmps.getD 2 undef=.pointer (some ⟨b2,0,none⟩)) (h3:tmps.getD 3 undef=.pointer (some ⟨b3,0,none⟩)) (c2:w.cell? ⟨b2,0,none⟩=some (.bool v)) (c3:w.cell? ⟨b3,0,none⟩=some (.int .i64 e)):(results Tryz.f45 tmps).run Tryz.prog w=.ok (.tuple #[.bool v,.int .i64 e]) w:=by
 have h2':tmps[2]?.getD undef=.pointer (some ⟨b2,0,none⟩):=by simpa using h2
 have h3':tmps[3]?.getD undef=.pointer (some ⟨b3,0,none⟩):=by simpa using h3
 simp [results,h2',h3',asAddr,go_sem,c2,c3]
set_option maxRecDepth 10000000 in
set_option maxHeartbeats 16000000 in
theorem Fy (w:World) (p:af) (e:Int) (he:e≠0) (hun:∀W,Below w.heap.size w W→Calls Tryz.prog 42 #[.agg p.arr] W fun o w'=>o=.returned (.tuple #[.agg aD.arr,.int .i64 e])∧Below W.heap.size W w') :
  Calls Tryz.prog 46 #[.agg p.arr] w fun o w'=>o=.returned (.tuple #[.slice none 0 0,.int .i64 e])∧Below w.heap.size w w':=by
 have hb1:=zba w (.cells p.arr 35);have HB:=zhd (zan w (.cells p.arr 35));have HB1:=zhd hb1;have HUN:=zhd (hun _ hb1);have harrs:=aB p;have h0:(e != 0)=true:=by simpa using he
 clear hb1 hun;generalize p.arr=arr at *;refine (callsIn_wide (n:=5)).1 ?_;refine callsIn_of_wp_marks Tryz.func46 rfl trivial ?_ rfl;simp only [Tryz.ntmps46,List.size_toArray,List.length_cons,List.length_nil,Nat.reduceAdd,Nat.reduceSub,Array.replicate_succ,Array.replicate_zero,List.push_toArray,List.append_toArray,List.nil_append,List.cons_append];refine wpIn_wide.2 ?_;go_wp2_with (first | (refine wpList_load_row rfl 35 _ rfl (w.heap.size) rfl 35 _ (0,0) _ HB.out Tryz.underlying35 rfl harrs ?_) | fail)
 refine HUN.out.mono ?_;rintro o w2 ⟨rfl,hb2⟩;have HQ0:=zhd (zan w2 (.cells aD.arr 35));have HA2:Hid (Below w2.heap.size w2 (w2.alloc (.cells aD.arr 35))):=zhd ((Below.refl _ _).alloc (Nat.le_refl _) _);have HB2:=zhd (HB1.out.trans (hb2.mono HB1.out.size));clear hb2 HUN;go_wp2_with (first
  | (refine aC (t:=35) rfl rfl (bU _) ?_)
  | (refine wpList_store_row rfl 35 _ _ rfl w2.heap.size aD.arr (by rfl) (by rfl) 35 aD.arr HQ0.out (aB _) (by kernel_rfl) (eD _) ?_)
  | fail)
 have hbf:=HB2.out.trans ((below_setRow (cs:=aD.arr) HA2.out (Nat.le_refl _)).mono HB2.out.size);exact ⟨_,results_tmp2 rfl _ _ _,rfl,hbf⟩
set_option maxRecDepth 10000000 in
set_option maxHeartbeats 16000000 in
theorem EZ (w:World) (p:af) (e:Int) (he:e≠0) (hun:∀W,Below w.heap.size w W→Calls Tryz.prog 42 #[.agg p.arr] W fun o w'=>o=.returned (.tuple #[.agg aD.arr,.int .i64 e])∧Below W.heap.size W w') :
  Calls Tryz.prog 47 #[.agg p.arr] w fun o w'=>o=.returned (.tuple #[.int .i64 0,.int .i64 0,.int .i64 e])∧Below w.heap.size w w':=by
 have hb1:=zba w (.cells p.arr 35);have HB:=zhd (zan w (.cells p.arr 35));have HB1:=zhd hb1;have HUN:=zhd (hun _ hb1);have harrs:=aB p;have h0:(e != 0)=true:=by simpa using he
 clear hb1 hun;generalize p.arr=arr at *;refine (callsIn_wide (n:=5)).1 ?_;refine callsIn_of_wp_marks Tryz.func47 rfl trivial ?_ rfl;simp only [Tryz.ntmps47,List.size_toArray,List.length_cons,List.length_nil,Nat.reduceAdd,Nat.reduceSub,Array.replicate_succ,Array.replicate_zero,List.push_toArray,List.append_toArray,List.nil_append,List.cons_append];refine wpIn_wide.2 ?_;go_wp2_with (first | (refine wpList_load_row rfl 35 _ rfl (w.heap.size) rfl 35 _ (0,0) _ HB.out Tryz.underlying35 rfl harrs ?_) | fail)
 refine HUN.out.mono ?_;rintro o w2 ⟨rfl,hb2⟩;have HQ0:=zhd (zan w2 (.cells aD.arr 35));have HA2:Hid (Below w2.heap.size w2 (w2.alloc (.cells aD.arr 35))):=zhd ((Below.refl _ _).alloc (Nat.le_refl _) _);have HB2:=zhd (HB1.out.trans (hb2.mono HB1.out.size));clear hb2 HUN;go_wp2_with (first
  | (refine aC (t:=35) rfl rfl (bU _) ?_)
  | (refine wpList_store_row rfl 35 _ _ rfl w2.heap.size aD.arr (by rfl) (by rfl) 35 aD.arr HQ0.out (aB _) (by kernel_rfl) (eD _) ?_)
  | fail)
 have hbf:=HB2.out.trans ((below_setRow (cs:=aD.arr) HA2.out (Nat.le_refl _)).mono HB2.out.size);exact ⟨_,results_tmp3 rfl _ _ _,rfl,hbf⟩
set_option maxRecDepth 10000000 in
set_option maxHeartbeats 16000000 in
theorem Ef (w:World) (p:af) (hp:fe w.heap.size w p) (hn0:0<w.heap.size) (hmx:MxAt w) (hN:dP p) (hwt:eu p≤1125899906842624) (hbad:¬((dL p).2=0∧p.procs.length=0)) :
  Calls Tryz.prog 45 #[.agg p.arr] w fun o w'=>o=.returned (.tuple #[.bool false,.int .i64 380])∧Below w.heap.size w w':=by
 obtain ⟨hB1,hf1,he1,hsz1,hb1⟩:=tZ w (.cells p.arr 35) (.cells #[.bool false] 4) (.cells #[.int .i64 0] 37);have hCK:=jV _ p (hp.on hb1) (Nat.lt_of_lt_of_le hn0 hb1.size) hN hwt (hmx.below hb1 hn0);rw [decide_eq_false hbad] at hCK;have harrs:=aB p;have HCK:=zhd hCK;have HB:=zhd hB1;have HF1:=zhd hf1;have HE1:=zhd he1;have HB1:=zhd hb1;clear hCK hB1 hf1 he1 hb1 hp hmx hN hwt hbad;generalize p.arr=arr at *;refine (callsIn_wide (n:=5)).1 ?_;refine callsIn_of_wp_marks Tryz.func45 rfl trivial ?_ rfl;simp only [Tryz.ntmps45,List.size_toArray,List.length_cons,List.length_nil,Nat.reduceAdd,Nat.reduceSub,Array.replicate_succ,Array.replicate_zero,List.push_toArray,List.append_toArray,List.nil_append,List.cons_append];refine wpIn_wide.2 ?_;go_wp2_with (first | (refine wpList_load_row rfl 35 _ rfl (w.heap.size) rfl 35 _ (0,0) _ HB.out Tryz.underlying35 rfl harrs ?_) | fail)
 refine HCK.out.mono ?_;rintro o w2 ⟨rfl,hb2⟩;generalize ((w.alloc (.cells arr 35)).alloc (.cells #[.bool false] 4)).alloc (.cells #[.int .i64 0] 37)=w1 at *;have hF2:=(hb2.block _ (zgs HF1.out).1).trans HF1.out;have hE2:=(hb2.block _ (zgs HE1.out).1).trans HE1.out;have cF:=one_cell hF2;have cE:=one_cell hE2;have fF:w2.frozen? ⟨w.heap.size+1,0,none⟩=false:=by simp [World.frozen?,hF2]
 have fE:w2.frozen? ⟨w.heap.size+1+1,0,none⟩=false:=by simp [World.frozen?,hE2]
 have HB2:=zhd (HB1.out.trans (hb2.mono HB1.out.size));have HF2:=zhd hF2;have HE2:=zhd hE2;clear hb2 hF2 hE2 HB HF1 HE1 HB1 HCK hsz1;go_wp2_with fail
 have hbf:=(HB2.out.setCell (p:=⟨w.heap.size+1,0,none⟩) (Nat.le_succ _) (.bool false)).setCell (p:=⟨w.heap.size+1+1,0,none⟩) (by show w.heap.size≤w.heap.size+1+1;omega) (.int .i64 380);have kF:=(show Boxed w2 (w.heap.size+1) 4 (.bool false) from HF2.out).set (.bool false);have kE:((w2.setCell ⟨w.heap.size+1,0,none⟩ (.bool false)).heap[w.heap.size+1+1]? = _):=(Below.heap_setCell _ _ _ _ (by show w.heap.size+1+1≠w.heap.size+1;omega)).trans HE2.out;have kE2:=(show Boxed (w2.setCell ⟨w.heap.size+1,0,none⟩ (.bool false)) (w.heap.size+1+1) 37 (.int .i64 0) from kE).set (.int .i64 380);have kF2:(((w2.setCell ⟨w.heap.size+1,0,none⟩ (.bool false)).setCell ⟨w.heap.size+1+1,0,none⟩ (.int .i64 380)).heap[w.heap.size+1]? = _):=(Below.heap_setCell _ _ _ _ (by show w.heap.size+1≠w.heap.size+1+1;omega)).trans kF;exact ⟨_,yG _ _ (w.heap.size+1) (w.heap.size+1+1) false 380 rfl rfl (one_cell kF2) (one_cell kE2),rfl,hbf⟩
end
section
open Go Go.RowKit Go.Maps
theorem Au:xB.size≤maxLen:=by decide
set_option maxRecDepth 1000000 in
set_option maxHeartbeats 8000000 in
theorem wV (n:Int) (hn:(Lit.int .i64 n).wf=true) (w:World):Calls Tryz.prog 58 #[.int .i64 n] w fun o w'=>∃s:aa,o=.returned s.val∧ag s=ic n∧p9 w' s∧Below w.heap.size w w':=by
 have hb0:=zba w (.cells #[.int .u8 0,.string ⟨#[]⟩,.slice none 0 0,.int .i64 0,.slice none 0 0,.slice none 0 0] 43);have hz0:=zan w (.cells #[.int .u8 0,.string ⟨#[]⟩,.slice none 0 0,.int .i64 0,.slice none 0 0,.slice none 0 0] 43);have HB0:=zhd hb0;have HZ0:=zhd hz0;clear hb0 hz0;go_enter Tryz.func58,Tryz.ntmps58
 go_wp2_with fail
 generalize w.alloc (.cells #[.int .u8 0,.string ⟨#[]⟩,.slice none 0 0,.int .i64 0,.slice none 0 0,.slice none 0 0] 43)=W0 at *;refine (tu xB W0).mono ?_;rintro o W1 ⟨rfl,hb1⟩;have HB1:=zhd (HB0.out.trans (hb1.mono HB0.out.size));have HZ1:=zhd ((hb1.block _ (zgs HZ0.out).1).trans HZ0.out);clear hb1 HB0 HZ0;go_wp2_with fail
 refine (oJ 3 2 (by decide) W1).mono ?_;rintro o W2 ⟨rfl,hb2⟩;have HB2:=zhd (HB1.out.trans (hb2.mono HB1.out.size));have HZ2:=zhd ((hb2.block _ (zgs HZ1.out).1).trans HZ1.out);clear hb2 HB1 HZ1;go_wp2_with fail
 refine (uK 15 ⟨by decide,by decide⟩ (bP xB) (aR 3 2) W2 (wZ _ _ Au) (rJ _ 3 2 (by decide) (by decide))).mono ?_;rintro o W3 ⟨sp1,rfl,hx1,hb3⟩;have HB3:=zhd (HB2.out.trans (hb3.mono HB2.out.size));have HZ3:=zhd ((hb3.block _ (zgs HZ2.out).1).trans HZ2.out);have HX3:=zhd hx1;clear hb3 hx1 HB2 HZ2;go_wp2_with fail
 refine (tu xB W3).mono ?_;rintro o W4 ⟨rfl,hb4⟩;have HB4:=zhd (HB3.out.trans (hb4.mono HB3.out.size));have HZ4:=zhd ((hb4.block _ (zgs HZ3.out).1).trans HZ3.out);have HX4:=zhd (HX3.out.on hb4);clear hb4 HB3 HZ3 HX3;go_wp2_with fail
 refine (oJ 1 2 (by decide) W4).mono ?_;rintro o W5 ⟨rfl,hb5⟩;have HB5:=zhd (HB4.out.trans (hb5.mono HB4.out.size));have HZ5:=zhd ((hb5.block _ (zgs HZ4.out).1).trans HZ4.out);have HX5:=zhd (HX4.out.on hb5);clear hb5 HB4 HZ4 HX4;go_wp2_with fail
 refine (uK 3 ⟨by decide,by decide⟩ (bP xB) (aR 1 2) W5 (wZ _ _ Au) (rJ _ 1 2 (by decide) (by decide))).mono ?_;rintro o W6 ⟨sp2,rfl,hx2,hb6⟩;have HB6:=zhd (HB5.out.trans (hb6.mono HB5.out.size));have HZ6:=zhd ((hb6.block _ (zgs HZ5.out).1).trans HZ5.out);have HX6:=zhd (HX5.out.on hb6);have HY6:=zhd hx2;clear hb6 hx2 HB5 HZ5 HX5;go_wp2_with fail
 refine (JD xB Au (Gy 3 (bP xB) (aR 1 2) sp2) W6 HY6.out).mono ?_;rintro o W7 ⟨sp3,rfl,ht,hb7⟩;have HB7:=zhd (HB6.out.trans (hb7.mono HB6.out.size));have HZ7:=zhd ((hb7.block _ (zgs HZ6.out).1).trans HZ6.out);have HX7:=zhd (HX6.out.on hb7);have HT7:=zhd ht;clear hb7 ht HB6 HZ6 HX6 HY6;have hb8:=zba W7 (.cells #[.int .u8 1,.string xB,.slice sp3.at_ 1 sp3.cap,.int .i64 0,.slice none 0 0,.slice none 0 0] 43);have hr8:=row_one (enc:=aa.cells) (x:=gp sp3 xB (Gy 3 (bP xB) (aR 1 2) sp2)) (k:=6) (zan W7 (.cells #[.int .u8 1,.string xB,.slice sp3.at_ 1 sp3.cap,.int .i64 0,.slice none 0 0,.slice none 0 0] 43));have hW:=qC n hn (Gy 15 (bP xB) (aR 3 2) sp1) ⟨some ⟨W7.heap.size,0,none⟩,1⟩ [gp sp3 xB (Gy 3 (bP xB) (aR 1 2) sp2)] (W7.alloc (.cells #[.int .u8 1,.string xB,.slice sp3.at_ 1 sp3.cap,.int .i64 0,.slice none 0 0,.slice none 0 0] 43)) (HX7.out.on hb8) ⟨hr8,fun t ht=>by rw [List.mem_singleton.1 ht];exact HT7.out.on hb8⟩;have HW:=zhd hW;have HB8:=zhd (HB7.out.trans (hb8.mono HB7.out.size));have HZ8:=zhd ((hb8.block _ (zgs HZ7.out).1).trans HZ7.out);clear hb8 hr8 hW HB7 HZ7 HX7 HT7 hn;simp only [gp,aa.val,aa.kind,aa.name,aa.es,aa.exprs,aa.bound,aa.ts,aa.thn,aa.os,aa.els,Sp.val,Sp.none,List.length_cons,List.length_nil,Nat.zero_add];go_wp2_with fail
 generalize W7.alloc (.cells #[.int .u8 1,.string xB,.slice sp3.at_ 1 sp3.cap,.int .i64 0,.slice none 0 0,.slice none 0 0] 43)=W8 at *;refine HW.out.mono ?_;rintro o W9 ⟨sp4,rfl,ht9,hb9⟩;have hz9:=(hb9.block _ (zgs HZ8.out).1).trans HZ8.out;obtain ⟨z0,z1,z2,z3,z4,z5⟩:=ah hz9;have fz:∀j,W9.frozen? ⟨w.heap.size,j,none⟩=false:=fun j=>by simp [World.frozen?,hz9]
 have f0:=fz 0;have f1:=fz 1;have f2:=fz 2;have f3:=fz 3;have f4:=fz 4;have f5:=fz 5;have HZ9:=zhd hz9;have HT9:=zhd ht9;have HB9:=zhd (HB8.out.trans (hb9.mono HB8.out.size));clear fz hz9 ht9 hb9 HB8 HZ8 HW;simp only [Aq,aa.val,aa.kind,aa.name,aa.es,aa.exprs,aa.bound,aa.ts,aa.thn,aa.os,aa.els,Sp.val,Sp.none,List.length_cons,List.length_nil,Nat.zero_add];go_wp2_with fail
 have fin:∀wf,wf=six W9 w.heap.size 0 (.int .u8 7) (.string ⟨#[]⟩) (.slice sp4.at_ 1 sp4.cap) (.int .i64 n) (.slice (some ⟨W7.heap.size,0,none⟩) 1 1) (.slice none 0 0)→p9 wf (Aq sp4 (Gy 15 (bP xB) (aR 3 2) sp1) n ⟨some ⟨W7.heap.size,0,none⟩,1⟩ [gp sp3 xB (Gy 3 (bP xB) (aR 1 2) sp2)]):=by
  intro wf hwf;have hav:=gz.avoid (b:=w.heap.size) (show uW W9 w.heap.size from HZ9.out) HT9.out (fun t ht x hx=>by
   have e1:t=gp sp3 xB (Gy 3 (bP xB) (aR 1 2) sp2):=by simpa [Aq,aa.thn,aa.els] using ht
   subst e1;rw [aa.pre_eq] at hx;have e2:x=gp sp3 xB (Gy 3 (bP xB) (aR 1 2) sp2):=by simpa [gp,aa.thn,aa.els] using hx
   rw [e2];exact (by decide:(1:Int)≠0))
  refine (gz.cells hav fun p u hp hc=>?_).more (show W9.heap.size≤wf.heap.size by rw [hwf,j6];exact Nat.le_refl _);obtain ⟨k1,k2⟩:=mF.1 hc;exact (World.cell?_of_block (by rw [hwf];exact jI _ _ _ _ _ _ _ _ _ (fun e=>k1 (by rw [e])))).trans k2
 refine bodyPost_ret (results_cell_row rfl _ _ w.heap.size 43 _ (0,0) _ rfl (pO HZ9.out _ _ _ _ _ _) Tryz.underlying43 rfl (xc _ _ _ _ _ _)) rfl ⟨Aq sp4 (Gy 15 (bP xB) (aR 3 2) sp1) n ⟨some ⟨W7.heap.size,0,none⟩,1⟩ [gp sp3 xB (Gy 3 (bP xB) (aR 1 2) sp2)],rfl,rfl,fin _ rfl,jN HB9.out (Nat.le_refl _) _ _ _ _ _ _ _⟩
end
section
open Go Go.RowKit Go.Maps
def encI (x:Int):List Value:=[.int .i64 x]
def rY:List Int→List aa→List aa
 | [],l=>l
 | n::ns,l=>rY ns [J8 n l]
theorem Ev (ns:List Int) (n:Int) (l:List aa):rY (ns++[n]) l=[J8 n (rY ns l)]:=by
 induction ns generalizing l with
 | nil=>rfl
 | cons m ns ih=>exact ih _
theorem GL {W:World} {n:Nat} {sp:Sp} {l:List Int} (h:RowOf n W sp 1 encI l) (h0:0<l.length):∃b off,sp.at_=some ⟨b,off,none⟩∧b<n∧∀k (_:k<l.length),W.cell? ⟨b,off+k,none⟩=some (.int .i64 (l[k]?.getD 0)):=by
 obtain ⟨b,off,e,hb,hx⟩:=h.row h0;refine ⟨b,off,e,hb,fun k hk=>?_⟩;have:=hx k hk 0 (.int .i64 (l[k]?.getD 0)) (by simp [encI,hk])
 rwa [Nat.mul_one,Nat.add_zero] at this
theorem JH (n:Int) (sp2 sp:Sp) {l m:List aa} (h:l.map ag=m.map ag):ag (Aq sp2 (bP xB) n sp l)=ag (J8 n m):=by
 unfold Aq J8;rw [bV,bV,h]
set_option maxRecDepth 10000000 in
set_option maxHeartbeats 16000000 in
theorem EU (w:World) (sn:Sp) (ns:List Int) (hns:RowOf w.heap.size w sn 1 encI ns) (hw:∀n∈ns,(Lit.int .i64 n).wf=true) (hl:ns.length≤1000000) (st:Sp) (l0:List aa) (ht:dJ w.heap.size w st l0) :
  Calls Tryz.prog 49 #[.slice sn.at_ ns.length sn.cap,.slice st.at_ l0.length st.cap] w fun o w'=>∃(sp:Sp) (l:List aa),o=.returned (.slice sp.at_ l.length sp.cap)∧l.map ag=(rY ns l0).map ag∧dJ w'.heap.size w' sp l∧Below w.heap.size w w':=by
 have HN:=zhd hns;have HW:=zhd hw;have HT:=zhd ht;clear hns hw ht;go_enter Tryz.func49,Tryz.ntmps49
 go_wp2_with fail
 go_loopw [5,11] (fun v i wr=>∃(k:Nat) (sp:Sp) (l:List aa),k≤ns.length∧i=.int .i64 k∧v=.slice sp.at_ l.length sp.cap∧l.map ag=(rY (ns.take k) l0).map ag∧dJ wr.heap.size wr sp l∧Below w.heap.size w wr) (fun _ i _=>ns.length - (intOf i).toNat)
 case atStart=>exact ⟨0,st,l0,Nat.zero_le _,rfl,rfl,rfl,HT.out,Below.refl _ _⟩
 case round =>
  obtain ⟨k,sp,l,hk,rfl,rfl,hba,hrd,hbel⟩:=hrel;by_cases hlt:k<ns.length
  ·obtain ⟨b,off,e1,hb,hc⟩:=GL HN.out (by omega)
   have g1:=(hbel.cell (p:=⟨b,off+k,none⟩) hb).trans (hc k hlt);have hwf:(Lit.int .i64 (ns[k]?.getD 0)).wf=true:=HW.out _ (by rw [List.getElem?_eq_getElem hlt];exact List.getElem_mem hlt);have htk:ns.take (k+1)=ns.take k++[ns[k]?.getD 0]:=by rw [List.take_add_one,List.getElem?_eq_getElem hlt];rfl
   have HTK:=zhd htk;have HWF:=zhd hwf;have HBA:=zhd hba;have HRD:=zhd hrd;have HBE:=zhd hbel;rw [e1];generalize ns[k]?.getD 0=x at *;have hk0:(0:Int)≤(k:Int):=Int.natCast_nonneg _;have hk1:(k:Int)<(ns.length:Int):=by omega
   clear hc hb htk hwf hba hrd hbel;go_wp2_with fail
   refine (tu xB wr).mono ?_;rintro o W1 ⟨rfl,hb1⟩;have HB1:=zhd hb1;clear hb1 g1;go_wp2_with fail
   refine (qC x HWF.out (bP xB) sp l W1 (wZ _ _ Au) (HRD.out.on HB1.out)).mono ?_;rintro o W2 ⟨s2,rfl,hnt,hb2⟩;have hbr:ag (Aq s2 (bP xB) x sp l)=ag (J8 x (rY (ns.take k) l0)):=JH x s2 sp HBA.out;generalize Aq s2 (bP xB) x sp l=s at *;have hb3:=zba W2 (.cells #[.int .u8 s.kind,.string s.name,.slice s.es.at_ s.exprs.length s.es.cap,.int .i64 s.bound,.slice s.ts.at_ s.thn.length s.ts.cap,.slice s.os.at_ s.els.length s.os.cap] 43);have hx3:=zan W2 (.cells #[.int .u8 s.kind,.string s.name,.slice s.es.at_ s.exprs.length s.es.cap,.int .i64 s.bound,.slice s.ts.at_ s.thn.length s.ts.cap,.slice s.os.at_ s.els.length s.os.cap] 43);have HRN:Hid (dJ (W2.alloc (.cells #[.int .u8 s.kind,.string s.name,.slice s.es.at_ s.exprs.length s.es.cap,.int .i64 s.bound,.slice s.ts.at_ s.thn.length s.ts.cap,.slice s.os.at_ s.els.length s.os.cap] 43)).heap.size (W2.alloc (.cells #[.int .u8 s.kind,.string s.name,.slice s.es.at_ s.exprs.length s.es.cap,.int .i64 s.bound,.slice s.ts.at_ s.thn.length s.ts.cap,.slice s.os.at_ s.els.length s.os.cap] 43)) ⟨some ⟨W2.heap.size,0,none⟩,1⟩ [s]):=zhd ⟨row_one (enc:=aa.cells) (x:=s) hx3,fun t ht=>by rw [List.mem_singleton.1 ht];exact hnt.on hb3⟩;have HBF:=zhd (HBE.out.trans ((HB1.out.trans ((hb2.trans (hb3.mono hb2.size)).mono HB1.out.size)).mono HBE.out.size));have HBR:Hid ([s].map ag=(rY (ns.take (k+1)) l0).map ag):=zhd (by rw [HTK.out,Ev,List.map_cons,List.map_cons,hbr]);clear hb2 hb3 hx3 hnt hbr HTK HWF HBA HRD HBE HB1;simp only [aa.val,Sp.val];go_wp2_with fail
   go_roundw
   case rel=>exact ⟨k+1,_,[s],by omega,by go_num,rfl,HBR.out,HRN.out,HBF.out⟩
   case measure=>simp [intOf];omega
  ·obtain rfl:k=ns.length:=by omega
   rw [List.take_length] at hba;have HBA:=zhd hba;have HRD:=zhd hrd;have HBE:=zhd hbel;clear hba hrd hbel;go_wp2_with fail
   go_ret
   exact ⟨sp,l,rfl,HBA.out,HRD.out,HBE.out⟩
end
section
open Go
def qW (k:Int):af:=Ag (rY [16,16,16,k] []) []
def xZ (k:Int):Int:=4+(4369*k*2+2*(256*k*2+16*k*2+k*2+2))
def Lf (k:Nat):Bool :=
 let p:=qW k
 decide ((bJ p 0).length=12) && (decide (((fU (bJ p 12) 0).headD (0,0)).2=0) && (decide (rR p=min (xZ k) 20001) && decide (gV p≤1000)))
theorem Gg:((List.range 16).all fun a=>Lf (a+1))=true:=by kernel_rfl
structure Mm (k:Nat):Prop where
 ready:dM (qW k)
 weight:bD (qW k)=min (xZ k) 20001
 depth:gV (qW k)≤1000
theorem ET {a:Nat} (ha:a<16):Mm (a+1):=by
 have h:=Gg;rw [List.all_eq_true] at h;have h:=h a (List.mem_range.2 ha);unfold Lf at h;simp only [Bool.and_eq_true,decide_eq_true_eq,nZ] at h;obtain ⟨h1,h2,h3,h4⟩:=h;exact ⟨wC h1 (by omega) h2,h3,h4⟩
theorem Ke (s:aa):(∀x∈s.pre,x.kind=7)→∀x∈(uX s).pre,x.kind=6∨x.kind=7:=by
 induction s using aa.ind with
 | h k n es ex b ts th os el i1 i2 =>
  intro h;have h1:∀t∈th,∀x∈t.pre,x.kind=7:=fun t ht x hx=>h x (by
   rw [aa.pre_eq];exact List.mem_cons_of_mem _ (List.mem_append_left _ (List.mem_flatMap.2 ⟨t,ht,hx⟩)))
  have h2:∀t∈el,∀x∈t.pre,x.kind=7:=fun t ht x hx=>h x (by
   rw [aa.pre_eq];exact List.mem_cons_of_mem _ (List.mem_append_right _ (List.mem_flatMap.2 ⟨t,ht,hx⟩)))
  have hth:∀x∈(aZ th).flatMap aa.pre,x.kind=6∨x.kind=7:=fun x hx=>by
   rw [jJ,List.flatMap_map] at hx;obtain ⟨t,ht,hx⟩:=List.mem_flatMap.1 hx;exact i1 t ht (h1 t ht) x hx
  have hel:∀x∈(aZ el).flatMap aa.pre,x.kind=6∨x.kind=7:=fun x hx=>by
   rw [jJ,List.flatMap_map] at hx;obtain ⟨t,ht,hx⟩:=List.mem_flatMap.1 hx;exact i2 t ht (h2 t ht) x hx
  cases hl:fK (.mk k n es ex b ts th os el) with
  | true =>
   rw [oU hl];refine tK (fun (_:Nat) (y:aa)=>∀x∈y.pre,x.kind=6∨x.kind=7) (fun last=>fV ex (aZ th++[last])) (fun _ y hy x hx=>?_) b.toNat 0 (fV ex [eG]) fun x hx=>?_
   ·rw [zo,List.flatMap_append] at hx
    rcases List.mem_cons.1 hx with rfl | hx
    ·exact .inl rfl
    ·rcases List.mem_append.1 hx with hx | hx
     ·exact hth x hx
     ·rw [List.flatMap_cons,List.flatMap_nil,List.append_nil] at hx
      exact hy x hx
   ·rw [zo] at hx
    rcases List.mem_cons.1 hx with rfl | hx
    ·exact .inl rfl
    ·have:x=eG:=by simpa [eG,aa.pre] using hx
     rw [this];exact .inr rfl
  | false =>
   rw [wR hl];intro x hx;rw [aa.pre_eq] at hx;rcases List.mem_cons.1 hx with rfl | hx
   ·exact .inr (h (.mk k n es ex b ts th os el) (by rw [aa.pre_eq];exact List.mem_cons_self ..))
   ·rcases List.mem_append.1 hx with hx | hx
    ·exact hth x hx
    ·exact hel x hx
theorem IU {l:List aa} (h:∀x∈l.flatMap aa.pre,x.kind=7):qF (aZ l)=[]:=by
 unfold qF;rw [List.map_eq_nil_iff,List.filter_eq_nil_iff];intro x hx;rw [jJ,List.flatMap_map] at hx;obtain ⟨t,ht,hx⟩:=List.mem_flatMap.1 hx;have:=Ke t (fun y hy=>h y (List.mem_flatMap.2 ⟨t,ht,hy⟩)) x hx;simp only [decide_eq_true_eq];omega
theorem zq:∀(ns:List Int) (l:List aa),(∀x∈l.flatMap aa.pre,x.kind=7)→∀x∈(rY ns l).flatMap aa.pre,x.kind=7
 | [],_,h=>h
 | n::ns,l,h=>zq ns [J8 n l] fun x hx=>by
  rw [List.flatMap_cons,List.flatMap_nil,List.append_nil,aa.pre_eq] at hx;rcases List.mem_cons.1 hx with rfl | hx
  ·rfl
  ·exact h x (by simpa [J8,aa.thn,aa.els] using hx)
theorem F6 (k:Int):qF (aZ (qW k).work)=[]:=IU (zq _ [] fun x hx=>by cases hx)
theorem GA (k:Int):(aZ (qW k).work).length=1:=by
 rw [jJ,List.length_map]
 rfl
end
end Go.Proofs.YtepacjkacjabbaaGreatDoor
