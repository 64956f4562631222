import Derived.Test.YtepacjkacjabbaaGreatDoorPAA
import Derived.Test.YtepacjkacjabbaaGreatDoorPBI
import Derived.Test.YtepacjkacjabbaaGreatDoorPBC
import Derived.Test.YtepacjkacjabbaaGreatDoorPAG
import Derived.Laws.Rows
import Derived.Laws.Tables
import Derived.Laws.CopyOwn
import Derived.Test.YtepacjkacjabbaaGreatDoorPBE
namespace Go.Proofs.YtepacjkacjabbaaGreatDoor
section
open Go Go.RowKit Go.Maps
attribute [local go_sem] Oper.semAt_some
theorem zJ (w:World) (tmps:Array Value) (b2 b3:Nat) (v:Bool) (h2:tmps.getD 2 undef=.pointer (some ⟨b2,0,none⟩)) (h3:tmps.getD 3 undef=.pointer (some ⟨b3,0,none⟩)) (c2:w.cell? ⟨b2,0,none⟩=some (.bool v)) (c3:w.cell? ⟨b3,0,none⟩=some (.int .i64 0)):(results Tryz.f45 tmps).run Tryz.prog w=.ok (.tuple #[.bool v,.int .i64 0]) w:=by
 have h2':tmps[2]?.getD undef=.pointer (some ⟨b2,0,none⟩):=by simpa using h2
 have h3':tmps[3]?.getD undef=.pointer (some ⟨b3,0,none⟩):=by simpa using h3
 simp [results,h2',h3',asAddr,go_sem,c2,c3]
set_option maxRecDepth 10000000 in
set_option maxHeartbeats 64000000 in
theorem CX (w:World) (p:af) (hp:jW w.heap.size w p) (hn0:0<w.heap.size) (hmx:MxAt w) (hr:dC p) (hfree:lV p.work=false) :
  Calls Tryz.prog 45 #[.agg p.arr] w fun o w'=>o=.returned (.tuple #[.bool false,.int .i64 0])∧Below w.heap.size w w':=by
 obtain ⟨hB1,hf1,he1,hsz1,hb1⟩:=uJ w (.cells p.arr 35) (.cells #[.bool false] 4) (.cells #[.int .i64 0] 37);have hCK:=oQ _ p (hp.on hb1) (Nat.lt_of_lt_of_le hn0 hb1.size) hr.names hr.weight (hmx.below hb1 hn0);rw [decide_eq_true (show (eD p).2=0∧p.procs.length=0 from ⟨hr.chk,hr.len⟩)] at hCK;have hHF:=hr.heft;have hBW:=iY p;have HHW:Hid (ay p.work≤20000):=zhd (by omega);have harrs:=aN p;have HCK:=zhd hCK;have HB:=zhd hB1;have HF1:=zhd hf1;have HE1:=zhd he1;have HB1:=zhd hb1;have HP:=zhd hp;have HFR:=zhd hfree;have hc14:∀W:World,W.heap[w.heap.size]? = some (.cells p.arr 35 (0,0))→W.cell? ⟨w.heap.size,14,none⟩=some (.slice p.ws.at_ p.work.length p.ws.cap)∧W.cell? ⟨w.heap.size,15,none⟩=some (.slice p.cs.at_ p.recover.length p.cs.cap):=fun W h=>⟨(show Bx w.heap.size W p from h).cell 14 rfl,(show Bx w.heap.size W p from h).cell 15 rfl⟩
 have HC14:=zhd hc14;clear hCK hB1 hf1 he1 hb1 hp hmx hr hHF hBW hfree hc14;generalize p.arr=arr at *;refine (callsIn_wide (n:=5)).1 ?_;refine callsIn_of_wp_marks Tryz.func45 rfl trivial ?_ rfl;simp only [Tryz.ntmps45,List.size_toArray,List.length_cons,List.length_nil,Nat.reduceAdd,Nat.reduceSub,Array.replicate_succ,Array.replicate_zero,List.push_toArray,List.append_toArray,List.nil_append,List.cons_append];refine wpIn_wide.2 ?_;go_wp2_with (first | (refine wpList_load_row rfl 35 _ rfl w.heap.size rfl 35 _ (0,0) _ HB.out Tryz.underlying35 rfl harrs ?_) | fail)
 refine HCK.out.mono ?_;rintro o w2 ⟨rfl,hb2⟩;generalize ((w.alloc (.cells arr 35)).alloc (.cells #[.bool false] 4)).alloc (.cells #[.int .i64 0] 37)=w1 at *;have hs2:w.heap.size+3≤w2.heap.size:=by have:=hb2.size;omega
 have hbx:=(hb2.block _ (zgs HB.out).1).trans HB.out;have HF2:=zhd ((hb2.block _ (zgs HF1.out).1).trans HF1.out);have HE2:=zhd ((hb2.block _ (zgs HE1.out).1).trans HE1.out);have HB2:=zhd (HB1.out.trans (hb2.mono HB1.out.size));obtain ⟨c14,c15⟩:=HC14.out w2 hbx;have hbr:=zba w2 (.cells #[.slice p.ws.at_ p.work.length p.ws.cap,.slice p.cs.at_ p.recover.length p.cs.cap] 33);have HRW:=zhd (zan w2 (.cells #[.slice p.ws.at_ p.work.length p.ws.cap,.slice p.cs.at_ p.recover.length p.cs.cap] 33));have HBR:=zhd hbr;clear hb2 hbx hbr HB HF1 HE1 HB1 HCK hsz1;go_wp2_with fail
 refine wp_loop_rounds 1 ?_;clear c14 c15;generalize w2.alloc (.cells #[.slice p.ws.at_ p.work.length p.ws.cap,.slice p.cs.at_ p.recover.length p.cs.cap] 33)=V at *;have c0:V.cell? ⟨w2.heap.size,0,none⟩=some (.slice p.ws.at_ p.work.length p.ws.cap):=by simp [World.cell?,HRW.out]
 rw [rounds_succ];go_wp2_with fail
 clear c0;refine (pF p.ws p.work.length V).mono ?_;rintro o w5 ⟨rfl,rfl⟩;have hbx:=zba V (.cells #[.slice p.ws.at_ p.work.length p.ws.cap] 33);have HXX:=zhd (zan V (.cells #[.slice p.ws.at_ p.work.length p.ws.cap] 33));have HBX:=zhd hbx;clear hbx;generalize V.alloc (.cells #[.slice p.ws.at_ p.work.length p.ws.cap] 33)=X at *;go_wp2_with fail
 have HK2:Hid (Below w2.heap.size w2 X):=zhd (HBR.out.trans (HBX.out.mono HBR.out.size));have HKw:Hid (Below w.heap.size w X):=zhd (HB2.out.trans (HK2.out.mono HB2.out.size));have HF:=zhd ((HK2.out.block _ (by omega)).trans HF2.out);have HE:=zhd ((HK2.out.block _ (by omega)).trans HE2.out);have hXs:w.heap.size+3≤X.heap.size:=by have:=HK2.out.size;omega
 have HSEQ:=zhd fun n=>pG p.ws p.work HP.out.work n X V.heap.size HKw.out (by omega) HXX.out
 refine (wpIn_wide (n:=5)).1 ?_;refine bi (T:=TW) (n₀:=w.heap.size) rfl (fun h=>by cases h) (gf:=165) (lb:=#[.pointer (some ⟨V.heap.size,0,none⟩)]) rfl trivial (enters_of Tryz.func165 (by kernel_rfl) rfl)
  (HSEQ.out _) (by omega) (Below.refl _ _) (fun _=>rfl)
  (fun pre W=>W.heap[w.heap.size+1]? = some (.cells #[.bool false] 4 (0,0))∧W.heap[w.heap.size+1+1]? = some (.cells #[.int .i64 0] 37 (0,0))∧Below w.heap.size w W∧X.heap.size≤W.heap.size∧∀y∈pre,dY y=false)
  (fun c _ W=>c=.ret∧W.heap[w.heap.size+1]? = some (.cells #[.bool false] 4 (0,0))∧W.heap[w.heap.size+1+1]? = some (.cells #[.int .i64 0] 37 (0,0))∧Below w.heap.size w W∧X.heap.size≤W.heap.size)
  ?hI ?hIx ⟨HF.out,HE.out,HKw.out,Nat.le_refl _,fun _ h=>absurd h (by simp)⟩
  (fun y a' W=>∃b6,W.heap[b6]? = some (.cells #[.int .u8 y.kind,.string y.name,.slice y.es.at_ y.exprs.length y.es.cap,.int .i64 y.bound,.slice y.ts.at_ y.thn.length y.ts.cap,.slice y.os.at_ y.els.length y.os.cap] 43 (0,0))∧a'={ tmps:=#[.agg arr,.pointer (some ⟨w.heap.size,0,none⟩),.pointer (some ⟨w.heap.size+1,0,none⟩),.pointer (some ⟨w.heap.size+1+1,0,none⟩),undef,.slice p.ws.at_ p.work.length p.ws.cap,.pointer (some ⟨b6,0,none⟩),.agg arr,.bool true,.bool false,.pointer (some ⟨w.heap.size,14,none⟩),.slice p.ws.at_ p.work.length p.ws.cap,.pointer (some ⟨w.heap.size,15,none⟩),.slice p.cs.at_ p.recover.length p.cs.cap,.slice (some ⟨w2.heap.size,0,none⟩) 2 2,.int .i64 2,.int .i64 0,.bool true,.pointer (some ⟨w2.heap.size,0,none⟩),.slice p.ws.at_ p.work.length p.ws.cap,.slice p.ws.at_ p.work.length p.ws.cap,.func (.func 165) #[] #[.pointer (some ⟨V.heap.size,0,none⟩)],.agg #[.int .u8 y.kind,.string y.name,.slice y.es.at_ y.exprs.length y.es.cap,.int .i64 y.bound,.slice y.ts.at_ y.thn.length y.ts.cap,.slice y.os.at_ y.els.length y.os.cap],undef,undef,undef],defers:=[] })
  ?hAx ?assign ?body ?done ?stop
 case hI =>
  rintro s X' Y rw ⟨h1,h2,h3,h4,h5⟩ hg hr;have hcl:∀(k:Nat) (cs:Array Value) (t:TypeId) (fr:Nat × Nat),X'.heap[k]? = some (Obj.cells cs t fr)→Y.heap[k]? = X'.heap[k]? := fun k cs t fr hk=>hg.block k (zgs hk).1 (fun e=>by
   obtain ⟨_,o,ho,hc⟩:=hr k e.symm;rw [hk] at ho;cases ho
   cases hc)
  exact ⟨(hcl _ _ _ _ h1).trans h1,(hcl _ _ _ _ h2).trans h2,h3.grown hg (by omega) (fun q hq=>by have:=(hr q hq).1;omega),Nat.le_trans h4 hg.size,h5⟩
 case hIx =>
  rintro c s X' Y rw ⟨h0,h1,h2,h3,h4⟩ hg hr;have hcl:∀(k:Nat) (cs:Array Value) (t:TypeId) (fr:Nat × Nat),X'.heap[k]? = some (Obj.cells cs t fr)→Y.heap[k]? = X'.heap[k]? := fun k cs t fr hk=>hg.block k (zgs hk).1 (fun e=>by
   obtain ⟨_,o,ho,hc⟩:=hr k e.symm;rw [hk] at ho;cases ho
   cases hc)
  exact ⟨h0,(hcl _ _ _ _ h1).trans h1,(hcl _ _ _ _ h2).trans h2,h3.grown hg (by omega) (fun q hq=>by have:=(hr q hq).1;omega),Nat.le_trans h4 hg.size⟩
 case hAx =>
  rintro y a' _ X' Y rw ⟨b7,h1,h2⟩ hg hr;refine ⟨b7,(hg.block b7 (zgs h1).1 (fun e'=>?_)).trans h1,h2⟩;obtain ⟨_,o',ho,hc⟩:=hr b7 e'.symm;rw [h1] at ho;cases ho
  cases hc
 case assign =>
  rintro l2 pre y Wc K ⟨h1,h2,h3,h4,h5⟩ hK;simp only [aa.val,Sp.val] at hK ⊢;have hba:=zba Wc (.cells #[.int .u8 y.kind,.string y.name,.slice y.es.at_ y.exprs.length y.es.cap,.int .i64 y.bound,.slice y.ts.at_ y.thn.length y.ts.cap,.slice y.os.at_ y.els.length y.os.cap] 43)
  gi_wp2
  exact hK _ _ (ax.of_below hba) (hba.mono (by omega)) ⟨(hba.block _ (by omega)).trans h1,(hba.block _ (by omega)).trans h2,h3.trans (hba.mono (by omega)),Nat.le_trans h4 hba.size,h5⟩ ⟨_,zan _ _,rfl⟩
 case body =>
  rintro l2 pre y a' Wc hl2 ⟨h1,h2,h3,h4,h5⟩ ⟨b6,hb6,rfl⟩ hlen hsp;obtain ⟨q0,q1,q2,q3,q4,q5⟩:=ag hb6;have hym:y∈p.work.flatMap aa.pre:=hsp.mem (by simp);have hIP:=qg Wc y ((nG (HP.out.work.ok _ (List.mem_flatMap.1 hym).choose_spec.1) y (List.mem_flatMap.1 hym).choose_spec.2).stays h3 |>.more h3.size) (Nat.le_trans (oK hym) HHW.out);have HIP:=zhd hIP;have H1:=zhd h1;have H2:=zhd h2;have H3:=zhd h3;have H4:=zhd h4;have H5:=zhd h5;have hn1:(1:Nat)≤5 - 1 - 1:=by omega
  clear hIP h1 h2 h3 h4 h5 hb6 hlen hsp hym
  gi_wp2
  refine ⟨trivial,?_⟩;refine (CallsIn.inRound l2 (callsIn_wide.2 HIP.out)).mono ?_;rintro o4 W4 ⟨rfl,hb4⟩;have HQ1:=zhd ((hb4.block _ (by have:=H4.out;omega)).trans H1.out);have HQ2:=zhd ((hb4.block _ (by have:=H4.out;omega)).trans H2.out);have HSW:Hid (w.heap.size≤Wc.heap.size):=zhd (by have:=H4.out;omega);have HB4:=zhd hb4;clear hb4 q0 q1 q2 q3 q4 q5 HIP;cases hip:dY y with
  | true =>
   clear hip;have d1:=one_cell HQ1.out;have d2:=one_cell HQ2.out;have f1:W4.frozen? ⟨w.heap.size+1,0,none⟩=false:=by unfold World.frozen?;rw [HQ1.out];rfl
   have f2:W4.frozen? ⟨w.heap.size+1+1,0,none⟩=false:=by unfold World.frozen?;rw [HQ2.out];rfl
   clear hXs hs2 hl2
   gi_wp2
   have e1:((W4.setCell ⟨w.heap.size+1,0,none⟩ (.bool false)).setCell ⟨w.heap.size+1+1,0,none⟩ (.int .i64 0)).heap[w.heap.size+1]? = some (.cells #[.bool false] 4 (0,0)):=(Below.heap_setCell _ _ _ _ (show w.heap.size+1≠w.heap.size+1+1 by omega)).trans ((show Boxed W4 (w.heap.size+1) 4 _ from HQ1.out).set _);have e2:((W4.setCell ⟨w.heap.size+1,0,none⟩ (.bool false)).setCell ⟨w.heap.size+1+1,0,none⟩ (.int .i64 0)).heap[w.heap.size+1+1]? = some (.cells #[.int .i64 0] 37 (0,0)):=(show Boxed (W4.setCell ⟨w.heap.size+1,0,none⟩ (.bool false)) (w.heap.size+1+1) 37 (.int .i64 0) from (Below.heap_setCell _ _ _ _ (show w.heap.size+1+1≠w.heap.size+1 by omega)).trans HQ2.out).set _;refine ⟨((ax.of_below HB4.out).trans (ax.set (a:=⟨w.heap.size+1,0,none⟩) HQ1.out rfl _)).trans (ax.set (a:=⟨w.heap.size+1+1,0,none⟩) ((Below.heap_setCell _ _ _ _ (show w.heap.size+1+1≠w.heap.size+1 by omega)).trans HQ2.out) rfl _),rfl,e1,e2,((H3.out.trans (HB4.out.mono HSW.out)).setCell (p:=⟨w.heap.size+1,0,none⟩) (by show w.heap.size≤w.heap.size+1;omega) _).setCell (p:=⟨w.heap.size+1+1,0,none⟩) (by show w.heap.size≤w.heap.size+1+1;omega) _,by simp only [World.size_setCell];exact Nat.le_trans H4.out HB4.out.size⟩
  | false =>
   have HNL:Hid (∀z∈pre++[y],dY z=false):=zhd fun z hz=>by
    rcases List.mem_append.1 hz with h | h
    ·exact H5.out z h
    ·rw [List.mem_singleton.1 h];exact hip
   clear hip
   gi_wp2
   exact ⟨ax.of_below HB4.out,HB4.out.mono HSW.out,HQ1.out,HQ2.out,H3.out.trans (HB4.out.mono HSW.out),Nat.le_trans H4.out HB4.out.size,HNL.out⟩
 case done =>
  rintro Dq ys Wd hD rfl ⟨-,-,-,-,h5⟩ hK
  exfalso
  have h6:lV p.work=true:=by
   unfold lV;rw [List.all_eq_true];intro y hy;rw [h5 y hy]
   rfl
  rw [HFR.out] at h6;cases h6
 case stop =>
  rintro Dq c pre Wd hD hp ⟨rfl,h1,h2,h3,h4⟩ hK;have HKD:=zhd hK;have H1:=zhd h1;have H2:=zhd h2;have H3:=zhd h3;clear hK h1 h2 h3
  gi_wp2
  refine ⟨by simp,.inl ⟨_,_,rfl,run_takeDeferred HKD.out,?_⟩⟩;refine ⟨_,zJ _ _ (w.heap.size+1) (w.heap.size+1+1) false rfl rfl ?_ ?_,rfl,H3.out.trans (bD _ _ (by omega))⟩
  ·exact one_cell ((World.putObj_heap_other (by omega)).trans H1.out)
  ·exact one_cell ((World.putObj_heap_other (by omega)).trans H2.out)
end
section
open Go
def zX (work rec:List aa):af:=⟨1,2,Sp.none,[],Sp.none,[],Sp.none,[⟨xB,2,0⟩],Sp.none,[],dB 1 1,Sp.none,[],Sp.none,[],Sp.none,work,Sp.none,rec,dB 1 1⟩
def LJ (n:Int) (l:List aa):aa:=.mk 7 ⟨#[]⟩ Sp.none [ik xB] n Sp.none l Sp.none []
def Lx (k:Int) (ex:List ae):aa:=.mk k ⟨#[]⟩ Sp.none ex 0 Sp.none [] Sp.none []
def Ke (y:Int):aa:=LJ y [Lx 5 []]
def KX (x y z:Int):List aa:=[LJ x [Lx 4 [],Ke y],LJ z [Lx 3 [dB 0 1,ik xB]]]
def uV (x y z:Int):af:=zX (KX x y z) [Ke y]
def Kg (x y z:Nat):List Int:=((List.range x).flatMap fun _=>4::(List.range y).map fun _=>5)++(List.range z).map fun _=>3
mutual
def nX:ae→Nat
 | .mk _ _ _ _ _ _ l=>1+Kh l
def Kh:List ae→Nat
 | []=>0
 | e::l=>nX e+Kh l
end
theorem Dv:∀{l:List ae},(∀e∈l,nX e=e.pre.length)→Kh l=aF l
 | [],_=>rfl
 | e::l,h=>by
  rw [Kh,h e (List.mem_cons_self ..),Dv fun x hx=>h x (List.mem_cons_of_mem _ hx)];unfold aF;rw [List.map_cons,List.sum_cons]
theorem K4 (e:ae):nX e=e.pre.length:=by
 induction e using ae.ind with
 | h k o v w n sp l ih =>
  rw [nX,Dv ih,kK]
  rfl
theorem zB (l:List ae):Kh l=aF l:=Dv fun e _=>K4 e
mutual
def Jg:aa→Int
 | .mk k n es ex b ts th os el=>if dY (.mk k n es ex b ts th os el)=true then b*(1+(Kh ex:Int)+ow th 0)+(1+(Kh ex:Int))+2 else 1+(Kh ex:Int)+ow th 0+ow el 0
def ow:List aa→Int→Int
 | [],n=>n
 | s::l,n=>if n+Jg s>20000 then 20001 else ow l (n+Jg s)
end
theorem qM:∀{l:List aa},(∀s∈l,Jg s=rZ s)→∀n,ow l n=dz l n
 | [],_,n=>by rw [ow,dz]
 | s::l,h,n=>by rw [ow,dz,h s (List.mem_cons_self ..),qM fun t ht=>h t (List.mem_cons_of_mem _ ht)]
theorem J4 (s:aa):Jg s=rZ s:=by
 induction s using aa.ind with
 | h k n es ex b ts th os el i1 i2=>rw [Jg,rZ,zB,qM i1,qM i2]
theorem Cc (l:List aa) (n:Int):ow l n=dz l n:=qM (fun s _=>J4 s) n
mutual
def En:aa→List aa
 | .mk k n es ex b ts th os el=>.mk k n es ex b ts th os el::(lJ th++lJ el)
def lJ:List aa→List aa
 | []=>[]
 | s::l=>En s++lJ l
end
theorem nD:∀{l:List aa},(∀s∈l,En s=s.pre)→lJ l=l.flatMap aa.pre
 | [],_=>by rw [lJ];rfl
 | s::l,h=>by rw [lJ,h s (List.mem_cons_self ..),nD fun t ht=>h t (List.mem_cons_of_mem _ ht),List.flatMap_cons]
theorem Iy (s:aa):En s=s.pre:=by
 induction s using aa.ind with
 | h k n es ex b ts th os el i1 i2 =>
  rw [En,nD i1,nD i2,aa.pre_eq]
  rfl
theorem yu (l:List aa):lJ l=l.flatMap aa.pre:=nD fun s _=>Iy s
def K6 (l:List aa):List Int:=((lJ l).filter fun s=>decide (s.kind=3∨s.kind=4∨s.kind=5)).map aa.kind
def qy (l:List aa):Nat:=(lJ l).countP aY
theorem sQ (l:List aa):qy l=dW l:=by unfold qy dW;rw [yu]
theorem CE {p:af} {k:Nat} (h:(bK p 0).length=k):aR p=k:=by rw [←fG p 0,h]
def wL (p:af):Int:=min (((bK (eQ p) 0).length:Int)+ow p.work 0+ow p.recover 0) 20001
theorem tH (p:af):wL p=bJ p:=by
 unfold wL bJ;rw [Cc,Cc,fG]
def LW (x y z:Nat):Bool :=
 let p:=uV x y z
 decide ((bK p 0).length=18) && (decide (((fq (bK p 18) 0).headD (0,0)).2=0) && (decide (wL p≤20000) && (decide (iX p=max ((x:Int)+max ((y:Int)+2) 2) ((z:Int)+2)) && (decide (K6 (aX p.work)=Kg x y z) && (decide (qy (aX p.work)=x+2) && decide (qy (aX p.recover)=1))))))
theorem FX (work rec:List aa):eT (zX work rec) :=
 ⟨fun d hd=>by
  have:d=⟨xB,2,0⟩:=by simpa [zX] using hd
  rw [this];decide,fun q hq=>absurd hq (by simp [zX])⟩
theorem BA {work rec:List aa} {k:Nat} (h:(bK (zX work rec) 0).length=k) (hk:k≤20000) (h0:((fq (bK (zX work rec) k) 0).headD (0,0)).2=0):dC (zX work rec):=by
 have e:=CE h;refine ⟨by omega,FX _ _,?_,rfl⟩;rw [kX (by omega),e];exact h0
structure LP (x y z:Nat):Prop where
 ready:dC (uV x y z)
 weight:bJ (uV x y z)≤20000
 depth:iX (uV x y z)=max ((x:Int)+max ((y:Int)+2) 2) ((z:Int)+2)
 ops:LC (aX (uV x y z).work)=Kg x y z
 pass:dW (aX (uV x y z).work)=x+2
 recv:dW (aX (uV x y z).recover)=1
end
section
open Go
def LY:ae:=.mk 6 15 0 0 ⟨#[]⟩ Sp.none [ik xB,dB 3 2]
def rf:aa:=.mk 1 xB Sp.none [.mk 6 3 0 0 ⟨#[]⟩ Sp.none [ik xB,dB 1 2]] 0 Sp.none [] Sp.none []
def fH (n:Int):aa:=.mk 7 ⟨#[]⟩ Sp.none [LY] n Sp.none [rf] Sp.none []
def EX (l:List aa):aa:=.mk 6 ⟨#[]⟩ Sp.none [LY] 0 Sp.none l Sp.none []
theorem Af:dC (zX [fH 2] []):=BA (k:=12) (by kernel_rfl) (by decide) (by kernel_rfl)
theorem AA:dC (zX [] []):=BA (k:=4) (by kernel_rfl) (by decide) (by kernel_rfl)
theorem yR:bJ (zX [fH 2] [])=26:=by rw [←tH];kernel_rfl
theorem y8:bJ (zX [] [])=4:=by rw [←tH];kernel_rfl
theorem Ae:iX (zX [fH 2] [])=4:=by kernel_rfl
theorem GD:(aX [fH 2]).map ah=[EX [rf,EX [rf,EX [dh]]]]:=by kernel_rfl
theorem uL:dW (aX [fH 2])=1∧dW (aX [])=0:=⟨by rw [←sQ];kernel_rfl,by rw [←sQ];kernel_rfl⟩
theorem Ct:lV [fH 2]=false:=by unfold lV;rw [←yu];kernel_rfl
theorem CJ:aY (fH 1)=false:=by kernel_rfl
theorem Ig:aY (.mk 7 ⟨#[]⟩ Sp.none [dB 1 1] 1 Sp.none [] Sp.none [])=true:=by kernel_rfl
theorem Eg {α β:Type} {f:α→β} {l:List α} {y:β} (h:l.map f=[y]):∃x,l=[x]∧f x=y:=by
 match l,h with
 | [x],h=>exact ⟨x,rfl,by simpa using h⟩
theorem Eh {α β:Type} {f:α→β} {l:List α} {y z:β} (h:l.map f=[y,z]):∃x x',l=[x,x']∧f x=y∧f x'=z:=by
 match l,h with
 | [x,x'],h=>exact ⟨x,x',rfl,by simpa using h⟩
theorem yT {s:aa} {l:List aa} (h:ah s=EX l):s.kind=6∧s.thn.map ah=l:=by
 have h1:(ah s).kind=6:=by rw [h];rfl
 have h2:(ah s).thn=l:=by rw [h];rfl
 exact ⟨by rw [←gD];exact h1,by rw [←iV];exact h2⟩
theorem Ag {l:List aa} (h:l.map ah=[EX [rf,EX [rf,EX [dh]]]]):∃s0 x0 s1 x1 s2 t,l=[s0]∧s0.kind=6∧s0.thn=[x0,s1]∧s1.kind=6∧s1.thn=[x1,s2]∧s2.thn=[t]∧aY t=true:=by
 obtain ⟨s0,e0,h0⟩:=Eg h;obtain ⟨k0,t0⟩:=yT h0;obtain ⟨x0,s1,e1,_,h1⟩:=Eh t0;obtain ⟨k1,t1⟩:=yT h1;obtain ⟨x1,s2,e2,_,h2⟩:=Eh t1;obtain ⟨_,t2⟩:=yT h2;obtain ⟨t,e3,h3⟩:=Eg t2;refine ⟨s0,x0,s1,x1,s2,t,e0,k0,e1,k1,e2,e3,?_⟩;rw [←eG,h3]
 kernel_rfl
end
section
open Go Go.RowKit Go.Maps
def BJ (v ws cs:Sp) (work rec:List aa):af:=⟨1,2,Sp.none,[],Sp.none,[],v,[⟨xB,2,0⟩],Sp.none,[],dB 1 1,Sp.none,[],Sp.none,[],ws,work,cs,rec,dB 1 1⟩
theorem BK (v ws cs:Sp) (work rec:List aa):aD (BJ v ws cs work rec)=aD (zX work rec):=rfl
theorem qj (x wd:Int) (hx:IntKind.u32.wrap x=x) (w:World):Calls Tryz.prog 41 #[.int .i64 x,.int .i64 wd] w fun o w'=>o=.returned (dB x wd).val∧Below w.heap.size w w':=by
 go_enter Tryz.func41,Tryz.ntmps41
 go_wp2_with fail
 exact bodyPost_ret (results_cell_row rfl _ _ w.heap.size 30 _ (0,0) _ rfl (zan _ _) Tryz.underlying30 rfl (by kernel_rfl)) rfl ⟨rfl,(Below.refl _ _).alloc (Nat.le_refl _) _⟩
theorem yh (s:ByteArray) (w:World):Calls Tryz.prog 57 #[.string s] w fun o w'=>o=.returned (ik s).val∧Below w.heap.size w w':=by
 go_enter Tryz.func57,Tryz.ntmps57
 go_wp2_with fail
 exact bodyPost_ret (results_cell_row rfl _ _ w.heap.size 30 _ (0,0) _ rfl (zan _ _) Tryz.underlying30 rfl (by kernel_rfl)) rfl ⟨rfl,(Below.refl _ _).alloc (Nat.le_refl _) _⟩
def Ez (op:Int) (e1 e2:ae) (sp:Sp):ae:=.mk 6 op 0 0 ⟨#[]⟩ sp [e1,e2]
theorem sF (op:Int) (ho:0≤op∧op≤255) (e1 e2:ae) (w:World) (he1:uE w e1) (he2:uE w e2):Calls Tryz.prog 118 #[.int .u8 op,e1.val,e2.val] w fun o w'=>∃sp:Sp,o=.returned (Ez op e1 e2 sp).val∧uE w' (Ez op e1 e2 sp)∧Below w.heap.size w w':=by
 have HE1:=zhd he1;have HE2:=zhd he2;clear he1 he2;simp only [ae.val,Sp.val];go_enter Tryz.func118,Tryz.ntmps118
 go_wp2_with fail
 obtain ⟨h1,h2,h3,h4,h6,h5⟩:=Ku w (.cells #[.int .u8 e1.kind,.int .u8 e1.op,.int .u32 e1.value,.int .i64 e1.width,.string e1.name,.slice e1.sp.at_ e1.subs.length e1.sp.cap] 30) (.cells #[.int .u8 e2.kind,.int .u8 e2.op,.int .u32 e2.value,.int .i64 e2.width,.string e2.name,.slice e2.sp.at_ e2.subs.length e2.sp.cap] 30) (.cells #[.int .u8 6,.int .u8 op,.int .u32 0,.int .i64 0,.string ⟨#[]⟩,.slice (some ⟨w.heap.size+1+1+1,0,none⟩) 2 2] 30) (.cells #[.int .u8 e1.kind,.int .u8 e1.op,.int .u32 e1.value,.int .i64 e1.width,.string e1.name,.slice e1.sp.at_ e1.subs.length e1.sp.cap,.int .u8 e2.kind,.int .u8 e2.op,.int .u32 e2.value,.int .i64 e2.width,.string e2.name,.slice e2.sp.at_ e2.subs.length e2.sp.cap] 30);refine bodyPost_ret (results_cell_row rfl _ _ (w.heap.size+1+1) 30 _ (0,0) _ rfl h3 Tryz.underlying30 rfl (by kernel_rfl)) rfl ⟨⟨some ⟨w.heap.size+1+1+1,0,none⟩,2⟩,rfl,?_,h5⟩;exact .mk _ (show (0:Int)≤6∧(6:Int)≤255 by decide) ho (show (0:Int)≤0∧(0:Int)≤4294967295 by decide) (show (Lit.int .i64 0).wf=true by decide) (show (0:Nat)≤maxLen by decide) (JO (enc:=ae.cells) (x:=e1) (y:=e2) rfl h4) (fun y hy=>by
  have hy2:y=e1∨y=e2:=by simpa [Ez,ae.subs] using hy
  rcases hy2 with rfl | rfl
  ·exact HE1.out.on h5
  ·exact HE2.out.on h5)
set_option maxHeartbeats 1000000 in
theorem IJ (s:ByteArray) (hs:s.size≤maxLen) (e:ae) (w:World) (he:uE w e):Calls Tryz.prog 40 #[.string s,e.val] w fun o w'=>∃sp,o=.returned (rJ sp s e).val∧nP w' (rJ sp s e)∧Below w.heap.size w w':=by
 have HE:=zhd he;clear he;simp only [ae.val,Sp.val];go_enter Tryz.func40,Tryz.ntmps40
 go_wp2_with fail
 obtain ⟨h1,h2,h3,h4,h5⟩:=uJ w (.cells #[.int .u8 e.kind,.int .u8 e.op,.int .u32 e.value,.int .i64 e.width,.string e.name,.slice e.sp.at_ e.subs.length e.sp.cap] 30) (.cells #[.int .u8 1,.string s,.slice (some ⟨w.heap.size+1+1,0,none⟩) 1 1,.int .i64 0,.slice none 0 0,.slice none 0 0] 43) (.cells #[.int .u8 e.kind,.int .u8 e.op,.int .u32 e.value,.int .i64 e.width,.string e.name,.slice e.sp.at_ e.subs.length e.sp.cap] 30);refine bodyPost_ret (results_cell_row rfl _ _ (w.heap.size+1) 43 _ (0,0) _ rfl h2 Tryz.underlying43 rfl (by kernel_rfl)) rfl ⟨⟨some ⟨w.heap.size+1+1,0,none⟩,1⟩,rfl,?_,h5⟩;exact .mk _ (show (0:Int)≤1∧(1:Int)≤255 by decide) (show (Lit.int .i64 0).wf=true by decide) hs (row_one (enc:=ae.cells) (x:=e) h3) (fun y hy=>by
  have:y=e:=by simpa [rJ,aa.exprs] using hy
  rw [this];exact HE.out.on h5) RowOf.nil (fun _ h=>absurd h (by simp [rJ,aa.thn])) RowOf.nil (fun _ h=>absurd h (by simp [rJ,aa.els]))
def DY (es:Sp) (e:ae) (n:Int) (ts:Sp) (l:List aa):aa:=.mk 7 ⟨#[]⟩ es [e] n ts l Sp.none []
set_option maxHeartbeats 1000000 in
theorem wN (n:Int) (hn:(Lit.int .i64 n).wf=true) (e:ae) (ts:Sp) (l:List aa) (w:World) (he:uE w e) (hl:bX w.heap.size w ts l):Calls Tryz.prog 60 #[.int .i64 n,e.val,ts.val l.length] w fun o w'=>∃sp,o=.returned (DY sp e n ts l).val∧nP w' (DY sp e n ts l)∧Below w.heap.size w w':=by
 have HE:=zhd he;have HL:=zhd hl;clear he hl;simp only [ae.val,Sp.val];go_enter Tryz.func60,Tryz.ntmps60
 go_wp2_with fail
 obtain ⟨h1,h2,h3,h4,h5⟩:=uJ w (.cells #[.int .u8 e.kind,.int .u8 e.op,.int .u32 e.value,.int .i64 e.width,.string e.name,.slice e.sp.at_ e.subs.length e.sp.cap] 30) (.cells #[.int .u8 7,.string ⟨#[]⟩,.slice (some ⟨w.heap.size+1+1,0,none⟩) 1 1,.int .i64 n,.slice ts.at_ l.length ts.cap,.slice none 0 0] 43) (.cells #[.int .u8 e.kind,.int .u8 e.op,.int .u32 e.value,.int .i64 e.width,.string e.name,.slice e.sp.at_ e.subs.length e.sp.cap] 30);refine bodyPost_ret (results_cell_row rfl _ _ (w.heap.size+1) 43 _ (0,0) _ rfl h2 Tryz.underlying43 rfl (by kernel_rfl)) rfl ⟨⟨some ⟨w.heap.size+1+1,0,none⟩,1⟩,rfl,?_,h5⟩;have hl:=HL.out.on h5;exact .mk _ (show (0:Int)≤7∧(7:Int)≤255 by decide) hn (show (0:Nat)≤maxLen by decide) (row_one (enc:=ae.cells) (x:=e) h3) (fun y hy=>by
  have:y=e:=by simpa [DY,aa.exprs] using hy
  rw [this];exact HE.out.on h5) hl.row hl.ok RowOf.nil (fun _ h=>absurd h (by simp [DY,aa.els]))
theorem JQ {W:World} {v ws:Sp} {l:List aa} (hv:RowOf W.heap.size W v 3 aG.cells [⟨xB,2,0⟩]) (hl:bX W.heap.size W ws l):jW W.heap.size W (BJ v ws Sp.none l []):=by
 have hd:nQ W.heap.size W Sp.none []:=⟨RowOf.nil,fun _ h=>absurd h (by simp)⟩;have ht:bX W.heap.size W Sp.none []:=⟨RowOf.nil,fun _ h=>absurd h (by simp)⟩;have hn:uE W (dB 1 1):=nA W 1 1 (by decide) (by decide);refine ⟨show (Lit.int .i64 1).wf=true by decide,show (Lit.int .i64 2).wf=true by decide,hd,hd,⟨hv,fun d h=>?_⟩,hd,hn,RowOf.nil,fun _ h=>absurd h (by simp [BJ]),RowOf.nil,fun _ h=>absurd h (by simp [BJ]),hl,ht,hn⟩;have:d=⟨xB,2,0⟩:=by simpa [BJ] using h
 rw [this];exact ⟨by decide,by decide,by decide⟩
set_option maxRecDepth 1000000 in
set_option maxHeartbeats 2000000 in
theorem wD (ws:Sp) (l:List aa) (w:World) (h:bX w.heap.size w ws l):Calls Tryz.prog 48 #[ws.val l.length] w fun o w'=>∃b:Nat,o=.returned (BJ ⟨some ⟨b,0,none⟩,1⟩ ws Sp.none l []).val∧jW w'.heap.size w' (BJ ⟨some ⟨b,0,none⟩,1⟩ ws Sp.none l [])∧Below w.heap.size w w':=by
 have HTS:=zhd h;have hb0:=zba w (.cells bH.arr 35);have hB0:=zan w (.cells bH.arr 35);have hs0:(w.alloc (.cells bH.arr 35)).heap.size=w.heap.size+1:=by simp
 have hN:=fun W=>qj 1 1 (by decide) W
 simp only [dB,ae.val,ae.kind,ae.op,ae.value,ae.width,ae.name,ae.sp,ae.subs,Sp.val,Sp.none,List.length_nil] at hN;have HNM:=zhd hN;clear h hN;simp only [Sp.val];go_enter Tryz.func48,Tryz.ntmps48
 go_upto_region 1 with (first | (refine aO (t:=35) rfl rfl (gm _) ?_) | fail)
 generalize w.alloc (.cells bH.arr 35)=W0 at *;have HB0:=zhd hb0;have HX0:=zhd hB0;have hb1:=zba W0 (.cells #[.string xB,.int .i64 2,.int .i64 0] 50);have hB1:=zan W0 (.cells #[.string xB,.int .i64 2,.int .i64 0] 50);have HB1:=zhd hb1;have HX1:=zhd hB1;clear hb0 hB0 hb1 hB1;have hst:(W0.alloc (.cells #[.string xB,.int .i64 2,.int .i64 0] 50)).heap[w.heap.size]? = some (.cells bH.arr 35 (0,0))∧(W0.alloc (.cells #[.string xB,.int .i64 2,.int .i64 0] 50)).heap[w.heap.size+1]? = some (.cells #[.string xB,.int .i64 2,.int .i64 0] 50 (0,0))∧Below w.heap.size w (W0.alloc (.cells #[.string xB,.int .i64 2,.int .i64 0] 50)) :=
  ⟨(HB1.out.block _ (by omega)).trans HX0.out,by have h:=HX1.out;rw [hs0] at h;exact h,HB0.out.trans (HB1.out.mono (by omega))⟩
 have UPD:Hid (∀A B:World,Below A.heap.size A B→(A.heap[w.heap.size]? = some (.cells bH.arr 35 (0,0))∧A.heap[w.heap.size+1]? = some (.cells #[.string xB,.int .i64 2,.int .i64 0] 50 (0,0))∧Below w.heap.size w A)→(B.heap[w.heap.size]? = some (.cells bH.arr 35 (0,0))∧B.heap[w.heap.size+1]? = some (.cells #[.string xB,.int .i64 2,.int .i64 0] 50 (0,0))∧Below w.heap.size w B)):=zhd fun A B hb ⟨h1,h2,h3⟩ =>
  ⟨(hb.block _ (zgs h1).1).trans h1,(hb.block _ (zgs h2).1).trans h2,h3.trans (hb.mono h3.size)⟩
 have HST:=zhd hst;clear hst;go_wp2_with (first
  | (go_at_call 41;refine (HNM.out _).mono ?_;rintro o2 w2 ⟨rfl,hb2⟩;have HST:=zhd (UPD.out _ _ hb2 HST.out);clear hb2)
  | (refine wpList_store_row rfl 35 _ _ rfl w.heap.size (BJ ⟨some ⟨w.heap.size+1,0,none⟩,1⟩ ws Sp.none l []).arr (by rfl) (by rfl) 35 bH.arr HST.out.1 (aN _) (by kernel_rfl) (jg _) ?_)
  | fail)
 obtain ⟨h1,h2,h3⟩:=HST.out;have h4:=setRow_heap w2 w.heap.size bH.arr (BJ ⟨some ⟨w.heap.size+1,0,none⟩,1⟩ ws Sp.none l []).arr 35 (0,0) h1;have h5:Below w.heap.size w (w2.setRow w.heap.size (BJ ⟨some ⟨w.heap.size+1,0,none⟩,1⟩ ws Sp.none l []).arr):=below_setRow h3 (Nat.le_refl _);refine bodyPost_ret (results_cell_row rfl _ _ w.heap.size 35 _ (0,0) _ rfl h4 Tryz.underlying35 rfl (aN _)) rfl ⟨w.heap.size+1,rfl,?_,h5⟩;exact JQ (row_one (enc:=aG.cells) (x:=⟨xB,2,0⟩) (t:=50) (fr:=(0,0)) ((setRow_other _ _ _ _ (by omega)).trans h2)) (HTS.out.on h5)
end
section
open Go Go.RowKit Go.Maps
theorem D6:xB.size≤maxLen:=by decide
set_option maxRecDepth 1000000 in
set_option maxHeartbeats 8000000 in
theorem uW (n:Int) (hn:(Lit.int .i64 n).wf=true) (w:World):Calls Tryz.prog 58 #[.int .i64 n] w fun o w'=>∃s:aa,o=.returned s.val∧ah s=fH n∧nP w' s∧Below w.heap.size w w':=by
 have hb0:=zba w (.cells #[.int .u8 0,.string ⟨#[]⟩,.slice none 0 0,.int .i64 0,.slice none 0 0,.slice none 0 0] 43);have hz0:=zan w (.cells #[.int .u8 0,.string ⟨#[]⟩,.slice none 0 0,.int .i64 0,.slice none 0 0,.slice none 0 0] 43);have HB0:=zhd hb0;have HZ0:=zhd hz0;clear hb0 hz0;go_enter Tryz.func58,Tryz.ntmps58
 go_wp2_with fail
 generalize w.alloc (.cells #[.int .u8 0,.string ⟨#[]⟩,.slice none 0 0,.int .i64 0,.slice none 0 0,.slice none 0 0] 43)=W0 at *;refine (yh xB W0).mono ?_;rintro o W1 ⟨rfl,hb1⟩;have HB1:=zhd (HB0.out.trans (hb1.mono HB0.out.size));have HZ1:=zhd ((hb1.block _ (zgs HZ0.out).1).trans HZ0.out);clear hb1 HB0 HZ0;go_wp2_with fail
 refine (qj 3 2 (by decide) W1).mono ?_;rintro o W2 ⟨rfl,hb2⟩;have HB2:=zhd (HB1.out.trans (hb2.mono HB1.out.size));have HZ2:=zhd ((hb2.block _ (zgs HZ1.out).1).trans HZ1.out);clear hb2 HB1 HZ1;go_wp2_with fail
 refine (sF 15 ⟨by decide,by decide⟩ (ik xB) (dB 3 2) W2 (Bl _ _ D6) (nA _ 3 2 (by decide) (by decide))).mono ?_;rintro o W3 ⟨sp1,rfl,hx1,hb3⟩;have HB3:=zhd (HB2.out.trans (hb3.mono HB2.out.size));have HZ3:=zhd ((hb3.block _ (zgs HZ2.out).1).trans HZ2.out);have HX3:=zhd hx1;clear hb3 hx1 HB2 HZ2;go_wp2_with fail
 refine (yh xB W3).mono ?_;rintro o W4 ⟨rfl,hb4⟩;have HB4:=zhd (HB3.out.trans (hb4.mono HB3.out.size));have HZ4:=zhd ((hb4.block _ (zgs HZ3.out).1).trans HZ3.out);have HX4:=zhd (HX3.out.on hb4);clear hb4 HB3 HZ3 HX3;go_wp2_with fail
 refine (qj 1 2 (by decide) W4).mono ?_;rintro o W5 ⟨rfl,hb5⟩;have HB5:=zhd (HB4.out.trans (hb5.mono HB4.out.size));have HZ5:=zhd ((hb5.block _ (zgs HZ4.out).1).trans HZ4.out);have HX5:=zhd (HX4.out.on hb5);clear hb5 HB4 HZ4 HX4;go_wp2_with fail
 refine (sF 3 ⟨by decide,by decide⟩ (ik xB) (dB 1 2) W5 (Bl _ _ D6) (nA _ 1 2 (by decide) (by decide))).mono ?_;rintro o W6 ⟨sp2,rfl,hx2,hb6⟩;have HB6:=zhd (HB5.out.trans (hb6.mono HB5.out.size));have HZ6:=zhd ((hb6.block _ (zgs HZ5.out).1).trans HZ5.out);have HX6:=zhd (HX5.out.on hb6);have HY6:=zhd hx2;clear hb6 hx2 HB5 HZ5 HX5;go_wp2_with fail
 refine (IJ xB D6 (Ez 3 (ik xB) (dB 1 2) sp2) W6 HY6.out).mono ?_;rintro o W7 ⟨sp3,rfl,ht,hb7⟩;have HB7:=zhd (HB6.out.trans (hb7.mono HB6.out.size));have HZ7:=zhd ((hb7.block _ (zgs HZ6.out).1).trans HZ6.out);have HX7:=zhd (HX6.out.on hb7);have HT7:=zhd ht;clear hb7 ht HB6 HZ6 HX6 HY6;have hb8:=zba W7 (.cells #[.int .u8 1,.string xB,.slice sp3.at_ 1 sp3.cap,.int .i64 0,.slice none 0 0,.slice none 0 0] 43);have hr8:=row_one (enc:=aa.cells) (x:=rJ sp3 xB (Ez 3 (ik xB) (dB 1 2) sp2)) (k:=6) (zan W7 (.cells #[.int .u8 1,.string xB,.slice sp3.at_ 1 sp3.cap,.int .i64 0,.slice none 0 0,.slice none 0 0] 43));have hW:=wN n hn (Ez 15 (ik xB) (dB 3 2) sp1) ⟨some ⟨W7.heap.size,0,none⟩,1⟩ [rJ sp3 xB (Ez 3 (ik xB) (dB 1 2) sp2)] (W7.alloc (.cells #[.int .u8 1,.string xB,.slice sp3.at_ 1 sp3.cap,.int .i64 0,.slice none 0 0,.slice none 0 0] 43)) (HX7.out.on hb8) ⟨hr8,fun t ht=>by rw [List.mem_singleton.1 ht];exact HT7.out.on hb8⟩;have HW:=zhd hW;have HB8:=zhd (HB7.out.trans (hb8.mono HB7.out.size));have HZ8:=zhd ((hb8.block _ (zgs HZ7.out).1).trans HZ7.out);clear hb8 hr8 hW HB7 HZ7 HX7 HT7 hn;simp only [rJ,aa.val,aa.kind,aa.name,aa.es,aa.exprs,aa.bound,aa.ts,aa.thn,aa.os,aa.els,Sp.val,Sp.none,List.length_cons,List.length_nil,Nat.zero_add];go_wp2_with fail
 generalize W7.alloc (.cells #[.int .u8 1,.string xB,.slice sp3.at_ 1 sp3.cap,.int .i64 0,.slice none 0 0,.slice none 0 0] 43)=W8 at *;refine HW.out.mono ?_;rintro o W9 ⟨sp4,rfl,ht9,hb9⟩;have hz9:=(hb9.block _ (zgs HZ8.out).1).trans HZ8.out;obtain ⟨z0,z1,z2,z3,z4,z5⟩:=ag hz9;have fz:∀j,W9.frozen? ⟨w.heap.size,j,none⟩=false:=fun j=>by simp [World.frozen?,hz9]
 have f0:=fz 0;have f1:=fz 1;have f2:=fz 2;have f3:=fz 3;have f4:=fz 4;have f5:=fz 5;have HZ9:=zhd hz9;have HT9:=zhd ht9;have HB9:=zhd (HB8.out.trans (hb9.mono HB8.out.size));clear fz hz9 ht9 hb9 HB8 HZ8 HW;simp only [DY,aa.val,aa.kind,aa.name,aa.es,aa.exprs,aa.bound,aa.ts,aa.thn,aa.os,aa.els,Sp.val,Sp.none,List.length_cons,List.length_nil,Nat.zero_add];go_wp2_with fail
 have fin:∀wf,wf=six W9 w.heap.size 0 (.int .u8 7) (.string ⟨#[]⟩) (.slice sp4.at_ 1 sp4.cap) (.int .i64 n) (.slice (some ⟨W7.heap.size,0,none⟩) 1 1) (.slice none 0 0)→nP wf (DY sp4 (Ez 15 (ik xB) (dB 3 2) sp1) n ⟨some ⟨W7.heap.size,0,none⟩,1⟩ [rJ sp3 xB (Ez 3 (ik xB) (dB 1 2) sp2)]):=by
  intro wf hwf;have hav:=eu.avoid (b:=w.heap.size) (show tL W9 w.heap.size from HZ9.out) HT9.out (fun t ht x hx=>by
   have e1:t=rJ sp3 xB (Ez 3 (ik xB) (dB 1 2) sp2):=by simpa [DY,aa.thn,aa.els] using ht
   subst e1;rw [aa.pre_eq] at hx;have e2:x=rJ sp3 xB (Ez 3 (ik xB) (dB 1 2) sp2):=by simpa [rJ,aa.thn,aa.els] using hx
   rw [e2];exact (by decide:(1:Int)≠0))
  refine (eu.cells hav fun p u hp hc=>?_).more (show W9.heap.size≤wf.heap.size by rw [hwf,jm];exact Nat.le_refl _);obtain ⟨k1,k2⟩:=lD.1 hc;exact (World.cell?_of_block (by rw [hwf];exact iM _ _ _ _ _ _ _ _ _ (fun e=>k1 (by rw [e])))).trans k2
 refine bodyPost_ret (results_cell_row rfl _ _ w.heap.size 43 _ (0,0) _ rfl (nH HZ9.out _ _ _ _ _ _) Tryz.underlying43 rfl (wE _ _ _ _ _ _)) rfl ⟨DY sp4 (Ez 15 (ik xB) (dB 3 2) sp1) n ⟨some ⟨W7.heap.size,0,none⟩,1⟩ [rJ sp3 xB (Ez 3 (ik xB) (dB 1 2) sp2)],rfl,rfl,fin _ rfl,je HB9.out (Nat.le_refl _) _ _ _ _ _ _ _⟩
end
end Go.Proofs.YtepacjkacjabbaaGreatDoor
