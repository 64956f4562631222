import Derived.Test.YtepacjkacjabbaaGreatDoorPAA
import Derived.Test.YtepacjkacjabbaaGreatDoorPAN
import Derived.Test.YtepacjkacjabbaaGreatDoorPAX
import Derived.Test.YtepacjkacjabbaaGreatDoorPAM
import Derived.Test.YtepacjkacjabbaaGreatDoorPAK
namespace Go.Proofs.YtepacjkacjabbaaGreatDoor
section
open Go Go.RowKit Go.Maps
def jy (W:World) (s:aa):Prop:=j5 W.heap.size W s
theorem jy.on {W W':World} {s:aa} (h:jy W s) (hb:Below W.heap.size W W'):jy W' s:=j5.cells h hb.size (mh hb)
set_option maxHeartbeats 1000000 in
theorem FD (w:World):Calls Tryz.prog 92 #[] w fun o w'=>∃s:aa,o=.returned (.agg #[.int .i64 s.kind,.string s.name,.slice s.es.at_ s.exprs.length s.es.cap,.int .i64 s.bound,.slice s.ts.at_ s.thn.length s.ts.cap,.slice s.os.at_ s.els.length s.os.cap])∧ah s=dh∧jy w' s∧Below w.heap.size w w':=by
 go_enter Tryz.func92,Tryz.ntmps92
 go_wp2_with fail
 obtain ⟨h1,h2,h3,h4⟩:=gY w (.cells #[.int .i64 7,.string ⟨#[]⟩,.slice (some ⟨w.heap.size+1,0,none⟩) 1 1,.int .i64 1,.slice none 0 0,.slice none 0 0] 63) (.cells #[.int .i64 1,.int .i64 0,.int .i64 1,.int .i64 1,.string ⟨#[]⟩,.slice none 0 0] 101);refine bodyPost_ret (results_cell_row rfl _ _ w.heap.size 63 _ (0,0) _ rfl h1 Tryz.underlying63 rfl (by kernel_rfl)) rfl ⟨.mk 7 ⟨#[]⟩ ⟨some ⟨w.heap.size+1,0,none⟩,1⟩ [dB 1 1] 1 Sp.none [] Sp.none [],rfl,rfl,?_,h4⟩;exact .mk _ (row_one (enc:=ae.cellsR) (x:=dB 1 1) h2) (fun y hy=>by
  have:y=dB 1 1:=by simpa [aa.exprs] using hy
  rw [this];exact .mk _ RowOf.nil (fun _ h=>absurd h (by simp [dB,ae.subs]))) RowOf.nil (fun _ h=>absurd h (by simp [aa.thn])) RowOf.nil (fun _ h=>absurd h (by simp [aa.els]))
noncomputable def opsIR:Array Oper:=((Tryz.f28.body.bind (opsOf 1)).getD #[])
def Dl (t:Nat):Bool:=decide (t≤1)
theorem Il:dR opsIR 6 8 Dl=true:=by kernel_rfl
set_option maxRecDepth 10000000 in
set_option maxHeartbeats 64000000 in
theorem Hg {a0:Act} {w0:World} (hsz:a0.tmps.size=8) (b1:Nat) (s:aa) (f1:a0.tmps[1]?.getD undef=.pointer (some ⟨b1,0,none⟩)) (hbx:w0.heap[b1]? = some (.cells #[.int .i64 s.kind,.string s.name,.slice s.es.at_ s.exprs.length s.es.cap,.int .i64 s.bound,.slice s.ts.at_ s.thn.length s.ts.cap,.slice s.os.at_ s.els.length s.os.cap] 63 (0,0))) (hrd:jy w0 s) :
  (Code.region 1 opsIR true).wp Tryz.prog (fun e a w=>e=.normal∧a.tmps.size=8∧a.defers=a0.defers∧(∀t:Nat,Dl t=true→a.tmps[t]?.getD undef=a0.tmps[t]?.getD undef)∧a.tmps[2]?.getD undef=.bool (aY s)∧Below w0.heap.size w0 w) a0 w0:=by
 have hb1:b1<w0.heap.size:=(zgs hbx).1;obtain ⟨x0,x1,x2,x3,x4,x5⟩:=ag hbx;refine aP (n:=6) (sz:=8) (keep:=Dl) rfl Il hsz (fun _ w=>Below w0.heap.size w0 w) (fun _ w w'=>Below w.heap.size w w') ((Below.refl _ _).drew) ?_;have e:opsIR.toList=opsIR.toList:=rfl
 conv at e=>rhs;arg 1;whnf
 simp only at e;rw [e];clear e
 apply ak.exact rfl rfl
 ·exact fun _ _ h=>h
 ·exact fun w=>Below.refl _ w
 ·rintro L a w ⟨-,hS,-,hsm,haft⟩
  have f1:a.tmps[1]?.getD undef=_:=(hsm 1 rfl).trans f1;have c0:=(hS.cell (p:=⟨b1,0,none⟩) hb1).trans (x0);have c1:=(hS.cell (p:=⟨b1,1,none⟩) hb1).trans (x1);have c2:=(hS.cell (p:=⟨b1,2,none⟩) hb1).trans (x2);have c3:=(hS.cell (p:=⟨b1,3,none⟩) hb1).trans (x3);have c4:=(hS.cell (p:=⟨b1,4,none⟩) hb1).trans (x4);have c5:=(hS.cell (p:=⟨b1,5,none⟩) hb1).trans (x5);simp [go_sem,f1,c0,c1,c2,c3,c4,c5];exact rfl
 refine ak.any (fun L v w=>∃b,v=.slice (some ⟨b,0,none⟩) 1 1∧RowOf w.heap.size w ⟨some ⟨b,0,none⟩,1⟩ 6 aa.cellsR [s]) rfl ?_ ?_ ?_
 ·exact fun _ _ _ _ _ _ hR hP=>hP.imp fun b h2=>⟨h2.1,(h2.2.below hR).more hR.size⟩
 ·rintro L a w ⟨hL,hS,hbeh,hsm,haft⟩
  have f3:a.tmps[3]?.getD undef=_:=aj (haft.1 rfl).2;have hb2:=zba w (.cells #[.int .i64 s.kind,.string s.name,.slice s.es.at_ s.exprs.length s.es.cap,.int .i64 s.bound,.slice s.ts.at_ s.thn.length s.ts.cap,.slice s.os.at_ s.els.length s.os.cap] 63);refine Oper.wp_value (v:=.slice (some ⟨w.heap.size,0,none⟩) 1 1) (w':=w.alloc (.cells #[.int .i64 s.kind,.string s.name,.slice s.es.at_ s.exprs.length s.es.cap,.int .i64 s.bound,.slice s.ts.at_ s.thn.length s.ts.cap,.slice s.os.at_ s.els.length s.os.cap] 63)) ?_ ?_
  ·simp [go_sem,f3]
  ·exact ⟨_,rfl,fun e=>(by cases e),⟨_,rfl,row_one (enc:=aa.cellsR) (x:=s) (zan w _)⟩,hS.trans (hb2.mono hS.size),hb2⟩
 refine ak.any (fun L v w=>∃p:aa,v=.agg #[.int .i64 p.kind,.string p.name,.slice p.es.at_ p.exprs.length p.es.cap,.int .i64 p.bound,.slice p.ts.at_ p.thn.length p.ts.cap,.slice p.os.at_ p.els.length p.os.cap]∧ah p=dh∧jy w p) rfl ?_ ?_ ?_
 ·exact fun _ _ _ _ _ _ hR hP=>hP.imp fun p h2=>⟨h2.1,h2.2.1,h2.2.2.on hR⟩
 ·rintro L a w ⟨hL,hS,hbeh,hsm,haft⟩
  refine Oper.wp_enter (f:=92) (args:=#[]) (w':=w) ?_ ?_
  ·simp [go_sem]
  ·refine (FD w).mono ?_
   rintro o w' ⟨p,rfl,h1,h2,hb2⟩;exact ⟨_,rfl,_,rfl,fun e=>(by cases e),⟨p,rfl,h1,h2⟩,hS.trans (hb2.mono hS.size),hb2⟩
 refine ak.any (fun L v w=>∃b p,v=.slice (some ⟨b,0,none⟩) 1 1∧ah p=dh∧RowOf w.heap.size w ⟨some ⟨b,0,none⟩,1⟩ 6 aa.cellsR [p]∧jy w p) rfl ?_ ?_ ?_
 ·exact fun _ _ _ _ _ _ hR hP=>hP.imp fun b h=>h.imp fun p h2=>⟨h2.1,h2.2.1,(h2.2.2.1.below hR).more hR.size,h2.2.2.2.on hR⟩
 ·rintro L a w ⟨hL,hS,hbeh,hsm,haft⟩
  obtain ⟨p,x5,hp,hnp⟩:=(haft.1 rfl).2;have f5:a.tmps[5]?.getD undef=.agg #[.int .i64 p.kind,.string p.name,.slice p.es.at_ p.exprs.length p.es.cap,.int .i64 p.bound,.slice p.ts.at_ p.thn.length p.ts.cap,.slice p.os.at_ p.els.length p.os.cap]:=aj x5;have hb2:=zba w (.cells #[.int .i64 p.kind,.string p.name,.slice p.es.at_ p.exprs.length p.es.cap,.int .i64 p.bound,.slice p.ts.at_ p.thn.length p.ts.cap,.slice p.os.at_ p.els.length p.os.cap] 63);refine Oper.wp_value (v:=.slice (some ⟨w.heap.size,0,none⟩) 1 1) (w':=w.alloc (.cells #[.int .i64 p.kind,.string p.name,.slice p.es.at_ p.exprs.length p.es.cap,.int .i64 p.bound,.slice p.ts.at_ p.thn.length p.ts.cap,.slice p.os.at_ p.els.length p.os.cap] 63)) ?_ ?_
  ·simp [go_sem,f5]
  ·exact ⟨_,rfl,fun e=>(by cases e),⟨_,p,rfl,hp,row_one (enc:=aa.cellsR) (x:=p) (zan w _),hnp.on hb2⟩,hS.trans (hb2.mono hS.size),hb2⟩
 refine ak.any (fun L v w=>v=.bool (aY s)) rfl ?_ ?_ ?_
 ·exact fun _ _ _ _ _ _ _ hP=>hP
 ·rintro L a w ⟨hL,hS,hbeh,hsm,haft⟩
  obtain ⟨b,x4,hr4⟩:=(haft.1 rfl).2;obtain ⟨b6,p,x6,hp,hr6,hnp⟩:=(haft.2.1 rfl).2;have f4:a.tmps[4]?.getD undef=.slice (some ⟨b,0,none⟩) 1 1:=aj x4;have f6:a.tmps[6]?.getD undef=.slice (some ⟨b6,0,none⟩) 1 1:=aj x6;have hst:jy w s:=jy.on hrd hS;have hone:∀x:aa,jy w x→∀t∈[x],jy w t:=fun x hx t ht=>by rw [List.mem_singleton.1 ht];exact hx
  have hCL:=BH (n0:=w.heap.size) (W0:=w) (sa:=⟨some ⟨b,0,none⟩,1⟩) (sb:=⟨some ⟨b6,0,none⟩,1⟩) (la:=[s]) (lb:=[p]) ⟨hr4,hone s hst⟩ ⟨hr6,hone p hnp⟩ w (Below.refl _ _) (Nat.le_refl _);have heq:dw [s] [p]=aY s:=AL hp;rw [heq] at hCL;refine Oper.wp_enter (f:=77) (args:=#[.slice (some ⟨b,0,none⟩) 1 1,.slice (some ⟨b6,0,none⟩) 1 1]) (w':=w) ?_ ?_
  ·simp [go_sem,f4,f6]
  ·refine hCL.mono ?_
   rintro o w' ⟨rfl,hb2⟩;exact ⟨_,rfl,_,rfl,fun e=>(by cases e),rfl,hS.trans (hb2.mono hS.size),hb2⟩
 refine ak.any (fun L v w=>v=.bool (aY s)) rfl ?_ ?_ ?_
 ·exact fun _ _ _ _ _ _ _ hP=>hP
 ·rintro L a w ⟨hL,hS,hbeh,hsm,haft⟩
  have f7:a.tmps[7]?.getD undef=.bool (aY s):=aj (haft.1 rfl).2;refine Oper.wp_value (v:=.bool (aY s)) (w':=w) ?_ ?_
  ·simp [go_sem,f7]
  ·exact ⟨_,rfl,fun e=>(by cases e),rfl,hS,Below.refl _ _⟩
 rintro L a w hL ⟨hS,hsame,hv⟩;exact ⟨rfl,hsame.1.trans hsz,hsame.2.1,hsame.2.2,aj (hv 5),hS⟩
set_option maxRecDepth 1000000 in
set_option maxHeartbeats 4000000 in
theorem Bc (w:World) (s:aa) (h:jy w s) :
  Calls Tryz.prog 28 #[.agg #[.int .i64 s.kind,.string s.name,.slice s.es.at_ s.exprs.length s.es.cap,.int .i64 s.bound,.slice s.ts.at_ s.thn.length s.ts.cap,.slice s.os.at_ s.els.length s.os.cap]] w fun o w'=>o=.returned (.bool (aY s))∧Below w.heap.size w w':=by
 have hb1:=zba w (.cells #[.int .i64 s.kind,.string s.name,.slice s.es.at_ s.exprs.length s.es.cap,.int .i64 s.bound,.slice s.ts.at_ s.thn.length s.ts.cap,.slice s.os.at_ s.els.length s.os.cap] 63);have hB:=zan w (.cells #[.int .i64 s.kind,.string s.name,.slice s.es.at_ s.exprs.length s.es.cap,.int .i64 s.bound,.slice s.ts.at_ s.thn.length s.ts.cap,.slice s.os.at_ s.els.length s.os.cap] 63);have hrd:jy (w.alloc (.cells #[.int .i64 s.kind,.string s.name,.slice s.es.at_ s.exprs.length s.es.cap,.int .i64 s.bound,.slice s.ts.at_ s.thn.length s.ts.cap,.slice s.os.at_ s.els.length s.os.cap] 63)) s:=h.on hb1;have HB:=zhd hB;have HRD:=zhd hrd;have HB1:=zhd hb1;clear h hB hrd hb1;go_enter Tryz.func28,Tryz.ntmps28
 go_wp2_with fail
 refine Code.wp_mono ?_ (fV (C':=.region 1 opsIR true) (by kernel_rfl) (Hg rfl w.heap.size s rfl HB.out HRD.out));rintro e a9 w2 ⟨rfl,hsz9,hd9,hsm9,h2,hb2⟩;obtain ⟨F,hF,rfl⟩:=Gw hsz9 hd9;have g2:F 2=.bool (aY s):=(hF 2).trans (au h2);rw [g2];clear hF g2 hsz9 hd9 hsm9 h2;go_wp2_with fail
 go_ret
 exact ⟨rfl,HB1.out.trans (hb2.mono HB1.out.size)⟩
end
section
open Go Go.RowKit Go.Maps
theorem Ad {a:Act} (h:a.tmps.size=50):∃F:Nat→Value,(∀i:Nat,F i=a.eval (.tmp i))∧a=⟨(F 0::F 1::F 2::F 3::F 4::F 5::F 6::F 7::F 8::F 9::F 10::F 11::F 12::F 13::F 14::F 15::F 16::F 17::F 18::F 19::F 20::F 21::F 22::F 23::F 24::F 25::F 26::F 27::F 28::F 29::F 30::F 31::F 32::F 33::F 34::F 35::F 36::F 37::F 38::F 39::F 40::F 41::F 42::F 43::F 44::F 45::F 46::F 47::F 48::F 49::[]).toArray,a.defers⟩:=by
 obtain ⟨tm,df⟩:=a;have h2:(⟨tm,[]⟩:Act).tmps.size=50:=h;have e:=mf h2 rfl;refine ⟨fun i=>(⟨tm,df⟩:Act).eval (.tmp i),fun _=>rfl,?_⟩;have e2:tm=((fun i=>(⟨tm,[]⟩:Act).eval (.tmp i)) 0::(fun i=>(⟨tm,[]⟩:Act).eval (.tmp i)) 1::(fun i=>(⟨tm,[]⟩:Act).eval (.tmp i)) 2::(fun i=>(⟨tm,[]⟩:Act).eval (.tmp i)) 3::(fun i=>(⟨tm,[]⟩:Act).eval (.tmp i)) 4::(fun i=>(⟨tm,[]⟩:Act).eval (.tmp i)) 5::(fun i=>(⟨tm,[]⟩:Act).eval (.tmp i)) 6::(fun i=>(⟨tm,[]⟩:Act).eval (.tmp i)) 7::(fun i=>(⟨tm,[]⟩:Act).eval (.tmp i)) 8::(fun i=>(⟨tm,[]⟩:Act).eval (.tmp i)) 9::(fun i=>(⟨tm,[]⟩:Act).eval (.tmp i)) 10::(fun i=>(⟨tm,[]⟩:Act).eval (.tmp i)) 11::(fun i=>(⟨tm,[]⟩:Act).eval (.tmp i)) 12::(fun i=>(⟨tm,[]⟩:Act).eval (.tmp i)) 13::(fun i=>(⟨tm,[]⟩:Act).eval (.tmp i)) 14::(fun i=>(⟨tm,[]⟩:Act).eval (.tmp i)) 15::(fun i=>(⟨tm,[]⟩:Act).eval (.tmp i)) 16::(fun i=>(⟨tm,[]⟩:Act).eval (.tmp i)) 17::(fun i=>(⟨tm,[]⟩:Act).eval (.tmp i)) 18::(fun i=>(⟨tm,[]⟩:Act).eval (.tmp i)) 19::(fun i=>(⟨tm,[]⟩:Act).eval (.tmp i)) 20::(fun i=>(⟨tm,[]⟩:Act).eval (.tmp i)) 21::(fun i=>(⟨tm,[]⟩:Act).eval (.tmp i)) 22::(fun i=>(⟨tm,[]⟩:Act).eval (.tmp i)) 23::(fun i=>(⟨tm,[]⟩:Act).eval (.tmp i)) 24::(fun i=>(⟨tm,[]⟩:Act).eval (.tmp i)) 25::(fun i=>(⟨tm,[]⟩:Act).eval (.tmp i)) 26::(fun i=>(⟨tm,[]⟩:Act).eval (.tmp i)) 27::(fun i=>(⟨tm,[]⟩:Act).eval (.tmp i)) 28::(fun i=>(⟨tm,[]⟩:Act).eval (.tmp i)) 29::(fun i=>(⟨tm,[]⟩:Act).eval (.tmp i)) 30::(fun i=>(⟨tm,[]⟩:Act).eval (.tmp i)) 31::(fun i=>(⟨tm,[]⟩:Act).eval (.tmp i)) 32::(fun i=>(⟨tm,[]⟩:Act).eval (.tmp i)) 33::(fun i=>(⟨tm,[]⟩:Act).eval (.tmp i)) 34::(fun i=>(⟨tm,[]⟩:Act).eval (.tmp i)) 35::(fun i=>(⟨tm,[]⟩:Act).eval (.tmp i)) 36::(fun i=>(⟨tm,[]⟩:Act).eval (.tmp i)) 37::(fun i=>(⟨tm,[]⟩:Act).eval (.tmp i)) 38::(fun i=>(⟨tm,[]⟩:Act).eval (.tmp i)) 39::(fun i=>(⟨tm,[]⟩:Act).eval (.tmp i)) 40::(fun i=>(⟨tm,[]⟩:Act).eval (.tmp i)) 41::(fun i=>(⟨tm,[]⟩:Act).eval (.tmp i)) 42::(fun i=>(⟨tm,[]⟩:Act).eval (.tmp i)) 43::(fun i=>(⟨tm,[]⟩:Act).eval (.tmp i)) 44::(fun i=>(⟨tm,[]⟩:Act).eval (.tmp i)) 45::(fun i=>(⟨tm,[]⟩:Act).eval (.tmp i)) 46::(fun i=>(⟨tm,[]⟩:Act).eval (.tmp i)) 47::(fun i=>(⟨tm,[]⟩:Act).eval (.tmp i)) 48::(fun i=>(⟨tm,[]⟩:Act).eval (.tmp i)) 49::[]).toArray:=congrArg Act.tmps e;exact congrArg (fun t=>(⟨t,df⟩:Act)) e2
theorem Lj {x:Int} (h:0≤x∧x≤255):IntKind.i64.wrap x=x:=by
 unfold IntKind.wrap;simp [IntKind.bits,IntKind.signed];omega
theorem KM:uC Tryz.prog 61 63 6:=vg F4 Tryz.underlying61 (by decide) rfl (by decide)
theorem Fs:∀x:aa,∀u∈x.cellsR,u.oneCell'=true:=by
 intro x u hu;simp only [aa.cellsR,List.mem_cons,List.not_mem_nil,or_false] at hu;rcases hu with rfl | rfl | rfl | rfl | rfl | rfl <;> rfl
theorem IQ {W:World} {b:Nat} {cs:Array Value} {t:TypeId} (h:W.heap[b]? = some (.cells cs t (0,0))):∀j,W.frozen? ⟨b,j,none⟩=false:=fun j=>by simp [World.frozen?,h]
structure Ll (q:Nat) (w9 wr:World) (s:aa) (v4 v5:Value) (k:Nat) (A:Option Addr) (c:Nat) (cur:List ae):Prop where
 low:Below w9.heap.size (mask q w9) (mask q wr)
 box:wr.heap[q]? = some (.cells #[.int .i64 s.kind,.string s.name,.slice A cur.length c,.int .i64 s.bound,v4,v5] 63 (0,0))
 acc:gX tN 101 ae.cellsR w9.heap.size wr A c cur
 eq:cur.map av=(s.exprs.take k).map av
def ul (n0:Nat) (W0:World) (sp:Sp) (l:List aa):Prop:=∀W,Below n0 W0 W→n0≤W.heap.size →
 Calls Tryz.prog 29 #[.slice sp.at_ l.length sp.cap] W fun o w'=>∃(A:Option Addr) (c:Nat) (m:List aa),o=.returned (.slice A m.length c)∧m.map ah=l.map ah∧gX Kk 63 aa.cellsR W.heap.size w' A c m∧Below W.heap.size W w'
set_option maxRecDepth 1000000 in
set_option maxHeartbeats 8000000 in
theorem FJ {n0:Nat} {W0:World} {sp:Sp} {l:List aa} (hr:bX n0 W0 sp l) (hl:ay l≤900000) (ih:∀s∈l,ul n0 W0 s.ts s.thn∧ul n0 W0 s.os s.els):ul n0 W0 sp l:=by
 intro w hw0 hn0;have HR:=zhd ((hr.below hw0).more hn0);have HIH:=zhd fun (i:Nat) (hi:i<l.length) (W:World) (hW:Below w.heap.size w W)=>And.intro ((ih _ (List.getElem_mem hi)).1 W (hw0.trans (hW.mono hn0)) (Nat.le_trans hn0 hW.size)) ((ih _ (List.getElem_mem hi)).2 W (hw0.trans (hW.mono hn0)) (Nat.le_trans hn0 hW.size))
 have HHF:=zhd fun (i:Nat) (hi:i<l.length)=>Nat.le_trans (bM l _ (List.getElem_mem hi)) hl
 have HKD:=zhd fun (i:Nat) (hi:i<l.length)=>(match hr.ok _ (List.getElem_mem hi) with | .mk _ a _ _ _ _ _ _ _ _=>a:0≤l[i].kind∧l[i].kind≤255)
 have HLL:=zhd (Nat.le_trans (fo l) hl);have hfew:=hr.row.few;have hcap:=hr.row.cap;have hbig:=hr.row.big;clear hr ih hw0 hl;go_enter Tryz.func29,Tryz.ntmps29
 go_wp2_with fail
 generalize hb0:w.heap.size=b0 at *;have HB0:=zhd hb0;have HB0L:Hid (b0≤w.heap.size):=zhd (by omega);clear hb0;go_loopw [11,3] (fun s11 s3 wr=>∃(k:Nat) (A:Option Addr) (c:Nat) (cur:List aa),k≤l.length∧s11=.int .i64 k∧s3=.slice A cur.length c∧gX Kk 63 aa.cellsR b0 wr A c cur∧cur.map ah=(l.take k).map ah∧Below b0 w wr) (fun s11 _ _=>l.length - (intOf s11).toNat)
 case atStart=>exact ⟨0,none,0,[],Nat.zero_le _,rfl,rfl,gX.nil,rfl,Below.refl _ _⟩
 case round =>
  obtain ⟨k,A,c,cur,hk,rfl,rfl,hacc,heq,hlow⟩:=hrel;have hk0:(0:Int)≤(k:Int):=by omega
  have hcl:cur.length=k:=by
   have h1:=congrArg List.length heq;rw [List.length_map,List.length_map,List.length_take] at h1;omega
  have HCL:=zhd hcl;have HACC:=zhd hacc;have HEQ:=zhd heq;have HLOW:=zhd hlow;have HSZ:Hid (b0≤wr.heap.size):=zhd (Nat.le_trans HB0L.out hlow.size);clear hacc heq hlow hcl;by_cases hlt:k<l.length
  ·obtain ⟨g,o,eA,hg,hc⟩:=(HR.out.row.below HLOW.out).row (by omega)
   have hc2:=hc k hlt;have HTK:Hid (l.take (k+1)=l.take k++[l[k]]):=zhd (List.take_succ_eq_append_getElem hlt);have HS:=zhd (HR.out.ok _ (List.getElem_mem hlt));have HTH:=zhd fun (W:World) (hW:Below b0 w W)=>(HIH.out k hlt W hW).1
   have HEL:=zhd fun (W:World) (hW:Below b0 w W)=>(HIH.out k hlt W hW).2
   have HHK:=zhd (HHF.out k hlt);have HKK:=zhd (HKD.out k hlt);have hk1:(k:Int)<(l.length:Int):=by omega
   clear hc;generalize l[k]=s at *;have k0:=hc2 0 _ rfl;rw [Nat.add_zero] at k0;have k1:=hc2 1 _ rfl;have k2:wr.cell? ⟨g,o+k*6+2,none⟩=some (.slice s.es.at_ s.exprs.length s.es.cap):=hc2 2 _ rfl;have k3:=hc2 3 _ rfl;have k4:wr.cell? ⟨g,o+k*6+4,none⟩=some (.slice s.ts.at_ s.thn.length s.ts.cap):=hc2 4 _ rfl;have k5:wr.cell? ⟨g,o+k*6+5,none⟩=some (.slice s.os.at_ s.els.length s.os.cap):=hc2 5 _ rfl;have hba:=zba wr (.cells #[.int .u8 s.kind,.string s.name,.slice s.es.at_ s.exprs.length s.es.cap,.int .i64 s.bound,.slice s.ts.at_ s.thn.length s.ts.cap,.slice s.os.at_ s.els.length s.os.cap] 43);have hxa:=zan wr (.cells #[.int .u8 s.kind,.string s.name,.slice s.es.at_ s.exprs.length s.es.cap,.int .i64 s.bound,.slice s.ts.at_ s.thn.length s.ts.cap,.slice s.os.at_ s.els.length s.os.cap] 43);have HLA:=zhd (HLOW.out.trans (hba.mono HSZ.out));have HAC5:=zhd (HACC.out.on Jz hba);have HSZ5:Hid (b0≤(wr.alloc (.cells #[.int .u8 s.kind,.string s.name,.slice s.es.at_ s.exprs.length s.es.cap,.int .i64 s.bound,.slice s.ts.at_ s.thn.length s.ts.cap,.slice s.os.at_ s.els.length s.os.cap] 43)).heap.size):=zhd (Nat.le_trans HSZ.out hba.size);have HXA:=zhd hxa;clear hc2 hba HACC HLOW HSZ hxa;rw [eA];go_upto_region 5 with fail
   clear k0 k1 k2 k3 k4 k5;generalize wr.alloc (.cells #[.int .u8 s.kind,.string s.name,.slice s.es.at_ s.exprs.length s.es.cap,.int .i64 s.bound,.slice s.ts.at_ s.thn.length s.ts.cap,.slice s.os.at_ s.els.length s.os.cap] 43)=W5 at *;generalize wr.heap.size=bx at *;have hl1:s.thn.length≤900000:=by have h1:=bR s;have h2:=fo s.thn;have:=HHK.out;omega
   have hl2:s.els.length≤900000:=by have h1:=bR s;have h2:=fo s.els;have:=HHK.out;omega
   have HXL:Hid (aF s.exprs≤900000):=zhd (by have h1:=bR s;have:=HHK.out;omega);have HEN:Hid (s.exprs.length≤900000):=zhd (Nat.le_trans (uy s.exprs) HXL.out);refine Code.wp_mono ?_ (qL (C':=.region 5 opsRT true) (by kernel_rfl) (K9 rfl bx s rfl HXA.out (Lj HKK.out) (fun W hW=>HTH.out W (HLA.out.trans (hW.mono HSZ5.out))) (fun W hW=>HEL.out W (HLA.out.trans (hW.mono HSZ5.out))) hl1 hl2));rintro ex a9 w9 ⟨rfl,hsz9,hd9,hkp,hlow9,b6,A1,A2,c1,c2,m1,m2,h6,hb6,hbx6,hf1,hf2⟩;obtain ⟨F,hF,hfr⟩:=Ad hsz9;rw [hfr,hd9];have gk:∀i:Nat,zt i=true→F i=_:=fun i hi=>(hF i).trans (au (hkp i hi))
   have g6:F 6=.pointer (some ⟨b6,0,none⟩):=(hF 6).trans (au h6);have g0:=gk 0 rfl;have g1:=gk 1 rfl;have g2:=gk 2 rfl;have g3:=gk 3 rfl;have g4:=gk 4 rfl;have g5:=gk 5 rfl;have g7:=gk 7 rfl;have g8:=gk 8 rfl;have g9:=gk 9 rfl;have g10:=gk 10 rfl;have g11:=gk 11 rfl;have g12:=gk 12 rfl;have g13:=gk 13 rfl;have g14:=gk 14 rfl;have g29:=gk 29 rfl;have g30:=gk 30 rfl;have g31:=gk 31 rfl;have g32:=gk 32 rfl;have g33:=gk 33 rfl;have g34:=gk 34 rfl;have g35:=gk 35 rfl;have g36:=gk 36 rfl;have g37:=gk 37 rfl;have g38:=gk 38 rfl;have g39:=gk 39 rfl;have g40:=gk 40 rfl;have g41:=gk 41 rfl;have g42:=gk 42 rfl;have g43:=gk 43 rfl;have g44:=gk 44 rfl;have g45:=gk 45 rfl;have g46:=gk 46 rfl;have g47:=gk 47 rfl;have g48:=gk 48 rfl;have g49:=gk 49 rfl;simp only [List.getElem?_toArray,List.getElem?_cons_zero,List.getElem?_cons_succ,Option.getD_some] at g0 g1 g2 g3 g4 g5 g7 g8 g9 g10 g11 g12 g13 g14 g29 g30 g31 g32 g33 g34 g35 g36 g37 g38 g39 g40 g41 g42 g43 g44 g45 g46 g47 g48 g49;rw [g6,g0,g1,g2,g3,g4,g5,g7,g8,g9,g10,g11,g12,g13,g14,g29,g30,g31,g32,g33,g34,g35,g36,g37,g38,g39,g40,g41,g42,g43,g44,g45,g46,g47,g48,g49];clear gk hF hfr hkp hsz9 hd9 g6 g0 g1 g2 g3 g4 g5 g7 g8 g9 g10 g11 g12 g13 g14 g29 g30 g31 g32 g33 g34 g35 g36 g37 g38 g39 g40 g41 g42 g43 g44 g45 g46 g47 g48 g49;have HX9:=zhd ((hlow9.block bx (zgs HXA.out).1).trans HXA.out);have HL9:=zhd (HLA.out.trans (hlow9.mono HSZ5.out));have HB9:=zhd hlow9;have HF1:=zhd hf1;have HF2:=zhd hf2;have HBX:=zhd (zgs hbx6).1;have HB6:=zhd hb6;have HST:Hid (Ll b6 w9 w9 s (.slice A1 m1.length c1) (.slice A2 m2.length c2) 0 none 0 []):=zhd ⟨Below.refl _ _,hbx6,gX.nil,rfl⟩;obtain ⟨x0,x1,x2,x3,x4,x5⟩:=ag HX9.out;clear hlow9 hf1 hf2 hbx6 hb6 HXA HTH HEL hl1 hl2 x0 x1 x3 x4 x5 HKK;go_upto_region 7 with fail
   clear x2;go_loopw [32] (fun s32 wr=>∃(j:Nat) (B:Option Addr) (d:Nat) (ex:List ae),j≤s.exprs.length∧s32=.int .i64 j∧Ll b6 w9 wr s (.slice A1 m1.length c1) (.slice A2 m2.length c2) j B d ex) (fun s32 _=>s.exprs.length - (intOf s32).toNat)
   case atStart=>exact ⟨0,none,0,[],Nat.zero_le _,rfl,HST.out⟩
   case round =>
    clear HST;obtain ⟨j,B,d,ex,hj,rfl,hst⟩:=hrel;have HS1:=zhd hst;have HW1:Hid (Below W5.heap.size W5 wr):=zhd (HB9.out.trans (lQ (q:=b6) HB6.out (hst.low.mono HB9.out.size)));clear hst;have hj0:(0:Int)≤(j:Int):=by omega
    by_cases hlt2:j<s.exprs.length
    ·obtain ⟨g2,o2,eB,hg2,hc⟩:=(HS.out.xs.row.below (HLA.out.trans (HW1.out.mono HSZ5.out))).row (by omega)
     have hc2:=hc j hlt2;have HEQ2:Hid (s.exprs.take (j+1)=s.exprs.take j++[s.exprs[j]]):=zhd (List.take_succ_eq_append_getElem hlt2);have HXO:=zhd (II (HS.out.xs.ok _ (List.getElem_mem hlt2)) (Nat.le_trans (vw (List.getElem_mem hlt2)) HXL.out));have hj1:(j:Int)<(s.exprs.length:Int):=by omega
     have hcl:ex.length≤900000:=by
      have h1:=congrArg List.length HS1.out.eq;rw [List.length_map,List.length_map,List.length_take] at h1;have:=HEN.out;omega
     have HCX:=zhd hcl;clear hc hcl;generalize s.exprs[j]=x at *;have k0:=hc2 0 _ rfl;rw [Nat.add_zero] at k0;have k1:=hc2 1 _ rfl;have k2:=hc2 2 _ rfl;have k3:=hc2 3 _ rfl;have k4:=hc2 4 _ rfl;have k5:wr.cell? ⟨g2,o2+j*6+5,none⟩=some (.slice x.sp.at_ x.subs.length x.sp.cap):=hc2 5 _ rfl;have hba:=zba wr (.cells #[.int .u8 x.kind,.int .u8 x.op,.int .u32 x.value,.int .i64 x.width,.string x.name,.slice x.sp.at_ x.subs.length x.sp.cap] 30);have hxa:=zan wr (.cells #[.int .u8 x.kind,.int .u8 x.op,.int .u32 x.value,.int .i64 x.width,.string x.name,.slice x.sp.at_ x.subs.length x.sp.cap] 30);have hsz:=HS1.out.low.size;rw [bE,bE] at hsz;have hxx:=(HS1.out.low.trans (gF (q:=b6) (by have:=HBX.out;omega) (hba.mono hsz)));have HS5:Hid (Ll b6 w9 (wr.alloc (.cells #[.int .u8 x.kind,.int .u8 x.op,.int .u32 x.value,.int .i64 x.width,.string x.name,.slice x.sp.at_ x.subs.length x.sp.cap] 30)) s (.slice A1 m1.length c1) (.slice A2 m2.length c2) j B d ex):=zhd ⟨hxx,(hba.block _ (by have:=HBX.out;omega)).trans HS1.out.box,HS1.out.acc.on tQ hba,HS1.out.eq⟩;have HXA:=zhd hxa;have HSW:Hid (w9.heap.size≤(wr.alloc (.cells #[.int .u8 x.kind,.int .u8 x.op,.int .u32 x.value,.int .i64 x.width,.string x.name,.slice x.sp.at_ x.subs.length x.sp.cap] 30)).heap.size):=zhd (Nat.le_trans hsz hba.size);have HWB:=zhd ((HLA.out.trans (HW1.out.mono HSZ5.out)).trans (hba.mono (Nat.le_trans HSZ5.out HW1.out.size)));clear hc2 hba hxa hxx HS1 hsz HW1;rw [eB];go_upto_region 9 with fail
     clear k0 k1 k2 k3 k4 k5;generalize wr.alloc (.cells #[.int .u8 x.kind,.int .u8 x.op,.int .u32 x.value,.int .i64 x.width,.string x.name,.slice x.sp.at_ x.subs.length x.sp.cap] 30)=W6 at *;generalize wr.heap.size=by_ at *;refine Code.wp_mono ?_ (qL (C':=.region 9 opsRS true) (by kernel_rfl) (K8 rfl b6 by_ w9.heap.size w9 x B d ex s.kind s.bound s.name _ _ rfl rfl HS5.out.box HXA.out (fun W hW=>HXO.out W (HWB.out.trans (hW.mono (by have:=HSZ5.out;have:=HSW.out;have:=HB9.out.size;omega))) (by have:=HSZ5.out;have:=HSW.out;have:=HB9.out.size;have:=hW.size;omega)) HS5.out.acc (Nat.le_refl _) HBX.out HSW.out HS5.out.low HCX.out));rintro ex9 a9 w7 ⟨rfl,hsz9,hd9,hkp,hlow7,y,B',d',hbx7,hbare,hacc7⟩;obtain ⟨G,hG,hfr⟩:=Ad hsz9;rw [hfr,hd9];have gk:∀i:Nat,zq i=true→G i=_:=fun i hi=>(hG i).trans (au (hkp i hi))
     have g0:=gk 0 rfl;have g1:=gk 1 rfl;have g2:=gk 2 rfl;have g3:=gk 3 rfl;have g4:=gk 4 rfl;have g5:=gk 5 rfl;have g6:=gk 6 rfl;have g7:=gk 7 rfl;have g8:=gk 8 rfl;have g9:=gk 9 rfl;have g10:=gk 10 rfl;have g11:=gk 11 rfl;have g12:=gk 12 rfl;have g13:=gk 13 rfl;have g14:=gk 14 rfl;have g15:=gk 15 rfl;have g16:=gk 16 rfl;have g17:=gk 17 rfl;have g18:=gk 18 rfl;have g19:=gk 19 rfl;have g20:=gk 20 rfl;have g21:=gk 21 rfl;have g22:=gk 22 rfl;have g23:=gk 23 rfl;have g24:=gk 24 rfl;have g25:=gk 25 rfl;have g26:=gk 26 rfl;have g27:=gk 27 rfl;have g28:=gk 28 rfl;have g29:=gk 29 rfl;have g30:=gk 30 rfl;have g31:=gk 31 rfl;have g32:=gk 32 rfl;have g33:=gk 33 rfl;have g34:=gk 34 rfl;have g35:=gk 35 rfl;have g43:=gk 43 rfl;have g44:=gk 44 rfl;have g45:=gk 45 rfl;have g46:=gk 46 rfl;have g47:=gk 47 rfl;have g48:=gk 48 rfl;have g49:=gk 49 rfl;simp only [List.getElem?_toArray,List.getElem?_cons_zero,List.getElem?_cons_succ,Option.getD_some] at g0 g1 g2 g3 g4 g5 g6 g7 g8 g9 g10 g11 g12 g13 g14 g15 g16 g17 g18 g19 g20 g21 g22 g23 g24 g25 g26 g27 g28 g29 g30 g31 g32 g33 g34 g35 g43 g44 g45 g46 g47 g48 g49;rw [g0,g1,g2,g3,g4,g5,g6,g7,g8,g9,g10,g11,g12,g13,g14,g15,g16,g17,g18,g19,g20,g21,g22,g23,g24,g25,g26,g27,g28,g29,g30,g31,g32,g33,g34,g35,g43,g44,g45,g46,g47,g48,g49];clear gk hG hfr hkp hsz9 hd9 g0 g1 g2 g3 g4 g5 g6 g7 g8 g9 g10 g11 g12 g13 g14 g15 g16 g17 g18 g19 g20 g21 g22 g23 g24 g25 g26 g27 g28 g29 g30 g31 g32 g33 g34 g35 g43 g44 g45 g46 g47 g48 g49;have HS7:Hid (Ll b6 w9 w7 s (.slice A1 m1.length c1) (.slice A2 m2.length c2) (j+1) B' d' (ex++[y])):=zhd ⟨hlow7,hbx7,hacc7,by rw [HEQ2.out,List.map_append,List.map_append,HS5.out.eq,List.map_cons,List.map_cons,hbare]⟩;clear hlow7 hbx7 hbare hacc7 HS5 HXA HXO HEQ2 HCX HSW HWB;go_wp2_with fail
     have hw:wrap64 ((j:Int)+1)=(j:Int)+1:=IntWalk.wrap64_in _ ⟨by omega,by have:=HEN.out;omega⟩;rw [hw];clear hw;go_roundw
     case rel =>
      exact ⟨j+1,B',d',ex++[y],hlt2,by go_num,HS7.out⟩
     case measure=>simp [intOf];omega
    ·obtain rfl:j=s.exprs.length:=by omega
     have hel2:ex.length≤1000000:=by
      have h1:=congrArg List.length HS1.out.eq;rw [List.length_map,List.length_map,List.length_take] at h1;have:=HEN.out;omega
     obtain ⟨hrw,hel⟩:=HS1.out.acc.row tQ (fun _=>rfl) hel2;have hs9:=HS1.out.low.size;rw [bE,bE] at hs9;have hmv:∀(p:Addr) (u:Value),p.block<wr.heap.size→(dK w9.heap.size (gK none wr)).cell? p=some u→(dK W5.heap.size (gK none wr)).cell? p=some u:=jc fun b h1 _ _=>⟨Nat.le_trans HB9.out.size h1,by simp,rfl⟩
     have hmh:∀(p:Addr) (u:Value),p.block<w9.heap.size→(dK W5.heap.size (gK (some b6) w9)).cell? p=some u→(dK W5.heap.size (gK none wr)).cell? p=some u:=jc fun b h1 h2 h3=>⟨h1,by simp,mH HS1.out.low h3 (fun e=>h2 (by rw [e]))⟩
     have ht:=HF1.out.rd.cells hs9 hmh;have ho:=HF2.out.rd.cells hs9 hmh;have HY:Hid (Kk W5.heap.size none wr (.mk s.kind s.name ⟨B,d⟩ ex s.bound ⟨A1,c1⟩ m1 ⟨A2,c2⟩ m2:aa)):=zhd (j5.mk (.mk s.kind s.name ⟨B,d⟩ ex s.bound ⟨A1,c1⟩ m1 ⟨A2,c2⟩ m2:aa) (hrw.cells hmv) (fun x hx=>(hel x hx).cells (Nat.le_refl _) hmv) ht.row ht.ok ho.row ho.ok);have HBY:Hid (ah (.mk s.kind s.name ⟨B,d⟩ ex s.bound ⟨A1,c1⟩ m1 ⟨A2,c2⟩ m2:aa)=ah s):=zhd (by
      have e1:=HF1.out.eq;have e2:=HF2.out.eq;have e3:ex.map av=s.exprs.map av:=by rw [HS1.out.eq,List.take_length]
      cases s
      rw [bC,bC];simp only [aa.thn,aa.els,aa.exprs] at e1 e2 e3;simp only [aa.kind,aa.name,aa.bound,e1,e2,e3])
     have hba:=zba wr (.cells #[.int .i64 s.kind,.string s.name,.slice B ex.length d,.int .i64 s.bound,.slice A1 m1.length c1,.slice A2 m2.length c2] 63);have HBX2:Hid (wr.heap[b6]? = some (.cells #[.int .i64 s.kind,.string s.name,.slice B ex.length d,.int .i64 s.bound,.slice A1 m1.length c1,.slice A2 m2.length c2] 63 (0,0))):=zhd HS1.out.box;have hw1s:=HW1.out.size;have HOA:=zhd ((HAC5.out.on Jz HW1.out).on Jz hba);have HYA:=zhd (Jz.far (lo':=b0) (Jz.below HY.out hba) (fun b e=>HAC5.out.own.old_block b e) HSZ5.out);have HRS:=zhd (row_one (enc:=aa.cellsR) (x:=(.mk s.kind s.name ⟨B,d⟩ ex s.bound ⟨A1,c1⟩ m1 ⟨A2,c2⟩ m2:aa)) (k:=6) (zan wr (.cells #[.int .i64 s.kind,.string s.name,.slice B ex.length d,.int .i64 s.bound,.slice A1 m1.length c1,.slice A2 m2.length c2] 63)));have HSZA:Hid (b0≤(wr.alloc (.cells #[.int .i64 s.kind,.string s.name,.slice B ex.length d,.int .i64 s.bound,.slice A1 m1.length c1,.slice A2 m2.length c2] 63)).heap.size):=zhd (Nat.le_trans HSZ5.out (Nat.le_trans hw1s hba.size));have HBA:=zhd ((HLA.out.trans (HW1.out.mono HSZ5.out)).trans (hba.mono (Nat.le_trans HSZ5.out hw1s)));have HLN:Hid (cur.length+1≤1000000):=zhd (by have:=HCL.out;have:=HLL.out;omega);clear hmv hmh ht ho hrw hel hs9 hba hw1s HS1 HW1 HAC5 HY;go_wp2_with (first
      | (refine wpList_load_row rfl 63 _ rfl b6 rfl 63 _ (0,0) _ HBX2.out Tryz.underlying63 rfl lM ?_)
      | (at_builtin;refine iP rfl (.tmp 44) (.tmp 46) 61 rfl KM (fun _=>rfl) Fs _ cur rfl HOA.out.own ⟨some ⟨wr.heap.size,0,none⟩,1⟩ [(.mk s.kind s.name ⟨B,d⟩ ex s.bound ⟨A1,c1⟩ m1 ⟨A2,c2⟩ m2:aa)] rfl HRS.out HLN.out HSZA.out ?_)
      | fail)
     intro v2 w2 hown2 hg2 hat2;obtain ⟨A3,c3,rfl,hac3⟩:=HOA.out.push Jz HYA.out hown2 hg2 (by rw [World.size_alloc];exact hat2);have hlow:=HOA.out.own.below hg2 (Nat.le_refl _) (Below.refl b0 _) HSZA.out;have HAC3:=zhd hac3;have HB3:=zhd (HBA.out.trans hlow);clear hown2 hg2 hat2 hlow hac3 HOA HYA HRS HBA HSZA;have hw:wrap64 ((k:Int)+1)=(k:Int)+1:=IntWalk.wrap64_in _ ⟨by omega,by omega⟩;go_wp2_with fail
     exact ⟨⟨k+1,A3,c3,_,hlt,by go_num,rfl,HAC3.out,by rw [HTK.out,List.map_append,List.map_append,HEQ.out,List.map_cons,List.map_cons,HBY.out],HB3.out⟩,by simp [intOf];omega⟩
  ·obtain rfl:k=l.length:=by omega
   rw [List.take_length] at HEQ;go_wp2_with fail
   go_ret
   exact ⟨A,c,cur,rfl,HEQ.out,by rw [HB0.out];exact HACC.out,by rw [HB0.out];exact HLOW.out⟩
theorem vZ {n0:Nat} {W0:World}:∀(N:Nat) {sp:Sp} {l:List aa},ay l≤N→N≤900000→bX n0 W0 sp l→ul n0 W0 sp l
 | N,_,l,h,hN,hr=>FJ hr (Nat.le_trans h hN) fun s hs=>by
  have h1:=bM l s hs;have h2:=bR s
  match N with
  | 0=>omega
  | N+1=>exact ⟨vZ N (by omega) (by omega) (hr.ok s hs).then_,vZ N (by omega) (by omega) (hr.ok s hs).else_⟩
end
end Go.Proofs.YtepacjkacjabbaaGreatDoor
