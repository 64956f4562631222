import Derived.Test.YtepacjkacjabbaaGreatDoorPAA
import Derived.Test.YtepacjkacjabbaaGreatDoorPBD
import Derived.Test.YtepacjkacjabbaaGreatDoorPBF
import Derived.Test.YtepacjkacjabbaaGreatDoorPBG
import Derived.Laws.ResultCell
import Derived.Test.YtepacjkacjabbaaGreatDoorPAE
import Derived.Sort.CutIn
import Derived.Laws.EntriesVeiled
import Derived.Test.YtepacjkacjabbaaGreatDoorPAG
import Derived.Maps.OwnIn
import Derived.WalkMore
namespace Go.Proofs.YtepacjkacjabbaaGreatDoor
section
open Go Go.RowKit Go.Maps
theorem tZ {P:Program} {fn:Func} {p u:Tmp} {ty:TypeId} (h:fn.results=#[.cell p ty,.tmp u]) (tmps:Array Value) (w:World) (g:Nat) (t:TypeId) (cs:Array Value) (fr:Nat × Nat) (d:TypeDesc)
  (hp:tmps.getD p undef=.pointer (some ⟨g,0,none⟩)) (hg:w.heap[g]? = some (.cells cs t fr))
  (hu:P.underlying ty=some d) (hd:(match d with | .struct _ | .array _ _=>true | _=>false)=true) (hi:(P.info? ty).map (·.size)=some cs.size) :
  (results fn tmps).run P w=.ok (.tuple #[.agg cs,tmps.getD u undef]) w:=by
 rw [results_cell_tmp h,hp];simp [asAddr,run_loadVar_row w g t ty cs fr d hg hu hd hi,Result.andThen]
def Jm (lo:Nat) (b:Bool) (w:World) (base:List aa) (sp:Sp) (l:List aa) (sp1:Sp) (l1:List aa):Prop:=(b=true→l1.map ah=(aX base).map ah∧bQ lo w sp1 l1)∧(b=false→sp1=sp∧l1=l)
theorem Jm.on {s0 lo:Nat} {w w':World} {b:Bool} {base:List aa} {sp sp1:Sp} {l l1:List aa} (h:Jm lo b w base sp l sp1 l1) (hm:Mk s0 w w') (hs:s0<lo):Jm lo b w' base sp l sp1 l1:=⟨fun hb=>⟨(h.1 hb).1,(h.1 hb).2.on hm hs⟩,h.2⟩
theorem Jm.off {lo:Nat} {w:World} {base:List aa} {sp:Sp} {l:List aa}:Jm lo false w base sp l sp l:=⟨fun h=>(by cases h),fun _=>⟨rfl,rfl⟩⟩
noncomputable def opsR10:Array Oper:=((Tryz.f42.body.bind (opsOf 10)).getD #[])
def zo (t:Nat):Bool:=decide (t≤33)
theorem Fy:dR opsR10 10 43 zo=true:=by kernel_rfl
def l7 (bq lo:Nat) (p q:af) (w0:World) (L:Nat→Bool) (w:World):Prop:=Mk bq w0 w∧∃(s1:Sp) (l1:List aa) (s2:Sp) (l2:List aa),Bx bq w { q with ws:=s1,work:=l1,cs:=s2,recover:=l2 }∧Jm lo (L 7) w p.work q.ws q.work s1 l1∧Jm lo (L 9) w p.recover q.cs q.recover s2 l2
theorem l7.flag {bq lo k:Nat} {p q:af} {w0:World} {L:Nat→Bool} {w:World} (hk:k≠7∧k≠9) (h:l7 bq lo p q w0 L w):l7 bq lo p q w0 (jr L k) w:=by
 unfold l7 at h ⊢;rw [ai (Ne.symm hk.1),ai (Ne.symm hk.2)];exact h
theorem l7.on {bq lo:Nat} {p q:af} {w0:World} {L:Nat→Bool} {w w':World} (hs:bq<lo) (h:l7 bq lo p q w0 L w) (hb:Below w.heap.size w w'):l7 bq lo p q w0 L w':=by
 obtain ⟨hm,s1,l1,s2,l2,hx,y0,y1⟩:=h;have hm2:=Mk.of hb hx.lt;exact ⟨hm.trans hm2,s1,l1,s2,l2,hx.on hb,y0.on hm2 hs,y1.on hm2 hs⟩
set_option maxRecDepth 10000000 in
set_option maxHeartbeats 64000000 in
theorem Jb {a0:Act} {w0:World} (hsz:a0.tmps.size=43) (bp bq lo n0:Nat) (W0:World) (p q:af) (hlo:bq<lo) (hlw:lo≤w0.heap.size) (hn0:n0≤bq) (hne:bp≠bq) (hlow:Below n0 W0 w0)
  (f1:a0.tmps[1]?.getD undef=.pointer (some ⟨bp,0,none⟩)) (f8:a0.tmps[8]?.getD undef=.pointer (some ⟨bq,0,none⟩)) (hbp:Bx bp w0 p) (hbx:Bx bq w0 q) (hl1:p.work.length≤1000000) (hl2:p.recover.length≤1000000) (ih1:uI n0 W0 p.ws p.work) (ih2:uI n0 W0 p.cs p.recover) :
  (Code.region 10 opsR10 true).wp Tryz.prog (fun e a w=>e=.normal∧a.tmps.size=43∧a.defers=a0.defers∧(∀t:Nat,zo t=true→a.tmps[t]?.getD undef=a0.tmps[t]?.getD undef)∧l7 bq lo p q w0 (fun _=>true) w) a0 w0:=by
 have hbpl:=hbp.lt;refine aP (n:=10) (sz:=43) (keep:=zo) rfl Fy hsz (l7 bq lo p q w0) (fun _ w w'=>Mk bq w w') (⟨(Below.refl _ _).drew,q.ws,q.work,q.cs,q.recover,hbx,Jm.off,Jm.off⟩) ?_;have e:opsR10.toList=opsR10.toList:=rfl
 conv at e=>rhs;arg 1;whnf
 simp only at e;rw [e];clear e
 apply ak.exact rfl rfl
 ·exact fun _ _ h=>l7.flag (by decide) h
 ·exact fun w=>Mk.refl
 ·rintro L a w ⟨-,hS,hbeh,hsm,haft⟩
  have f1:a.tmps[1]?.getD undef=_:=(hsm 1 rfl).trans f1;simp [go_sem,f1];exact rfl
 apply ak.exact rfl rfl
 ·exact fun _ _ h=>l7.flag (by decide) h
 ·exact fun w=>Mk.refl
 ·rintro L a w ⟨-,hS,hbeh,hsm,haft⟩
  have f34:a.tmps[34]?.getD undef=_:=aj (haft.1 rfl).2;have hbp2:Bx bp w p:=(hS.1.heap hne hbpl).trans hbp;have hc:w.cell? ⟨bp,14,none⟩=some (.slice p.ws.at_ p.work.length p.ws.cap):=hbp2.cell 14 rfl;simp [go_sem,f34,hc];exact rfl
 refine ak.any (fun L v w=>∃(sp':Sp) (l':List aa),v=.slice sp'.at_ l'.length sp'.cap∧l'.map ah=(aX p.work).map ah∧bQ lo w sp' l') rfl ?_ ?_ ?_
 ·exact fun _ _ _ _ _ _ hm ⟨sp',l',h1,h2,h3⟩=>⟨sp',l',h1,h2,h3.on hm hlo⟩
 ·rintro L a w ⟨hL,hS,hbeh,hsm,haft⟩
  have f35:a.tmps[35]?.getD undef=_:=aj (haft.1 rfl).2;have hS2:=hS;obtain ⟨hm,s1,l1,s2,l2,hx,y0,y1⟩:=hS;refine Oper.wp_enter (f:=101) (args:=#[.slice p.ws.at_ p.work.length p.ws.cap]) (w':=w) ?_ ?_
  ·simp [go_sem,f35]
  ·refine (ih1 w (hlow.trans (hm.below hn0 (by omega))) (by have:=hm.size;omega)).mono ?_
   rintro o w' ⟨A,c,l',rfl,h1,hown,hnew,hb⟩;have hlen:=rU h1;exact ⟨_,rfl,_,rfl,fun e=>(by cases e),⟨⟨A,c⟩,l',rfl,h1,(lG hown (fun s hs=>(hnew s hs).newT) (by omega)).less (Nat.le_trans hlw hm.size)⟩,l7.flag (by decide) (hS2.on hlo hb),Mk.of hb hx.lt⟩
 apply ak.exact rfl rfl
 ·exact fun _ _ h=>l7.flag (by decide) h
 ·exact fun w=>Mk.refl
 ·rintro L a w ⟨-,hS,hbeh,hsm,haft⟩
  have f1:a.tmps[1]?.getD undef=_:=(hsm 1 rfl).trans f1;simp [go_sem,f1];exact rfl
 apply ak.exact rfl rfl
 ·exact fun _ _ h=>l7.flag (by decide) h
 ·exact fun w=>Mk.refl
 ·rintro L a w ⟨-,hS,hbeh,hsm,haft⟩
  have f37:a.tmps[37]?.getD undef=_:=aj (haft.1 rfl).2;have hbp2:Bx bp w p:=(hS.1.heap hne hbpl).trans hbp;have hc:w.cell? ⟨bp,15,none⟩=some (.slice p.cs.at_ p.recover.length p.cs.cap):=hbp2.cell 15 rfl;simp [go_sem,f37,hc];exact rfl
 refine ak.any (fun L v w=>∃(sp':Sp) (l':List aa),v=.slice sp'.at_ l'.length sp'.cap∧l'.map ah=(aX p.recover).map ah∧bQ lo w sp' l') rfl ?_ ?_ ?_
 ·exact fun _ _ _ _ _ _ hm ⟨sp',l',h1,h2,h3⟩=>⟨sp',l',h1,h2,h3.on hm hlo⟩
 ·rintro L a w ⟨hL,hS,hbeh,hsm,haft⟩
  have f38:a.tmps[38]?.getD undef=_:=aj (haft.1 rfl).2;have hS2:=hS;obtain ⟨hm,s1,l1,s2,l2,hx,y0,y1⟩:=hS;refine Oper.wp_enter (f:=101) (args:=#[.slice p.cs.at_ p.recover.length p.cs.cap]) (w':=w) ?_ ?_
  ·simp [go_sem,f38]
  ·refine (ih2 w (hlow.trans (hm.below hn0 (by omega))) (by have:=hm.size;omega)).mono ?_
   rintro o w' ⟨A,c,l',rfl,h1,hown,hnew,hb⟩;have hlen:=rU h1;exact ⟨_,rfl,_,rfl,fun e=>(by cases e),⟨⟨A,c⟩,l',rfl,h1,(lG hown (fun s hs=>(hnew s hs).newT) (by omega)).less (Nat.le_trans hlw hm.size)⟩,l7.flag (by decide) (hS2.on hlo hb),Mk.of hb hx.lt⟩
 apply ak.exact rfl rfl
 ·exact fun _ _ h=>l7.flag (by decide) h
 ·exact fun w=>Mk.refl
 ·rintro L a w ⟨-,hS,hbeh,hsm,haft⟩
  have f8:a.tmps[8]?.getD undef=_:=(hsm 8 rfl).trans f8;simp [go_sem,f8];exact rfl
 refine ak.any (fun L v w=>True) rfl ?_ ?_ ?_
 ·exact fun _ _ _ _ _ _ _ h=>h
 ·rintro L a w ⟨hL,hS,hbeh,hsm,haft⟩
  have f40:a.tmps[40]?.getD undef=_:=aj (haft.1 rfl).2;obtain ⟨sp',l',x36,h1,h2⟩:=(haft.2.1 rfl).2;have f36:a.tmps[36]?.getD undef=.slice sp'.at_ l'.length sp'.cap:=aj x36;obtain ⟨hm,s1,l1,s2,l2,hx,y0,y1⟩:=hS;have hm2:=Mk.set hx.lt 14 (.slice sp'.at_ l'.length sp'.cap);have hc:=hx.cell 14 rfl;have hfr:=hx.free 14;refine Oper.wp_skip (w':=w.setCell ⟨bq,14,none⟩ (.slice sp'.at_ l'.length sp'.cap)) ?_ ?_
  ·simp [go_sem,f40,f36,hc,hfr]
  ·exact ⟨undef,rfl,fun _=>rfl,trivial,⟨hm.trans hm2,sp',l',s2,l2,hx.put 14 _ (by simp [af.arr,af.cells,Sp.val]),(by rw [aC];exact ⟨fun _=>⟨h1,h2.on hm2 hlo⟩,fun h=>(by cases h)⟩),(by rw [ai (by decide)];exact y1.on hm2 hlo)⟩,hm2⟩
 apply ak.exact rfl rfl
 ·exact fun _ _ h=>l7.flag (by decide) h
 ·exact fun w=>Mk.refl
 ·rintro L a w ⟨-,hS,hbeh,hsm,haft⟩
  have f8:a.tmps[8]?.getD undef=_:=(hsm 8 rfl).trans f8;simp [go_sem,f8];exact rfl
 refine ak.any (fun L v w=>True) rfl ?_ ?_ ?_
 ·exact fun _ _ _ _ _ _ _ h=>h
 ·rintro L a w ⟨hL,hS,hbeh,hsm,haft⟩
  have f41:a.tmps[41]?.getD undef=_:=aj (haft.1 rfl).2;obtain ⟨sp',l',x39,h1,h2⟩:=(haft.2.1 rfl).2;have f39:a.tmps[39]?.getD undef=.slice sp'.at_ l'.length sp'.cap:=aj x39;obtain ⟨hm,s1,l1,s2,l2,hx,y0,y1⟩:=hS;have hm2:=Mk.set hx.lt 15 (.slice sp'.at_ l'.length sp'.cap);have hc:=hx.cell 15 rfl;have hfr:=hx.free 15;refine Oper.wp_skip (w':=w.setCell ⟨bq,15,none⟩ (.slice sp'.at_ l'.length sp'.cap)) ?_ ?_
  ·simp [go_sem,f41,f39,hc,hfr]
  ·exact ⟨undef,rfl,fun _=>rfl,trivial,⟨hm.trans hm2,s1,l1,sp',l',hx.put 15 _ (by simp [af.arr,af.cells,Sp.val]),(by rw [ai (by decide)];exact y0.on hm2 hlo),(by rw [aC];exact ⟨fun _=>⟨h1,h2.on hm2 hlo⟩,fun h=>(by cases h)⟩)⟩,hm2⟩
 rintro L a w hL ⟨hS,hsame,hv⟩;refine ⟨rfl,hsame.1.trans hsz,hsame.2.1,hsame.2.2,?_⟩;unfold l7 at hS ⊢;rw [hL 7 (by decide),hL 9 (by decide)] at hS;exact hS
theorem Js {a:Act} (h:a.tmps.size=43) (hd:a.defers=[]):∃F:Nat→Value,(∀i:Nat,F i=a.eval (.tmp i))∧a=⟨(F 0::F 1::F 2::F 3::F 4::F 5::F 6::F 7::F 8::F 9::F 10::F 11::F 12::F 13::F 14::F 15::F 16::F 17::F 18::F 19::F 20::F 21::F 22::F 23::F 24::F 25::F 26::F 27::F 28::F 29::F 30::F 31::F 32::F 33::F 34::F 35::F 36::F 37::F 38::F 39::F 40::F 41::F 42::[]).toArray,[]⟩:=⟨fun i=>a.eval (.tmp i),fun _=>rfl,mf h hd⟩
theorem Ja {p q:af} (h:aD q=aD p) {s1 s2:Sp} {l1 l2:List aa} (h1:l1.map ah=(aX p.work).map ah) (h2:l2.map ah=(aX p.recover).map ah):aD { q with ws:=s1,work:=l1,cs:=s2,recover:=l2 }=aD (LG p):=by
 unfold aD at h ⊢;unfold LG;injection h;simp only [*]
theorem KN {n:Nat} {W:World} {q:af} (h:jW n W q) {s1 s2:Sp} {l1 l2:List aa} (h1:bX n W s1 l1) (h2:bX n W s2 l2):jW n W { q with ws:=s1,work:=l1,cs:=s2,recover:=l2 }:=by
 obtain ⟨b1,b2,b3,b4,b5,b6,b7,b8,b9,b10,b11,b12,b13,b14⟩:=h;exact ⟨b1,b2,b3,b4,b5,b6,b7,b8,b9,b10,b11,h1,h2,b14⟩
set_option maxRecDepth 10000000 in
set_option maxHeartbeats 64000000 in
theorem wK (w:World) (p:af) (hp:jW w.heap.size w p) (hn0:0<w.heap.size) (hmx:MxAt w) (hr:dC p) (hi:p.inits=[]) (hwt:bJ p≤20000) (hdt:iX p≤1000) :
  Calls Tryz.prog 42 #[.agg p.arr] w fun o w'=>∃q:af,o=.returned (.tuple #[.agg q.arr,.int .i64 0])∧aD q=aD (LG p)∧jW w'.heap.size w' q∧Below w.heap.size w w':=by
 obtain ⟨hB1,hZ1,hsz1,hb1⟩:=gY w (.cells p.arr 35) (.cells bH.arr 35);have hWT:=mQ _ p (hp.on hb1) (Nat.lt_of_lt_of_le hn0 hb1.size) (hmx.below hb1 hn0) hr;have HDT:=zhd fun (W:World) (hW:Below w.heap.size w W)=>uZ W p (hp.on hW) (Nat.lt_of_lt_of_le hn0 hW.size) hr.names hr.weight (hmx.below hW hn0) hr.right hr.chk hr.len hr.heft
 have HCP:=zhd fun (W:World) (hW:Below w.heap.size w W)=>EI W p (hp.on hW) hr.heft hi hr.none
 have hlp:=hr.right.loops;have hhl:=iY p;have hht:=hr.heft;have HU:=zhd fun (W:World) (hW:Below w.heap.size w W)=>And.intro (Et p.ws p.work (hp.work.below hW) (by omega) hlp.1) (Et p.cs p.recover (hp.recover.below hW) (by omega) hlp.2)
 have HLN:Hid (p.work.length≤1000000∧p.recover.length≤1000000):=zhd ⟨by have:=fo p.work;omega,by have:=fo p.recover;omega⟩;have harrs:=aN p;have HWT:=zhd hWT;have HB:=zhd hB1;have HZ:=zhd hZ1;have HB1:=zhd hb1;have HP:=zhd hp;have hg1:¬(bJ p>20000):=by omega
 have hg2:¬(iX p>1000):=by omega
 have hd1:decide (20000<bJ p)=false:=decide_eq_false hg1;have hd2:decide (1000<iX p)=false:=decide_eq_false hg2;have hdU:max (min (gz p.work 0) 1001) (min (gz p.recover 0) 1001)=iX p:=rfl;rw [hdU] at HDT;clear hWT hB1 hZ1 hb1 hp hr hmx hi hlp hhl hht hwt hdt hdU hg1 hg2;generalize bJ p=wU at *;generalize iX p=dU at *;obtain ⟨arr,harr⟩:∃arr,arr=p.arr:=⟨_,rfl⟩;have HARR:=zhd harr;rw [←harr] at HWT HB HZ HB1 harrs hsz1 HDT HCP ⊢;clear harr;go_enter Tryz.func42,Tryz.ntmps42
 go_wp2_with (first
  | (refine wpList_load_row rfl 35 _ rfl (w.heap.size) rfl 35 _ (0,0) _ HB.out Tryz.underlying35 rfl harrs ?_)
  | (refine aO (t:=35) rfl rfl (gm _) ?_)
  | fail)
 refine HWT.out.mono ?_;rintro o w2 ⟨rfl,hb2⟩;generalize (w.alloc (.cells arr 35)).alloc (.cells bH.arr 35)=w1 at *;have hx2:=(hb2.block _ (zgs HB.out).1).trans HB.out;have hz2:=(hb2.block _ (zgs HZ.out).1).trans HZ.out;have HX2:=zhd hx2;have HZ2:=zhd hz2;have HB2:=zhd (HB1.out.trans (hb2.mono HB1.out.size));clear hx2 hz2 hb2 HB HZ HB1 HWT;go_wp2_with (first | (refine wpList_load_row rfl 35 _ rfl (w.heap.size) rfl 35 _ (0,0) _ HX2.out Tryz.underlying35 rfl harrs ?_) | fail)
 refine (HDT.out w2 HB2.out).mono ?_;rintro o w3 ⟨rfl,hb3⟩;have hx3:=(hb3.block _ (zgs HX2.out).1).trans HX2.out;have hz3:=(hb3.block _ (zgs HZ2.out).1).trans HZ2.out;have HX3:=zhd hx3;have HZ3:=zhd hz3;have HB3:=zhd (HB2.out.trans (hb3.mono HB2.out.size));clear hx3 hz3 hb3 HX2 HZ2 HB2 HDT;go_wp2_with (first | (refine wpList_load_row rfl 35 _ rfl (w.heap.size) rfl 35 _ (0,0) _ HX3.out Tryz.underlying35 rfl harrs ?_) | fail)
 refine (HCP.out w3 HB3.out).mono ?_;rintro o w4 ⟨q,rfl,hbare,hrd,hb4⟩;have hx4:=(hb4.block _ (zgs HX3.out).1).trans HX3.out;have hz4:=(hb4.block _ (zgs HZ3.out).1).trans HZ3.out;have hB4:=HB3.out.trans (hb4.mono HB3.out.size);have hlt4:=(zgs hz4).1;have hblk:∀W:World,Below w4.heap.size w4 W→W.heap[w.heap.size]? = some (.cells arr 35 (0,0))∧W.heap[w.heap.size+1]? = some (.cells bH.arr 35 (0,0)):=fun W h=>⟨(h.block _ (by omega)).trans hx4,(h.block _ hlt4).trans hz4⟩
 have HBLK:=zhd hblk;have HBARE:=zhd hbare;have HRD:=zhd hrd;have HS3:Hid (w.heap.size+2≤w3.heap.size):=zhd (by have:=(zgs HZ3.out).1;omega);have HB4:=zhd hB4;clear hx4 hz4 hB4 hb4 hbare hrd hblk HX3 HZ3 HB3 HCP;have hq0:=zan w4 (.cells bH.arr 35);have HQ0:=zhd hq0;have HA4:Hid (Below w4.heap.size w4 (w4.alloc (.cells bH.arr 35))):=zhd ((Below.refl _ _).alloc (Nat.le_refl _) _);clear hq0;go_upto_region 10 with (first
  | (refine aO (t:=35) rfl rfl (gm _) ?_)
  | (refine wpList_store_row rfl 35 _ _ rfl w4.heap.size q.arr (by rfl) (by rfl) 35 bH.arr HQ0.out (aN _) (by kernel_rfl) (jg _) ?_)
  | fail)
 have hbS:Below w4.heap.size w4 ((w4.alloc (.cells bH.arr 35)).setRow w4.heap.size q.arr):=below_setRow HA4.out (Nat.le_refl _);have hqS:Bx w4.heap.size ((w4.alloc (.cells bH.arr 35)).setRow w4.heap.size q.arr) q:=setRow_heap _ _ _ _ _ _ HQ0.out;have hszS:((w4.alloc (.cells bH.arr 35)).setRow w4.heap.size q.arr).heap.size=w4.heap.size+1:=by rw [size_setRow];simp
 generalize (w4.alloc (.cells bH.arr 35)).setRow w4.heap.size q.arr=w5 at *;have hbp5:Bx w.heap.size w5 p:=by unfold Bx;rw [←HARR.out];exact (HBLK.out w5 hbS).1
 have hlow5:=HB4.out.trans (hbS.mono HB4.out.size);have hU5:=HU.out w5 hlow5;refine Code.wp_mono ?_ (fV (C':=.region 10 opsR10 true) (by kernel_rfl) (Jb rfl w.heap.size w4.heap.size (w4.heap.size+1) w.heap.size w5 p q (by omega) (by omega) (by omega) (by omega) (Below.refl _ _) rfl rfl hbp5 hqS HLN.out.1 HLN.out.2 hU5.1 hU5.2));rintro e a9 w6 ⟨rfl,hsz9,hd9,hsm9,hm6,s1,l1,s2,l2,hx6,y0,y1⟩;obtain ⟨F,hF,rfl⟩:=Js hsz9 hd9;have g2:F 2=.pointer (some ⟨w.heap.size+1,0,none⟩):=(hF 2).trans (au ((hsm9 2 rfl).trans rfl));have g8:F 8=.pointer (some ⟨w4.heap.size,0,none⟩):=(hF 8).trans (au ((hsm9 8 rfl).trans rfl));rw [g2,g8];clear hF g2 g8 hsz9 hd9 hsm9;obtain ⟨h10,h11⟩:=y0.1 rfl;obtain ⟨h20,h21⟩:=y1.1 rfl;have hs6:=hm6.size;have hB6:Below w.heap.size w w6:=hlow5.trans (hm6.below (by omega) (by omega));have hb46:Below w4.heap.size w4 w6:=hbS.trans (hm6.below (Nat.le_refl _) (by omega));obtain ⟨pf,hpf⟩:∃pf:af,pf={ q with ws:=s1,work:=l1,cs:=s2,recover:=l2 }:=⟨_,rfl⟩;have HX6:Hid (Bx w4.heap.size w6 pf):=zhd (by rw [hpf];exact hx6);have HZ6:=zhd (HBLK.out w6 hb46).2;have HPF:=zhd hpf;have HB6:=zhd hB6;have HB46:=zhd hb46;have H1:=zhd (And.intro h10 h11);have H2:=zhd (And.intro h20 h21);clear hm6 hx6 y0 y1 h10 h11 h20 h21 hB6 hb46 hpf hbS hqS hbp5 hlow5 hU5;go_wp2_with (first
  | (refine wpList_load_row rfl 35 _ rfl w4.heap.size rfl 35 _ (0,0) _ HX6.out Tryz.underlying35 rfl (aN _) ?_)
  | (refine wpList_store_row rfl 35 _ _ rfl (w.heap.size+1) pf.arr (by rfl) (by rfl) 35 bH.arr HZ6.out (aN _) (by kernel_rfl) (jg _) ?_)
  | fail)
 have hse:(w6.setRow (w.heap.size+1) pf.arr).heap[w.heap.size+1]? = some (.cells pf.arr 35 (0,0)):=wC HZ6.out pf.arr;have hz4l:=HB4.out.size;refine bodyPost_ret (tZ rfl _ _ (w.heap.size+1) 35 _ (0,0) _ rfl hse Tryz.underlying35 rfl (aN _)) rfl ⟨pf,rfl,?_,?_,below_setRow HB6.out (Nat.le_succ _)⟩
 ·rw [HPF.out]
  exact Ja HBARE.out H1.out.1 H2.out.1
 ·have t1:=(nz (g:=w.heap.size+1) (cs:=pf.arr) H1.out.2 (by omega)).rd
  have t2:=(nz (g:=w.heap.size+1) (cs:=pf.arr) H2.out.2 (by omega)).rd;have hs3:=HS3.out;have hrd:=(HRD.out.cells (W':=w6.setRow (w.heap.size+1) pf.arr) fun a u ha hc=>by
   obtain ⟨k1,k2⟩:=az.1 hc;exact (cell_setRow_other _ _ _ _ (by omega)).trans ((HB46.out.cell ha).trans k2)).more (n₁:=(w6.setRow (w.heap.size+1) pf.arr).heap.size) (by rw [size_setRow];have:=HB46.out.size;omega)
  rw [HPF.out] at t1 t2 hrd ⊢;exact KN hrd ⟨t1.row,t1.ok⟩ ⟨t2.row,t2.ok⟩
end
section
open Go Go.RowKit
def TW (t:TypeId):Bool:=TT t || t == 201
def qO (n₀:Nat) (W0:World) (sp:Sp) (l:List aa):Prop :=
 ∀(all pre post:List aa) (lr Be By B:Nat) (J Jx:List aa→World→Prop) (W:World),all=pre++(l.flatMap aa.pre++post)→OwnFrom B J→OwnFrom B Jx →
  (∀q x W1,J q W1→q.length<all.length→q++[x] <+: all→YieldAt Fence.wide 4 Tryz.prog lr #[x.val] W1 fun e W' =>
   (e=.returned (.bool true)∧J (q++[x]) W'∧ax TW B W1 W'∧Below n₀ W1 W')∨(e=.returned (.bool false)∧Jx (q++[x]) W'∧ax TW B W1 W')) →
  W.heap[Be]? = some (.cells #[.func (.func 166) #[] #[.pointer (some ⟨By,0,none⟩),.pointer (some ⟨Be,0,none⟩)]] 201 (0,0)) →
  W.heap[By]? = some (.cells #[.func (.yield lr) #[] #[]] 58 (0,0))→B≤W.heap.size→n₀≤W.heap.size→Below n₀ W0 W→J pre W →
  Calls Tryz.prog 166 #[.slice sp.at_ l.length sp.cap,.pointer (some ⟨By,0,none⟩),.pointer (some ⟨Be,0,none⟩)] W fun e W' =>
   (e=.returned (.bool true)∧J (pre++l.flatMap aa.pre) W'∧ax TW B W W'∧Below n₀ W W')∨(e=.returned (.bool false)∧(∃q,q <+: all∧Jx q W')∧ax TW B W W')
set_option maxRecDepth 1000000 in
set_option maxHeartbeats 8000000 in
theorem qX {n₀:Nat} {W0:World} (sp:Sp) (l:List aa) (hr:bX n₀ W0 sp l) (ih:∀s,s∈l→qO n₀ W0 s.ts s.thn∧qO n₀ W0 s.os s.els):qO n₀ W0 sp l:=by
 intro all pre post lr Be By B J Jx W hall hJ hJx hY hBe hBy hBW hnW hlow hpre;have HY:=zhd hY;have HALL:=zhd hall;have HPRE:=zhd hpre;have HBE:=zhd hBe;have HBY:=zhd hBy;have HLOW:=zhd hlow;have HRD:=zhd hr;have HIH:=zhd fun (i:Nat) (hi:i<l.length)=>ih _ (List.getElem_mem hi)
 have hcap:=hr.row.cap;have hbig:=hr.row.big;clear hY hall hpre hBe hBy hlow hr ih;refine (callsIn_wide (n:=5)).1 ?_;refine callsIn_of_wp_marks Tryz.func166 rfl trivial ?_ rfl;simp only [Tryz.ntmps166,List.size_toArray,List.length_cons,List.length_nil,Nat.reduceAdd,Nat.reduceSub,Array.replicate_succ,Array.replicate_zero,List.push_toArray,List.append_toArray,List.nil_append,List.cons_append]
 gi_wp2
 gi_loopw [9] (fun s9 wr=>∃k:Nat,k≤l.length∧s9=.int .i64 k∧J (pre++(l.take k).flatMap aa.pre) wr∧ax TW B W wr∧Below n₀ W wr) (fun s9 _=>l.length - (intOf s9).toNat)
 case atStart=>exact ⟨0,Nat.zero_le _,rfl,by simpa using HPRE.out,ax.refl _ _ _,Below.refl _ _⟩
 case round =>
  obtain ⟨k,hk,rfl,hj,hkr,hbr⟩:=hrel;clear HPRE;by_cases hlt:k<l.length
  ·obtain ⟨b,off,eA,hbn,hcell⟩:=(HRD.out.row.below (HLOW.out.trans hbr)).row (by omega)
   have hts:l.take (k+1)=l.take k++[l[k]]:=List.take_succ_eq_append_getElem hlt;have hsp:(l.take k).flatMap aa.pre++((l[k]).pre++(l.drop (k+1)).flatMap aa.pre)=l.flatMap aa.pre:=by
    rw [←List.append_assoc,←List.flatMap_singleton (f:=aa.pre) (l[k]),←List.flatMap_append,←hts,←List.flatMap_append,List.take_append_drop]
   have k0:wr.cell? ⟨b,off+k*6,none⟩=some (.int .u8 l[k].kind):=hcell k hlt 0 _ rfl;have k1:wr.cell? ⟨b,off+k*6+1,none⟩=some (.string l[k].name):=hcell k hlt 1 _ rfl;have k2:wr.cell? ⟨b,off+k*6+2,none⟩=some (.slice l[k].es.at_ l[k].exprs.length l[k].es.cap):=hcell k hlt 2 _ rfl;have k3:wr.cell? ⟨b,off+k*6+3,none⟩=some (.int .i64 l[k].bound):=hcell k hlt 3 _ rfl;have k4:wr.cell? ⟨b,off+k*6+4,none⟩=some (.slice l[k].ts.at_ l[k].thn.length l[k].ts.cap):=hcell k hlt 4 _ rfl;have k5:wr.cell? ⟨b,off+k*6+5,none⟩=some (.slice l[k].os.at_ l[k].els.length l[k].os.cap):=hcell k hlt 5 _ rfl;have HIHk:=zhd (HIH.out k hlt);have HTS:=zhd hts;have HSP:=zhd hsp;generalize l[k]=s at *;have hpe:=aa.pre_eq s;have hba:=zba wr (.cells #[.int .u8 s.kind,.string s.name,.slice s.es.at_ s.exprs.length s.es.cap,.int .i64 s.bound,.slice s.ts.at_ s.thn.length s.ts.cap,.slice s.os.at_ s.els.length s.os.cap] 43);have hbx:=zan wr (.cells #[.int .u8 s.kind,.string s.name,.slice s.es.at_ s.exprs.length s.es.cap,.int .i64 s.bound,.slice s.ts.at_ s.thn.length s.ts.cap,.slice s.os.at_ s.els.length s.os.cap] 43);have hszr:=hkr.size;have hj5:J (pre++(l.take k).flatMap aa.pre) (wr.alloc (.cells #[.int .u8 s.kind,.string s.name,.slice s.es.at_ s.exprs.length s.es.cap,.int .i64 s.bound,.slice s.ts.at_ s.thn.length s.ts.cap,.slice s.os.at_ s.els.length s.os.cap] 43)):=(vT hJ (by omega)).alloc _ hj;have HK5:=zhd (hkr.trans (ax.of_below hba));have HB5:=zhd (hbr.trans (hba.mono (by omega)));have HX5:=zhd hbx;have HJ5:=zhd hj5;have EA:=zhd eA;have HPE:=zhd hpe;have hj0:(0:Int)≤(k:Int):=by omega
   have hjm:(k:Int)+1≤9223372036854775807:=by simp only [maxLen] at hbig;omega
   have hj1:(k:Int)<(l.length:Int):=by omega
   have hallk:all=(pre++(l.take k).flatMap aa.pre)++(s::(s.thn.flatMap aa.pre++(s.els.flatMap aa.pre++((l.drop (k+1)).flatMap aa.pre++post)))):=by
    rw [HALL.out,←HSP.out,HPE.out];simp [List.append_assoc]
   have HA:=zhd hallk;clear hcell hts hsp hba hbx hj hj5 hkr hbr hpe hallk;rw [eA];clear eA
   gi_upto_region 4 with (fail)
   clear k0 k1 k2 k3 k4 k5;generalize wr.alloc (.cells #[.int .u8 s.kind,.string s.name,.slice s.es.at_ s.exprs.length s.es.cap,.int .i64 s.bound,.slice s.ts.at_ s.thn.length s.ts.cap,.slice s.os.at_ s.els.length s.os.cap] 43)=W5 at *;obtain ⟨c0,c1,c2,c3,c4,c5⟩:=ag HX5.out;have d0:=one_cell (HK5.out.cells _ _ _ _ HBY.out rfl);obtain ⟨fn,tmps,assign,body,hy,hR⟩:=HY.out _ s W5 HJ5.out (by rw [HA.out];simp) (by rw [HA.out];exact ⟨_,by simp [List.append_assoc];rfl⟩)
   dsimp only [aa.val,Sp.val] at hy
   gi_wp2
   refine hR.mono ?_;clear hR hy c0 c1 c2 c3 c4 c5 d0;have hs5:=HK5.out.size;rintro o3 W3 (⟨rfl,hJ3,hk3,hb3⟩ | ⟨rfl,hJ3,hk3⟩)
   ·have hK3:=HK5.out.trans hk3
    have hB3:=HB5.out.trans hb3;have hX3:=hk3.cells _ _ _ _ HX5.out rfl;have hE3:=hK3.cells _ _ _ _ HBE.out rfl;have hY3:=hK3.cells _ _ _ _ HBY.out rfl;have hs3:=hK3.size;have hC1:=HIHk.out.1 all ((pre++(l.take k).flatMap aa.pre)++[s]) (s.els.flatMap aa.pre++((l.drop (k+1)).flatMap aa.pre++post)) lr Be By B J Jx W3 (by rw [HA.out];simp [List.append_assoc]) hJ hJx HY.out hE3 hY3 (by omega) (by omega) (HLOW.out.trans hB3) hJ3;obtain ⟨c0,c1,c2,c3,c4,c5⟩:=ag hX3;have d3:=one_cell hE3;have HC1:=zhd hC1;have HX3:=zhd hX3;have HK3:=zhd hK3;have HB3:=zhd hB3;clear hC1 hX3 hE3 hY3 hK3 hB3 hJ3 hk3 hb3 HK5 HB5 HX5 HJ5
    gi_wp2
    refine ⟨trivial,?_⟩;refine (callsIn_wide.2 HC1.out).mono ?_;clear HC1 c0 c1 c2 c3 c4 c5 d3;rintro o4 W4 (⟨rfl,hJ4,hk4,hb4⟩ | ⟨rfl,⟨q,hq,hJ4⟩,hk4⟩)
    ·have hK4:=HK3.out.trans hk4
     have hB4:=HB3.out.trans hb4;have hX4:=hk4.cells _ _ _ _ HX3.out rfl;have hE4:=hK4.cells _ _ _ _ HBE.out rfl;have hY4:=hK4.cells _ _ _ _ HBY.out rfl;have hs4:=hK4.size;have hC2:=HIHk.out.2 all (((pre++(l.take k).flatMap aa.pre)++[s])++s.thn.flatMap aa.pre) ((l.drop (k+1)).flatMap aa.pre++post) lr Be By B J Jx W4 (by rw [HA.out];simp [List.append_assoc]) hJ hJx HY.out hE4 hY4 (by omega) (by omega) (HLOW.out.trans hB4) hJ4;obtain ⟨c0,c1,c2,c3,c4,c5⟩:=ag hX4;have d4:=one_cell hE4;have HC2:=zhd hC2;have HK4:=zhd hK4;have HB4:=zhd hB4;clear hC2 hX4 hE4 hY4 hK4 hB4 hJ4 hk4 hb4 HK3 HB3 HX3
     gi_wp2
     refine ⟨trivial,?_⟩;refine (callsIn_wide.2 HC2.out).mono ?_;clear HC2 c0 c1 c2 c3 c4 c5 d4;rintro o5 W5 (⟨rfl,hJ5,hk5,hb5⟩ | ⟨rfl,⟨q,hq,hJ5⟩,hk5⟩)
     ·have HJ5:Hid (J (pre++(l.take (k+1)).flatMap aa.pre) W5):=zhd (by
       rw [HTS.out,List.flatMap_append,List.flatMap_singleton,HPE.out]
       simpa [List.append_assoc] using hJ5)
      have HK5:=zhd (HK4.out.trans hk5);have HB5:=zhd (HB4.out.trans hb5);clear hJ5 hk5 hb5
      gi_wp2
      go_roundw
      case rel=>exact ⟨k+1,by omega,by go_num,HJ5.out,HK5.out,HB5.out⟩
      case measure=>simp [intOf];omega
     ·have HQ:=zhd (And.intro hq hJ5)
      have HK5:=zhd (HK4.out.trans hk5);clear hq hJ5 hk5 hs4 hs3 hs5 HK4 HB4 hszr hj0 hjm hj1
      gi_wp2
      exact ⟨_,results_tmp rfl _ _ _,.inr ⟨rfl,⟨q,HQ.out.1,HQ.out.2⟩,HK5.out⟩⟩
    ·have HQ:=zhd (And.intro hq hJ4)
     have HK4:=zhd (HK3.out.trans hk4);clear hq hJ4 hk4
     dsimp only
     repeat (first | go_values | gi_guarded | gi_step | gi_upon)
     refine ⟨fun _ _=>trivial,?_⟩
     gi_wp2
     exact ⟨_,results_tmp rfl _ _ _,.inr ⟨rfl,⟨q,HQ.out.1,HQ.out.2⟩,HK4.out⟩⟩
   ·have HJ3:=zhd hJ3
    have HK3:=zhd (HK5.out.trans hk3);clear hJ3 hk3
    dsimp only
    repeat (first | go_values | gi_guarded | gi_step | gi_upon)
    refine ⟨fun _ _=>trivial,?_⟩
    repeat (first | go_values | gi_guarded | gi_step | gi_upon)
    refine ⟨fun _ _=>trivial,?_⟩
    gi_wp2
    exact ⟨_,results_tmp rfl _ _ _,.inr ⟨rfl,⟨_,by rw [HA.out];exact ⟨_,by simp [List.append_assoc];rfl⟩,HJ3.out⟩,HK3.out⟩⟩
  ·obtain rfl:k=l.length:=by omega
   rw [List.take_length] at hj;have HJ:=zhd hj;have HK:=zhd hkr;have HB:=zhd hbr;clear hj hkr hbr
   gi_wp2
   exact ⟨_,results_tmp rfl _ _ _,.inl ⟨rfl,HJ.out,HK.out,HB.out⟩⟩
theorem EL {n₀:Nat} {W0:World} (s:aa) (hr:eu n₀ W0 s):qO n₀ W0 s.ts s.thn∧qO n₀ W0 s.os s.els:=by
 induction hr with
 | mk s k b n er ex tr th orow el ih1 ih2=>exact ⟨qX s.ts s.thn ⟨tr,th⟩ ih1,qX s.os s.els ⟨orow,el⟩ ih2⟩
theorem GM {n₀:Nat} {W0:World} (sp:Sp) (l:List aa) (hr:bX n₀ W0 sp l):qO n₀ W0 sp l:=qX sp l hr fun s hs=>EL s (hr.ok s hs)
set_option maxRecDepth 1000000 in
set_option maxHeartbeats 4000000 in
theorem pG {n₀:Nat} {W0:World} (sp:Sp) (l:List aa) (hr:bX n₀ W0 sp l) (n:Nat) (w:World) (Bs:Nat) (hb0:Below n₀ W0 w) (hn₀:n₀≤w.heap.size) (hBs:w.heap[Bs]? = some (.cells #[.slice sp.at_ l.length sp.cap] 33 (0,0))) :
  Jq Fence.wide n Tryz.prog 165 #[.pointer (some ⟨Bs,0,none⟩)] (fun x:aa=>#[x.val]) TW n₀ (fun ys=>ys=l.flatMap aa.pre) (fun q=>q <+: l.flatMap aa.pre) (l.flatMap aa.pre).length w:=by
 intro lr J Jx W hW hJ hJx hY h0;have hBW:W.heap[Bs]? = some (.cells #[.slice sp.at_ l.length sp.cap] 33 (0,0)):=(hW.block Bs (zgs hBs).1).trans hBs;have hEA:=GM sp l hr (l.flatMap aa.pre) [] [] lr (W.heap.size+1) W.heap.size W.heap.size J Jx;have HEA:=zhd hEA;have HY:Hid (∀q x W1,J q W1→q.length<(l.flatMap aa.pre).length→q++[x] <+: l.flatMap aa.pre→YieldAt Fence.wide 4 Tryz.prog lr #[x.val] W1 fun e W' =>
   (e=.returned (.bool true)∧J (q++[x]) W'∧ax TW W.heap.size W1 W'∧Below n₀ W1 W')∨(e=.returned (.bool false)∧Jx (q++[x]) W'∧ax TW W.heap.size W1 W')):=zhd fun q x W1 h1 h2 h3=>YieldAt.any 4 (hY q x W1 h1 h2 h3)
 have HB0:=zhd (hb0.trans (hW.mono hn₀));have HBW:=zhd hBW;have hsz:=hW.size;have hbl:=(zgs hBW).1;obtain ⟨hy1,hz1,hs1,hb1⟩:=gY W (.cells #[.func (.yield lr) #[] #[]] 58) (.cells #[.nilFunc] 201);have z0:=one_cell hz1;have zf:((W.alloc (.cells #[.func (.yield lr) #[] #[]] 58)).alloc (.cells #[.nilFunc] 201)).frozen? ⟨W.heap.size+1,0,none⟩=false:=by unfold World.frozen?;rw [hz1];rfl
 obtain ⟨hy2,hz2,hs2,hb2⟩:=gY W (.cells #[.func (.yield lr) #[] #[]] 58) (.cells #[.func (.func 166) #[] #[.pointer (some ⟨W.heap.size,0,none⟩),.pointer (some ⟨W.heap.size+1,0,none⟩)]] 201);have c0:=one_cell ((hb2.block Bs hbl).trans hBW);have HC:=zhd (HEA.out _ (by simp) hJ hJx HY.out hz2 hy2 (by omega) (by omega) (HB0.out.trans (hb2.mono (by omega))) (hJ.alloc _ (hJ.alloc _ h0)));clear hY hEA hb0 hBs hy2 hz2 hs2 hy1 hz1 hs1 hb1;refine callsIn_of_wp_marks Tryz.func165 rfl trivial ?_ rfl;simp only [Tryz.ntmps165,List.size_toArray,List.length_cons,List.length_nil,Nat.reduceAdd,Nat.reduceSub,Array.replicate_succ,Array.replicate_zero,List.push_toArray,List.append_toArray,List.nil_append,List.cons_append]
 gi_wp2
 refine ⟨trivial,fun h=>(by cases h),?_⟩;refine (callsIn_wide.2 HC.out).mono ?_;rintro o W4 (⟨rfl,hJ4,hk4,hb4⟩ | ⟨rfl,⟨q,hq,hJ4⟩,hk4⟩)
 ·have HJ4:=zhd hJ4
  clear hJ4 hk4 hb4
  gi_wp2
  exact ⟨_,results_none rfl _ _ _,⟨_,rfl⟩,.inl ⟨_,rfl,by simpa using HJ4.out⟩⟩
 ·have HQ:=zhd (And.intro hq hJ4)
  clear hq hJ4 hk4
  gi_wp2
  exact ⟨_,results_none rfl _ _ _,⟨_,rfl⟩,.inr ⟨q,HQ.out.1,HQ.out.2⟩⟩
theorem pF (sp:Sp) (n:Nat) (w:World) :
  Calls Tryz.prog 105 #[.slice sp.at_ n sp.cap] w fun o w'=>o=.returned (.func (.func 165) #[] #[.pointer (some ⟨w.heap.size,0,none⟩)])∧w'=w.alloc (.cells #[.slice sp.at_ n sp.cap] 33):=by
 go_enter Tryz.func105,Tryz.ntmps105
 go_wp2
 go_ret
 exact ⟨rfl,rfl⟩
end
section
open Go Go.RowKit Go.Maps
attribute [local go_sem] Oper.semAt_some
def Me (x:Int):List Value:=[.int .u8 x]
def Mg (l:List aa):List Int:=(l.filter fun s=>decide (s.kind=3∨s.kind=4∨s.kind=5)).map aa.kind
theorem KO {p:af} (hr:dC p) (hw:bJ p≤20000):ay (aX p.work)≤20000∧ay (aX p.recover)≤20000:=by
 have hl:=hr.right.loops;have h1:=zR p.work hl.1;have h2:=zR p.recover hl.2;unfold bJ at hw;rcases zS hl.1 with ⟨e1,k1⟩ | ⟨e1,k1⟩ <;> rcases zS hl.2 with ⟨e2,k2⟩ | ⟨e2,k2⟩ <;> omega
theorem AX (l:List aa):(l.flatMap aa.pre).length≤ay l:=by
 have h1:=qi (l.flatMap aa.pre);have h2:(l.flatMap aa.pre).length≤gq (l.flatMap aa.pre):=by
  unfold gq;exact jP _ (fun s=>by omega) _
 unfold ay;omega
end
end Go.Proofs.YtepacjkacjabbaaGreatDoor
