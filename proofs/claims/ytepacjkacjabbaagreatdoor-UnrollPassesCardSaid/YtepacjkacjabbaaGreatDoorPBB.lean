import Derived.Test.YtepacjkacjabbaaGreatDoorPAI
import Derived.Test.YtepacjkacjabbaaGreatDoorPAH
import Derived.Test.YtepacjkacjabbaaGreatDoorPBA
import Derived.Test.YtepacjkacjabbaaGreatDoorPAM
namespace Go.Proofs.YtepacjkacjabbaaGreatDoor
section
open Go Go.RowKit Go.Maps
noncomputable def opsC3:Array Oper:=((Tryz.f84.body.bind (opsOf 3)).getD #[])
def Di (t:Nat):Bool:=decide (t≤10)
theorem Ii:dR opsC3 20 94 Di=true:=by kernel_rfl
def r9 (s0 lo:Nat) (p:af) (w0:World) (L:Nat→Bool) (w:World):Prop:=Mk s0 w0 w∧∃(i1 g1 v1 a1:Sp),Bx s0 w { p with is:=i1,gs:=g1,vs:=v1,«as»:=a1 }∧zZ lo 50 3 aG.cells (L 13) w p.is i1 p.inputs∧zZ lo 50 3 aG.cells (L 15) w p.gs g1 p.ghosts∧zZ lo 50 3 aG.cells (L 17) w p.vs v1 p.vars∧zZ lo 50 3 aG.cells (L 19) w p.as a1 p.arrays
theorem r9.flag {s0 lo k:Nat} {p:af} {w0:World} {L:Nat→Bool} {w:World} (hk:k≠13∧k≠15∧k≠17∧k≠19) (h:r9 s0 lo p w0 L w):r9 s0 lo p w0 (jr L k) w:=by
 unfold r9 at h ⊢;obtain ⟨h13,h15,h17,h19⟩:=hk;rw [ai (Ne.symm h13),ai (Ne.symm h15),ai (Ne.symm h17),ai (Ne.symm h19)];exact h
theorem r9.on {s0 lo:Nat} {p:af} {w0:World} {L:Nat→Bool} {w w':World} (hs:s0<lo) (h:r9 s0 lo p w0 L w) (hb:Below w.heap.size w w'):r9 s0 lo p w0 L w':=by
 obtain ⟨hm,i1,g1,v1,a1,hx,y0,y1,y2,y3⟩:=h;have hm2:=Mk.of hb hx.lt;exact ⟨hm.trans hm2,i1,g1,v1,a1,hx.on hb,y0.on hm2 hs,y1.on hm2 hs,y2.on hm2 hs,y3.on hm2 hs⟩
set_option maxRecDepth 10000000 in
set_option maxHeartbeats 64000000 in
theorem KY {a0:Act} {w0:World} (hsz:a0.tmps.size=94) (s0 lo n0:Nat) (p:af) (hlo:s0<lo) (hlw:lo≤w0.heap.size) (hn0:n0≤s0)
  (f1:a0.tmps[1]?.getD undef=.pointer (some ⟨s0,0,none⟩)) (hp:jW n0 w0 p) (hfew:p.inputs.length≤1000000∧p.ghosts.length≤1000000∧p.vars.length≤1000000∧p.arrays.length≤1000000)
  (hbx:Bx s0 w0 p) :
  (Code.region 3 opsC3 true).wp Tryz.prog (fun e a w=>e=.normal∧a.tmps.size=94∧a.defers=a0.defers∧(∀t:Nat,Di t=true→a.tmps[t]?.getD undef=a0.tmps[t]?.getD undef)∧r9 s0 lo p w0 (fun _=>true) w) a0 w0:=by
 refine aP (n:=20) (sz:=94) (keep:=Di) rfl Ii hsz (r9 s0 lo p w0) (fun _ w w'=>Mk s0 w w') (⟨(Below.refl _ _).drew,p.is,p.gs,p.vs,p.as,hbx,zZ.off,zZ.off,zZ.off,zZ.off⟩) ?_;have e:opsC3.toList=opsC3.toList:=rfl
 conv at e=>rhs;arg 1;whnf
 simp only at e;rw [e];clear e
 apply ak.exact rfl rfl
 ·exact fun _ _ h=>r9.flag (by decide) h
 ·exact fun w=>Mk.refl
 ·rintro L a w ⟨-,hS,hbeh,hsm,haft⟩
  have f1:a.tmps[1]?.getD undef=_:=(hsm 1 rfl).trans f1;simp [go_sem,f1];exact rfl
 apply ak.exact rfl rfl
 ·exact fun _ _ h=>r9.flag (by decide) h
 ·exact fun w=>Mk.refl
 ·rintro L a w ⟨-,hS,hbeh,hsm,haft⟩
  have f11:a.tmps[11]?.getD undef=_:=aj (haft.1 rfl).2;obtain ⟨hm,i1,g1,v1,a1,hx,y0,y1,y2,y3⟩:=hS;obtain rfl:=y0.2 (hbeh 13 rfl);have hc:w.cell? ⟨s0,2,none⟩=some (.slice p.is.at_ p.inputs.length p.is.cap):=hx.cell 2 rfl;simp [go_sem,f11,hc];exact rfl
 refine ak.any (fun L v w=>aI lo w 50 3 aG.cells v p.inputs) rfl ?_ ?_ ?_
 ·exact fun _ _ _ _ _ _ hm h=>h.onM hm hlo
 ·rintro L a w ⟨hL,hS,hbeh,hsm,haft⟩
  have f12:a.tmps[12]?.getD undef=_:=aj (haft.1 rfl).2;have hS2:=hS;obtain ⟨hm,i1,g1,v1,a1,hx,y0,y1,y2,y3⟩:=hS;refine Oper.wp_enter (f:=81) (args:=#[.slice p.is.at_ p.inputs.length p.is.cap]) (w':=w) ?_ ?_
  ·simp [go_sem,f12]
  ·refine (kY w p.is p.inputs _ ((hp.inputs.row.below (hm.below hn0 hbx.lt)).more (show n0≤w.heap.size by have:=hm.size;omega)) hfew.1).mono ?_
   rintro o w' ⟨⟨v,rfl,ho⟩,hb⟩;exact ⟨v,rfl,v,rfl,fun e=>(by cases e),ho.less (Nat.le_trans hlw hm.size),r9.flag (by decide) (hS2.on hlo hb),Mk.of hb hx.lt⟩
 apply ak.exact rfl rfl
 ·exact fun _ _ h=>r9.flag (by decide) h
 ·exact fun w=>Mk.refl
 ·rintro L a w ⟨-,hS,hbeh,hsm,haft⟩
  have f1:a.tmps[1]?.getD undef=_:=(hsm 1 rfl).trans f1;simp [go_sem,f1];exact rfl
 apply ak.exact rfl rfl
 ·exact fun _ _ h=>r9.flag (by decide) h
 ·exact fun w=>Mk.refl
 ·rintro L a w ⟨-,hS,hbeh,hsm,haft⟩
  have f14:a.tmps[14]?.getD undef=_:=aj (haft.1 rfl).2;obtain ⟨hm,i1,g1,v1,a1,hx,y0,y1,y2,y3⟩:=hS;obtain rfl:=y1.2 (hbeh 15 rfl);have hc:w.cell? ⟨s0,3,none⟩=some (.slice p.gs.at_ p.ghosts.length p.gs.cap):=hx.cell 3 rfl;simp [go_sem,f14,hc];exact rfl
 refine ak.any (fun L v w=>aI lo w 50 3 aG.cells v p.ghosts) rfl ?_ ?_ ?_
 ·exact fun _ _ _ _ _ _ hm h=>h.onM hm hlo
 ·rintro L a w ⟨hL,hS,hbeh,hsm,haft⟩
  have f15:a.tmps[15]?.getD undef=_:=aj (haft.1 rfl).2;have hS2:=hS;obtain ⟨hm,i1,g1,v1,a1,hx,y0,y1,y2,y3⟩:=hS;refine Oper.wp_enter (f:=81) (args:=#[.slice p.gs.at_ p.ghosts.length p.gs.cap]) (w':=w) ?_ ?_
  ·simp [go_sem,f15]
  ·refine (kY w p.gs p.ghosts _ ((hp.ghosts.row.below (hm.below hn0 hbx.lt)).more (show n0≤w.heap.size by have:=hm.size;omega)) hfew.2.1).mono ?_
   rintro o w' ⟨⟨v,rfl,ho⟩,hb⟩;exact ⟨v,rfl,v,rfl,fun e=>(by cases e),ho.less (Nat.le_trans hlw hm.size),r9.flag (by decide) (hS2.on hlo hb),Mk.of hb hx.lt⟩
 apply ak.exact rfl rfl
 ·exact fun _ _ h=>r9.flag (by decide) h
 ·exact fun w=>Mk.refl
 ·rintro L a w ⟨-,hS,hbeh,hsm,haft⟩
  have f1:a.tmps[1]?.getD undef=_:=(hsm 1 rfl).trans f1;simp [go_sem,f1];exact rfl
 apply ak.exact rfl rfl
 ·exact fun _ _ h=>r9.flag (by decide) h
 ·exact fun w=>Mk.refl
 ·rintro L a w ⟨-,hS,hbeh,hsm,haft⟩
  have f17:a.tmps[17]?.getD undef=_:=aj (haft.1 rfl).2;obtain ⟨hm,i1,g1,v1,a1,hx,y0,y1,y2,y3⟩:=hS;obtain rfl:=y2.2 (hbeh 17 rfl);have hc:w.cell? ⟨s0,4,none⟩=some (.slice p.vs.at_ p.vars.length p.vs.cap):=hx.cell 4 rfl;simp [go_sem,f17,hc];exact rfl
 refine ak.any (fun L v w=>aI lo w 50 3 aG.cells v p.vars) rfl ?_ ?_ ?_
 ·exact fun _ _ _ _ _ _ hm h=>h.onM hm hlo
 ·rintro L a w ⟨hL,hS,hbeh,hsm,haft⟩
  have f18:a.tmps[18]?.getD undef=_:=aj (haft.1 rfl).2;have hS2:=hS;obtain ⟨hm,i1,g1,v1,a1,hx,y0,y1,y2,y3⟩:=hS;refine Oper.wp_enter (f:=81) (args:=#[.slice p.vs.at_ p.vars.length p.vs.cap]) (w':=w) ?_ ?_
  ·simp [go_sem,f18]
  ·refine (kY w p.vs p.vars _ ((hp.vars.row.below (hm.below hn0 hbx.lt)).more (show n0≤w.heap.size by have:=hm.size;omega)) hfew.2.2.1).mono ?_
   rintro o w' ⟨⟨v,rfl,ho⟩,hb⟩;exact ⟨v,rfl,v,rfl,fun e=>(by cases e),ho.less (Nat.le_trans hlw hm.size),r9.flag (by decide) (hS2.on hlo hb),Mk.of hb hx.lt⟩
 apply ak.exact rfl rfl
 ·exact fun _ _ h=>r9.flag (by decide) h
 ·exact fun w=>Mk.refl
 ·rintro L a w ⟨-,hS,hbeh,hsm,haft⟩
  have f1:a.tmps[1]?.getD undef=_:=(hsm 1 rfl).trans f1;simp [go_sem,f1];exact rfl
 apply ak.exact rfl rfl
 ·exact fun _ _ h=>r9.flag (by decide) h
 ·exact fun w=>Mk.refl
 ·rintro L a w ⟨-,hS,hbeh,hsm,haft⟩
  have f20:a.tmps[20]?.getD undef=_:=aj (haft.1 rfl).2;obtain ⟨hm,i1,g1,v1,a1,hx,y0,y1,y2,y3⟩:=hS;obtain rfl:=y3.2 (hbeh 19 rfl);have hc:w.cell? ⟨s0,5,none⟩=some (.slice p.as.at_ p.arrays.length p.as.cap):=hx.cell 5 rfl;simp [go_sem,f20,hc];exact rfl
 refine ak.any (fun L v w=>aI lo w 50 3 aG.cells v p.arrays) rfl ?_ ?_ ?_
 ·exact fun _ _ _ _ _ _ hm h=>h.onM hm hlo
 ·rintro L a w ⟨hL,hS,hbeh,hsm,haft⟩
  have f21:a.tmps[21]?.getD undef=_:=aj (haft.1 rfl).2;have hS2:=hS;obtain ⟨hm,i1,g1,v1,a1,hx,y0,y1,y2,y3⟩:=hS;refine Oper.wp_enter (f:=81) (args:=#[.slice p.as.at_ p.arrays.length p.as.cap]) (w':=w) ?_ ?_
  ·simp [go_sem,f21]
  ·refine (kY w p.as p.arrays _ ((hp.arrays.row.below (hm.below hn0 hbx.lt)).more (show n0≤w.heap.size by have:=hm.size;omega)) hfew.2.2.2).mono ?_
   rintro o w' ⟨⟨v,rfl,ho⟩,hb⟩;exact ⟨v,rfl,v,rfl,fun e=>(by cases e),ho.less (Nat.le_trans hlw hm.size),r9.flag (by decide) (hS2.on hlo hb),Mk.of hb hx.lt⟩
 apply ak.exact rfl rfl
 ·exact fun _ _ h=>r9.flag (by decide) h
 ·exact fun w=>Mk.refl
 ·rintro L a w ⟨-,hS,hbeh,hsm,haft⟩
  have f1:a.tmps[1]?.getD undef=_:=(hsm 1 rfl).trans f1;simp [go_sem,f1];exact rfl
 refine ak.any (fun L v w=>True) rfl ?_ ?_ ?_
 ·exact fun _ _ _ _ _ _ _ h=>h
 ·rintro L a w ⟨hL,hS,hbeh,hsm,haft⟩
  have f23:a.tmps[23]?.getD undef=_:=aj (haft.1 rfl).2;have ho:aI lo w 50 3 aG.cells (a.eval (.tmp 13)) p.inputs:=(haft.2.1 rfl).2;have f13x:a.tmps[13]?.getD undef=a.eval (.tmp 13):=aj rfl;obtain ⟨A,c,hform⟩:=ho.form;rw [hform] at f13x ho;obtain ⟨hm,i1,g1,v1,a1,hx,y0,y1,y2,y3⟩:=hS;have hm2:=Mk.set hx.lt 2 (.slice A p.inputs.length c);have hc:=hx.cell 2 rfl;have hfr:=hx.free 2;refine Oper.wp_skip (w':=w.setCell ⟨s0,2,none⟩ (.slice A p.inputs.length c)) ?_ ?_
  ·simp [go_sem,f23,f13x,hc,hfr]
  ·exact ⟨undef,rfl,fun _=>rfl,trivial,⟨hm.trans hm2,⟨A,c⟩,g1,v1,a1,hx.put 2 _ (by simp [af.arr,af.cells,Sp.val]),(by rw [aC];exact ⟨fun _=>ho.onM hm2 hlo,fun h=>(by cases h)⟩),(by rw [ai (by decide)];exact y1.on hm2 hlo),(by rw [ai (by decide)];exact y2.on hm2 hlo),(by rw [ai (by decide)];exact y3.on hm2 hlo)⟩,hm2⟩
 apply ak.exact rfl rfl
 ·exact fun _ _ h=>r9.flag (by decide) h
 ·exact fun w=>Mk.refl
 ·rintro L a w ⟨-,hS,hbeh,hsm,haft⟩
  have f1:a.tmps[1]?.getD undef=_:=(hsm 1 rfl).trans f1;simp [go_sem,f1];exact rfl
 refine ak.any (fun L v w=>True) rfl ?_ ?_ ?_
 ·exact fun _ _ _ _ _ _ _ h=>h
 ·rintro L a w ⟨hL,hS,hbeh,hsm,haft⟩
  have f24:a.tmps[24]?.getD undef=_:=aj (haft.1 rfl).2;have ho:aI lo w 50 3 aG.cells (a.eval (.tmp 16)) p.ghosts:=(haft.2.1 rfl).2;have f16x:a.tmps[16]?.getD undef=a.eval (.tmp 16):=aj rfl;obtain ⟨A,c,hform⟩:=ho.form;rw [hform] at f16x ho;obtain ⟨hm,i1,g1,v1,a1,hx,y0,y1,y2,y3⟩:=hS;have hm2:=Mk.set hx.lt 3 (.slice A p.ghosts.length c);have hc:=hx.cell 3 rfl;have hfr:=hx.free 3;refine Oper.wp_skip (w':=w.setCell ⟨s0,3,none⟩ (.slice A p.ghosts.length c)) ?_ ?_
  ·simp [go_sem,f24,f16x,hc,hfr]
  ·exact ⟨undef,rfl,fun _=>rfl,trivial,⟨hm.trans hm2,i1,⟨A,c⟩,v1,a1,hx.put 3 _ (by simp [af.arr,af.cells,Sp.val]),(by rw [ai (by decide)];exact y0.on hm2 hlo),(by rw [aC];exact ⟨fun _=>ho.onM hm2 hlo,fun h=>(by cases h)⟩),(by rw [ai (by decide)];exact y2.on hm2 hlo),(by rw [ai (by decide)];exact y3.on hm2 hlo)⟩,hm2⟩
 apply ak.exact rfl rfl
 ·exact fun _ _ h=>r9.flag (by decide) h
 ·exact fun w=>Mk.refl
 ·rintro L a w ⟨-,hS,hbeh,hsm,haft⟩
  have f1:a.tmps[1]?.getD undef=_:=(hsm 1 rfl).trans f1;simp [go_sem,f1];exact rfl
 refine ak.any (fun L v w=>True) rfl ?_ ?_ ?_
 ·exact fun _ _ _ _ _ _ _ h=>h
 ·rintro L a w ⟨hL,hS,hbeh,hsm,haft⟩
  have f25:a.tmps[25]?.getD undef=_:=aj (haft.1 rfl).2;have ho:aI lo w 50 3 aG.cells (a.eval (.tmp 19)) p.vars:=(haft.2.1 rfl).2;have f19x:a.tmps[19]?.getD undef=a.eval (.tmp 19):=aj rfl;obtain ⟨A,c,hform⟩:=ho.form;rw [hform] at f19x ho;obtain ⟨hm,i1,g1,v1,a1,hx,y0,y1,y2,y3⟩:=hS;have hm2:=Mk.set hx.lt 4 (.slice A p.vars.length c);have hc:=hx.cell 4 rfl;have hfr:=hx.free 4;refine Oper.wp_skip (w':=w.setCell ⟨s0,4,none⟩ (.slice A p.vars.length c)) ?_ ?_
  ·simp [go_sem,f25,f19x,hc,hfr]
  ·exact ⟨undef,rfl,fun _=>rfl,trivial,⟨hm.trans hm2,i1,g1,⟨A,c⟩,a1,hx.put 4 _ (by simp [af.arr,af.cells,Sp.val]),(by rw [ai (by decide)];exact y0.on hm2 hlo),(by rw [ai (by decide)];exact y1.on hm2 hlo),(by rw [aC];exact ⟨fun _=>ho.onM hm2 hlo,fun h=>(by cases h)⟩),(by rw [ai (by decide)];exact y3.on hm2 hlo)⟩,hm2⟩
 apply ak.exact rfl rfl
 ·exact fun _ _ h=>r9.flag (by decide) h
 ·exact fun w=>Mk.refl
 ·rintro L a w ⟨-,hS,hbeh,hsm,haft⟩
  have f1:a.tmps[1]?.getD undef=_:=(hsm 1 rfl).trans f1;simp [go_sem,f1];exact rfl
 refine ak.any (fun L v w=>True) rfl ?_ ?_ ?_
 ·exact fun _ _ _ _ _ _ _ h=>h
 ·rintro L a w ⟨hL,hS,hbeh,hsm,haft⟩
  have f26:a.tmps[26]?.getD undef=_:=aj (haft.1 rfl).2;have ho:aI lo w 50 3 aG.cells (a.eval (.tmp 22)) p.arrays:=(haft.2.1 rfl).2;have f22x:a.tmps[22]?.getD undef=a.eval (.tmp 22):=aj rfl;obtain ⟨A,c,hform⟩:=ho.form;rw [hform] at f22x ho;obtain ⟨hm,i1,g1,v1,a1,hx,y0,y1,y2,y3⟩:=hS;have hm2:=Mk.set hx.lt 5 (.slice A p.arrays.length c);have hc:=hx.cell 5 rfl;have hfr:=hx.free 5;refine Oper.wp_skip (w':=w.setCell ⟨s0,5,none⟩ (.slice A p.arrays.length c)) ?_ ?_
  ·simp [go_sem,f26,f22x,hc,hfr]
  ·exact ⟨undef,rfl,fun _=>rfl,trivial,⟨hm.trans hm2,i1,g1,v1,⟨A,c⟩,hx.put 5 _ (by simp [af.arr,af.cells,Sp.val]),(by rw [ai (by decide)];exact y0.on hm2 hlo),(by rw [ai (by decide)];exact y1.on hm2 hlo),(by rw [ai (by decide)];exact y2.on hm2 hlo),(by rw [aC];exact ⟨fun _=>ho.onM hm2 hlo,fun h=>(by cases h)⟩)⟩,hm2⟩
 rintro L a w hL ⟨hS,hsame,hv⟩;refine ⟨rfl,hsame.1.trans hsz,hsame.2.1,hsame.2.2,?_⟩;unfold r9 at hS ⊢;rw [hL 13 (by decide),hL 15 (by decide),hL 17 (by decide),hL 19 (by decide)] at hS;exact hS
noncomputable def opsC4:Array Oper:=((Tryz.f84.body.bind (opsOf 4)).getD #[])
def Dj (t:Nat):Bool:=decide (t≤10)
theorem Ij:dR opsC4 10 94 Dj=true:=by kernel_rfl
def zU (s0 lo:Nat) (p:af) (w0:World) (L:Nat→Bool) (w:World):Prop:=Mk s0 w0 w∧∃(n1 r1:Sp),Bx s0 w { p with ns:=n1,rs:=r1 }∧zZ lo 149 7 bn.cells (L 7) w p.ns n1 p.inits∧zZ lo 54 3 aK.cells (L 9) w p.rs r1 p.procs
theorem zU.flag {s0 lo k:Nat} {p:af} {w0:World} {L:Nat→Bool} {w:World} (hk:k≠7∧k≠9) (h:zU s0 lo p w0 L w):zU s0 lo p w0 (jr L k) w:=by
 unfold zU at h ⊢;obtain ⟨h7,h9⟩:=hk;rw [ai (Ne.symm h7),ai (Ne.symm h9)];exact h
theorem zU.on {s0 lo:Nat} {p:af} {w0:World} {L:Nat→Bool} {w w':World} (hs:s0<lo) (h:zU s0 lo p w0 L w) (hb:Below w.heap.size w w'):zU s0 lo p w0 L w':=by
 obtain ⟨hm,n1,r1,hx,y0,y1⟩:=h;have hm2:=Mk.of hb hx.lt;exact ⟨hm.trans hm2,n1,r1,hx.on hb,y0.on hm2 hs,y1.on hm2 hs⟩
set_option maxRecDepth 10000000 in
set_option maxHeartbeats 64000000 in
theorem KZ {a0:Act} {w0:World} (hsz:a0.tmps.size=94) (s0 lo n0:Nat) (p:af) (hlo:s0<lo) (hlw:lo≤w0.heap.size) (hn0:n0≤s0)
  (f1:a0.tmps[1]?.getD undef=.pointer (some ⟨s0,0,none⟩)) (hir:RowOf n0 w0 p.ns 7 bn.cells p.inits) (hpr:RowOf n0 w0 p.rs 3 aK.cells p.procs) (hfew:p.inits.length≤1000000∧p.procs.length≤1000000)
  (hbx:Bx s0 w0 p) :
  (Code.region 4 opsC4 true).wp Tryz.prog (fun e a w=>e=.normal∧a.tmps.size=94∧a.defers=a0.defers∧(∀t:Nat,Dj t=true→a.tmps[t]?.getD undef=a0.tmps[t]?.getD undef)∧zU s0 lo p w0 (fun _=>true) w) a0 w0:=by
 refine aP (n:=10) (sz:=94) (keep:=Dj) rfl Ij hsz (zU s0 lo p w0) (fun _ w w'=>Mk s0 w w') (⟨(Below.refl _ _).drew,p.ns,p.rs,hbx,zZ.off,zZ.off⟩) ?_;have e:opsC4.toList=opsC4.toList:=rfl
 conv at e=>rhs;arg 1;whnf
 simp only at e;rw [e];clear e
 apply ak.exact rfl rfl
 ·exact fun _ _ h=>zU.flag (by decide) h
 ·exact fun w=>Mk.refl
 ·rintro L a w ⟨-,hS,hbeh,hsm,haft⟩
  have f1:a.tmps[1]?.getD undef=_:=(hsm 1 rfl).trans f1;simp [go_sem,f1];exact rfl
 apply ak.exact rfl rfl
 ·exact fun _ _ h=>zU.flag (by decide) h
 ·exact fun w=>Mk.refl
 ·rintro L a w ⟨-,hS,hbeh,hsm,haft⟩
  have f27:a.tmps[27]?.getD undef=_:=aj (haft.1 rfl).2;obtain ⟨hm,n1,r1,hx,y0,y1⟩:=hS;obtain rfl:=y0.2 (hbeh 7 rfl);have hc:w.cell? ⟨s0,12,none⟩=some (.slice p.ns.at_ p.inits.length p.ns.cap):=hx.cell 12 rfl;simp [go_sem,f27,hc];exact rfl
 refine ak.any (fun L v w=>aI lo w 149 7 bn.cells v p.inits) rfl ?_ ?_ ?_
 ·exact fun _ _ _ _ _ _ hm h=>h.onM hm hlo
 ·rintro L a w ⟨hL,hS,hbeh,hsm,haft⟩
  have f28:a.tmps[28]?.getD undef=_:=aj (haft.1 rfl).2;have hS2:=hS;obtain ⟨hm,n1,r1,hx,y0,y1⟩:=hS;refine Oper.wp_enter (f:=147) (args:=#[.slice p.ns.at_ p.inits.length p.ns.cap]) (w':=w) ?_ ?_
  ·simp [go_sem,f28]
  ·refine (Cy w p.ns p.inits _ ((hir.below (hm.below hn0 hbx.lt)).more (show n0≤w.heap.size by have:=hm.size;omega)) hfew.1).mono ?_
   rintro o w' ⟨⟨v,rfl,ho⟩,hb⟩;exact ⟨v,rfl,v,rfl,fun e=>(by cases e),ho.less (Nat.le_trans hlw hm.size),zU.flag (by decide) (hS2.on hlo hb),Mk.of hb hx.lt⟩
 apply ak.exact rfl rfl
 ·exact fun _ _ h=>zU.flag (by decide) h
 ·exact fun w=>Mk.refl
 ·rintro L a w ⟨-,hS,hbeh,hsm,haft⟩
  have f1:a.tmps[1]?.getD undef=_:=(hsm 1 rfl).trans f1;simp [go_sem,f1];exact rfl
 apply ak.exact rfl rfl
 ·exact fun _ _ h=>zU.flag (by decide) h
 ·exact fun w=>Mk.refl
 ·rintro L a w ⟨-,hS,hbeh,hsm,haft⟩
  have f30:a.tmps[30]?.getD undef=_:=aj (haft.1 rfl).2;obtain ⟨hm,n1,r1,hx,y0,y1⟩:=hS;obtain rfl:=y1.2 (hbeh 9 rfl);have hc:w.cell? ⟨s0,13,none⟩=some (.slice p.rs.at_ p.procs.length p.rs.cap):=hx.cell 13 rfl;simp [go_sem,f30,hc];exact rfl
 refine ak.any (fun L v w=>aI lo w 54 3 aK.cells v p.procs) rfl ?_ ?_ ?_
 ·exact fun _ _ _ _ _ _ hm h=>h.onM hm hlo
 ·rintro L a w ⟨hL,hS,hbeh,hsm,haft⟩
  have f31:a.tmps[31]?.getD undef=_:=aj (haft.1 rfl).2;have hS2:=hS;obtain ⟨hm,n1,r1,hx,y0,y1⟩:=hS;refine Oper.wp_enter (f:=148) (args:=#[.slice p.rs.at_ p.procs.length p.rs.cap]) (w':=w) ?_ ?_
  ·simp [go_sem,f31]
  ·refine (Cz w p.rs p.procs _ ((hpr.below (hm.below hn0 hbx.lt)).more (show n0≤w.heap.size by have:=hm.size;omega)) hfew.2).mono ?_
   rintro o w' ⟨⟨v,rfl,ho⟩,hb⟩;exact ⟨v,rfl,v,rfl,fun e=>(by cases e),ho.less (Nat.le_trans hlw hm.size),zU.flag (by decide) (hS2.on hlo hb),Mk.of hb hx.lt⟩
 apply ak.exact rfl rfl
 ·exact fun _ _ h=>zU.flag (by decide) h
 ·exact fun w=>Mk.refl
 ·rintro L a w ⟨-,hS,hbeh,hsm,haft⟩
  have f1:a.tmps[1]?.getD undef=_:=(hsm 1 rfl).trans f1;simp [go_sem,f1];exact rfl
 refine ak.any (fun L v w=>True) rfl ?_ ?_ ?_
 ·exact fun _ _ _ _ _ _ _ h=>h
 ·rintro L a w ⟨hL,hS,hbeh,hsm,haft⟩
  have f33:a.tmps[33]?.getD undef=_:=aj (haft.1 rfl).2;have ho:aI lo w 149 7 bn.cells (a.eval (.tmp 29)) p.inits:=(haft.2.1 rfl).2;have f29x:a.tmps[29]?.getD undef=a.eval (.tmp 29):=aj rfl;obtain ⟨A,c,hform⟩:=ho.form;rw [hform] at f29x ho;obtain ⟨hm,n1,r1,hx,y0,y1⟩:=hS;have hm2:=Mk.set hx.lt 12 (.slice A p.inits.length c);have hc:=hx.cell 12 rfl;have hfr:=hx.free 12;refine Oper.wp_skip (w':=w.setCell ⟨s0,12,none⟩ (.slice A p.inits.length c)) ?_ ?_
  ·simp [go_sem,f33,f29x,hc,hfr]
  ·exact ⟨undef,rfl,fun _=>rfl,trivial,⟨hm.trans hm2,⟨A,c⟩,r1,hx.put 12 _ (by simp [af.arr,af.cells,Sp.val]),(by rw [aC];exact ⟨fun _=>ho.onM hm2 hlo,fun h=>(by cases h)⟩),(by rw [ai (by decide)];exact y1.on hm2 hlo)⟩,hm2⟩
 apply ak.exact rfl rfl
 ·exact fun _ _ h=>zU.flag (by decide) h
 ·exact fun w=>Mk.refl
 ·rintro L a w ⟨-,hS,hbeh,hsm,haft⟩
  have f1:a.tmps[1]?.getD undef=_:=(hsm 1 rfl).trans f1;simp [go_sem,f1];exact rfl
 refine ak.any (fun L v w=>True) rfl ?_ ?_ ?_
 ·exact fun _ _ _ _ _ _ _ h=>h
 ·rintro L a w ⟨hL,hS,hbeh,hsm,haft⟩
  have f34:a.tmps[34]?.getD undef=_:=aj (haft.1 rfl).2;have ho:aI lo w 54 3 aK.cells (a.eval (.tmp 32)) p.procs:=(haft.2.1 rfl).2;have f32x:a.tmps[32]?.getD undef=a.eval (.tmp 32):=aj rfl;obtain ⟨A,c,hform⟩:=ho.form;rw [hform] at f32x ho;obtain ⟨hm,n1,r1,hx,y0,y1⟩:=hS;have hm2:=Mk.set hx.lt 13 (.slice A p.procs.length c);have hc:=hx.cell 13 rfl;have hfr:=hx.free 13;refine Oper.wp_skip (w':=w.setCell ⟨s0,13,none⟩ (.slice A p.procs.length c)) ?_ ?_
  ·simp [go_sem,f34,f32x,hc,hfr]
  ·exact ⟨undef,rfl,fun _=>rfl,trivial,⟨hm.trans hm2,n1,⟨A,c⟩,hx.put 13 _ (by simp [af.arr,af.cells,Sp.val]),(by rw [ai (by decide)];exact y0.on hm2 hlo),(by rw [aC];exact ⟨fun _=>ho.onM hm2 hlo,fun h=>(by cases h)⟩)⟩,hm2⟩
 rintro L a w hL ⟨hS,hsame,hv⟩;refine ⟨rfl,hsame.1.trans hsz,hsame.2.1,hsame.2.2,?_⟩;unfold zU at hS ⊢;rw [hL 7 (by decide),hL 9 (by decide)] at hS;exact hS
noncomputable def opsC15:Array Oper:=((Tryz.f84.body.bind (opsOf 15)).getD #[])
def zm (t:Nat):Bool:=decide (t≤76)
theorem Fv:dR opsC15 10 94 zm=true:=by kernel_rfl
def lY (s0 lo:Nat) (p:af) (w0:World) (L:Nat→Bool) (w:World):Prop:=Mk s0 w0 w∧∃(e1 e2:ae),Bx s0 w { p with require:=e1,invariant:=e2 }∧Jn lo (L 7) w p.require e1∧Jn lo (L 9) w p.invariant e2
theorem lY.flag {s0 lo k:Nat} {p:af} {w0:World} {L:Nat→Bool} {w:World} (hk:k≠7∧k≠9) (h:lY s0 lo p w0 L w):lY s0 lo p w0 (jr L k) w:=by
 unfold lY at h ⊢;obtain ⟨h7,h9⟩:=hk;rw [ai (Ne.symm h7),ai (Ne.symm h9)];exact h
theorem lY.on {s0 lo:Nat} {p:af} {w0:World} {L:Nat→Bool} {w w':World} (hs:s0<lo) (h:lY s0 lo p w0 L w) (hb:Below w.heap.size w w'):lY s0 lo p w0 L w':=by
 obtain ⟨hm,e1,e2,hx,y0,y1⟩:=h;have hm2:=Mk.of hb hx.lt;exact ⟨hm.trans hm2,e1,e2,hx.on hb,y0.on hm2 hs,y1.on hm2 hs⟩
set_option maxRecDepth 10000000 in
set_option maxHeartbeats 64000000 in
theorem Kz {a0:Act} {w0:World} (hsz:a0.tmps.size=94) (s0 lo n0:Nat) (p:af) (hlo:s0<lo) (hlw:lo≤w0.heap.size) (hn0:n0≤s0)
  (f1:a0.tmps[1]?.getD undef=.pointer (some ⟨s0,0,none⟩)) (hnm:xx 150 #[] id n0 w0 p.require∧xx 150 #[] id n0 w0 p.invariant)
  (hbx:Bx s0 w0 p) :
  (Code.region 15 opsC15 true).wp Tryz.prog (fun e a w=>e=.normal∧a.tmps.size=94∧a.defers=a0.defers∧(∀t:Nat,zm t=true→a.tmps[t]?.getD undef=a0.tmps[t]?.getD undef)∧lY s0 lo p w0 (fun _=>true) w) a0 w0:=by
 refine aP (n:=10) (sz:=94) (keep:=zm) rfl Fv hsz (lY s0 lo p w0) (fun _ w w'=>Mk s0 w w') (⟨(Below.refl _ _).drew,p.require,p.invariant,hbx,Jn.off,Jn.off⟩) ?_;have e:opsC15.toList=opsC15.toList:=rfl
 conv at e=>rhs;arg 1;whnf
 simp only at e;rw [e];clear e
 apply ak.exact rfl rfl
 ·exact fun _ _ h=>lY.flag (by decide) h
 ·exact fun w=>Mk.refl
 ·rintro L a w ⟨-,hS,hbeh,hsm,haft⟩
  have f1:a.tmps[1]?.getD undef=_:=(hsm 1 rfl).trans f1;simp [go_sem,f1];exact rfl
 apply ak.exact rfl rfl
 ·exact fun _ _ h=>lY.flag (by decide) h
 ·exact fun w=>Mk.refl
 ·rintro L a w ⟨-,hS,hbeh,hsm,haft⟩
  have f77:a.tmps[77]?.getD undef=_:=aj (haft.1 rfl).2;obtain ⟨hm,e1,e2,hx,y0,y1⟩:=hS;obtain rfl:=y0.2 (hbeh 7 rfl);have c0:w.cell? ⟨s0,6,none⟩=some (.int .u8 p.require.kind):=hx.cell 6 rfl;have c1:w.cell? ⟨s0,7,none⟩=some (.int .u8 p.require.op):=hx.cell 7 rfl;have c2:w.cell? ⟨s0,8,none⟩=some (.int .u32 p.require.value):=hx.cell 8 rfl;have c3:w.cell? ⟨s0,9,none⟩=some (.int .i64 p.require.width):=hx.cell 9 rfl;have c4:w.cell? ⟨s0,10,none⟩=some (.string p.require.name):=hx.cell 10 rfl;have c5:w.cell? ⟨s0,11,none⟩=some (.slice p.require.sp.at_ p.require.subs.length p.require.sp.cap):=hx.cell 11 rfl;simp [go_sem,f77,c0,c1,c2,c3,c4,c5];exact rfl
 refine ak.any (fun L v w=>∃e':ae,v=.agg #[.int .u8 e'.kind,.int .u8 e'.op,.int .u32 e'.value,.int .i64 e'.width,.string e'.name,.slice e'.sp.at_ e'.subs.length e'.sp.cap]∧av e'=av p.require∧gM lo w e') rfl ?_ ?_ ?_
 ·exact fun _ _ _ _ _ _ hm ⟨e',h1,h2,h3⟩=>⟨e',h1,h2,h3.on hm hlo⟩
 ·rintro L a w ⟨hL,hS,hbeh,hsm,haft⟩
  have f78:a.tmps[78]?.getD undef=_:=aj (haft.1 rfl).2;have hS2:=hS;obtain ⟨hm,e1,e2,hx,y0,y1⟩:=hS;refine Oper.wp_enter (f:=149) (args:=#[.agg #[.int .u8 p.require.kind,.int .u8 p.require.op,.int .u32 p.require.value,.int .i64 p.require.width,.string p.require.name,.slice p.require.sp.at_ p.require.subs.length p.require.sp.cap],.func (.func 150) #[] #[]]) (w':=w) ?_ ?_
  ·simp [go_sem,f78]
  ·refine (hnm.1 w (hm.below hn0 hbx.lt) (by have:=hm.size;omega)).mono ?_
   rintro o w' ⟨e',rfl,h1,h2,hb⟩;rw [nI] at h1;exact ⟨_,rfl,_,rfl,fun e=>(by cases e),⟨e',rfl,h1.same,h2.less (Nat.le_trans hlw hm.size)⟩,lY.flag (by decide) (hS2.on hlo hb),Mk.of hb hx.lt⟩
 apply ak.exact rfl rfl
 ·exact fun _ _ h=>lY.flag (by decide) h
 ·exact fun w=>Mk.refl
 ·rintro L a w ⟨-,hS,hbeh,hsm,haft⟩
  have f1:a.tmps[1]?.getD undef=_:=(hsm 1 rfl).trans f1;simp [go_sem,f1];exact rfl
 apply ak.exact rfl rfl
 ·exact fun _ _ h=>lY.flag (by decide) h
 ·exact fun w=>Mk.refl
 ·rintro L a w ⟨-,hS,hbeh,hsm,haft⟩
  have f80:a.tmps[80]?.getD undef=_:=aj (haft.1 rfl).2;obtain ⟨hm,e1,e2,hx,y0,y1⟩:=hS;obtain rfl:=y1.2 (hbeh 9 rfl);have c0:w.cell? ⟨s0,16,none⟩=some (.int .u8 p.invariant.kind):=hx.cell 16 rfl;have c1:w.cell? ⟨s0,17,none⟩=some (.int .u8 p.invariant.op):=hx.cell 17 rfl;have c2:w.cell? ⟨s0,18,none⟩=some (.int .u32 p.invariant.value):=hx.cell 18 rfl;have c3:w.cell? ⟨s0,19,none⟩=some (.int .i64 p.invariant.width):=hx.cell 19 rfl;have c4:w.cell? ⟨s0,20,none⟩=some (.string p.invariant.name):=hx.cell 20 rfl;have c5:w.cell? ⟨s0,21,none⟩=some (.slice p.invariant.sp.at_ p.invariant.subs.length p.invariant.sp.cap):=hx.cell 21 rfl;simp [go_sem,f80,c0,c1,c2,c3,c4,c5];exact rfl
 refine ak.any (fun L v w=>∃e':ae,v=.agg #[.int .u8 e'.kind,.int .u8 e'.op,.int .u32 e'.value,.int .i64 e'.width,.string e'.name,.slice e'.sp.at_ e'.subs.length e'.sp.cap]∧av e'=av p.invariant∧gM lo w e') rfl ?_ ?_ ?_
 ·exact fun _ _ _ _ _ _ hm ⟨e',h1,h2,h3⟩=>⟨e',h1,h2,h3.on hm hlo⟩
 ·rintro L a w ⟨hL,hS,hbeh,hsm,haft⟩
  have f81:a.tmps[81]?.getD undef=_:=aj (haft.1 rfl).2;have hS2:=hS;obtain ⟨hm,e1,e2,hx,y0,y1⟩:=hS;refine Oper.wp_enter (f:=149) (args:=#[.agg #[.int .u8 p.invariant.kind,.int .u8 p.invariant.op,.int .u32 p.invariant.value,.int .i64 p.invariant.width,.string p.invariant.name,.slice p.invariant.sp.at_ p.invariant.subs.length p.invariant.sp.cap],.func (.func 150) #[] #[]]) (w':=w) ?_ ?_
  ·simp [go_sem,f81]
  ·refine (hnm.2 w (hm.below hn0 hbx.lt) (by have:=hm.size;omega)).mono ?_
   rintro o w' ⟨e',rfl,h1,h2,hb⟩;rw [nI] at h1;exact ⟨_,rfl,_,rfl,fun e=>(by cases e),⟨e',rfl,h1.same,h2.less (Nat.le_trans hlw hm.size)⟩,lY.flag (by decide) (hS2.on hlo hb),Mk.of hb hx.lt⟩
 apply ak.exact rfl rfl
 ·exact fun _ _ h=>lY.flag (by decide) h
 ·exact fun w=>Mk.refl
 ·rintro L a w ⟨-,hS,hbeh,hsm,haft⟩
  have f1:a.tmps[1]?.getD undef=_:=(hsm 1 rfl).trans f1;simp [go_sem,f1];exact rfl
 refine ak.any (fun L v w=>True) rfl ?_ ?_ ?_
 ·exact fun _ _ _ _ _ _ _ h=>h
 ·rintro L a w ⟨hL,hS,hbeh,hsm,haft⟩
  have f83:a.tmps[83]?.getD undef=_:=aj (haft.1 rfl).2;obtain ⟨e',x79,h1,h2⟩:=(haft.2.1 rfl).2;have f79:a.tmps[79]?.getD undef=.agg #[.int .u8 e'.kind,.int .u8 e'.op,.int .u32 e'.value,.int .i64 e'.width,.string e'.name,.slice e'.sp.at_ e'.subs.length e'.sp.cap]:=aj x79;obtain ⟨hm,e1,e2,hx,y0,y1⟩:=hS;have hm2:=Mk.six hx.lt 6 (.int .u8 e'.kind) (.int .u8 e'.op) (.int .u32 e'.value) (.int .i64 e'.width) (.string e'.name) (.slice e'.sp.at_ e'.subs.length e'.sp.cap);have hc0:=hx.cell 6 rfl;have hc1:=hx.cell 7 rfl;have hc2:=hx.cell 8 rfl;have hc3:=hx.cell 9 rfl;have hc4:=hx.cell 10 rfl;have hc5:=hx.cell 11 rfl;have hf0:=hx.free 6;have hf1:=hx.free 7;have hf2:=hx.free 8;have hf3:=hx.free 9;have hf4:=hx.free 10;have hf5:=hx.free 11;refine Oper.wp_skip (w':=six w s0 6 (.int .u8 e'.kind) (.int .u8 e'.op) (.int .u32 e'.value) (.int .i64 e'.width) (.string e'.name) (.slice e'.sp.at_ e'.subs.length e'.sp.cap)) ?_ ?_
  ·simp [go_sem,six,f83,f79,hc0,hf0,hc1,hf1,hc2,hf2,hc3,hf3,hc4,hf4,hc5,hf5]
  ·exact ⟨undef,rfl,fun _=>rfl,trivial,⟨hm.trans hm2,e',e2,hx.six 6 _ _ _ _ _ _ (by simp [af.arr,af.cells,Sp.val]),(by rw [aC];exact ⟨fun _=>⟨h1,h2.on hm2 hlo⟩,fun h=>(by cases h)⟩),(by rw [ai (by decide)];exact y1.on hm2 hlo)⟩,hm2⟩
 apply ak.exact rfl rfl
 ·exact fun _ _ h=>lY.flag (by decide) h
 ·exact fun w=>Mk.refl
 ·rintro L a w ⟨-,hS,hbeh,hsm,haft⟩
  have f1:a.tmps[1]?.getD undef=_:=(hsm 1 rfl).trans f1;simp [go_sem,f1];exact rfl
 refine ak.any (fun L v w=>True) rfl ?_ ?_ ?_
 ·exact fun _ _ _ _ _ _ _ h=>h
 ·rintro L a w ⟨hL,hS,hbeh,hsm,haft⟩
  have f84:a.tmps[84]?.getD undef=_:=aj (haft.1 rfl).2;obtain ⟨e',x82,h1,h2⟩:=(haft.2.1 rfl).2;have f82:a.tmps[82]?.getD undef=.agg #[.int .u8 e'.kind,.int .u8 e'.op,.int .u32 e'.value,.int .i64 e'.width,.string e'.name,.slice e'.sp.at_ e'.subs.length e'.sp.cap]:=aj x82;obtain ⟨hm,e1,e2,hx,y0,y1⟩:=hS;have hm2:=Mk.six hx.lt 16 (.int .u8 e'.kind) (.int .u8 e'.op) (.int .u32 e'.value) (.int .i64 e'.width) (.string e'.name) (.slice e'.sp.at_ e'.subs.length e'.sp.cap);have hc0:=hx.cell 16 rfl;have hc1:=hx.cell 17 rfl;have hc2:=hx.cell 18 rfl;have hc3:=hx.cell 19 rfl;have hc4:=hx.cell 20 rfl;have hc5:=hx.cell 21 rfl;have hf0:=hx.free 16;have hf1:=hx.free 17;have hf2:=hx.free 18;have hf3:=hx.free 19;have hf4:=hx.free 20;have hf5:=hx.free 21;refine Oper.wp_skip (w':=six w s0 16 (.int .u8 e'.kind) (.int .u8 e'.op) (.int .u32 e'.value) (.int .i64 e'.width) (.string e'.name) (.slice e'.sp.at_ e'.subs.length e'.sp.cap)) ?_ ?_
  ·simp [go_sem,six,f84,f82,hc0,hf0,hc1,hf1,hc2,hf2,hc3,hf3,hc4,hf4,hc5,hf5]
  ·exact ⟨undef,rfl,fun _=>rfl,trivial,⟨hm.trans hm2,e1,e',hx.six 16 _ _ _ _ _ _ (by simp [af.arr,af.cells,Sp.val]),(by rw [ai (by decide)];exact y0.on hm2 hlo),(by rw [aC];exact ⟨fun _=>⟨h1,h2.on hm2 hlo⟩,fun h=>(by cases h)⟩)⟩,hm2⟩
 rintro L a w hL ⟨hS,hsame,hv⟩;refine ⟨rfl,hsame.1.trans hsz,hsame.2.1,hsame.2.2,?_⟩;unfold lY at hS ⊢;rw [hL 7 (by decide),hL 9 (by decide)] at hS;exact hS
noncomputable def opsC16:Array Oper:=((Tryz.f84.body.bind (opsOf 16)).getD #[])
def zn (t:Nat):Bool:=decide (t≤84)
theorem Fw:dR opsC16 10 94 zn=true:=by kernel_rfl
def lZ (s0 lo:Nat) (p:af) (w0:World) (L:Nat→Bool) (w:World):Prop:=Mk s0 w0 w∧∃(s1:Sp) (l1:List aa) (s2:Sp) (l2:List aa),Bx s0 w { p with ws:=s1,work:=l1,cs:=s2,recover:=l2 }∧Jl lo (L 7) w p.ws p.work s1 l1∧Jl lo (L 9) w p.cs p.recover s2 l2
theorem lZ.flag {s0 lo k:Nat} {p:af} {w0:World} {L:Nat→Bool} {w:World} (hk:k≠7∧k≠9) (h:lZ s0 lo p w0 L w):lZ s0 lo p w0 (jr L k) w:=by
 unfold lZ at h ⊢;obtain ⟨h7,h9⟩:=hk;rw [ai (Ne.symm h7),ai (Ne.symm h9)];exact h
theorem lZ.on {s0 lo:Nat} {p:af} {w0:World} {L:Nat→Bool} {w w':World} (hs:s0<lo) (h:lZ s0 lo p w0 L w) (hb:Below w.heap.size w w'):lZ s0 lo p w0 L w':=by
 obtain ⟨hm,s1,l1,s2,l2,hx,y0,y1⟩:=h;have hm2:=Mk.of hb hx.lt;exact ⟨hm.trans hm2,s1,l1,s2,l2,hx.on hb,y0.on hm2 hs,y1.on hm2 hs⟩
set_option maxRecDepth 10000000 in
set_option maxHeartbeats 64000000 in
theorem KA {a0:Act} {w0:World} (hsz:a0.tmps.size=94) (s0 lo n0:Nat) (p:af) (hlo:s0<lo) (hlw:lo≤w0.heap.size) (hn0:n0≤s0)
  (f1:a0.tmps[1]?.getD undef=.pointer (some ⟨s0,0,none⟩)) (hnm:iH 150 #[] id n0 w0 p.ws p.work∧iH 150 #[] id n0 w0 p.cs p.recover)
  (hbx:Bx s0 w0 p) :
  (Code.region 16 opsC16 true).wp Tryz.prog (fun e a w=>e=.normal∧a.tmps.size=94∧a.defers=a0.defers∧(∀t:Nat,zn t=true→a.tmps[t]?.getD undef=a0.tmps[t]?.getD undef)∧lZ s0 lo p w0 (fun _=>true) w) a0 w0:=by
 refine aP (n:=10) (sz:=94) (keep:=zn) rfl Fw hsz (lZ s0 lo p w0) (fun _ w w'=>Mk s0 w w') (⟨(Below.refl _ _).drew,p.ws,p.work,p.cs,p.recover,hbx,Jl.off,Jl.off⟩) ?_;have e:opsC16.toList=opsC16.toList:=rfl
 conv at e=>rhs;arg 1;whnf
 simp only at e;rw [e];clear e
 apply ak.exact rfl rfl
 ·exact fun _ _ h=>lZ.flag (by decide) h
 ·exact fun w=>Mk.refl
 ·rintro L a w ⟨-,hS,hbeh,hsm,haft⟩
  have f1:a.tmps[1]?.getD undef=_:=(hsm 1 rfl).trans f1;simp [go_sem,f1];exact rfl
 apply ak.exact rfl rfl
 ·exact fun _ _ h=>lZ.flag (by decide) h
 ·exact fun w=>Mk.refl
 ·rintro L a w ⟨-,hS,hbeh,hsm,haft⟩
  have f85:a.tmps[85]?.getD undef=_:=aj (haft.1 rfl).2;obtain ⟨hm,s1,l1,s2,l2,hx,y0,y1⟩:=hS;obtain ⟨rfl,rfl⟩:=y0.2 (hbeh 7 rfl);have hc:w.cell? ⟨s0,14,none⟩=some (.slice p.ws.at_ p.work.length p.ws.cap):=hx.cell 14 rfl;simp [go_sem,f85,hc];exact rfl
 refine ak.any (fun L v w=>∃(sp':Sp) (l':List aa),v=.slice sp'.at_ l'.length sp'.cap∧l'.map ah=p.work.map ah∧bQ lo w sp' l') rfl ?_ ?_ ?_
 ·exact fun _ _ _ _ _ _ hm ⟨sp',l',h1,h2,h3⟩=>⟨sp',l',h1,h2,h3.on hm hlo⟩
 ·rintro L a w ⟨hL,hS,hbeh,hsm,haft⟩
  have f86:a.tmps[86]?.getD undef=_:=aj (haft.1 rfl).2;have hS2:=hS;obtain ⟨hm,s1,l1,s2,l2,hx,y0,y1⟩:=hS;refine Oper.wp_enter (f:=151) (args:=#[.slice p.ws.at_ p.work.length p.ws.cap,.func (.func 150) #[] #[]]) (w':=w) ?_ ?_
  ·simp [go_sem,f86]
  ·refine (hnm.1 w (hm.below hn0 hbx.lt) (by have:=hm.size;omega)).mono ?_
   rintro o w' ⟨sp',l',rfl,h1,h2,hb⟩;rw [nI,zM] at h1;exact ⟨_,rfl,_,rfl,fun e=>(by cases e),⟨sp',l',rfl,h1.same,h2.less (Nat.le_trans hlw hm.size)⟩,lZ.flag (by decide) (hS2.on hlo hb),Mk.of hb hx.lt⟩
 apply ak.exact rfl rfl
 ·exact fun _ _ h=>lZ.flag (by decide) h
 ·exact fun w=>Mk.refl
 ·rintro L a w ⟨-,hS,hbeh,hsm,haft⟩
  have f1:a.tmps[1]?.getD undef=_:=(hsm 1 rfl).trans f1;simp [go_sem,f1];exact rfl
 apply ak.exact rfl rfl
 ·exact fun _ _ h=>lZ.flag (by decide) h
 ·exact fun w=>Mk.refl
 ·rintro L a w ⟨-,hS,hbeh,hsm,haft⟩
  have f88:a.tmps[88]?.getD undef=_:=aj (haft.1 rfl).2;obtain ⟨hm,s1,l1,s2,l2,hx,y0,y1⟩:=hS;obtain ⟨rfl,rfl⟩:=y1.2 (hbeh 9 rfl);have hc:w.cell? ⟨s0,15,none⟩=some (.slice p.cs.at_ p.recover.length p.cs.cap):=hx.cell 15 rfl;simp [go_sem,f88,hc];exact rfl
 refine ak.any (fun L v w=>∃(sp':Sp) (l':List aa),v=.slice sp'.at_ l'.length sp'.cap∧l'.map ah=p.recover.map ah∧bQ lo w sp' l') rfl ?_ ?_ ?_
 ·exact fun _ _ _ _ _ _ hm ⟨sp',l',h1,h2,h3⟩=>⟨sp',l',h1,h2,h3.on hm hlo⟩
 ·rintro L a w ⟨hL,hS,hbeh,hsm,haft⟩
  have f89:a.tmps[89]?.getD undef=_:=aj (haft.1 rfl).2;have hS2:=hS;obtain ⟨hm,s1,l1,s2,l2,hx,y0,y1⟩:=hS;refine Oper.wp_enter (f:=151) (args:=#[.slice p.cs.at_ p.recover.length p.cs.cap,.func (.func 150) #[] #[]]) (w':=w) ?_ ?_
  ·simp [go_sem,f89]
  ·refine (hnm.2 w (hm.below hn0 hbx.lt) (by have:=hm.size;omega)).mono ?_
   rintro o w' ⟨sp',l',rfl,h1,h2,hb⟩;rw [nI,zM] at h1;exact ⟨_,rfl,_,rfl,fun e=>(by cases e),⟨sp',l',rfl,h1.same,h2.less (Nat.le_trans hlw hm.size)⟩,lZ.flag (by decide) (hS2.on hlo hb),Mk.of hb hx.lt⟩
 apply ak.exact rfl rfl
 ·exact fun _ _ h=>lZ.flag (by decide) h
 ·exact fun w=>Mk.refl
 ·rintro L a w ⟨-,hS,hbeh,hsm,haft⟩
  have f1:a.tmps[1]?.getD undef=_:=(hsm 1 rfl).trans f1;simp [go_sem,f1];exact rfl
 refine ak.any (fun L v w=>True) rfl ?_ ?_ ?_
 ·exact fun _ _ _ _ _ _ _ h=>h
 ·rintro L a w ⟨hL,hS,hbeh,hsm,haft⟩
  have f91:a.tmps[91]?.getD undef=_:=aj (haft.1 rfl).2;obtain ⟨sp',l',x87,h1,h2⟩:=(haft.2.1 rfl).2;have f87:a.tmps[87]?.getD undef=.slice sp'.at_ l'.length sp'.cap:=aj x87;obtain ⟨hm,s1,l1,s2,l2,hx,y0,y1⟩:=hS;have hm2:=Mk.set hx.lt 14 (.slice sp'.at_ l'.length sp'.cap);have hc:=hx.cell 14 rfl;have hfr:=hx.free 14;refine Oper.wp_skip (w':=w.setCell ⟨s0,14,none⟩ (.slice sp'.at_ l'.length sp'.cap)) ?_ ?_
  ·simp [go_sem,f91,f87,hc,hfr]
  ·exact ⟨undef,rfl,fun _=>rfl,trivial,⟨hm.trans hm2,sp',l',s2,l2,hx.put 14 _ (by simp [af.arr,af.cells,Sp.val]),(by rw [aC];exact ⟨fun _=>⟨h1,h2.on hm2 hlo⟩,fun h=>(by cases h)⟩),(by rw [ai (by decide)];exact y1.on hm2 hlo)⟩,hm2⟩
 apply ak.exact rfl rfl
 ·exact fun _ _ h=>lZ.flag (by decide) h
 ·exact fun w=>Mk.refl
 ·rintro L a w ⟨-,hS,hbeh,hsm,haft⟩
  have f1:a.tmps[1]?.getD undef=_:=(hsm 1 rfl).trans f1;simp [go_sem,f1];exact rfl
 refine ak.any (fun L v w=>True) rfl ?_ ?_ ?_
 ·exact fun _ _ _ _ _ _ _ h=>h
 ·rintro L a w ⟨hL,hS,hbeh,hsm,haft⟩
  have f92:a.tmps[92]?.getD undef=_:=aj (haft.1 rfl).2;obtain ⟨sp',l',x90,h1,h2⟩:=(haft.2.1 rfl).2;have f90:a.tmps[90]?.getD undef=.slice sp'.at_ l'.length sp'.cap:=aj x90;obtain ⟨hm,s1,l1,s2,l2,hx,y0,y1⟩:=hS;have hm2:=Mk.set hx.lt 15 (.slice sp'.at_ l'.length sp'.cap);have hc:=hx.cell 15 rfl;have hfr:=hx.free 15;refine Oper.wp_skip (w':=w.setCell ⟨s0,15,none⟩ (.slice sp'.at_ l'.length sp'.cap)) ?_ ?_
  ·simp [go_sem,f92,f90,hc,hfr]
  ·exact ⟨undef,rfl,fun _=>rfl,trivial,⟨hm.trans hm2,s1,l1,sp',l',hx.put 15 _ (by simp [af.arr,af.cells,Sp.val]),(by rw [ai (by decide)];exact y0.on hm2 hlo),(by rw [aC];exact ⟨fun _=>⟨h1,h2.on hm2 hlo⟩,fun h=>(by cases h)⟩)⟩,hm2⟩
 rintro L a w hL ⟨hS,hsame,hv⟩;refine ⟨rfl,hsame.1.trans hsz,hsame.2.1,hsame.2.2,?_⟩;unfold lZ at hS ⊢;rw [hL 7 (by decide),hL 9 (by decide)] at hS;exact hS
end
section
open Go
def J2 (q:aK) (d:aG):ByteArray:=q.name++⟨#[46]⟩++d.name
def Lh (q:aK) (d:aG):aG:=⟨J2 q d,d.width,0⟩
def sU (p:af) (s:ByteArray):Nat:=((look (cz p).reverse s).getD 0).toNat
def KI (s:ByteArray) (e:ae):aa:=.mk 1 s Sp.none [e] 0 Sp.none [] Sp.none []
def Le (q:aK) (ex:List ae):List aa:=(q.params.zip ex).map fun x=>KI (J2 q x.1) x.2
def sV (p:af) (i:Nat):aK:=(p.procs[i]?).getD ⟨⟨#[]⟩,Sp.none,[],Sp.none,[]⟩
mutual
def inT (p:af) (B:Nat→List aa):aa→List aa
 | .mk k n es ex b _ th _ el=>if k=8 then Le (sV p (sU p n)) ex++B (sU p n) else [.mk k n es ex b Sp.none (EY p B th) Sp.none (EY p B el)]
def EY (p:af) (B:Nat→List aa):List aa→List aa
 | []=>[]
 | s::l=>inT p B s++EY p B l
end
def LD (q:aK) (l:List aa):List aa:=q.params.foldl (fun l d=>l.map (Gj (Md d.name (J2 q d)) (Mc d.name (J2 q d)))) l
def Kb (p:af):Nat→Nat→List aa
 | 0,_=>[]
 | n+1,i=>LD (sV p i) (EY p (Kb p n) (sV p i).body)
def Kc (p:af) (i:Nat):List aa:=Kb p (p.procs.length+1) i
def LA (p:af):af :=
 { p with rs:=Sp.none,procs:=[],vs:=Sp.none,vars:=p.vars++p.procs.flatMap fun q=>q.params.map (Lh q),ws:=Sp.none,work:=EY p (Kc p) p.work,cs:=Sp.none,recover:=EY p (Kc p) p.recover }
def KS (p:af) (r:Nat→Nat):Prop:=∀i,i<p.procs.length→∀s∈(sV p i).body.flatMap aa.pre,s.kind=8→r (sU p s.name)<r i∧sU p s.name<p.procs.length
mutual
def Kw:aa→List ByteArray
 | .mk k n _ _ _ _ th _ el=>(if k=8 then [n] else [])++(yU th++yU el)
def yU:List aa→List ByteArray
 | []=>[]
 | s::l=>Kw s++yU l
end
end
end Go.Proofs.YtepacjkacjabbaaGreatDoor
