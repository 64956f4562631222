import Derived.Test.YtepacjkacjabbaaGreatDoorWAX
import Derived.Test.YtepacjkacjabbaaGreatDoorWAA
import Derived.Test.YtepacjkacjabbaaGreatDoorWAZ
namespace Go.Proofs.YtepacjkacjabbaaGreatDoor
section
open Go Go.RowKit Go.Maps
noncomputable def opsC3:Array Oper:=((Tryz.f84.body.bind (opsOf 3)).getD #[])
def EG (t:Nat):Bool:=decide (t≤10)
theorem Jz:iW opsC3 20 94 EG=true:=by kernel_rfl
def uG (s0 lo:Nat) (p:af) (w0:World) (L:Nat→Bool) (w:World):Prop:=Mk s0 w0 w∧∃(i1 g1 v1 a1:Sp),Bx s0 w { p with is:=i1,gs:=g1,vs:=v1,«as»:=a1 }∧CV lo 50 3 aF.cells (L 13) w p.is i1 p.inputs∧CV lo 50 3 aF.cells (L 15) w p.gs g1 p.ghosts∧CV lo 50 3 aF.cells (L 17) w p.vs v1 p.vars∧CV lo 50 3 aF.cells (L 19) w p.as a1 p.arrays
theorem uG.flag {s0 lo k:Nat} {p:af} {w0:World} {L:Nat→Bool} {w:World} (hk:k≠13∧k≠15∧k≠17∧k≠19) (h:uG s0 lo p w0 L w):uG s0 lo p w0 (lU L k) w:=by
 unfold uG at h ⊢;obtain ⟨h13,h15,h17,h19⟩:=hk;rw [az (Ne.symm h13),az (Ne.symm h15),az (Ne.symm h17),az (Ne.symm h19)];exact h
theorem uG.on {s0 lo:Nat} {p:af} {w0:World} {L:Nat→Bool} {w w':World} (hs:s0<lo) (h:uG s0 lo p w0 L w) (hb:Below w.heap.size w w'):uG s0 lo p w0 L w':=by
 obtain ⟨hm,i1,g1,v1,a1,hx,y0,y1,y2,y3⟩:=h;have hm2:=Mk.of hb hx.lt;exact ⟨hm.trans hm2,i1,g1,v1,a1,hx.on hb,y0.on hm2 hs,y1.on hm2 hs,y2.on hm2 hs,y3.on hm2 hs⟩
set_option maxRecDepth 10000000 in
set_option maxHeartbeats 64000000 in
theorem Mv {a0:Act} {w0:World} (hsz:a0.tmps.size=94) (s0 lo n0:Nat) (p:af) (hlo:s0<lo) (hlw:lo≤w0.heap.size) (hn0:n0≤s0)
  (f1:a0.tmps[1]?.getD undef=.pointer (some ⟨s0,0,none⟩)) (hp:fe n0 w0 p) (hfew:p.inputs.length≤1000000∧p.ghosts.length≤1000000∧p.vars.length≤1000000∧p.arrays.length≤1000000)
  (hbx:Bx s0 w0 p) :
  (Code.region 3 opsC3 true).wp Tryz.prog (fun e a w=>e=.normal∧a.tmps.size=94∧a.defers=a0.defers∧(∀t:Nat,EG t=true→a.tmps[t]?.getD undef=a0.tmps[t]?.getD undef)∧uG s0 lo p w0 (fun _=>true) w) a0 w0:=by
 refine dh (n:=20) (sz:=94) (keep:=EG) rfl Jz hsz (uG s0 lo p w0) (fun _ w w'=>Mk s0 w w') (⟨(Below.refl _ _).drew,p.is,p.gs,p.vs,p.as,hbx,CV.off,CV.off,CV.off,CV.off⟩) ?_;have e:opsC3.toList=opsC3.toList:=rfl
 conv at e=>rhs;arg 1;whnf
 simp only at e;rw [e];clear e
 apply aj.exact rfl rfl
 ·exact fun _ _ h=>uG.flag (by decide) h
 ·exact fun w=>Mk.refl
 ·rintro L a w ⟨-,hS,hbeh,hsm,haft⟩
  have f1:a.tmps[1]?.getD undef=_:=(hsm 1 rfl).trans f1;simp [go_sem,f1];exact rfl
 apply aj.exact rfl rfl
 ·exact fun _ _ h=>uG.flag (by decide) h
 ·exact fun w=>Mk.refl
 ·rintro L a w ⟨-,hS,hbeh,hsm,haft⟩
  have f11:a.tmps[11]?.getD undef=_:=ak (haft.1 rfl).2;obtain ⟨hm,i1,g1,v1,a1,hx,y0,y1,y2,y3⟩:=hS;obtain rfl:=y0.2 (hbeh 13 rfl);have hc:w.cell? ⟨s0,2,none⟩=some (.slice p.is.at_ p.inputs.length p.is.cap):=hx.cell 2 rfl;simp [go_sem,f11,hc];exact rfl
 refine aj.any (fun L v w=>aG lo w 50 3 aF.cells v p.inputs) rfl ?_ ?_ ?_
 ·exact fun _ _ _ _ _ _ hm h=>h.onM hm hlo
 ·rintro L a w ⟨hL,hS,hbeh,hsm,haft⟩
  have f12:a.tmps[12]?.getD undef=_:=ak (haft.1 rfl).2;have hS2:=hS;obtain ⟨hm,i1,g1,v1,a1,hx,y0,y1,y2,y3⟩:=hS;refine Oper.wp_enter (f:=81) (args:=#[.slice p.is.at_ p.inputs.length p.is.cap]) (w':=w) ?_ ?_
  ·simp [go_sem,f12]
  ·refine (lq w p.is p.inputs _ ((hp.inputs.row.below (hm.below hn0 hbx.lt)).more (show n0≤w.heap.size by have:=hm.size;omega)) hfew.1).mono ?_
   rintro o w' ⟨⟨v,rfl,ho⟩,hb⟩;exact ⟨v,rfl,v,rfl,fun e=>(by cases e),ho.less (Nat.le_trans hlw hm.size),uG.flag (by decide) (hS2.on hlo hb),Mk.of hb hx.lt⟩
 apply aj.exact rfl rfl
 ·exact fun _ _ h=>uG.flag (by decide) h
 ·exact fun w=>Mk.refl
 ·rintro L a w ⟨-,hS,hbeh,hsm,haft⟩
  have f1:a.tmps[1]?.getD undef=_:=(hsm 1 rfl).trans f1;simp [go_sem,f1];exact rfl
 apply aj.exact rfl rfl
 ·exact fun _ _ h=>uG.flag (by decide) h
 ·exact fun w=>Mk.refl
 ·rintro L a w ⟨-,hS,hbeh,hsm,haft⟩
  have f14:a.tmps[14]?.getD undef=_:=ak (haft.1 rfl).2;obtain ⟨hm,i1,g1,v1,a1,hx,y0,y1,y2,y3⟩:=hS;obtain rfl:=y1.2 (hbeh 15 rfl);have hc:w.cell? ⟨s0,3,none⟩=some (.slice p.gs.at_ p.ghosts.length p.gs.cap):=hx.cell 3 rfl;simp [go_sem,f14,hc];exact rfl
 refine aj.any (fun L v w=>aG lo w 50 3 aF.cells v p.ghosts) rfl ?_ ?_ ?_
 ·exact fun _ _ _ _ _ _ hm h=>h.onM hm hlo
 ·rintro L a w ⟨hL,hS,hbeh,hsm,haft⟩
  have f15:a.tmps[15]?.getD undef=_:=ak (haft.1 rfl).2;have hS2:=hS;obtain ⟨hm,i1,g1,v1,a1,hx,y0,y1,y2,y3⟩:=hS;refine Oper.wp_enter (f:=81) (args:=#[.slice p.gs.at_ p.ghosts.length p.gs.cap]) (w':=w) ?_ ?_
  ·simp [go_sem,f15]
  ·refine (lq w p.gs p.ghosts _ ((hp.ghosts.row.below (hm.below hn0 hbx.lt)).more (show n0≤w.heap.size by have:=hm.size;omega)) hfew.2.1).mono ?_
   rintro o w' ⟨⟨v,rfl,ho⟩,hb⟩;exact ⟨v,rfl,v,rfl,fun e=>(by cases e),ho.less (Nat.le_trans hlw hm.size),uG.flag (by decide) (hS2.on hlo hb),Mk.of hb hx.lt⟩
 apply aj.exact rfl rfl
 ·exact fun _ _ h=>uG.flag (by decide) h
 ·exact fun w=>Mk.refl
 ·rintro L a w ⟨-,hS,hbeh,hsm,haft⟩
  have f1:a.tmps[1]?.getD undef=_:=(hsm 1 rfl).trans f1;simp [go_sem,f1];exact rfl
 apply aj.exact rfl rfl
 ·exact fun _ _ h=>uG.flag (by decide) h
 ·exact fun w=>Mk.refl
 ·rintro L a w ⟨-,hS,hbeh,hsm,haft⟩
  have f17:a.tmps[17]?.getD undef=_:=ak (haft.1 rfl).2;obtain ⟨hm,i1,g1,v1,a1,hx,y0,y1,y2,y3⟩:=hS;obtain rfl:=y2.2 (hbeh 17 rfl);have hc:w.cell? ⟨s0,4,none⟩=some (.slice p.vs.at_ p.vars.length p.vs.cap):=hx.cell 4 rfl;simp [go_sem,f17,hc];exact rfl
 refine aj.any (fun L v w=>aG lo w 50 3 aF.cells v p.vars) rfl ?_ ?_ ?_
 ·exact fun _ _ _ _ _ _ hm h=>h.onM hm hlo
 ·rintro L a w ⟨hL,hS,hbeh,hsm,haft⟩
  have f18:a.tmps[18]?.getD undef=_:=ak (haft.1 rfl).2;have hS2:=hS;obtain ⟨hm,i1,g1,v1,a1,hx,y0,y1,y2,y3⟩:=hS;refine Oper.wp_enter (f:=81) (args:=#[.slice p.vs.at_ p.vars.length p.vs.cap]) (w':=w) ?_ ?_
  ·simp [go_sem,f18]
  ·refine (lq w p.vs p.vars _ ((hp.vars.row.below (hm.below hn0 hbx.lt)).more (show n0≤w.heap.size by have:=hm.size;omega)) hfew.2.2.1).mono ?_
   rintro o w' ⟨⟨v,rfl,ho⟩,hb⟩;exact ⟨v,rfl,v,rfl,fun e=>(by cases e),ho.less (Nat.le_trans hlw hm.size),uG.flag (by decide) (hS2.on hlo hb),Mk.of hb hx.lt⟩
 apply aj.exact rfl rfl
 ·exact fun _ _ h=>uG.flag (by decide) h
 ·exact fun w=>Mk.refl
 ·rintro L a w ⟨-,hS,hbeh,hsm,haft⟩
  have f1:a.tmps[1]?.getD undef=_:=(hsm 1 rfl).trans f1;simp [go_sem,f1];exact rfl
 apply aj.exact rfl rfl
 ·exact fun _ _ h=>uG.flag (by decide) h
 ·exact fun w=>Mk.refl
 ·rintro L a w ⟨-,hS,hbeh,hsm,haft⟩
  have f20:a.tmps[20]?.getD undef=_:=ak (haft.1 rfl).2;obtain ⟨hm,i1,g1,v1,a1,hx,y0,y1,y2,y3⟩:=hS;obtain rfl:=y3.2 (hbeh 19 rfl);have hc:w.cell? ⟨s0,5,none⟩=some (.slice p.as.at_ p.arrays.length p.as.cap):=hx.cell 5 rfl;simp [go_sem,f20,hc];exact rfl
 refine aj.any (fun L v w=>aG lo w 50 3 aF.cells v p.arrays) rfl ?_ ?_ ?_
 ·exact fun _ _ _ _ _ _ hm h=>h.onM hm hlo
 ·rintro L a w ⟨hL,hS,hbeh,hsm,haft⟩
  have f21:a.tmps[21]?.getD undef=_:=ak (haft.1 rfl).2;have hS2:=hS;obtain ⟨hm,i1,g1,v1,a1,hx,y0,y1,y2,y3⟩:=hS;refine Oper.wp_enter (f:=81) (args:=#[.slice p.as.at_ p.arrays.length p.as.cap]) (w':=w) ?_ ?_
  ·simp [go_sem,f21]
  ·refine (lq w p.as p.arrays _ ((hp.arrays.row.below (hm.below hn0 hbx.lt)).more (show n0≤w.heap.size by have:=hm.size;omega)) hfew.2.2.2).mono ?_
   rintro o w' ⟨⟨v,rfl,ho⟩,hb⟩;exact ⟨v,rfl,v,rfl,fun e=>(by cases e),ho.less (Nat.le_trans hlw hm.size),uG.flag (by decide) (hS2.on hlo hb),Mk.of hb hx.lt⟩
 apply aj.exact rfl rfl
 ·exact fun _ _ h=>uG.flag (by decide) h
 ·exact fun w=>Mk.refl
 ·rintro L a w ⟨-,hS,hbeh,hsm,haft⟩
  have f1:a.tmps[1]?.getD undef=_:=(hsm 1 rfl).trans f1;simp [go_sem,f1];exact rfl
 refine aj.any (fun L v w=>True) rfl ?_ ?_ ?_
 ·exact fun _ _ _ _ _ _ _ h=>h
 ·rintro L a w ⟨hL,hS,hbeh,hsm,haft⟩
  have f23:a.tmps[23]?.getD undef=_:=ak (haft.1 rfl).2;have ho:aG lo w 50 3 aF.cells (a.eval (.tmp 13)) p.inputs:=(haft.2.1 rfl).2;have f13x:a.tmps[13]?.getD undef=a.eval (.tmp 13):=ak rfl;obtain ⟨A,c,hform⟩:=ho.form;rw [hform] at f13x ho;obtain ⟨hm,i1,g1,v1,a1,hx,y0,y1,y2,y3⟩:=hS;have hm2:=Mk.set hx.lt 2 (.slice A p.inputs.length c);have hc:=hx.cell 2 rfl;have hfr:=hx.free 2;refine Oper.wp_skip (w':=w.setCell ⟨s0,2,none⟩ (.slice A p.inputs.length c)) ?_ ?_
  ·simp [go_sem,f23,f13x,hc,hfr]
  ·exact ⟨undef,rfl,fun _=>rfl,trivial,⟨hm.trans hm2,⟨A,c⟩,g1,v1,a1,hx.put 2 _ (by simp [af.arr,af.cells,Sp.val]),(by rw [bA];exact ⟨fun _=>ho.onM hm2 hlo,fun h=>(by cases h)⟩),(by rw [az (by decide)];exact y1.on hm2 hlo),(by rw [az (by decide)];exact y2.on hm2 hlo),(by rw [az (by decide)];exact y3.on hm2 hlo)⟩,hm2⟩
 apply aj.exact rfl rfl
 ·exact fun _ _ h=>uG.flag (by decide) h
 ·exact fun w=>Mk.refl
 ·rintro L a w ⟨-,hS,hbeh,hsm,haft⟩
  have f1:a.tmps[1]?.getD undef=_:=(hsm 1 rfl).trans f1;simp [go_sem,f1];exact rfl
 refine aj.any (fun L v w=>True) rfl ?_ ?_ ?_
 ·exact fun _ _ _ _ _ _ _ h=>h
 ·rintro L a w ⟨hL,hS,hbeh,hsm,haft⟩
  have f24:a.tmps[24]?.getD undef=_:=ak (haft.1 rfl).2;have ho:aG lo w 50 3 aF.cells (a.eval (.tmp 16)) p.ghosts:=(haft.2.1 rfl).2;have f16x:a.tmps[16]?.getD undef=a.eval (.tmp 16):=ak rfl;obtain ⟨A,c,hform⟩:=ho.form;rw [hform] at f16x ho;obtain ⟨hm,i1,g1,v1,a1,hx,y0,y1,y2,y3⟩:=hS;have hm2:=Mk.set hx.lt 3 (.slice A p.ghosts.length c);have hc:=hx.cell 3 rfl;have hfr:=hx.free 3;refine Oper.wp_skip (w':=w.setCell ⟨s0,3,none⟩ (.slice A p.ghosts.length c)) ?_ ?_
  ·simp [go_sem,f24,f16x,hc,hfr]
  ·exact ⟨undef,rfl,fun _=>rfl,trivial,⟨hm.trans hm2,i1,⟨A,c⟩,v1,a1,hx.put 3 _ (by simp [af.arr,af.cells,Sp.val]),(by rw [az (by decide)];exact y0.on hm2 hlo),(by rw [bA];exact ⟨fun _=>ho.onM hm2 hlo,fun h=>(by cases h)⟩),(by rw [az (by decide)];exact y2.on hm2 hlo),(by rw [az (by decide)];exact y3.on hm2 hlo)⟩,hm2⟩
 apply aj.exact rfl rfl
 ·exact fun _ _ h=>uG.flag (by decide) h
 ·exact fun w=>Mk.refl
 ·rintro L a w ⟨-,hS,hbeh,hsm,haft⟩
  have f1:a.tmps[1]?.getD undef=_:=(hsm 1 rfl).trans f1;simp [go_sem,f1];exact rfl
 refine aj.any (fun L v w=>True) rfl ?_ ?_ ?_
 ·exact fun _ _ _ _ _ _ _ h=>h
 ·rintro L a w ⟨hL,hS,hbeh,hsm,haft⟩
  have f25:a.tmps[25]?.getD undef=_:=ak (haft.1 rfl).2;have ho:aG lo w 50 3 aF.cells (a.eval (.tmp 19)) p.vars:=(haft.2.1 rfl).2;have f19x:a.tmps[19]?.getD undef=a.eval (.tmp 19):=ak rfl;obtain ⟨A,c,hform⟩:=ho.form;rw [hform] at f19x ho;obtain ⟨hm,i1,g1,v1,a1,hx,y0,y1,y2,y3⟩:=hS;have hm2:=Mk.set hx.lt 4 (.slice A p.vars.length c);have hc:=hx.cell 4 rfl;have hfr:=hx.free 4;refine Oper.wp_skip (w':=w.setCell ⟨s0,4,none⟩ (.slice A p.vars.length c)) ?_ ?_
  ·simp [go_sem,f25,f19x,hc,hfr]
  ·exact ⟨undef,rfl,fun _=>rfl,trivial,⟨hm.trans hm2,i1,g1,⟨A,c⟩,a1,hx.put 4 _ (by simp [af.arr,af.cells,Sp.val]),(by rw [az (by decide)];exact y0.on hm2 hlo),(by rw [az (by decide)];exact y1.on hm2 hlo),(by rw [bA];exact ⟨fun _=>ho.onM hm2 hlo,fun h=>(by cases h)⟩),(by rw [az (by decide)];exact y3.on hm2 hlo)⟩,hm2⟩
 apply aj.exact rfl rfl
 ·exact fun _ _ h=>uG.flag (by decide) h
 ·exact fun w=>Mk.refl
 ·rintro L a w ⟨-,hS,hbeh,hsm,haft⟩
  have f1:a.tmps[1]?.getD undef=_:=(hsm 1 rfl).trans f1;simp [go_sem,f1];exact rfl
 refine aj.any (fun L v w=>True) rfl ?_ ?_ ?_
 ·exact fun _ _ _ _ _ _ _ h=>h
 ·rintro L a w ⟨hL,hS,hbeh,hsm,haft⟩
  have f26:a.tmps[26]?.getD undef=_:=ak (haft.1 rfl).2;have ho:aG lo w 50 3 aF.cells (a.eval (.tmp 22)) p.arrays:=(haft.2.1 rfl).2;have f22x:a.tmps[22]?.getD undef=a.eval (.tmp 22):=ak rfl;obtain ⟨A,c,hform⟩:=ho.form;rw [hform] at f22x ho;obtain ⟨hm,i1,g1,v1,a1,hx,y0,y1,y2,y3⟩:=hS;have hm2:=Mk.set hx.lt 5 (.slice A p.arrays.length c);have hc:=hx.cell 5 rfl;have hfr:=hx.free 5;refine Oper.wp_skip (w':=w.setCell ⟨s0,5,none⟩ (.slice A p.arrays.length c)) ?_ ?_
  ·simp [go_sem,f26,f22x,hc,hfr]
  ·exact ⟨undef,rfl,fun _=>rfl,trivial,⟨hm.trans hm2,i1,g1,v1,⟨A,c⟩,hx.put 5 _ (by simp [af.arr,af.cells,Sp.val]),(by rw [az (by decide)];exact y0.on hm2 hlo),(by rw [az (by decide)];exact y1.on hm2 hlo),(by rw [az (by decide)];exact y2.on hm2 hlo),(by rw [bA];exact ⟨fun _=>ho.onM hm2 hlo,fun h=>(by cases h)⟩)⟩,hm2⟩
 rintro L a w hL ⟨hS,hsame,hv⟩;refine ⟨rfl,hsame.1.trans hsz,hsame.2.1,hsame.2.2,?_⟩;unfold uG at hS ⊢;rw [hL 13 (by decide),hL 15 (by decide),hL 17 (by decide),hL 19 (by decide)] at hS;exact hS
noncomputable def opsC4:Array Oper:=((Tryz.f84.body.bind (opsOf 4)).getD #[])
def Ez (t:Nat):Bool:=decide (t≤10)
theorem Iw:iW opsC4 10 94 Ez=true:=by kernel_rfl
def Bv (s0 lo:Nat) (p:af) (w0:World) (L:Nat→Bool) (w:World):Prop:=Mk s0 w0 w∧∃(n1 r1:Sp),Bx s0 w { p with ns:=n1,rs:=r1 }∧CV lo 149 7 aQ.cells (L 7) w p.ns n1 p.inits∧CV lo 54 3 aO.cells (L 9) w p.rs r1 p.procs
theorem Bv.flag {s0 lo k:Nat} {p:af} {w0:World} {L:Nat→Bool} {w:World} (hk:k≠7∧k≠9) (h:Bv s0 lo p w0 L w):Bv s0 lo p w0 (lU L k) w:=by
 unfold Bv at h ⊢;obtain ⟨h7,h9⟩:=hk;rw [az (Ne.symm h7),az (Ne.symm h9)];exact h
theorem Bv.on {s0 lo:Nat} {p:af} {w0:World} {L:Nat→Bool} {w w':World} (hs:s0<lo) (h:Bv s0 lo p w0 L w) (hb:Below w.heap.size w w'):Bv s0 lo p w0 L w':=by
 obtain ⟨hm,n1,r1,hx,y0,y1⟩:=h;have hm2:=Mk.of hb hx.lt;exact ⟨hm.trans hm2,n1,r1,hx.on hb,y0.on hm2 hs,y1.on hm2 hs⟩
set_option maxRecDepth 10000000 in
set_option maxHeartbeats 64000000 in
theorem Mw {a0:Act} {w0:World} (hsz:a0.tmps.size=94) (s0 lo n0:Nat) (p:af) (hlo:s0<lo) (hlw:lo≤w0.heap.size) (hn0:n0≤s0)
  (f1:a0.tmps[1]?.getD undef=.pointer (some ⟨s0,0,none⟩)) (hir:RowOf n0 w0 p.ns 7 aQ.cells p.inits) (hpr:RowOf n0 w0 p.rs 3 aO.cells p.procs) (hfew:p.inits.length≤1000000∧p.procs.length≤1000000)
  (hbx:Bx s0 w0 p) :
  (Code.region 4 opsC4 true).wp Tryz.prog (fun e a w=>e=.normal∧a.tmps.size=94∧a.defers=a0.defers∧(∀t:Nat,Ez t=true→a.tmps[t]?.getD undef=a0.tmps[t]?.getD undef)∧Bv s0 lo p w0 (fun _=>true) w) a0 w0:=by
 refine dh (n:=10) (sz:=94) (keep:=Ez) rfl Iw hsz (Bv s0 lo p w0) (fun _ w w'=>Mk s0 w w') (⟨(Below.refl _ _).drew,p.ns,p.rs,hbx,CV.off,CV.off⟩) ?_;have e:opsC4.toList=opsC4.toList:=rfl
 conv at e=>rhs;arg 1;whnf
 simp only at e;rw [e];clear e
 apply aj.exact rfl rfl
 ·exact fun _ _ h=>Bv.flag (by decide) h
 ·exact fun w=>Mk.refl
 ·rintro L a w ⟨-,hS,hbeh,hsm,haft⟩
  have f1:a.tmps[1]?.getD undef=_:=(hsm 1 rfl).trans f1;simp [go_sem,f1];exact rfl
 apply aj.exact rfl rfl
 ·exact fun _ _ h=>Bv.flag (by decide) h
 ·exact fun w=>Mk.refl
 ·rintro L a w ⟨-,hS,hbeh,hsm,haft⟩
  have f27:a.tmps[27]?.getD undef=_:=ak (haft.1 rfl).2;obtain ⟨hm,n1,r1,hx,y0,y1⟩:=hS;obtain rfl:=y0.2 (hbeh 7 rfl);have hc:w.cell? ⟨s0,12,none⟩=some (.slice p.ns.at_ p.inits.length p.ns.cap):=hx.cell 12 rfl;simp [go_sem,f27,hc];exact rfl
 refine aj.any (fun L v w=>aG lo w 149 7 aQ.cells v p.inits) rfl ?_ ?_ ?_
 ·exact fun _ _ _ _ _ _ hm h=>h.onM hm hlo
 ·rintro L a w ⟨hL,hS,hbeh,hsm,haft⟩
  have f28:a.tmps[28]?.getD undef=_:=ak (haft.1 rfl).2;have hS2:=hS;obtain ⟨hm,n1,r1,hx,y0,y1⟩:=hS;refine Oper.wp_enter (f:=147) (args:=#[.slice p.ns.at_ p.inits.length p.ns.cap]) (w':=w) ?_ ?_
  ·simp [go_sem,f28]
  ·refine (Ei w p.ns p.inits _ ((hir.below (hm.below hn0 hbx.lt)).more (show n0≤w.heap.size by have:=hm.size;omega)) hfew.1).mono ?_
   rintro o w' ⟨⟨v,rfl,ho⟩,hb⟩;exact ⟨v,rfl,v,rfl,fun e=>(by cases e),ho.less (Nat.le_trans hlw hm.size),Bv.flag (by decide) (hS2.on hlo hb),Mk.of hb hx.lt⟩
 apply aj.exact rfl rfl
 ·exact fun _ _ h=>Bv.flag (by decide) h
 ·exact fun w=>Mk.refl
 ·rintro L a w ⟨-,hS,hbeh,hsm,haft⟩
  have f1:a.tmps[1]?.getD undef=_:=(hsm 1 rfl).trans f1;simp [go_sem,f1];exact rfl
 apply aj.exact rfl rfl
 ·exact fun _ _ h=>Bv.flag (by decide) h
 ·exact fun w=>Mk.refl
 ·rintro L a w ⟨-,hS,hbeh,hsm,haft⟩
  have f30:a.tmps[30]?.getD undef=_:=ak (haft.1 rfl).2;obtain ⟨hm,n1,r1,hx,y0,y1⟩:=hS;obtain rfl:=y1.2 (hbeh 9 rfl);have hc:w.cell? ⟨s0,13,none⟩=some (.slice p.rs.at_ p.procs.length p.rs.cap):=hx.cell 13 rfl;simp [go_sem,f30,hc];exact rfl
 refine aj.any (fun L v w=>aG lo w 54 3 aO.cells v p.procs) rfl ?_ ?_ ?_
 ·exact fun _ _ _ _ _ _ hm h=>h.onM hm hlo
 ·rintro L a w ⟨hL,hS,hbeh,hsm,haft⟩
  have f31:a.tmps[31]?.getD undef=_:=ak (haft.1 rfl).2;have hS2:=hS;obtain ⟨hm,n1,r1,hx,y0,y1⟩:=hS;refine Oper.wp_enter (f:=148) (args:=#[.slice p.rs.at_ p.procs.length p.rs.cap]) (w':=w) ?_ ?_
  ·simp [go_sem,f31]
  ·refine (DI w p.rs p.procs _ ((hpr.below (hm.below hn0 hbx.lt)).more (show n0≤w.heap.size by have:=hm.size;omega)) hfew.2).mono ?_
   rintro o w' ⟨⟨v,rfl,ho⟩,hb⟩;exact ⟨v,rfl,v,rfl,fun e=>(by cases e),ho.less (Nat.le_trans hlw hm.size),Bv.flag (by decide) (hS2.on hlo hb),Mk.of hb hx.lt⟩
 apply aj.exact rfl rfl
 ·exact fun _ _ h=>Bv.flag (by decide) h
 ·exact fun w=>Mk.refl
 ·rintro L a w ⟨-,hS,hbeh,hsm,haft⟩
  have f1:a.tmps[1]?.getD undef=_:=(hsm 1 rfl).trans f1;simp [go_sem,f1];exact rfl
 refine aj.any (fun L v w=>True) rfl ?_ ?_ ?_
 ·exact fun _ _ _ _ _ _ _ h=>h
 ·rintro L a w ⟨hL,hS,hbeh,hsm,haft⟩
  have f33:a.tmps[33]?.getD undef=_:=ak (haft.1 rfl).2;have ho:aG lo w 149 7 aQ.cells (a.eval (.tmp 29)) p.inits:=(haft.2.1 rfl).2;have f29x:a.tmps[29]?.getD undef=a.eval (.tmp 29):=ak rfl;obtain ⟨A,c,hform⟩:=ho.form;rw [hform] at f29x ho;obtain ⟨hm,n1,r1,hx,y0,y1⟩:=hS;have hm2:=Mk.set hx.lt 12 (.slice A p.inits.length c);have hc:=hx.cell 12 rfl;have hfr:=hx.free 12;refine Oper.wp_skip (w':=w.setCell ⟨s0,12,none⟩ (.slice A p.inits.length c)) ?_ ?_
  ·simp [go_sem,f33,f29x,hc,hfr]
  ·exact ⟨undef,rfl,fun _=>rfl,trivial,⟨hm.trans hm2,⟨A,c⟩,r1,hx.put 12 _ (by simp [af.arr,af.cells,Sp.val]),(by rw [bA];exact ⟨fun _=>ho.onM hm2 hlo,fun h=>(by cases h)⟩),(by rw [az (by decide)];exact y1.on hm2 hlo)⟩,hm2⟩
 apply aj.exact rfl rfl
 ·exact fun _ _ h=>Bv.flag (by decide) h
 ·exact fun w=>Mk.refl
 ·rintro L a w ⟨-,hS,hbeh,hsm,haft⟩
  have f1:a.tmps[1]?.getD undef=_:=(hsm 1 rfl).trans f1;simp [go_sem,f1];exact rfl
 refine aj.any (fun L v w=>True) rfl ?_ ?_ ?_
 ·exact fun _ _ _ _ _ _ _ h=>h
 ·rintro L a w ⟨hL,hS,hbeh,hsm,haft⟩
  have f34:a.tmps[34]?.getD undef=_:=ak (haft.1 rfl).2;have ho:aG lo w 54 3 aO.cells (a.eval (.tmp 32)) p.procs:=(haft.2.1 rfl).2;have f32x:a.tmps[32]?.getD undef=a.eval (.tmp 32):=ak rfl;obtain ⟨A,c,hform⟩:=ho.form;rw [hform] at f32x ho;obtain ⟨hm,n1,r1,hx,y0,y1⟩:=hS;have hm2:=Mk.set hx.lt 13 (.slice A p.procs.length c);have hc:=hx.cell 13 rfl;have hfr:=hx.free 13;refine Oper.wp_skip (w':=w.setCell ⟨s0,13,none⟩ (.slice A p.procs.length c)) ?_ ?_
  ·simp [go_sem,f34,f32x,hc,hfr]
  ·exact ⟨undef,rfl,fun _=>rfl,trivial,⟨hm.trans hm2,n1,⟨A,c⟩,hx.put 13 _ (by simp [af.arr,af.cells,Sp.val]),(by rw [az (by decide)];exact y0.on hm2 hlo),(by rw [bA];exact ⟨fun _=>ho.onM hm2 hlo,fun h=>(by cases h)⟩)⟩,hm2⟩
 rintro L a w hL ⟨hS,hsame,hv⟩;refine ⟨rfl,hsame.1.trans hsz,hsame.2.1,hsame.2.2,?_⟩;unfold Bv at hS ⊢;rw [hL 7 (by decide),hL 9 (by decide)] at hS;exact hS
noncomputable def opsC15:Array Oper:=((Tryz.f84.body.bind (opsOf 15)).getD #[])
def AZ (t:Nat):Bool:=decide (t≤76)
theorem FP:iW opsC15 10 94 AZ=true:=by kernel_rfl
def nQ (s0 lo:Nat) (p:af) (w0:World) (L:Nat→Bool) (w:World):Prop:=Mk s0 w0 w∧∃(e1 e2:ae),Bx s0 w { p with require:=e1,invariant:=e2 }∧KE lo (L 7) w p.require e1∧KE lo (L 9) w p.invariant e2
theorem nQ.flag {s0 lo k:Nat} {p:af} {w0:World} {L:Nat→Bool} {w:World} (hk:k≠7∧k≠9) (h:nQ s0 lo p w0 L w):nQ s0 lo p w0 (lU L k) w:=by
 unfold nQ at h ⊢;obtain ⟨h7,h9⟩:=hk;rw [az (Ne.symm h7),az (Ne.symm h9)];exact h
theorem nQ.on {s0 lo:Nat} {p:af} {w0:World} {L:Nat→Bool} {w w':World} (hs:s0<lo) (h:nQ s0 lo p w0 L w) (hb:Below w.heap.size w w'):nQ s0 lo p w0 L w':=by
 obtain ⟨hm,e1,e2,hx,y0,y1⟩:=h;have hm2:=Mk.of hb hx.lt;exact ⟨hm.trans hm2,e1,e2,hx.on hb,y0.on hm2 hs,y1.on hm2 hs⟩
set_option maxRecDepth 10000000 in
set_option maxHeartbeats 64000000 in
theorem L9 {a0:Act} {w0:World} (hsz:a0.tmps.size=94) (s0 lo n0:Nat) (p:af) (hlo:s0<lo) (hlw:lo≤w0.heap.size) (hn0:n0≤s0)
  (f1:a0.tmps[1]?.getD undef=.pointer (some ⟨s0,0,none⟩)) (hnm:zy 150 #[] id n0 w0 p.require∧zy 150 #[] id n0 w0 p.invariant)
  (hbx:Bx s0 w0 p) :
  (Code.region 15 opsC15 true).wp Tryz.prog (fun e a w=>e=.normal∧a.tmps.size=94∧a.defers=a0.defers∧(∀t:Nat,AZ t=true→a.tmps[t]?.getD undef=a0.tmps[t]?.getD undef)∧nQ s0 lo p w0 (fun _=>true) w) a0 w0:=by
 refine dh (n:=10) (sz:=94) (keep:=AZ) rfl FP hsz (nQ s0 lo p w0) (fun _ w w'=>Mk s0 w w') (⟨(Below.refl _ _).drew,p.require,p.invariant,hbx,KE.off,KE.off⟩) ?_;have e:opsC15.toList=opsC15.toList:=rfl
 conv at e=>rhs;arg 1;whnf
 simp only at e;rw [e];clear e
 apply aj.exact rfl rfl
 ·exact fun _ _ h=>nQ.flag (by decide) h
 ·exact fun w=>Mk.refl
 ·rintro L a w ⟨-,hS,hbeh,hsm,haft⟩
  have f1:a.tmps[1]?.getD undef=_:=(hsm 1 rfl).trans f1;simp [go_sem,f1];exact rfl
 apply aj.exact rfl rfl
 ·exact fun _ _ h=>nQ.flag (by decide) h
 ·exact fun w=>Mk.refl
 ·rintro L a w ⟨-,hS,hbeh,hsm,haft⟩
  have f77:a.tmps[77]?.getD undef=_:=ak (haft.1 rfl).2;obtain ⟨hm,e1,e2,hx,y0,y1⟩:=hS;obtain rfl:=y0.2 (hbeh 7 rfl);have c0:w.cell? ⟨s0,6,none⟩=some (.int .u8 p.require.kind):=hx.cell 6 rfl;have c1:w.cell? ⟨s0,7,none⟩=some (.int .u8 p.require.op):=hx.cell 7 rfl;have c2:w.cell? ⟨s0,8,none⟩=some (.int .u32 p.require.value):=hx.cell 8 rfl;have c3:w.cell? ⟨s0,9,none⟩=some (.int .i64 p.require.width):=hx.cell 9 rfl;have c4:w.cell? ⟨s0,10,none⟩=some (.string p.require.name):=hx.cell 10 rfl;have c5:w.cell? ⟨s0,11,none⟩=some (.slice p.require.sp.at_ p.require.subs.length p.require.sp.cap):=hx.cell 11 rfl;simp [go_sem,f77,c0,c1,c2,c3,c4,c5];exact rfl
 refine aj.any (fun L v w=>∃e':ae,v=.agg #[.int .u8 e'.kind,.int .u8 e'.op,.int .u32 e'.value,.int .i64 e'.width,.string e'.name,.slice e'.sp.at_ e'.subs.length e'.sp.cap]∧aK e'=aK p.require∧aU lo w e') rfl ?_ ?_ ?_
 ·exact fun _ _ _ _ _ _ hm ⟨e',h1,h2,h3⟩=>⟨e',h1,h2,h3.on hm hlo⟩
 ·rintro L a w ⟨hL,hS,hbeh,hsm,haft⟩
  have f78:a.tmps[78]?.getD undef=_:=ak (haft.1 rfl).2;have hS2:=hS;obtain ⟨hm,e1,e2,hx,y0,y1⟩:=hS;refine Oper.wp_enter (f:=149) (args:=#[.agg #[.int .u8 p.require.kind,.int .u8 p.require.op,.int .u32 p.require.value,.int .i64 p.require.width,.string p.require.name,.slice p.require.sp.at_ p.require.subs.length p.require.sp.cap],.func (.func 150) #[] #[]]) (w':=w) ?_ ?_
  ·simp [go_sem,f78]
  ·refine (hnm.1 w (hm.below hn0 hbx.lt) (by have:=hm.size;omega)).mono ?_
   rintro o w' ⟨e',rfl,h1,h2,hb⟩;rw [pW] at h1;exact ⟨_,rfl,_,rfl,fun e=>(by cases e),⟨e',rfl,h1.same,h2.less (Nat.le_trans hlw hm.size)⟩,nQ.flag (by decide) (hS2.on hlo hb),Mk.of hb hx.lt⟩
 apply aj.exact rfl rfl
 ·exact fun _ _ h=>nQ.flag (by decide) h
 ·exact fun w=>Mk.refl
 ·rintro L a w ⟨-,hS,hbeh,hsm,haft⟩
  have f1:a.tmps[1]?.getD undef=_:=(hsm 1 rfl).trans f1;simp [go_sem,f1];exact rfl
 apply aj.exact rfl rfl
 ·exact fun _ _ h=>nQ.flag (by decide) h
 ·exact fun w=>Mk.refl
 ·rintro L a w ⟨-,hS,hbeh,hsm,haft⟩
  have f80:a.tmps[80]?.getD undef=_:=ak (haft.1 rfl).2;obtain ⟨hm,e1,e2,hx,y0,y1⟩:=hS;obtain rfl:=y1.2 (hbeh 9 rfl);have c0:w.cell? ⟨s0,16,none⟩=some (.int .u8 p.invariant.kind):=hx.cell 16 rfl;have c1:w.cell? ⟨s0,17,none⟩=some (.int .u8 p.invariant.op):=hx.cell 17 rfl;have c2:w.cell? ⟨s0,18,none⟩=some (.int .u32 p.invariant.value):=hx.cell 18 rfl;have c3:w.cell? ⟨s0,19,none⟩=some (.int .i64 p.invariant.width):=hx.cell 19 rfl;have c4:w.cell? ⟨s0,20,none⟩=some (.string p.invariant.name):=hx.cell 20 rfl;have c5:w.cell? ⟨s0,21,none⟩=some (.slice p.invariant.sp.at_ p.invariant.subs.length p.invariant.sp.cap):=hx.cell 21 rfl;simp [go_sem,f80,c0,c1,c2,c3,c4,c5];exact rfl
 refine aj.any (fun L v w=>∃e':ae,v=.agg #[.int .u8 e'.kind,.int .u8 e'.op,.int .u32 e'.value,.int .i64 e'.width,.string e'.name,.slice e'.sp.at_ e'.subs.length e'.sp.cap]∧aK e'=aK p.invariant∧aU lo w e') rfl ?_ ?_ ?_
 ·exact fun _ _ _ _ _ _ hm ⟨e',h1,h2,h3⟩=>⟨e',h1,h2,h3.on hm hlo⟩
 ·rintro L a w ⟨hL,hS,hbeh,hsm,haft⟩
  have f81:a.tmps[81]?.getD undef=_:=ak (haft.1 rfl).2;have hS2:=hS;obtain ⟨hm,e1,e2,hx,y0,y1⟩:=hS;refine Oper.wp_enter (f:=149) (args:=#[.agg #[.int .u8 p.invariant.kind,.int .u8 p.invariant.op,.int .u32 p.invariant.value,.int .i64 p.invariant.width,.string p.invariant.name,.slice p.invariant.sp.at_ p.invariant.subs.length p.invariant.sp.cap],.func (.func 150) #[] #[]]) (w':=w) ?_ ?_
  ·simp [go_sem,f81]
  ·refine (hnm.2 w (hm.below hn0 hbx.lt) (by have:=hm.size;omega)).mono ?_
   rintro o w' ⟨e',rfl,h1,h2,hb⟩;rw [pW] at h1;exact ⟨_,rfl,_,rfl,fun e=>(by cases e),⟨e',rfl,h1.same,h2.less (Nat.le_trans hlw hm.size)⟩,nQ.flag (by decide) (hS2.on hlo hb),Mk.of hb hx.lt⟩
 apply aj.exact rfl rfl
 ·exact fun _ _ h=>nQ.flag (by decide) h
 ·exact fun w=>Mk.refl
 ·rintro L a w ⟨-,hS,hbeh,hsm,haft⟩
  have f1:a.tmps[1]?.getD undef=_:=(hsm 1 rfl).trans f1;simp [go_sem,f1];exact rfl
 refine aj.any (fun L v w=>True) rfl ?_ ?_ ?_
 ·exact fun _ _ _ _ _ _ _ h=>h
 ·rintro L a w ⟨hL,hS,hbeh,hsm,haft⟩
  have f83:a.tmps[83]?.getD undef=_:=ak (haft.1 rfl).2;obtain ⟨e',x79,h1,h2⟩:=(haft.2.1 rfl).2;have f79:a.tmps[79]?.getD undef=.agg #[.int .u8 e'.kind,.int .u8 e'.op,.int .u32 e'.value,.int .i64 e'.width,.string e'.name,.slice e'.sp.at_ e'.subs.length e'.sp.cap]:=ak x79;obtain ⟨hm,e1,e2,hx,y0,y1⟩:=hS;have hm2:=Mk.six hx.lt 6 (.int .u8 e'.kind) (.int .u8 e'.op) (.int .u32 e'.value) (.int .i64 e'.width) (.string e'.name) (.slice e'.sp.at_ e'.subs.length e'.sp.cap);have hc0:=hx.cell 6 rfl;have hc1:=hx.cell 7 rfl;have hc2:=hx.cell 8 rfl;have hc3:=hx.cell 9 rfl;have hc4:=hx.cell 10 rfl;have hc5:=hx.cell 11 rfl;have hf0:=hx.free 6;have hf1:=hx.free 7;have hf2:=hx.free 8;have hf3:=hx.free 9;have hf4:=hx.free 10;have hf5:=hx.free 11;refine Oper.wp_skip (w':=six w s0 6 (.int .u8 e'.kind) (.int .u8 e'.op) (.int .u32 e'.value) (.int .i64 e'.width) (.string e'.name) (.slice e'.sp.at_ e'.subs.length e'.sp.cap)) ?_ ?_
  ·simp [go_sem,six,f83,f79,hc0,hf0,hc1,hf1,hc2,hf2,hc3,hf3,hc4,hf4,hc5,hf5]
  ·exact ⟨undef,rfl,fun _=>rfl,trivial,⟨hm.trans hm2,e',e2,hx.six 6 _ _ _ _ _ _ (by simp [af.arr,af.cells,Sp.val]),(by rw [bA];exact ⟨fun _=>⟨h1,h2.on hm2 hlo⟩,fun h=>(by cases h)⟩),(by rw [az (by decide)];exact y1.on hm2 hlo)⟩,hm2⟩
 apply aj.exact rfl rfl
 ·exact fun _ _ h=>nQ.flag (by decide) h
 ·exact fun w=>Mk.refl
 ·rintro L a w ⟨-,hS,hbeh,hsm,haft⟩
  have f1:a.tmps[1]?.getD undef=_:=(hsm 1 rfl).trans f1;simp [go_sem,f1];exact rfl
 refine aj.any (fun L v w=>True) rfl ?_ ?_ ?_
 ·exact fun _ _ _ _ _ _ _ h=>h
 ·rintro L a w ⟨hL,hS,hbeh,hsm,haft⟩
  have f84:a.tmps[84]?.getD undef=_:=ak (haft.1 rfl).2;obtain ⟨e',x82,h1,h2⟩:=(haft.2.1 rfl).2;have f82:a.tmps[82]?.getD undef=.agg #[.int .u8 e'.kind,.int .u8 e'.op,.int .u32 e'.value,.int .i64 e'.width,.string e'.name,.slice e'.sp.at_ e'.subs.length e'.sp.cap]:=ak x82;obtain ⟨hm,e1,e2,hx,y0,y1⟩:=hS;have hm2:=Mk.six hx.lt 16 (.int .u8 e'.kind) (.int .u8 e'.op) (.int .u32 e'.value) (.int .i64 e'.width) (.string e'.name) (.slice e'.sp.at_ e'.subs.length e'.sp.cap);have hc0:=hx.cell 16 rfl;have hc1:=hx.cell 17 rfl;have hc2:=hx.cell 18 rfl;have hc3:=hx.cell 19 rfl;have hc4:=hx.cell 20 rfl;have hc5:=hx.cell 21 rfl;have hf0:=hx.free 16;have hf1:=hx.free 17;have hf2:=hx.free 18;have hf3:=hx.free 19;have hf4:=hx.free 20;have hf5:=hx.free 21;refine Oper.wp_skip (w':=six w s0 16 (.int .u8 e'.kind) (.int .u8 e'.op) (.int .u32 e'.value) (.int .i64 e'.width) (.string e'.name) (.slice e'.sp.at_ e'.subs.length e'.sp.cap)) ?_ ?_
  ·simp [go_sem,six,f84,f82,hc0,hf0,hc1,hf1,hc2,hf2,hc3,hf3,hc4,hf4,hc5,hf5]
  ·exact ⟨undef,rfl,fun _=>rfl,trivial,⟨hm.trans hm2,e1,e',hx.six 16 _ _ _ _ _ _ (by simp [af.arr,af.cells,Sp.val]),(by rw [az (by decide)];exact y0.on hm2 hlo),(by rw [bA];exact ⟨fun _=>⟨h1,h2.on hm2 hlo⟩,fun h=>(by cases h)⟩)⟩,hm2⟩
 rintro L a w hL ⟨hS,hsame,hv⟩;refine ⟨rfl,hsame.1.trans hsz,hsame.2.1,hsame.2.2,?_⟩;unfold nQ at hS ⊢;rw [hL 7 (by decide),hL 9 (by decide)] at hS;exact hS
noncomputable def opsC16:Array Oper:=((Tryz.f84.body.bind (opsOf 16)).getD #[])
def AP (t:Nat):Bool:=decide (t≤84)
theorem Hd:iW opsC16 10 94 AP=true:=by kernel_rfl
def nP (s0 lo:Nat) (p:af) (w0:World) (L:Nat→Bool) (w:World):Prop:=Mk s0 w0 w∧∃(s1:Sp) (l1:List aa) (s2:Sp) (l2:List aa),Bx s0 w { p with ws:=s1,work:=l1,cs:=s2,recover:=l2 }∧Kc lo (L 7) w p.ws p.work s1 l1∧Kc lo (L 9) w p.cs p.recover s2 l2
theorem nP.flag {s0 lo k:Nat} {p:af} {w0:World} {L:Nat→Bool} {w:World} (hk:k≠7∧k≠9) (h:nP s0 lo p w0 L w):nP s0 lo p w0 (lU L k) w:=by
 unfold nP at h ⊢;obtain ⟨h7,h9⟩:=hk;rw [az (Ne.symm h7),az (Ne.symm h9)];exact h
theorem nP.on {s0 lo:Nat} {p:af} {w0:World} {L:Nat→Bool} {w w':World} (hs:s0<lo) (h:nP s0 lo p w0 L w) (hb:Below w.heap.size w w'):nP s0 lo p w0 L w':=by
 obtain ⟨hm,s1,l1,s2,l2,hx,y0,y1⟩:=h;have hm2:=Mk.of hb hx.lt;exact ⟨hm.trans hm2,s1,l1,s2,l2,hx.on hb,y0.on hm2 hs,y1.on hm2 hs⟩
set_option maxRecDepth 10000000 in
set_option maxHeartbeats 64000000 in
theorem LG {a0:Act} {w0:World} (hsz:a0.tmps.size=94) (s0 lo n0:Nat) (p:af) (hlo:s0<lo) (hlw:lo≤w0.heap.size) (hn0:n0≤s0)
  (f1:a0.tmps[1]?.getD undef=.pointer (some ⟨s0,0,none⟩)) (hnm:jF 150 #[] id n0 w0 p.ws p.work∧jF 150 #[] id n0 w0 p.cs p.recover)
  (hbx:Bx s0 w0 p) :
  (Code.region 16 opsC16 true).wp Tryz.prog (fun e a w=>e=.normal∧a.tmps.size=94∧a.defers=a0.defers∧(∀t:Nat,AP t=true→a.tmps[t]?.getD undef=a0.tmps[t]?.getD undef)∧nP s0 lo p w0 (fun _=>true) w) a0 w0:=by
 refine dh (n:=10) (sz:=94) (keep:=AP) rfl Hd hsz (nP s0 lo p w0) (fun _ w w'=>Mk s0 w w') (⟨(Below.refl _ _).drew,p.ws,p.work,p.cs,p.recover,hbx,Kc.off,Kc.off⟩) ?_;have e:opsC16.toList=opsC16.toList:=rfl
 conv at e=>rhs;arg 1;whnf
 simp only at e;rw [e];clear e
 apply aj.exact rfl rfl
 ·exact fun _ _ h=>nP.flag (by decide) h
 ·exact fun w=>Mk.refl
 ·rintro L a w ⟨-,hS,hbeh,hsm,haft⟩
  have f1:a.tmps[1]?.getD undef=_:=(hsm 1 rfl).trans f1;simp [go_sem,f1];exact rfl
 apply aj.exact rfl rfl
 ·exact fun _ _ h=>nP.flag (by decide) h
 ·exact fun w=>Mk.refl
 ·rintro L a w ⟨-,hS,hbeh,hsm,haft⟩
  have f85:a.tmps[85]?.getD undef=_:=ak (haft.1 rfl).2;obtain ⟨hm,s1,l1,s2,l2,hx,y0,y1⟩:=hS;obtain ⟨rfl,rfl⟩:=y0.2 (hbeh 7 rfl);have hc:w.cell? ⟨s0,14,none⟩=some (.slice p.ws.at_ p.work.length p.ws.cap):=hx.cell 14 rfl;simp [go_sem,f85,hc];exact rfl
 refine aj.any (fun L v w=>∃(sp':Sp) (l':List aa),v=.slice sp'.at_ l'.length sp'.cap∧l'.map ag=p.work.map ag∧dz lo w sp' l') rfl ?_ ?_ ?_
 ·exact fun _ _ _ _ _ _ hm ⟨sp',l',h1,h2,h3⟩=>⟨sp',l',h1,h2,h3.on hm hlo⟩
 ·rintro L a w ⟨hL,hS,hbeh,hsm,haft⟩
  have f86:a.tmps[86]?.getD undef=_:=ak (haft.1 rfl).2;have hS2:=hS;obtain ⟨hm,s1,l1,s2,l2,hx,y0,y1⟩:=hS;refine Oper.wp_enter (f:=151) (args:=#[.slice p.ws.at_ p.work.length p.ws.cap,.func (.func 150) #[] #[]]) (w':=w) ?_ ?_
  ·simp [go_sem,f86]
  ·refine (hnm.1 w (hm.below hn0 hbx.lt) (by have:=hm.size;omega)).mono ?_
   rintro o w' ⟨sp',l',rfl,h1,h2,hb⟩;rw [pW,Aj] at h1;exact ⟨_,rfl,_,rfl,fun e=>(by cases e),⟨sp',l',rfl,h1.same,h2.less (Nat.le_trans hlw hm.size)⟩,nP.flag (by decide) (hS2.on hlo hb),Mk.of hb hx.lt⟩
 apply aj.exact rfl rfl
 ·exact fun _ _ h=>nP.flag (by decide) h
 ·exact fun w=>Mk.refl
 ·rintro L a w ⟨-,hS,hbeh,hsm,haft⟩
  have f1:a.tmps[1]?.getD undef=_:=(hsm 1 rfl).trans f1;simp [go_sem,f1];exact rfl
 apply aj.exact rfl rfl
 ·exact fun _ _ h=>nP.flag (by decide) h
 ·exact fun w=>Mk.refl
 ·rintro L a w ⟨-,hS,hbeh,hsm,haft⟩
  have f88:a.tmps[88]?.getD undef=_:=ak (haft.1 rfl).2;obtain ⟨hm,s1,l1,s2,l2,hx,y0,y1⟩:=hS;obtain ⟨rfl,rfl⟩:=y1.2 (hbeh 9 rfl);have hc:w.cell? ⟨s0,15,none⟩=some (.slice p.cs.at_ p.recover.length p.cs.cap):=hx.cell 15 rfl;simp [go_sem,f88,hc];exact rfl
 refine aj.any (fun L v w=>∃(sp':Sp) (l':List aa),v=.slice sp'.at_ l'.length sp'.cap∧l'.map ag=p.recover.map ag∧dz lo w sp' l') rfl ?_ ?_ ?_
 ·exact fun _ _ _ _ _ _ hm ⟨sp',l',h1,h2,h3⟩=>⟨sp',l',h1,h2,h3.on hm hlo⟩
 ·rintro L a w ⟨hL,hS,hbeh,hsm,haft⟩
  have f89:a.tmps[89]?.getD undef=_:=ak (haft.1 rfl).2;have hS2:=hS;obtain ⟨hm,s1,l1,s2,l2,hx,y0,y1⟩:=hS;refine Oper.wp_enter (f:=151) (args:=#[.slice p.cs.at_ p.recover.length p.cs.cap,.func (.func 150) #[] #[]]) (w':=w) ?_ ?_
  ·simp [go_sem,f89]
  ·refine (hnm.2 w (hm.below hn0 hbx.lt) (by have:=hm.size;omega)).mono ?_
   rintro o w' ⟨sp',l',rfl,h1,h2,hb⟩;rw [pW,Aj] at h1;exact ⟨_,rfl,_,rfl,fun e=>(by cases e),⟨sp',l',rfl,h1.same,h2.less (Nat.le_trans hlw hm.size)⟩,nP.flag (by decide) (hS2.on hlo hb),Mk.of hb hx.lt⟩
 apply aj.exact rfl rfl
 ·exact fun _ _ h=>nP.flag (by decide) h
 ·exact fun w=>Mk.refl
 ·rintro L a w ⟨-,hS,hbeh,hsm,haft⟩
  have f1:a.tmps[1]?.getD undef=_:=(hsm 1 rfl).trans f1;simp [go_sem,f1];exact rfl
 refine aj.any (fun L v w=>True) rfl ?_ ?_ ?_
 ·exact fun _ _ _ _ _ _ _ h=>h
 ·rintro L a w ⟨hL,hS,hbeh,hsm,haft⟩
  have f91:a.tmps[91]?.getD undef=_:=ak (haft.1 rfl).2;obtain ⟨sp',l',x87,h1,h2⟩:=(haft.2.1 rfl).2;have f87:a.tmps[87]?.getD undef=.slice sp'.at_ l'.length sp'.cap:=ak x87;obtain ⟨hm,s1,l1,s2,l2,hx,y0,y1⟩:=hS;have hm2:=Mk.set hx.lt 14 (.slice sp'.at_ l'.length sp'.cap);have hc:=hx.cell 14 rfl;have hfr:=hx.free 14;refine Oper.wp_skip (w':=w.setCell ⟨s0,14,none⟩ (.slice sp'.at_ l'.length sp'.cap)) ?_ ?_
  ·simp [go_sem,f91,f87,hc,hfr]
  ·exact ⟨undef,rfl,fun _=>rfl,trivial,⟨hm.trans hm2,sp',l',s2,l2,hx.put 14 _ (by simp [af.arr,af.cells,Sp.val]),(by rw [bA];exact ⟨fun _=>⟨h1,h2.on hm2 hlo⟩,fun h=>(by cases h)⟩),(by rw [az (by decide)];exact y1.on hm2 hlo)⟩,hm2⟩
 apply aj.exact rfl rfl
 ·exact fun _ _ h=>nP.flag (by decide) h
 ·exact fun w=>Mk.refl
 ·rintro L a w ⟨-,hS,hbeh,hsm,haft⟩
  have f1:a.tmps[1]?.getD undef=_:=(hsm 1 rfl).trans f1;simp [go_sem,f1];exact rfl
 refine aj.any (fun L v w=>True) rfl ?_ ?_ ?_
 ·exact fun _ _ _ _ _ _ _ h=>h
 ·rintro L a w ⟨hL,hS,hbeh,hsm,haft⟩
  have f92:a.tmps[92]?.getD undef=_:=ak (haft.1 rfl).2;obtain ⟨sp',l',x90,h1,h2⟩:=(haft.2.1 rfl).2;have f90:a.tmps[90]?.getD undef=.slice sp'.at_ l'.length sp'.cap:=ak x90;obtain ⟨hm,s1,l1,s2,l2,hx,y0,y1⟩:=hS;have hm2:=Mk.set hx.lt 15 (.slice sp'.at_ l'.length sp'.cap);have hc:=hx.cell 15 rfl;have hfr:=hx.free 15;refine Oper.wp_skip (w':=w.setCell ⟨s0,15,none⟩ (.slice sp'.at_ l'.length sp'.cap)) ?_ ?_
  ·simp [go_sem,f92,f90,hc,hfr]
  ·exact ⟨undef,rfl,fun _=>rfl,trivial,⟨hm.trans hm2,s1,l1,sp',l',hx.put 15 _ (by simp [af.arr,af.cells,Sp.val]),(by rw [az (by decide)];exact y0.on hm2 hlo),(by rw [bA];exact ⟨fun _=>⟨h1,h2.on hm2 hlo⟩,fun h=>(by cases h)⟩)⟩,hm2⟩
 rintro L a w hL ⟨hS,hsame,hv⟩;refine ⟨rfl,hsame.1.trans hsz,hsame.2.1,hsame.2.2,?_⟩;unfold nP at hS ⊢;rw [hL 7 (by decide),hL 9 (by decide)] at hS;exact hS
end
end Go.Proofs.YtepacjkacjabbaaGreatDoor
