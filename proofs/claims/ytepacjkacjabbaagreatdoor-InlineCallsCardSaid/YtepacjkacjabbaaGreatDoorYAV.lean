import Derived.Test.YtepacjkacjabbaaGreatDoorYAS
import Derived.Test.YtepacjkacjabbaaGreatDoorYAO
import Derived.Test.YtepacjkacjabbaaGreatDoorYAT
import Derived.Sort.CutIn
set_option linter.all false
set_option maxRecDepth 10000000
set_option maxHeartbeats 64000000
namespace Go.Proofs.YtepacjkacjabbaaGreatDoor
open Go Go.Maps Go.RowKit
section
section
variable {F:Nat}{bs:Array Value}{τ:ByteArray->ByteArray}(hτ:∀s,s.size<=maxLen->(τ s).size<=maxLen){n0:Nat}{W0:World}(hT:Aj F bs τ n0 W0)
include hτ hT
theorem DK(sp:Sp)(l:List aa)(hr:gq n0 W0 sp l)(hl:aV l<=1000000)(O:∀s,s∈l->aV [s]<=1000000->oP F bs τ n0 W0 s.ts s.gy/\oP F bs τ n0 W0 s.os s.iD):oP F bs τ n0 W0 sp l:=by
 have hx:∀s,s∈l->dU s.bf<=1000000:=λs D=>by
  have h1:=pE l s D;rw[pz]at h1;omega
 refine PT F bs τ hτ n0 W0 hT sp l hr (ai (lM l) hl) (λs D=>ai (zz s.bf) (hx s D)) (λs D e he=>xq hτ hT e ((hr.ok s D).xs.ok e he) (ai (Df he) (hx s D))) λs D=>O s D (ai (pE l s D) hl)
theorem P6(s:aa)(hr:lV n0 W0 s):aV [s]<=1000000->oP F bs τ n0 W0 s.ts s.gy/\oP F bs τ n0 W0 s.os s.iD:=by
 induction hr with
 |mk s k b n er ex V th D el O U =>
  intro hl;rw[pz]at hl;exact⟨DK hτ hT s.ts s.gy ⟨V,th⟩ (by omega) O,DK hτ hT s.os s.iD ⟨D,el⟩ (by omega) U⟩
theorem si(sp:Sp)(l:List aa)(hr:gq n0 W0 sp l)(hl:aV l<=1000000):oP F bs τ n0 W0 sp l :=
 DK hτ hT sp l hr hl λs D h=>P6 hτ hT s (hr.ok s D) h
end
theorem zW:tX id=PX:=by funext k n;unfold tX PX;split<;>rfl
theorem Ms:tT id=PX:=by funext k n;unfold tT PX;split<;>rfl
theorem S9{l:List aa}(hl:aV l<=20000):jU (l.flatMap aa.pre) 0<=20000:=by
 unfold aV at hl;rw[rf _ 0 (by omega)];omega
end
noncomputable def opsC3:Array Oper:=((Tryz.f84.body.bind (opsOf 3)).getD #[])
def KN(t:Nat):Bool:=decide (t<=10)
theorem Qb:jH opsC3 20 94 KN=true:=by kernel_rfl
def Bq(s0 lo:Nat)(p:aj)(w0:World)(L:Nat->Bool)(w:World):Prop:=Mk s0 w0 w/\∃(U O V D:Sp),Bx s0 w { p with is:=U,gs:=O,vs:=V,«as»:=D }/\H6 lo 50 3 bO.cells (L 13) w p.is U p.fB/\H6 lo 50 3 bO.cells (L 15) w p.gs O p.ek/\H6 lo 50 3 bO.cells (L 17) w p.vs V p.gp/\H6 lo 50 3 bO.cells (L 19) w p.as D p.fP
theorem Bq.flag{s0 lo k:Nat}{p:aj}{w0:World}{L:Nat->Bool}{w:World}(hk:k≠13/\k≠15/\k≠17/\k≠19)(h:Bq s0 lo p w0 L w):Bq s0 lo p w0 (pI L k) w:=by
 unfold Bq at h ⊢;obtain⟨D,O,U,V⟩:=hk;rw[av (Ne.symm D),av (Ne.symm O),av (Ne.symm U),av (Ne.symm V)];exact h
theorem Bq.on{s0 lo:Nat}{p:aj}{w0:World}{L:Nat->Bool}{w w':World}(O:s0<lo)(h:Bq s0 lo p w0 L w)(hb:Below w.heap.size w w'):Bq s0 lo p w0 L w':=by
 obtain⟨hm,i1,V,v1,U,hx,y0,y1,y2,y3⟩:=h;have D:=Mk.of hb hx.lt;exact⟨hm.trans D,i1,V,v1,U,hx.on hb,y0.on D O,y1.on D O,y2.on D O,y3.on D O⟩
theorem Ud{a0:Act}{w0:World}(a4:a0.tmps.size=94)(s0 lo n0:Nat)(p:aj)(U:s0<lo)(ao:lo<=w0.heap.size)(ap:n0<=s0)
  (f1:a0.tmps[1]?.getD undef=.pointer (some ⟨s0,0,none⟩)) (hp:jT n0 w0 p) (am:p.fB.length<=1000000/\p.ek.length<=1000000/\p.gp.length<=1000000/\p.fP.length<=1000000)
  (an:Bx s0 w0 p) :
  (Code.region 3 opsC3 true).wp Tryz.prog (λe a w=>e=.normal/\a.tmps.size=94/\a.defers=a0.defers/\(∀t:Nat,KN t=true->a.tmps[t]?.getD undef=a0.tmps[t]?.getD undef)/\Bq s0 lo p w0 (λ_=>true) w) a0 w0:=by
 refine fQ (n:=20) (sz:=94) (keep:=KN) rfl Qb a4 (Bq s0 lo p w0) (λ_ w w'=>Mk s0 w w') (⟨(ag _ _).drew,p.is,p.gs,p.vs,p.as,an,H6.off,H6.off,H6.off,H6.off⟩) ?_;have e:opsC3.toList=opsC3.toList:=rfl
 conv at e=>rhs;arg 1;whnf
 simp only at e;rw[e];clear e
 apply aQ.exact rfl rfl;exact λ_ _ h=>Bq.flag (by decide) h;exact λw=>Mk.refl;rintro _ _ _ ⟨-,_,_,b,_⟩;simp[go_sem,(b 1 rfl).trans f1];exact rfl
 apply aQ.exact rfl rfl;exact λ_ _ h=>Bq.flag (by decide) h;exact λw=>Mk.refl;rintro _ _ w ⟨-,b,c,_,d⟩;have f11:=aB (d.1 rfl).2;obtain⟨_,i1,g1,v1,a1,hx,y0,_,_,_⟩:=b;obtain rfl:=y0.2 (c 13 rfl);have hc:w.cell? ⟨s0,2,none⟩=some (.slice p.is.dO p.fB.length p.is.df):=hx.cell 2 rfl;simp[go_sem,f11,hc];exact rfl
 refine aQ.any (λL v w=>dz lo w 50 3 bO.cells v p.fB) rfl ?_ ?_ ?_
 .exact λ_ _ _ _ _ _ hm h=>h.onM hm U
 .rintro L a w ⟨_,hS,_,_,D⟩
  have f12:=aB (D.1 rfl).2;have ab:=hS;obtain⟨hm,i1,g1,v1,a1,hx,_,_,_,_⟩:=hS;refine Oper.wp_enter (f:=81) (args:=#[.slice p.is.dO p.fB.length p.is.df]) (w':=w) ?_ ?_
  .simp[go_sem,f12]
  .refine(p9 w p.is p.fB _ ((hp.fB.row.below (hm.below ap an.lt)).more (show n0<=w.heap.size by have:=hm.size;omega)) am.1).mono ?_
   rintro o w' ⟨⟨v,rfl,ho⟩,hb⟩;exact⟨v,rfl,v,rfl,λe=>(by cases e),ho.less (ai ao hm.size),Bq.flag (by decide) (ab.on U hb),Mk.of hb hx.lt⟩
 apply aQ.exact rfl rfl;exact λ_ _ h=>Bq.flag (by decide) h;exact λw=>Mk.refl;rintro _ _ _ ⟨-,_,_,b,_⟩;simp[go_sem,(b 1 rfl).trans f1];exact rfl
 apply aQ.exact rfl rfl;exact λ_ _ h=>Bq.flag (by decide) h;exact λw=>Mk.refl;rintro _ _ w ⟨-,b,c,_,d⟩;have f14:=aB (d.1 rfl).2;obtain⟨_,i1,g1,v1,a1,hx,_,y1,_,_⟩:=b;obtain rfl:=y1.2 (c 15 rfl);have hc:w.cell? ⟨s0,3,none⟩=some (.slice p.gs.dO p.ek.length p.gs.df):=hx.cell 3 rfl;simp[go_sem,f14,hc];exact rfl
 refine aQ.any (λL v w=>dz lo w 50 3 bO.cells v p.ek) rfl ?_ ?_ ?_
 .exact λ_ _ _ _ _ _ hm h=>h.onM hm U
 .rintro L a w ⟨_,hS,_,_,D⟩
  have f15:=aB (D.1 rfl).2;have ab:=hS;obtain⟨hm,i1,g1,v1,a1,hx,_,_,_,_⟩:=hS;refine Oper.wp_enter (f:=81) (args:=#[.slice p.gs.dO p.ek.length p.gs.df]) (w':=w) ?_ ?_
  .simp[go_sem,f15]
  .refine(p9 w p.gs p.ek _ ((hp.ek.row.below (hm.below ap an.lt)).more (show n0<=w.heap.size by have:=hm.size;omega)) am.2.1).mono ?_
   rintro o w' ⟨⟨v,rfl,ho⟩,hb⟩;exact⟨v,rfl,v,rfl,λe=>(by cases e),ho.less (ai ao hm.size),Bq.flag (by decide) (ab.on U hb),Mk.of hb hx.lt⟩
 apply aQ.exact rfl rfl;exact λ_ _ h=>Bq.flag (by decide) h;exact λw=>Mk.refl;rintro _ _ _ ⟨-,_,_,b,_⟩;simp[go_sem,(b 1 rfl).trans f1];exact rfl
 apply aQ.exact rfl rfl;exact λ_ _ h=>Bq.flag (by decide) h;exact λw=>Mk.refl;rintro _ _ w ⟨-,b,c,_,d⟩;have a5:=aB (d.1 rfl).2;obtain⟨_,i1,g1,v1,a1,hx,_,_,y2,_⟩:=b;obtain rfl:=y2.2 (c 17 rfl);have hc:w.cell? ⟨s0,4,none⟩=some (.slice p.vs.dO p.gp.length p.vs.df):=hx.cell 4 rfl;simp[go_sem,a5,hc];exact rfl
 refine aQ.any (λL v w=>dz lo w 50 3 bO.cells v p.gp) rfl ?_ ?_ ?_
 .exact λ_ _ _ _ _ _ hm h=>h.onM hm U
 .rintro L a w ⟨_,hS,_,_,D⟩
  have a6:=aB (D.1 rfl).2;have ab:=hS;obtain⟨hm,i1,g1,v1,a1,hx,_,_,_,_⟩:=hS;refine Oper.wp_enter (f:=81) (args:=#[.slice p.vs.dO p.gp.length p.vs.df]) (w':=w) ?_ ?_
  .simp[go_sem,a6]
  .refine(p9 w p.vs p.gp _ ((hp.gp.row.below (hm.below ap an.lt)).more (show n0<=w.heap.size by have:=hm.size;omega)) am.2.2.1).mono ?_
   rintro o w' ⟨⟨v,rfl,ho⟩,hb⟩;exact⟨v,rfl,v,rfl,λe=>(by cases e),ho.less (ai ao hm.size),Bq.flag (by decide) (ab.on U hb),Mk.of hb hx.lt⟩
 apply aQ.exact rfl rfl;exact λ_ _ h=>Bq.flag (by decide) h;exact λw=>Mk.refl;rintro _ _ _ ⟨-,_,_,b,_⟩;simp[go_sem,(b 1 rfl).trans f1];exact rfl
 apply aQ.exact rfl rfl;exact λ_ _ h=>Bq.flag (by decide) h;exact λw=>Mk.refl;rintro _ _ w ⟨-,b,c,_,d⟩;have a7:=aB (d.1 rfl).2;obtain⟨_,i1,g1,v1,a1,hx,_,_,_,y3⟩:=b;obtain rfl:=y3.2 (c 19 rfl);have hc:w.cell? ⟨s0,5,none⟩=some (.slice p.as.dO p.fP.length p.as.df):=hx.cell 5 rfl;simp[go_sem,a7,hc];exact rfl
 refine aQ.any (λL v w=>dz lo w 50 3 bO.cells v p.fP) rfl ?_ ?_ ?_
 .exact λ_ _ _ _ _ _ hm h=>h.onM hm U
 .rintro L a w ⟨_,hS,_,_,D⟩
  have a8:=aB (D.1 rfl).2;have ab:=hS;obtain⟨hm,i1,g1,v1,a1,hx,_,_,_,_⟩:=hS;refine Oper.wp_enter (f:=81) (args:=#[.slice p.as.dO p.fP.length p.as.df]) (w':=w) ?_ ?_
  .simp[go_sem,a8]
  .refine(p9 w p.as p.fP _ ((hp.fP.row.below (hm.below ap an.lt)).more (show n0<=w.heap.size by have:=hm.size;omega)) am.2.2.2).mono ?_
   rintro o w' ⟨⟨v,rfl,ho⟩,hb⟩;exact⟨v,rfl,v,rfl,λe=>(by cases e),ho.less (ai ao hm.size),Bq.flag (by decide) (ab.on U hb),Mk.of hb hx.lt⟩
 apply aQ.exact rfl rfl;exact λ_ _ h=>Bq.flag (by decide) h;exact λw=>Mk.refl;rintro _ _ _ ⟨-,_,_,b,_⟩;simp[go_sem,(b 1 rfl).trans f1];exact rfl
 refine aQ.any (λL v w=>True) rfl ?_ ?_ ?_
 .exact λ_ _ _ _ _ _ _ h=>h
 .rintro L a w ⟨_,hS,_,_,D⟩
  have a9:=aB (D.1 rfl).2;have ho:dz lo w 50 3 bO.cells (a.eval (.tmp 13)) p.fB:=(D.2.1 rfl).2;have aq:a.tmps[13]?.getD undef=a.eval (.tmp 13):=aB rfl;obtain⟨A,c,V⟩:=ho.form;rw[V]at aq ho;obtain⟨hm,i1,g1,v1,a1,hx,_,y1,y2,y3⟩:=hS;have O:=Mk.set hx.lt 2 (.slice A p.fB.length c);have hc:=hx.cell 2 rfl;have ad:=hx.free 2;refine Oper.wp_skip (w':=w.setCell ⟨s0,2,none⟩ (.slice A p.fB.length c)) ?_ ?_
  .simp[go_sem,a9,aq,hc,ad]
  .exact⟨undef,rfl,λ_=>rfl,trivial,⟨hm.trans O,⟨A,c⟩,g1,v1,a1,hx.put 2 _ (by simp[aj.arr,aj.cells,Sp.val]),(by rw[bU];exact⟨λ_=>ho.onM O U,λh=>(by cases h)⟩),(by rw[av (by decide)];exact y1.on O U),(by rw[av (by decide)];exact y2.on O U),(by rw[av (by decide)];exact y3.on O U)⟩,O⟩
 apply aQ.exact rfl rfl;exact λ_ _ h=>Bq.flag (by decide) h;exact λw=>Mk.refl;rintro _ _ _ ⟨-,_,_,b,_⟩;simp[go_sem,(b 1 rfl).trans f1];exact rfl
 refine aQ.any (λL v w=>True) rfl ?_ ?_ ?_
 .exact λ_ _ _ _ _ _ _ h=>h
 .rintro L a w ⟨_,hS,_,_,D⟩
  have aE:=aB (D.1 rfl).2;have ho:dz lo w 50 3 bO.cells (a.eval (.tmp 16)) p.ek:=(D.2.1 rfl).2;have ar:a.tmps[16]?.getD undef=a.eval (.tmp 16):=aB rfl;obtain⟨A,c,V⟩:=ho.form;rw[V]at ar ho;obtain⟨hm,i1,g1,v1,a1,hx,y0,_,y2,y3⟩:=hS;have O:=Mk.set hx.lt 3 (.slice A p.ek.length c);have hc:=hx.cell 3 rfl;have ad:=hx.free 3;refine Oper.wp_skip (w':=w.setCell ⟨s0,3,none⟩ (.slice A p.ek.length c)) ?_ ?_
  .simp[go_sem,aE,ar,hc,ad]
  .exact⟨undef,rfl,λ_=>rfl,trivial,⟨hm.trans O,i1,⟨A,c⟩,v1,a1,hx.put 3 _ (by simp[aj.arr,aj.cells,Sp.val]),(by rw[av (by decide)];exact y0.on O U),(by rw[bU];exact⟨λ_=>ho.onM O U,λh=>(by cases h)⟩),(by rw[av (by decide)];exact y2.on O U),(by rw[av (by decide)];exact y3.on O U)⟩,O⟩
 apply aQ.exact rfl rfl;exact λ_ _ h=>Bq.flag (by decide) h;exact λw=>Mk.refl;rintro _ _ _ ⟨-,_,_,b,_⟩;simp[go_sem,(b 1 rfl).trans f1];exact rfl
 refine aQ.any (λL v w=>True) rfl ?_ ?_ ?_
 .exact λ_ _ _ _ _ _ _ h=>h
 .rintro L a w ⟨_,hS,_,_,D⟩
  have ba:=aB (D.1 rfl).2;have ho:dz lo w 50 3 bO.cells (a.eval (.tmp 19)) p.gp:=(D.2.1 rfl).2;have aw:a.tmps[19]?.getD undef=a.eval (.tmp 19):=aB rfl;obtain⟨A,c,V⟩:=ho.form;rw[V]at aw ho;obtain⟨hm,i1,g1,v1,a1,hx,y0,y1,_,y3⟩:=hS;have O:=Mk.set hx.lt 4 (.slice A p.gp.length c);have hc:=hx.cell 4 rfl;have ad:=hx.free 4;refine Oper.wp_skip (w':=w.setCell ⟨s0,4,none⟩ (.slice A p.gp.length c)) ?_ ?_
  .simp[go_sem,ba,aw,hc,ad]
  .exact⟨undef,rfl,λ_=>rfl,trivial,⟨hm.trans O,i1,g1,⟨A,c⟩,a1,hx.put 4 _ (by simp[aj.arr,aj.cells,Sp.val]),(by rw[av (by decide)];exact y0.on O U),(by rw[av (by decide)];exact y1.on O U),(by rw[bU];exact⟨λ_=>ho.onM O U,λh=>(by cases h)⟩),(by rw[av (by decide)];exact y3.on O U)⟩,O⟩
 apply aQ.exact rfl rfl;exact λ_ _ h=>Bq.flag (by decide) h;exact λw=>Mk.refl;rintro _ _ _ ⟨-,_,_,b,_⟩;simp[go_sem,(b 1 rfl).trans f1];exact rfl
 refine aQ.any (λL v w=>True) rfl ?_ ?_ ?_
 .exact λ_ _ _ _ _ _ _ h=>h
 .rintro L a w ⟨_,hS,_,_,D⟩
  have bc:=aB (D.1 rfl).2;have ho:dz lo w 50 3 bO.cells (a.eval (.tmp 22)) p.fP:=(D.2.1 rfl).2;have a3:a.tmps[22]?.getD undef=a.eval (.tmp 22):=aB rfl;obtain⟨A,c,V⟩:=ho.form;rw[V]at a3 ho;obtain⟨hm,i1,g1,v1,a1,hx,y0,y1,y2,_⟩:=hS;have O:=Mk.set hx.lt 5 (.slice A p.fP.length c);have hc:=hx.cell 5 rfl;have ad:=hx.free 5;refine Oper.wp_skip (w':=w.setCell ⟨s0,5,none⟩ (.slice A p.fP.length c)) ?_ ?_
  .simp[go_sem,bc,a3,hc,ad]
  .exact⟨undef,rfl,λ_=>rfl,trivial,⟨hm.trans O,i1,g1,v1,⟨A,c⟩,hx.put 5 _ (by simp[aj.arr,aj.cells,Sp.val]),(by rw[av (by decide)];exact y0.on O U),(by rw[av (by decide)];exact y1.on O U),(by rw[av (by decide)];exact y2.on O U),(by rw[bU];exact⟨λ_=>ho.onM O U,λh=>(by cases h)⟩)⟩,O⟩
 rintro L a w hL ⟨hS,al,hv⟩;refine⟨rfl,al.1.trans a4,al.2.1,al.2.2,?_⟩;unfold Bq at hS ⊢;rw[hL 13 (by decide),hL 15 (by decide),hL 17 (by decide),hL 19 (by decide)]at hS;exact hS
noncomputable def opsC4:Array Oper:=((Tryz.f84.body.bind (opsOf 4)).getD #[])
def KO(t:Nat):Bool:=decide (t<=10)
theorem Qc:jH opsC4 10 94 KO=true:=by kernel_rfl
def Ht(s0 lo:Nat)(p:aj)(w0:World)(L:Nat->Bool)(w:World):Prop:=Mk s0 w0 w/\∃(D O:Sp),Bx s0 w { p with ns:=D,rs:=O }/\H6 lo 149 7 dH.cells (L 7) w p.ns D p.eQ/\H6 lo 54 3 bG.cells (L 9) w p.rs O p.aA
theorem Ht.flag{s0 lo k:Nat}{p:aj}{w0:World}{L:Nat->Bool}{w:World}(hk:k≠7/\k≠9)(h:Ht s0 lo p w0 L w):Ht s0 lo p w0 (pI L k) w:=by
 unfold Ht at h ⊢;obtain⟨D,O⟩:=hk;rw[av (Ne.symm D),av (Ne.symm O)];exact h
theorem Ht.on{s0 lo:Nat}{p:aj}{w0:World}{L:Nat->Bool}{w w':World}(O:s0<lo)(h:Ht s0 lo p w0 L w)(hb:Below w.heap.size w w'):Ht s0 lo p w0 L w':=by
 obtain⟨hm,U,V,hx,y0,y1⟩:=h;have D:=Mk.of hb hx.lt;exact⟨hm.trans D,U,V,hx.on hb,y0.on D O,y1.on D O⟩
theorem Ue{a0:Act}{w0:World}(aw:a0.tmps.size=94)(s0 lo n0:Nat)(p:aj)(U:s0<lo)(aq:lo<=w0.heap.size)(ar:n0<=s0)
  (f1:a0.tmps[1]?.getD undef=.pointer (some ⟨s0,0,none⟩)) (a8:RowOf n0 w0 p.ns 7 dH.cells p.eQ) (a9:RowOf n0 w0 p.rs 3 bG.cells p.aA) (am:p.eQ.length<=1000000/\p.aA.length<=1000000)
  (ao:Bx s0 w0 p) :
  (Code.region 4 opsC4 true).wp Tryz.prog (λe a w=>e=.normal/\a.tmps.size=94/\a.defers=a0.defers/\(∀t:Nat,KO t=true->a.tmps[t]?.getD undef=a0.tmps[t]?.getD undef)/\Ht s0 lo p w0 (λ_=>true) w) a0 w0:=by
 refine fQ (n:=10) (sz:=94) (keep:=KO) rfl Qc aw (Ht s0 lo p w0) (λ_ w w'=>Mk s0 w w') (⟨(ag _ _).drew,p.ns,p.rs,ao,H6.off,H6.off⟩) ?_;have e:opsC4.toList=opsC4.toList:=rfl
 conv at e=>rhs;arg 1;whnf
 simp only at e;rw[e];clear e
 apply aQ.exact rfl rfl;exact λ_ _ h=>Ht.flag (by decide) h;exact λw=>Mk.refl;rintro _ _ _ ⟨-,_,_,b,_⟩;simp[go_sem,(b 1 rfl).trans f1];exact rfl
 apply aQ.exact rfl rfl;exact λ_ _ h=>Ht.flag (by decide) h;exact λw=>Mk.refl;rintro _ _ w ⟨-,b,c,_,d⟩;have a1:=aB (d.1 rfl).2;obtain⟨_,n1,r1,hx,y0,_⟩:=b;obtain rfl:=y0.2 (c 7 rfl);have hc:w.cell? ⟨s0,12,none⟩=some (.slice p.ns.dO p.eQ.length p.ns.df):=hx.cell 12 rfl;simp[go_sem,a1,hc];exact rfl
 refine aQ.any (λL v w=>dz lo w 149 7 dH.cells v p.eQ) rfl ?_ ?_ ?_
 .exact λ_ _ _ _ _ _ hm h=>h.onM hm U
 .rintro L a w ⟨_,hS,_,_,D⟩
  have a3:=aB (D.1 rfl).2;have an:=hS;obtain⟨hm,n1,r1,hx,_,_⟩:=hS;refine Oper.wp_enter (f:=147) (args:=#[.slice p.ns.dO p.eQ.length p.ns.df]) (w':=w) ?_ ?_
  .simp[go_sem,a3]
  .refine(J4 w p.ns p.eQ _ ((a8.below (hm.below ar ao.lt)).more (show n0<=w.heap.size by have:=hm.size;omega)) am.1).mono ?_
   rintro o w' ⟨⟨v,rfl,ho⟩,hb⟩;exact⟨v,rfl,v,rfl,λe=>(by cases e),ho.less (ai aq hm.size),Ht.flag (by decide) (an.on U hb),Mk.of hb hx.lt⟩
 apply aQ.exact rfl rfl;exact λ_ _ h=>Ht.flag (by decide) h;exact λw=>Mk.refl;rintro _ _ _ ⟨-,_,_,b,_⟩;simp[go_sem,(b 1 rfl).trans f1];exact rfl
 apply aQ.exact rfl rfl;exact λ_ _ h=>Ht.flag (by decide) h;exact λw=>Mk.refl;rintro _ _ w ⟨-,b,c,_,d⟩;have a4:=aB (d.1 rfl).2;obtain⟨_,n1,r1,hx,_,y1⟩:=b;obtain rfl:=y1.2 (c 9 rfl);have hc:w.cell? ⟨s0,13,none⟩=some (.slice p.rs.dO p.aA.length p.rs.df):=hx.cell 13 rfl;simp[go_sem,a4,hc];exact rfl
 refine aQ.any (λL v w=>dz lo w 54 3 bG.cells v p.aA) rfl ?_ ?_ ?_
 .exact λ_ _ _ _ _ _ hm h=>h.onM hm U
 .rintro L a w ⟨_,hS,_,_,D⟩
  have a5:=aB (D.1 rfl).2;have an:=hS;obtain⟨hm,n1,r1,hx,_,_⟩:=hS;refine Oper.wp_enter (f:=148) (args:=#[.slice p.rs.dO p.aA.length p.rs.df]) (w':=w) ?_ ?_
  .simp[go_sem,a5]
  .refine(J5 w p.rs p.aA _ ((a9.below (hm.below ar ao.lt)).more (show n0<=w.heap.size by have:=hm.size;omega)) am.2).mono ?_
   rintro o w' ⟨⟨v,rfl,ho⟩,hb⟩;exact⟨v,rfl,v,rfl,λe=>(by cases e),ho.less (ai aq hm.size),Ht.flag (by decide) (an.on U hb),Mk.of hb hx.lt⟩
 apply aQ.exact rfl rfl;exact λ_ _ h=>Ht.flag (by decide) h;exact λw=>Mk.refl;rintro _ _ _ ⟨-,_,_,b,_⟩;simp[go_sem,(b 1 rfl).trans f1];exact rfl
 refine aQ.any (λL v w=>True) rfl ?_ ?_ ?_
 .exact λ_ _ _ _ _ _ _ h=>h
 .rintro L a w ⟨_,hS,_,_,D⟩
  have a6:=aB (D.1 rfl).2;have ho:dz lo w 149 7 dH.cells (a.eval (.tmp 29)) p.eQ:=(D.2.1 rfl).2;have ad:a.tmps[29]?.getD undef=a.eval (.tmp 29):=aB rfl;obtain⟨A,c,V⟩:=ho.form;rw[V]at ad ho;obtain⟨hm,n1,r1,hx,_,y1⟩:=hS;have O:=Mk.set hx.lt 12 (.slice A p.eQ.length c);have hc:=hx.cell 12 rfl;have ap:=hx.free 12;refine Oper.wp_skip (w':=w.setCell ⟨s0,12,none⟩ (.slice A p.eQ.length c)) ?_ ?_
  .simp[go_sem,a6,ad,hc,ap]
  .exact⟨undef,rfl,λ_=>rfl,trivial,⟨hm.trans O,⟨A,c⟩,r1,hx.put 12 _ (by simp[aj.arr,aj.cells,Sp.val]),(by rw[bU];exact⟨λ_=>ho.onM O U,λh=>(by cases h)⟩),(by rw[av (by decide)];exact y1.on O U)⟩,O⟩
 apply aQ.exact rfl rfl;exact λ_ _ h=>Ht.flag (by decide) h;exact λw=>Mk.refl;rintro _ _ _ ⟨-,_,_,b,_⟩;simp[go_sem,(b 1 rfl).trans f1];exact rfl
 refine aQ.any (λL v w=>True) rfl ?_ ?_ ?_
 .exact λ_ _ _ _ _ _ _ h=>h
 .rintro L a w ⟨_,hS,_,_,D⟩
  have a7:=aB (D.1 rfl).2;have ho:dz lo w 54 3 bG.cells (a.eval (.tmp 32)) p.aA:=(D.2.1 rfl).2;have al:a.tmps[32]?.getD undef=a.eval (.tmp 32):=aB rfl;obtain⟨A,c,V⟩:=ho.form;rw[V]at al ho;obtain⟨hm,n1,r1,hx,y0,_⟩:=hS;have O:=Mk.set hx.lt 13 (.slice A p.aA.length c);have hc:=hx.cell 13 rfl;have ap:=hx.free 13;refine Oper.wp_skip (w':=w.setCell ⟨s0,13,none⟩ (.slice A p.aA.length c)) ?_ ?_
  .simp[go_sem,a7,al,hc,ap]
  .exact⟨undef,rfl,λ_=>rfl,trivial,⟨hm.trans O,n1,⟨A,c⟩,hx.put 13 _ (by simp[aj.arr,aj.cells,Sp.val]),(by rw[av (by decide)];exact y0.on O U),(by rw[bU];exact⟨λ_=>ho.onM O U,λh=>(by cases h)⟩)⟩,O⟩
 rintro L a w hL ⟨hS,ab,hv⟩;refine⟨rfl,ab.1.trans aw,ab.2.1,ab.2.2,?_⟩;unfold Ht at hS ⊢;rw[hL 7 (by decide),hL 9 (by decide)]at hS;exact hS
noncomputable def opsC15:Array Oper:=((Tryz.f84.body.bind (opsOf 15)).getD #[])
def Gx(t:Nat):Bool:=decide (t<=76)
theorem Nw:jH opsC15 10 94 Gx=true:=by kernel_rfl
def vH(s0 lo:Nat)(p:aj)(w0:World)(L:Nat->Bool)(w:World):Prop:=Mk s0 w0 w/\∃(D O:ah),Bx s0 w { p with eD:=D,d9:=O }/\Q3 lo (L 7) w p.eD D/\Q3 lo (L 9) w p.d9 O
theorem vH.flag{s0 lo k:Nat}{p:aj}{w0:World}{L:Nat->Bool}{w:World}(hk:k≠7/\k≠9)(h:vH s0 lo p w0 L w):vH s0 lo p w0 (pI L k) w:=by
 unfold vH at h ⊢;obtain⟨D,O⟩:=hk;rw[av (Ne.symm D),av (Ne.symm O)];exact h
theorem vH.on{s0 lo:Nat}{p:aj}{w0:World}{L:Nat->Bool}{w w':World}(O:s0<lo)(h:vH s0 lo p w0 L w)(hb:Below w.heap.size w w'):vH s0 lo p w0 L w':=by
 obtain⟨hm,U,V,hx,y0,y1⟩:=h;have D:=Mk.of hb hx.lt;exact⟨hm.trans D,U,V,hx.on hb,y0.on D O,y1.on D O⟩
theorem Ta{a0:Act}{w0:World}(aE:a0.tmps.size=94)(s0 lo n0:Nat)(p:aj)(V:s0<lo)(a7:lo<=w0.heap.size)(a8:n0<=s0)
  (f1:a0.tmps[1]?.getD undef=.pointer (some ⟨s0,0,none⟩)) (a9:EL 150 #[] id n0 w0 p.eD/\EL 150 #[] id n0 w0 p.d9)
  (al:Bx s0 w0 p) :
  (Code.region 15 opsC15 true).wp Tryz.prog (λe a w=>e=.normal/\a.tmps.size=94/\a.defers=a0.defers/\(∀t:Nat,Gx t=true->a.tmps[t]?.getD undef=a0.tmps[t]?.getD undef)/\vH s0 lo p w0 (λ_=>true) w) a0 w0:=by
 refine fQ (n:=10) (sz:=94) (keep:=Gx) rfl Nw aE (vH s0 lo p w0) (λ_ w w'=>Mk s0 w w') (⟨(ag _ _).drew,p.eD,p.d9,al,Q3.off,Q3.off⟩) ?_;have e:opsC15.toList=opsC15.toList:=rfl
 conv at e=>rhs;arg 1;whnf
 simp only at e;rw[e];clear e
 apply aQ.exact rfl rfl;exact λ_ _ h=>vH.flag (by decide) h;exact λw=>Mk.refl;rintro _ _ _ ⟨-,_,_,b,_⟩;simp[go_sem,(b 1 rfl).trans f1];exact rfl
 apply aQ.exact rfl rfl;exact λ_ _ h=>vH.flag (by decide) h;exact λw=>Mk.refl;rintro _ _ w ⟨-,b,c,_,d⟩;have ba:=aB (d.1 rfl).2;obtain⟨_,e1,e2,hx,y0,_⟩:=b;obtain rfl:=y0.2 (c 7 rfl);have c0:w.cell? ⟨s0,6,none⟩=some (.int .u8 p.eD.bI):=hx.cell 6 rfl;have c1:w.cell? ⟨s0,7,none⟩=some (.int .u8 p.eD.op):=hx.cell 7 rfl;have c2:w.cell? ⟨s0,8,none⟩=some (.int .u32 p.eD.bv):=hx.cell 8 rfl;have c3:w.cell? ⟨s0,9,none⟩=some (.int .i64 p.eD.aS):=hx.cell 9 rfl;have c4:w.cell? ⟨s0,10,none⟩=some (.string p.eD.aT):=hx.cell 10 rfl;have c5:w.cell? ⟨s0,11,none⟩=some (.slice p.eD.sp.dO p.eD.cu.length p.eD.sp.df):=hx.cell 11 rfl;simp[go_sem,ba,c0,c1,c2,c3,c4,c5];exact rfl
 refine aQ.any (λL v w=>∃D:ah,v=.agg D.r/\bX D=bX p.eD/\fV lo w D) rfl ?_ ?_ ?_
 .exact λ_ _ _ _ _ _ hm ⟨D,h1,h2,h3⟩=>⟨D,h1,h2,h3.on hm V⟩
 .rintro L a w ⟨_,hS,_,_,O⟩
  have bc:=aB (O.1 rfl).2;have ad:=hS;obtain⟨hm,e1,e2,hx,_,_⟩:=hS;refine Oper.wp_enter (f:=149) (args:=#[.agg p.eD.r,.func (.func 150) #[] #[]]) (w':=w) ?_ ?_
  .simp[go_sem,bc]
  .refine(a9.1 w (hm.below a8 al.lt) (by have:=hm.size;omega)).mono ?_
   rintro o w' ⟨D,rfl,h1,h2,hb⟩;rw[zW]at h1;exact⟨_,rfl,_,rfl,λe=>(by cases e),⟨D,rfl,h1.same,h2.less (ai a7 hm.size)⟩,vH.flag (by decide) (ad.on V hb),Mk.of hb hx.lt⟩
 apply aQ.exact rfl rfl;exact λ_ _ h=>vH.flag (by decide) h;exact λw=>Mk.refl;rintro _ _ _ ⟨-,_,_,b,_⟩;simp[go_sem,(b 1 rfl).trans f1];exact rfl
 apply aQ.exact rfl rfl;exact λ_ _ h=>vH.flag (by decide) h;exact λw=>Mk.refl;rintro _ _ w ⟨-,b,c,_,d⟩;have be:=aB (d.1 rfl).2;obtain⟨_,e1,e2,hx,_,y1⟩:=b;obtain rfl:=y1.2 (c 9 rfl);have c0:w.cell? ⟨s0,16,none⟩=some (.int .u8 p.d9.bI):=hx.cell 16 rfl;have c1:w.cell? ⟨s0,17,none⟩=some (.int .u8 p.d9.op):=hx.cell 17 rfl;have c2:w.cell? ⟨s0,18,none⟩=some (.int .u32 p.d9.bv):=hx.cell 18 rfl;have c3:w.cell? ⟨s0,19,none⟩=some (.int .i64 p.d9.aS):=hx.cell 19 rfl;have c4:w.cell? ⟨s0,20,none⟩=some (.string p.d9.aT):=hx.cell 20 rfl;have c5:w.cell? ⟨s0,21,none⟩=some (.slice p.d9.sp.dO p.d9.cu.length p.d9.sp.df):=hx.cell 21 rfl;simp[go_sem,be,c0,c1,c2,c3,c4,c5];exact rfl
 refine aQ.any (λL v w=>∃D:ah,v=.agg D.r/\bX D=bX p.d9/\fV lo w D) rfl ?_ ?_ ?_
 .exact λ_ _ _ _ _ _ hm ⟨D,h1,h2,h3⟩=>⟨D,h1,h2,h3.on hm V⟩
 .rintro L a w ⟨_,hS,_,_,O⟩
  have bh:=aB (O.1 rfl).2;have ad:=hS;obtain⟨hm,e1,e2,hx,_,_⟩:=hS;refine Oper.wp_enter (f:=149) (args:=#[.agg p.d9.r,.func (.func 150) #[] #[]]) (w':=w) ?_ ?_
  .simp[go_sem,bh]
  .refine(a9.2 w (hm.below a8 al.lt) (by have:=hm.size;omega)).mono ?_
   rintro o w' ⟨D,rfl,h1,h2,hb⟩;rw[zW]at h1;exact⟨_,rfl,_,rfl,λe=>(by cases e),⟨D,rfl,h1.same,h2.less (ai a7 hm.size)⟩,vH.flag (by decide) (ad.on V hb),Mk.of hb hx.lt⟩
 apply aQ.exact rfl rfl;exact λ_ _ h=>vH.flag (by decide) h;exact λw=>Mk.refl;rintro _ _ _ ⟨-,_,_,b,_⟩;simp[go_sem,(b 1 rfl).trans f1];exact rfl
 refine aQ.any (λL v w=>True) rfl ?_ ?_ ?_
 .exact λ_ _ _ _ _ _ _ h=>h
 .rintro L a w ⟨_,hS,_,_,O⟩
  have bj:=aB (O.1 rfl).2;obtain⟨D,bl,h1,h2⟩:=(O.2.1 rfl).2;have bd:a.tmps[79]?.getD undef=.agg D.r:=aB bl;obtain⟨hm,e1,e2,hx,_,y1⟩:=hS;have U:=Mk.six hx.lt 6 (.int .u8 D.bI) (.int .u8 D.op) (.int .u32 D.bv) (.int .i64 D.aS) (.string D.aT) (.slice D.sp.dO D.cu.length D.sp.df);have am:=hx.cell 6 rfl;have an:=hx.cell 7 rfl;have ao:=hx.cell 8 rfl;have ap:=hx.cell 9 rfl;have aq:=hx.cell 10 rfl;have ar:=hx.cell 11 rfl;have aw:=hx.free 6;have a1:=hx.free 7;have a3:=hx.free 8;have a4:=hx.free 9;have a5:=hx.free 10;have a6:=hx.free 11;refine Oper.wp_skip (w':=six w s0 6 (.int .u8 D.bI) (.int .u8 D.op) (.int .u32 D.bv) (.int .i64 D.aS) (.string D.aT) (.slice D.sp.dO D.cu.length D.sp.df)) ?_ ?_
  .simp[go_sem,six,bj,bd,am,aw,an,a1,ao,a3,ap,a4,aq,a5,ar,a6]
  .exact⟨undef,rfl,λ_=>rfl,trivial,⟨hm.trans U,D,e2,hx.six 6 _ _ _ _ _ _ (by simp[aj.arr,aj.cells,Sp.val]),(by rw[bU];exact⟨λ_=>⟨h1,h2.on U V⟩,λh=>(by cases h)⟩),(by rw[av (by decide)];exact y1.on U V)⟩,U⟩
 apply aQ.exact rfl rfl;exact λ_ _ h=>vH.flag (by decide) h;exact λw=>Mk.refl;rintro _ _ _ ⟨-,_,_,b,_⟩;simp[go_sem,(b 1 rfl).trans f1];exact rfl
 refine aQ.any (λL v w=>True) rfl ?_ ?_ ?_
 .exact λ_ _ _ _ _ _ _ h=>h
 .rintro L a w ⟨_,hS,_,_,O⟩
  have bk:=aB (O.1 rfl).2;obtain⟨D,bm,h1,h2⟩:=(O.2.1 rfl).2;have bi:a.tmps[82]?.getD undef=.agg D.r:=aB bm;obtain⟨hm,e1,e2,hx,y0,_⟩:=hS;have U:=Mk.six hx.lt 16 (.int .u8 D.bI) (.int .u8 D.op) (.int .u32 D.bv) (.int .i64 D.aS) (.string D.aT) (.slice D.sp.dO D.cu.length D.sp.df);have am:=hx.cell 16 rfl;have an:=hx.cell 17 rfl;have ao:=hx.cell 18 rfl;have ap:=hx.cell 19 rfl;have aq:=hx.cell 20 rfl;have ar:=hx.cell 21 rfl;have aw:=hx.free 16;have a1:=hx.free 17;have a3:=hx.free 18;have a4:=hx.free 19;have a5:=hx.free 20;have a6:=hx.free 21;refine Oper.wp_skip (w':=six w s0 16 (.int .u8 D.bI) (.int .u8 D.op) (.int .u32 D.bv) (.int .i64 D.aS) (.string D.aT) (.slice D.sp.dO D.cu.length D.sp.df)) ?_ ?_
  .simp[go_sem,six,bk,bi,am,aw,an,a1,ao,a3,ap,a4,aq,a5,ar,a6]
  .exact⟨undef,rfl,λ_=>rfl,trivial,⟨hm.trans U,e1,D,hx.six 16 _ _ _ _ _ _ (by simp[aj.arr,aj.cells,Sp.val]),(by rw[av (by decide)];exact y0.on U V),(by rw[bU];exact⟨λ_=>⟨h1,h2.on U V⟩,λh=>(by cases h)⟩)⟩,U⟩
 rintro L a w hL ⟨hS,ab,hv⟩;refine⟨rfl,ab.1.trans aE,ab.2.1,ab.2.2,?_⟩;unfold vH at hS ⊢;rw[hL 7 (by decide),hL 9 (by decide)]at hS;exact hS
noncomputable def opsC16:Array Oper:=((Tryz.f84.body.bind (opsOf 16)).getD #[])
def Gy(t:Nat):Bool:=decide (t<=84)
theorem Ny:jH opsC16 10 94 Gy=true:=by kernel_rfl
def vI(s0 lo:Nat)(p:aj)(w0:World)(L:Nat->Bool)(w:World):Prop:=Mk s0 w0 w/\∃(U:Sp) (D:List aa) (V:Sp) (O:List aa),Bx s0 w { p with ws:=U,eX:=D,cs:=V,eB:=O }/\Q0 lo (L 7) w p.ws p.eX U D/\Q0 lo (L 9) w p.cs p.eB V O
theorem vI.flag{s0 lo k:Nat}{p:aj}{w0:World}{L:Nat->Bool}{w:World}(hk:k≠7/\k≠9)(h:vI s0 lo p w0 L w):vI s0 lo p w0 (pI L k) w:=by
 unfold vI at h ⊢;obtain⟨D,O⟩:=hk;rw[av (Ne.symm D),av (Ne.symm O)];exact h
theorem vI.on{s0 lo:Nat}{p:aj}{w0:World}{L:Nat->Bool}{w w':World}(O:s0<lo)(h:vI s0 lo p w0 L w)(hb:Below w.heap.size w w'):vI s0 lo p w0 L w':=by
 obtain⟨hm,s1,U,s2,V,hx,y0,y1⟩:=h;have D:=Mk.of hb hx.lt;exact⟨hm.trans D,s1,U,s2,V,hx.on hb,y0.on D O,y1.on D O⟩
theorem Td{a0:Act}{w0:World}(aq:a0.tmps.size=94)(s0 lo n0:Nat)(p:aj)(V:s0<lo)(an:lo<=w0.heap.size)(ao:n0<=s0)
  (f1:a0.tmps[1]?.getD undef=.pointer (some ⟨s0,0,none⟩)) (ap:oP 150 #[] id n0 w0 p.ws p.eX/\oP 150 #[] id n0 w0 p.cs p.eB)
  (al:Bx s0 w0 p) :
  (Code.region 16 opsC16 true).wp Tryz.prog (λe a w=>e=.normal/\a.tmps.size=94/\a.defers=a0.defers/\(∀t:Nat,Gy t=true->a.tmps[t]?.getD undef=a0.tmps[t]?.getD undef)/\vI s0 lo p w0 (λ_=>true) w) a0 w0:=by
 refine fQ (n:=10) (sz:=94) (keep:=Gy) rfl Ny aq (vI s0 lo p w0) (λ_ w w'=>Mk s0 w w') (⟨(ag _ _).drew,p.ws,p.eX,p.cs,p.eB,al,Q0.off,Q0.off⟩) ?_;have e:opsC16.toList=opsC16.toList:=rfl
 conv at e=>rhs;arg 1;whnf
 simp only at e;rw[e];clear e
 apply aQ.exact rfl rfl;exact λ_ _ h=>vI.flag (by decide) h;exact λw=>Mk.refl;rintro _ _ _ ⟨-,_,_,b,_⟩;simp[go_sem,(b 1 rfl).trans f1];exact rfl
 apply aQ.exact rfl rfl;exact λ_ _ h=>vI.flag (by decide) h;exact λw=>Mk.refl;rintro _ _ w ⟨-,b,c,_,d⟩;have ar:=aB (d.1 rfl).2;obtain⟨_,s1,l1,s2,l2,hx,y0,_⟩:=b;obtain⟨rfl,rfl⟩:=y0.2 (c 7 rfl);have hc:w.cell? ⟨s0,14,none⟩=some (.slice p.ws.dO p.eX.length p.ws.df):=hx.cell 14 rfl;simp[go_sem,ar,hc];exact rfl
 refine aQ.any (λL v w=>∃(D:Sp) (l':List aa),v=.slice D.dO l'.length D.df/\l'.map aJ=p.eX.map aJ/\j4 lo w D l') rfl ?_ ?_ ?_
 .exact λ_ _ _ _ _ _ hm ⟨D,l',h1,h2,h3⟩=>⟨D,l',h1,h2,h3.on hm V⟩
 .rintro L a w ⟨_,hS,_,_,O⟩
  have aw:=aB (O.1 rfl).2;have ad:=hS;obtain⟨hm,s1,l1,s2,l2,hx,_,_⟩:=hS;refine Oper.wp_enter (f:=151) (args:=#[.slice p.ws.dO p.eX.length p.ws.df,.func (.func 150) #[] #[]]) (w':=w) ?_ ?_
  .simp[go_sem,aw]
  .refine(ap.1 w (hm.below ao al.lt) (by have:=hm.size;omega)).mono ?_
   rintro o w' ⟨D,l',rfl,h1,h2,hb⟩;rw[zW,Ms]at h1;exact⟨_,rfl,_,rfl,λe=>(by cases e),⟨D,l',rfl,h1.same,h2.less (ai an hm.size)⟩,vI.flag (by decide) (ad.on V hb),Mk.of hb hx.lt⟩
 apply aQ.exact rfl rfl;exact λ_ _ h=>vI.flag (by decide) h;exact λw=>Mk.refl;rintro _ _ _ ⟨-,_,_,b,_⟩;simp[go_sem,(b 1 rfl).trans f1];exact rfl
 apply aQ.exact rfl rfl;exact λ_ _ h=>vI.flag (by decide) h;exact λw=>Mk.refl;rintro _ _ w ⟨-,b,c,_,d⟩;have a3:=aB (d.1 rfl).2;obtain⟨_,s1,l1,s2,l2,hx,_,y1⟩:=b;obtain⟨rfl,rfl⟩:=y1.2 (c 9 rfl);have hc:w.cell? ⟨s0,15,none⟩=some (.slice p.cs.dO p.eB.length p.cs.df):=hx.cell 15 rfl;simp[go_sem,a3,hc];exact rfl
 refine aQ.any (λL v w=>∃(D:Sp) (l':List aa),v=.slice D.dO l'.length D.df/\l'.map aJ=p.eB.map aJ/\j4 lo w D l') rfl ?_ ?_ ?_
 .exact λ_ _ _ _ _ _ hm ⟨D,l',h1,h2,h3⟩=>⟨D,l',h1,h2,h3.on hm V⟩
 .rintro L a w ⟨_,hS,_,_,O⟩
  have a4:=aB (O.1 rfl).2;have ad:=hS;obtain⟨hm,s1,l1,s2,l2,hx,_,_⟩:=hS;refine Oper.wp_enter (f:=151) (args:=#[.slice p.cs.dO p.eB.length p.cs.df,.func (.func 150) #[] #[]]) (w':=w) ?_ ?_
  .simp[go_sem,a4]
  .refine(ap.2 w (hm.below ao al.lt) (by have:=hm.size;omega)).mono ?_
   rintro o w' ⟨D,l',rfl,h1,h2,hb⟩;rw[zW,Ms]at h1;exact⟨_,rfl,_,rfl,λe=>(by cases e),⟨D,l',rfl,h1.same,h2.less (ai an hm.size)⟩,vI.flag (by decide) (ad.on V hb),Mk.of hb hx.lt⟩
 apply aQ.exact rfl rfl;exact λ_ _ h=>vI.flag (by decide) h;exact λw=>Mk.refl;rintro _ _ _ ⟨-,_,_,b,_⟩;simp[go_sem,(b 1 rfl).trans f1];exact rfl
 refine aQ.any (λL v w=>True) rfl ?_ ?_ ?_
 .exact λ_ _ _ _ _ _ _ h=>h
 .rintro L a w ⟨_,hS,_,_,O⟩
  have a6:=aB (O.1 rfl).2;obtain⟨D,l',a8,h1,h2⟩:=(O.2.1 rfl).2;have a1:a.tmps[87]?.getD undef=.slice D.dO l'.length D.df:=aB a8;obtain⟨hm,s1,l1,s2,l2,hx,_,y1⟩:=hS;have U:=Mk.set hx.lt 14 (.slice D.dO l'.length D.df);have hc:=hx.cell 14 rfl;have am:=hx.free 14;refine Oper.wp_skip (w':=w.setCell ⟨s0,14,none⟩ (.slice D.dO l'.length D.df)) ?_ ?_
  .simp[go_sem,a6,a1,hc,am]
  .exact⟨undef,rfl,λ_=>rfl,trivial,⟨hm.trans U,D,l',s2,l2,hx.put 14 _ (by simp[aj.arr,aj.cells,Sp.val]),(by rw[bU];exact⟨λ_=>⟨h1,h2.on U V⟩,λh=>(by cases h)⟩),(by rw[av (by decide)];exact y1.on U V)⟩,U⟩
 apply aQ.exact rfl rfl;exact λ_ _ h=>vI.flag (by decide) h;exact λw=>Mk.refl;rintro _ _ _ ⟨-,_,_,b,_⟩;simp[go_sem,(b 1 rfl).trans f1];exact rfl
 refine aQ.any (λL v w=>True) rfl ?_ ?_ ?_
 .exact λ_ _ _ _ _ _ _ h=>h
 .rintro L a w ⟨_,hS,_,_,O⟩
  have a7:=aB (O.1 rfl).2;obtain⟨D,l',a9,h1,h2⟩:=(O.2.1 rfl).2;have a5:a.tmps[90]?.getD undef=.slice D.dO l'.length D.df:=aB a9;obtain⟨hm,s1,l1,s2,l2,hx,y0,_⟩:=hS;have U:=Mk.set hx.lt 15 (.slice D.dO l'.length D.df);have hc:=hx.cell 15 rfl;have am:=hx.free 15;refine Oper.wp_skip (w':=w.setCell ⟨s0,15,none⟩ (.slice D.dO l'.length D.df)) ?_ ?_
  .simp[go_sem,a7,a5,hc,am]
  .exact⟨undef,rfl,λ_=>rfl,trivial,⟨hm.trans U,s1,l1,D,l',hx.put 15 _ (by simp[aj.arr,aj.cells,Sp.val]),(by rw[av (by decide)];exact y0.on U V),(by rw[bU];exact⟨λ_=>⟨h1,h2.on U V⟩,λh=>(by cases h)⟩)⟩,U⟩
 rintro L a w hL ⟨hS,ab,hv⟩;refine⟨rfl,ab.1.trans aq,ab.2.1,ab.2.2,?_⟩;unfold vI at hS ⊢;rw[hL 7 (by decide),hL 9 (by decide)]at hS;exact hS
section
section
variable {α:Type}{kk:Nat}{enc:α->List Value}{B:Nat}{W W':World}{ty:TypeId}{g n c:Nat}{l:List α}
theorem dz.putB{j:Nat}{y:α}(h:dz B W ty kk enc (.slice (some ⟨g,0,none⟩) n c) (l.set j y))(hk:∀x,(enc x).length=kk)(D:j<l.length){r:Nat}{v:Value}{x:α}(hr:r<kk)(hx:(enc y).set r v=enc x) :
  dz B (W.setCell ⟨g,j*kk+r,none⟩ v) ty kk enc (.slice (some ⟨g,0,none⟩) n c) (l.set j x):=by
 have:=h.put1 (j:=j) (r:=r) (v:=v) (x:=x) hk (by rw[fe];exact D) hr (by rw[fM];exact hx)
 rwa [List.set_set]at this
theorem dz.oneB{y:α}{j:Nat}(h:dz B W ty kk enc (.slice (some ⟨g,0,none⟩) n c) l)(O:j<l.length)(D:l[j]=y):dz B W ty kk enc (.slice (some ⟨g,0,none⟩) n c) (l.set j y):=by
 subst D
 rwa [List.set_getElem_self]
end
theorem PG{B:Nat}{W:World}{g n c:Nat}{l:List dH}{j:Nat}(h:dz B W 149 7 dH.cells (.slice (some ⟨g,0,none⟩) n c) l)(D:j<l.length){y:dH}(hy:l[j]=y)(e:ah) :
  dz B (six W g (j*7+1) (.int .u8 e.bI) (.int .u8 e.op) (.int .u32 e.bv) (.int .i64 e.aS) (.string e.aT) (.slice e.sp.dO e.cu.length e.sp.df)) 149 7 dH.cells (.slice (some ⟨g,0,none⟩) n c) (l.set j ⟨y.block,e⟩):=by
 obtain⟨b,⟨k0,o0,V,w0,n0,s0,O⟩⟩:=y;obtain⟨k,o,v,w,U,s,ls⟩:=e;have hk:∀x:dH,(dH.cells x).length=7:=λ_=>rfl
 have h0:=h.oneB D hy;have h1:=h0.putB (r:=1) (v:=.int .u8 k) (x:=⟨b,.mk k o0 V w0 n0 s0 O⟩) hk D (by decide) rfl;have h2:=h1.putB (r:=2) (v:=.int .u8 o) (x:=⟨b,.mk k o V w0 n0 s0 O⟩) hk D (by decide) rfl;have h3:=h2.putB (r:=3) (v:=.int .u32 v) (x:=⟨b,.mk k o v w0 n0 s0 O⟩) hk D (by decide) rfl;have h4:=h3.putB (r:=4) (v:=.int .i64 w) (x:=⟨b,.mk k o v w n0 s0 O⟩) hk D (by decide) rfl;have h5:=h4.putB (r:=5) (v:=.string U) (x:=⟨b,.mk k o v w U s0 O⟩) hk D (by decide) rfl;exact h5.putB (r:=6) (v:=.slice s.dO ls.length s.df) (x:=⟨b,.mk k o v w U s ls⟩) hk D (by decide) rfl
structure LK(hi lo2:Nat)(w4 W:World)(p:aj)(sa:Option Addr)(sc:Nat)(k:Nat)(cur:List dH):Prop where
 low:Below hi w4 W
 hlo2:hi<=lo2
 lo2W:lo2<=W.heap.size
 dO:∀a,sa=some a->a.block<lo2
 own:dz hi W 149 7 dH.cells (.slice sa p.eQ.length sc) cur
 len:cur.length=p.eQ.length
 done:∀i (h:i<p.eQ.length) (h':i<cur.length),i<k->((cur[i]).block=(p.eQ[i]).block/\En (tX id) (p.eQ[i]).bv (cur[i]).bv)/\fV lo2 W (cur[i]).bv
 todo:∀i (h:i<p.eQ.length) (h':i<cur.length),k<=i->cur[i]=p.eQ[i]
section
variable {hi lo2 k:Nat}{w4 W W':World}{p:aj}{sa:Option Addr}{sc:Nat}{cur:List dH}
theorem LK.on(h:LK hi lo2 w4 W p sa sc k cur)(hb:Below W.heap.size W W'):LK hi lo2 w4 W' p sa sc k cur :=
 ⟨h.low.trans (hb.mono (ai h.hlo2 h.lo2W)),h.hlo2,ai h.lo2W hb.size,h.dO,h.own.on hb,h.len,λi h1 D O=>⟨(h.done i h1 D O).1,(h.done i h1 D O).2.lowerC hb⟩,h.todo⟩
theorem LK.put{g:Nat}(h:LK hi lo2 w4 W p (some ⟨g,0,none⟩) sc k cur)(U:hi<=g)(hk:k<p.eQ.length){e:ah}(hr:En (tX id) (p.eQ[k]).bv e)(he:fV lo2 W e) :
  LK hi lo2 w4 (six W g (k*7+1) (.int .u8 e.bI) (.int .u8 e.op) (.int .u32 e.bv) (.int .i64 e.aS) (.string e.aT) (.slice e.sp.dO e.cu.length e.sp.df)) p (some ⟨g,0,none⟩) sc (k+1) (cur.set k ⟨(p.eQ[k]).block,e⟩):=by
 have O:k<cur.length:=by rw[h.len];exact hk
 have D:g<lo2:=h.dO _ rfl;refine⟨xz h.low U _ _ _ _ _ _ _,h.hlo2,by rw[wL];exact h.lo2W,h.dO,?_,by rw[fe];exact h.len,λi h1 V h3=>?_,λi h1 V h3=>?_⟩
 .exact PG h.own O (h.todo k hk O (af _)) e
 .by_cases hi:i=k
  .subst hi
   rw[fM];exact⟨⟨rfl,hr⟩,xA he D _ _ _ _ _ _ _⟩
  .rw[iC (Ne.symm hi)]
   have:=h.done i h1 (by rw[h.len];exact h1) (by omega);exact⟨this.1,xA this.2 D _ _ _ _ _ _ _⟩
 .rw[iC (by omega)]
  exact h.todo i h1 (by rw[h.len];exact h1) (by omega)
theorem LK.start(O:hi<=w4.heap.size)(own:dz hi w4 149 7 dH.cells (.slice sa p.eQ.length sc) p.eQ):LK hi w4.heap.size w4 w4 p sa sc 0 p.eQ :=
 ⟨ag _ _,O,af _,λa D=>by subst D;exact(World.ownsRow.lt own _ rfl).2,own,rfl,λ_ _ _ h=>absurd h (dX _),λ_ _ _ _=>rfl⟩
theorem LK.bare(h:LK hi lo2 w4 W p sa sc p.eQ.length cur):cur.map vP=p.eQ.map vP:=by
 refine List.ext_getElem (by simp[h.len]) λi h1 h2=>?_
 have O:i<p.eQ.length:=by simpa using h2
 have V:i<cur.length:=by simpa using h1
 obtain⟨⟨U,D⟩,-⟩:=h.done i O V O;rw[List.getElem_map,List.getElem_map];unfold vP;rw[zW]at D;rw[U,D.same]
theorem LK.news(h:LK hi lo2 w4 W p sa sc p.eQ.length cur)(hb:∀x∈p.eQ,(Lit.int .i64 x.block).wf=true):∀x∈cur,(Lit.int .i64 x.block).wf=true/\fV lo2 W x.bv:=λx hx=>by
 obtain⟨i,O,rfl⟩:=gm hx;have D:i<p.eQ.length:=by rw[<-h.len];exact O
 obtain⟨⟨U,-⟩,V⟩:=h.done i D O D;exact⟨by rw[U];exact hb _ (ak D),V⟩
end
noncomputable def opsC8:Array Oper:=((Tryz.f84.body.bind (opsOf 8)).getD #[])
def KP(t:Nat):Bool:=decide (t<=42) || decide (51<=t)
theorem Qd:jH opsC8 9 94 KP=true:=by kernel_rfl
def OD(R:World->Prop)(w0:World)(L:Nat->Bool)(w:World):Prop:=(L 8=false->Below w0.heap.size w0 w)/\(L 8=true->R w)
theorem OD.flag{R:World->Prop}{w0:World}{k:Nat}{L:Nat->Bool}{w:World}(hk:k≠8)(h:OD R w0 L w):OD R w0 (pI L k) w:=by
 unfold OD at h ⊢;rw[av (Ne.symm hk)];exact h
theorem Uf{a0:Act}{w0:World}(ap:a0.tmps.size=94)(s0 g k n c bx:Nat)
  (f1:a0.tmps[1]?.getD undef=.pointer (some ⟨s0,0,none⟩)) (f3:a0.tmps[3]?.getD undef=.int .i64 (k:Nat)) (f4:a0.tmps[4]?.getD undef=.pointer (some ⟨bx,0,none⟩)) (x:dH) (am:w0.cell? ⟨s0,12,none⟩=some (.slice (some ⟨g,0,none⟩) n c)) (hx:∀r u,x.cells[r]?=some u->w0.cell? ⟨bx,r,none⟩=some u) (HC:∀W,Below w0.heap.size w0 W->Calls Tryz.prog 149 #[.agg x.bv.r,.func (.func 150) #[] #[]] W λo w'=>∃D:ah,o=.returned (.agg D.r)/\En (tX id) x.bv D/\fV W.heap.size w' D/\Below W.heap.size W w') (O:∀r,r<6->∃u,w0.cell? ⟨g,k*7+1+r,none⟩=some u)
  (bk:s0<w0.heap.size) (hg:g<w0.heap.size) (hk:k<n) (ab:bx<w0.heap.size) (ad:∀j,w0.frozen? ⟨g,j,none⟩=false) :
  (Code.region 8 opsC8 true).wp Tryz.prog (λe a w=>e=.normal/\a.tmps.size=94/\a.defers=a0.defers/\(∀t:Nat,KP t=true->a.tmps[t]?.getD undef=a0.tmps[t]?.getD undef)/\∃w1 D,Below w0.heap.size w0 w1/\En (tX id) x.bv D/\fV w0.heap.size w1 D/\w=six w1 g (k*7+1) (.int .u8 D.bI) (.int .u8 D.op) (.int .u32 D.bv) (.int .i64 D.aS) (.string D.aT) (.slice D.sp.dO D.cu.length D.sp.df)) a0 w0:=by
 refine fQ (n:=9) (sz:=94) (keep:=KP) rfl Qd ap (OD (λw=>∃w1 D,Below w0.heap.size w0 w1/\En (tX id) x.bv D/\fV w0.heap.size w1 D/\w=six w1 g (k*7+1) (.int .u8 D.bI) (.int .u8 D.op) (.int .u32 D.bv) (.int .i64 D.aS) (.string D.aT) (.slice D.sp.dO D.cu.length D.sp.df)) w0) (λi w w'=>i=8\/Below w.heap.size w w') ⟨λ_=>(ag _ _).drew,λh=>(by cases h)⟩ ?_;have e:opsC8.toList=opsC8.toList:=rfl
 conv at e=>rhs;arg 1;whnf
 simp only at e;rw[e];clear e
 apply aQ.exact rfl rfl;exact λ_ _ h=>OD.flag (by decide) h;exact λw=>.inr (ag _ w);rintro _ _ _ ⟨-,_,_,b,_⟩;simp[go_sem,(b 1 rfl).trans f1];exact rfl
 apply aQ.exact rfl rfl;exact λ_ _ h=>OD.flag (by decide) h;exact λw=>.inr (ag _ w);rintro _ _ w ⟨-,b,c,_,d⟩;have aq:=aB (d.1 rfl).2;have hb:=b.1 (c 8 rfl);have hc:w.cell? ⟨s0,12,none⟩=_:=(hb.cell (p:=⟨s0,12,none⟩) bk).trans am;simp[go_sem,aq,hc];exact rfl
 apply aQ.exact rfl rfl;exact λ_ _ h=>OD.flag (by decide) h;exact λw=>.inr (ag _ w);rintro _ _ _ ⟨-,_,_,b,_⟩;simp[go_sem,(b 3 rfl).trans f3];exact rfl
 apply aQ.exact rfl rfl;exact λ_ _ h=>OD.flag (by decide) h;exact λw=>.inr (ag _ w);rintro _ _ _ ⟨-,_,_,b,_⟩;simp[go_sem,(b 4 rfl).trans f4];exact rfl
 apply aQ.exact rfl rfl;exact λ_ _ h=>OD.flag (by decide) h;exact λw=>.inr (ag _ w);rintro _ _ w ⟨-,b,c,_,d⟩;have a1:=aB (d.1 rfl).2;have hb:=b.1 (c 8 rfl);have c0:w.cell? ⟨bx,1,none⟩=some (.int .u8 x.bv.bI):=(hb.cell (p:=⟨bx,1,none⟩) ab).trans (hx 1 _ rfl);have c1:w.cell? ⟨bx,2,none⟩=some (.int .u8 x.bv.op):=(hb.cell (p:=⟨bx,2,none⟩) ab).trans (hx 2 _ rfl);have c2:w.cell? ⟨bx,3,none⟩=some (.int .u32 x.bv.bv):=(hb.cell (p:=⟨bx,3,none⟩) ab).trans (hx 3 _ rfl);have c3:w.cell? ⟨bx,4,none⟩=some (.int .i64 x.bv.aS):=(hb.cell (p:=⟨bx,4,none⟩) ab).trans (hx 4 _ rfl);have c4:w.cell? ⟨bx,5,none⟩=some (.string x.bv.aT):=(hb.cell (p:=⟨bx,5,none⟩) ab).trans (hx 5 _ rfl);have c5:w.cell? ⟨bx,6,none⟩=some (.slice x.bv.sp.dO x.bv.cu.length x.bv.sp.df):=(hb.cell (p:=⟨bx,6,none⟩) ab).trans (hx 6 _ rfl);simp[go_sem,a1,c0,c1,c2,c3,c4,c5];exact rfl
 refine aQ.any (λL v w=>L 8=true\/(Below w0.heap.size w0 w/\∃D:ah,v=.agg D.r/\En (tX id) x.bv D/\fV w0.heap.size w D)) rfl ?_ ?_ ?_
 .intro i L v w w' _ hR hP
  rcases hR with rfl|hR
  .exact .inl bU
  .rcases hP with h|h
   .left
    by_cases hi:8=i
    .rw[<-hi];exact bU
    .rw[av hi];exact h
   .exact .inr (h.imp (λhb=>hb.trans (hR.mono hb.size)) λ⟨D,h1,h2,h3⟩=>⟨D,h1,h2,h3.lowerC hR⟩)
 .rintro L a w ⟨hL,hS,al,bl,V⟩
  have a3:=aB (V.1 rfl).2;have hb:=hS.1 (al 8 rfl);refine Oper.wp_enter (f:=149) (args:=#[.agg x.bv.r,.func (.func 150) #[] #[]]) (w':=w) ?_ ?_
  .simp[go_sem,a3]
  .refine(HC w hb).mono ?_
   rintro o w' ⟨D,rfl,h1,h2,an⟩;have ao:=hb.trans (an.mono hb.size);refine⟨_,rfl,_,rfl,λe=>(by cases e),.inr ⟨ao,D,rfl,h1,h2.less hb.size⟩,⟨λ_=>ao,λh=>?_⟩,.inr an⟩;rw[av (by decide),al 8 rfl]at h;cases h
 apply aQ.exact rfl rfl;exact λ_ _ h=>OD.flag (by decide) h;exact λw=>.inr (ag _ w);rintro _ _ _ ⟨-,_,_,_,b⟩;have ar:=aB (b.1 rfl).2;have aw:=aB (b.2.1 rfl).2;simp[go_sem,ar,aw,hk];exact rfl
 apply aQ.exact rfl rfl;exact λ_ _ h=>OD.flag (by decide) h;exact λw=>.inr (ag _ w);rintro _ _ _ ⟨-,_,_,_,b⟩;simp[go_sem,aB (b.1 rfl).2];exact rfl
 refine aQ.any (λL v w=>True) rfl ?_ ?_ ?_
 .exact λ_ _ _ _ _ _ _ h=>h
 .rintro L a w ⟨hL,hS,al,bl,V⟩
  have a5:=aB (V.1 rfl).2;obtain⟨hb,D,b1,h1,h2⟩:=(V.2.1 rfl).2.resolve_left (by rw[hL];exact Bool.false_ne_true);have a4:a.tmps[48]?.getD undef=.agg D.r:=aB b1;obtain⟨u0,bm⟩:=O 0 (by decide);obtain⟨u1,bo⟩:=O 1 (by decide);obtain⟨u2,br⟩:=O 2 (by decide);obtain⟨u3,bt⟩:=O 3 (by decide);obtain⟨u4,bw⟩:=O 4 (by decide);obtain⟨u5,b0⟩:=O 5 (by decide);have a6:w.cell? ⟨g,k*7+1,none⟩=some u0:=(hb.cell (p:=⟨g,_,none⟩) hg).trans bm;have a7:w.cell? ⟨g,k*7+1+1,none⟩=some u1:=(hb.cell (p:=⟨g,_,none⟩) hg).trans bo;have a8:w.cell? ⟨g,k*7+1+2,none⟩=some u2:=(hb.cell (p:=⟨g,_,none⟩) hg).trans br;have a9:w.cell? ⟨g,k*7+1+3,none⟩=some u3:=(hb.cell (p:=⟨g,_,none⟩) hg).trans bt;have aE:w.cell? ⟨g,k*7+1+4,none⟩=some u4:=(hb.cell (p:=⟨g,_,none⟩) hg).trans bw;have ba:w.cell? ⟨g,k*7+1+5,none⟩=some u5:=(hb.cell (p:=⟨g,_,none⟩) hg).trans b0;have bc:w.frozen? ⟨g,k*7+1,none⟩=false:=(hb.frozen (p:=⟨g,_,none⟩) hg).trans (ad _);have bd:w.frozen? ⟨g,k*7+1+1,none⟩=false:=(hb.frozen (p:=⟨g,_,none⟩) hg).trans (ad _);have be:w.frozen? ⟨g,k*7+1+2,none⟩=false:=(hb.frozen (p:=⟨g,_,none⟩) hg).trans (ad _);have bh:w.frozen? ⟨g,k*7+1+3,none⟩=false:=(hb.frozen (p:=⟨g,_,none⟩) hg).trans (ad _);have bi:w.frozen? ⟨g,k*7+1+4,none⟩=false:=(hb.frozen (p:=⟨g,_,none⟩) hg).trans (ad _);have bj:w.frozen? ⟨g,k*7+1+5,none⟩=false:=(hb.frozen (p:=⟨g,_,none⟩) hg).trans (ad _);refine Oper.wp_skip (w':=six w g (k*7+1) (.int .u8 D.bI) (.int .u8 D.op) (.int .u32 D.bv) (.int .i64 D.aS) (.string D.aT) (.slice D.sp.dO D.cu.length D.sp.df)) ?_ ?_
  .simp[go_sem,six,a5,a4,a6,bc,a7,bd,a8,be,a9,bh,aE,bi,ba,bj]
  .exact⟨undef,rfl,λ_=>rfl,trivial,⟨λh=>absurd bU (by rw[h];exact Bool.false_ne_true),λ_=>⟨w,D,hb,h1,h2,rfl⟩⟩,.inl rfl⟩
 rintro L a w hL ⟨hS,U,_⟩;refine⟨rfl,U.1.trans ap,U.2.1,U.2.2,hS.2 (hL 8 (by decide))⟩
end
def Ha(p:aj):List (Int × Int):=lD (jf p (mD (countP p))) 0
theorem G8(p:aj)(w:World):Calls Tryz.prog 168 #[.agg p.arr] w λo w'=>o=.returned (.func (.func 202) #[] #[.pointer (some ⟨w.heap.size,0,none⟩)])/\w'=w.alloc (.cells p.arr 35):=by
 have D:∃a,p.arr=a:=⟨_,rfl⟩;obtain⟨a,O⟩:=D;rw[O];clear O;go_enter Tryz.func168,Tryz.ntmps168
 go_wp2
 go_ret
 exact⟨rfl,rfl⟩
theorem TI{q mt mp n₀ B:Nat}{p:aj}{D yv':Value}{pm:Option Nat}{E:Env}{n:Int}{over:Bool}{W:World}(h:qQ ⟨q,p,n₀,B,D,mt,mp⟩ pm E n over W):qQ ⟨q,p,n₀,B,yv',mt,mp⟩ pm E n over (W.setCell ⟨q,28,none⟩ yv'):=by
 have O:n₀<=q:=by have:=h.q;have:=h.n0;simp only at *;omega
 have hk:∀k o,B<=k->W.heap[k]?=some o->o.isCells=false->(W.setCell ⟨q,28,none⟩ yv').heap[k]?=some o:=λk o _ hk U =>
  (aN _ _ _ k (λe=>by simp only at e;subst e;rw[h.box]at hk;cases hk;cases U)).trans hk
 refine⟨?_,h.bC.stays (K:=⟨q,p,n₀,B,D,mt,mp⟩) hk,rG h.things h.mt hk,rG h.aA h.mp hk,h.prog.below ((ag _ _).setCell O _),h.n0,h.q,h.mt,h.mp⟩;simp[World.setCell,cK,h.box,mq.cells]
structure Fit(p:aj):Prop where
 kv:countP p<=20000
 names:ng p
 weight:l9 p<=1125899906842624
theorem Fit.light{p:aj}(h:Fit p):eF p<=20000:=by have:=Gm h.kv;have:=h.kv;omega
theorem EB(p:aj)(n₀:Nat)(W:World)(Bs l:Nat)(hp:jT n₀ W p)(hn:n₀<=W.heap.size)(a3:0<n₀)(hf:Fit p)(hmx:MxAt W)(aq:W.heap[Bs]?=some (.cells p.arr 35 (0,0)))
  (J Jx:List (Int × Int)->World->Prop) (hJ:jK 246 W.heap.size J) (aw:jK 246 W.heap.size Jx)
  (hY:∀pre (x:Int × Int) W1,J pre W1->pre.length<1000000->YieldAt Fence.wide 0 Tryz.prog l #[.agg #[.int .i64 x.1,.int .i64 x.2]] W1 λe W' =>
   (e=.returned (.bool true)/\J (pre++[x]) W'/\dD TK W.heap.size W1 W'/\Below n₀ W1 W')\/(e=.returned (.bool false)/\Jx (pre++[x]) W'/\dD TK W.heap.size W1 W'/\Below n₀ W1 W'))
  (h0:J [] W):Calls Tryz.prog 202 #[.func (.yield l) #[] #[],.pointer (some ⟨Bs,0,none⟩)] W λo W'=>(∃v,o=.returned v)/\(J (Ha p) W'\/∃pre,pre≠[]/\pre <+: Ha p/\Jx pre W'):=by
 have am:=Ry W p n₀ W.heap.size hp hn (af _);rw[Ct]at am;have al:=ae am;have ao:=ae aq;have HY:=ae hY;clear am aq hY hp;go_enter Tryz.func202,Tryz.ntmps202
 obtain⟨v8,a7⟩:∃v,Value.agg p.arr=v:=⟨_,rfl⟩;rw[a7]at al;go_upto_region 1 with (first|(refine bH rfl 35 _ rfl Bs rfl 35 _ (0,0) _ ao.o Tryz.underlying35 rfl (dZ p) ?_)|(go_at_call 203;refine al.o.mono ?_;rintro o2 w2 ⟨q,mt,mp,rfl,O,hq,_,_,a1⟩)|fail)
 have a9:=O.frozen 28;have a8:=O.c28;have V:=TI (yv':=.func (.yield l) #[] #[]) O;have ar:J [] (w2.setCell ⟨q,28,none⟩ (.func (.yield l) #[] #[])):=hJ.cell _ (hJ.new h0 a1) hq O.box;have ab:MxAt (w2.setCell ⟨q,28,none⟩ (.func (.yield l) #[] #[])):=hmx.below ((a1.mono hn).setCell (by simp only;omega) _) a3;have a4:pW ⟨q,p,n₀,W.heap.size,.func (.yield l) #[] #[],mt,mp⟩ J Jx none outside [] (w2.setCell ⟨q,28,none⟩ (.func (.yield l) #[] #[])):=⟨false,V,.inl ⟨rfl,ar⟩⟩;have D:sV ⟨q,p,n₀,W.heap.size,.func (.yield l) #[] #[],mt,mp⟩ J Jx:=Om _ l rfl J Jx hJ aw HY.o;have U:=Ra hJ aw D hf.light hf.names a3 hf.weight _ a4 ab;have an:=ae U;clear O V ar ab a4 D U al ao;go_wp2_with fail
 refine an.o.mono ?_;rintro o w3 ⟨rfl,⟨pm,ad⟩,a5⟩;have ap:=ae ad;clear ad a5;go_wp2_with fail
 go_returns
 refine⟨⟨_,rfl⟩,?_⟩;obtain⟨over,-,a6⟩:=ap.o.ex;rcases a6 with ⟨_,h⟩|⟨_,pre,h1,h2,h3⟩
 .exact .inl h
 .exact .inr ⟨pre,h1,h2,h3⟩
theorem G9(p:aj)(n₀:Nat)(w:World)(O:Nat)(hp:jT n₀ w p)(hn:n₀<=w.heap.size)(ab:0<n₀)(hf:Fit p)(hmx:MxAt w)(D:w.heap[O]?=some (.cells p.arr 35 (0,0))) :
  TZ Fence.wide 1 Tryz.prog 202 #[.pointer (some ⟨O,0,none⟩)] (λx:Int × Int=>#[.agg #[.int .i64 x.1,.int .i64 x.2]]) TK 246 n₀ (λxs=>xs=Ha p) (λpre=>pre≠[]/\pre <+: Ha p) 1000000 w:=by
 intro l J Jx W hW hJ U hY h0;have V:=(dM D).1;have hs:=hW.size;refine callsIn_wide.2 ((EB p n₀ W O l (hp.below (hW.mono hn)) (by omega) ab hf (hmx.below hW (by omega)) ((hW.block _ V).trans D) J Jx hJ U hY h0).mono ?_);rintro e W' ⟨h1,h2|⟨pre,h3,h4,h5⟩⟩
 .exact⟨h1,.inl ⟨_,rfl,h2⟩⟩
 .exact⟨h1,.inr ⟨pre,⟨h3,h4⟩,h5⟩⟩
section
attribute [local go_sem] Oper.semAt_some
theorem pQ{F:Fence}{n:Nat}{P:Program}{ops:Array Oper}{rest:List Oper}{o:Oper}{a:Act}{w:World}{Q:Exit->Act->World->Prop}(O:o.guard=none)(ty:TypeId)(x:Operand)(U:o.op=.load ty x)
  (g:Nat) (hx:a.eval x=.pointer (some ⟨g,0,none⟩)) (t:TypeId) (cs:Array Value) (fr:Nat × Nat) (d:TypeDesc) (hg:w.heap[g]?=some (.cells cs t fr))
  (hu:P.underlying ty=some d) (hd:(match d with|.struct _|.array _ _=>true|_=>false)=true) (hi:(P.info? ty).map (·.size)=some cs.size)
  (h:wpListIn F n P ops Q rest (a.put o.dst (.agg cs)) w):wpListIn F n P ops Q (o::rest) a w :=
 wpListIn_plain O λK V=>by
  unfold Oper.wpIn;refine⟨?_,?_⟩
  .simp[Oper.about,U]
  .rw[Oper.semAt_plain F _ _ (by rw[U];intro c D;cases D)]
   simp only[execOp,U,hx,Instr.loadAt,Instr.sureAddr,Sem.run_bind,Sem.run_pure,Result.andThen_ok,run_loadVar_row w g t ty cs fr d hg hu hd hi];exact V _ _ h
def lc(p:aj):Int × Int:=if countP p<=20000 then(Ha p).headD (0,0) else(0,5)
def lL(W:World)(q:Nat)(t:TypeId)(v:Int):Prop:=W.heap[q]?=some (.cells #[.int .i64 v] t (0,0))
theorem uM{B q:Nat}{t:TypeId}{v:Int}{W W':World}{row:Option Nat}(h:lL W q t v)(O:W.grownBy W' row)(hr:∀r,row=some r->B<=r/\∃o:Obj,W.heap[r]?=some o/\(o.isCells=false\/∃cs fr,o=.cells cs 246 fr))(ht:t≠246):lL W' q t v :=
 (O.block q (dM (h:W.heap[q]?=_)).1 (λe=>by
  obtain⟨_,o,D,hc⟩:=hr q e.symm;rw[(h:W.heap[q]?=_)]at D;cases D
  rcases hc with hc|⟨cs,fr,hc⟩
  .cases hc
  .cases hc;exact ht rfl)).trans h
theorem Sc{B n₀ p e:Nat}{O D:TypeId}{a b a' b':Int}{W:World}(hP:lL W p O a)(hE:lL W e D b)(hne:p≠e)(h1:TK O=false)(h2:TK D=false)(hp:n₀<=p)(he:n₀<=e) :
  dD TK B W ((W.drew.setCell ⟨p,0,none⟩ (.int .i64 a')).setCell ⟨e,0,none⟩ (.int .i64 b'))/\Below n₀ W ((W.drew.setCell ⟨p,0,none⟩ (.int .i64 a')).setCell ⟨e,0,none⟩ (.int .i64 b')) /\
  lL ((W.drew.setCell ⟨p,0,none⟩ (.int .i64 a')).setCell ⟨e,0,none⟩ (.int .i64 b')) p O a'/\lL ((W.drew.setCell ⟨p,0,none⟩ (.int .i64 a')).setCell ⟨e,0,none⟩ (.int .i64 b')) e D b':=by
 have al:Below W.heap.size W W.drew:=(ag _ _).drew;have V:lL W.drew p O a:=hP;have ab:lL W.drew e D b:=hE;have U:lL (W.drew.setCell ⟨p,0,none⟩ (.int .i64 a')) e D b:=(aN _ _ _ _ (λh=>hne (by simpa using h.symm))).trans ab;have ad:lL (W.drew.setCell ⟨p,0,none⟩ (.int .i64 a')) p O a':=(show Boxed W.drew p O (.int .i64 a)from V).set (.int .i64 a');refine⟨((dD.of_below al).trans (dD.set (a:=⟨p,0,none⟩) V h1 _)).trans (dD.set (a:=⟨e,0,none⟩) U h2 _),((ag _ W).drew.setCell (p:=⟨p,0,none⟩) hp _).setCell (p:=⟨e,0,none⟩) he _,?_,(show Boxed (W.drew.setCell ⟨p,0,none⟩ (.int .i64 a')) e D (.int .i64 b)from U).set (.int .i64 b')⟩;exact(aN _ _ _ _ (λh=>hne (by simpa using h))).trans ad
theorem MP(w:World)(p:aj)(hp:jT w.heap.size w p)(bj:0<w.heap.size)(hN:ng p)(hwt:l9 p<=1125899906842624)(hmx:MxAt w) :
  Calls Tryz.prog 108 #[p.val] w λo w'=>o=.returned (.tuple #[.int .i64 (lc p).1,.int .i64 (lc p).2])/\Below w.heap.size w w':=by
 refine(callsIn_wide (n:=2)).1 ?_;have a5:=jc w (.cells p.arr 35);have hB:=gM w (.cells p.arr 35);have a4:=Dv _ p ((hp.below a5).more (dI (by simp:w.heap.size<(w.alloc (.cells p.arr 35)).heap.size))) hwt;have a9:=λW=>G8 p W
 rw[Ct]at a4 ⊢;obtain⟨O,al⟩:∃a,p.arr=a:=⟨_,rfl⟩;have U:=dZ p;rw[al]at a4 a9 a5 hB U ⊢;have a1:=ae a4;have bo:=ae a9;have HB:=ae hB;have aE:=ae al;have HP:=ae hp;have ba:=ae a5;clear a4 a9 hB al hp a5;by_cases hl:countP p<=20000
 .have hf:Fit p:=⟨hl,hN,hwt⟩
  have ar:lc p=(Ha p).headD (0,0):=if_pos hl;rw[aC hl]at a1;have HF:=ae hf;have bc:=ae ar;clear hl hf ar hN hwt;refine callsIn_of_wp_marks Tryz.func108 rfl trivial ?_ rfl;simp only[Tryz.ntmps108,List.size_toArray,aF,bK,Nat.reduceAdd,Nat.reduceSub,Array.replicate_succ,Array.replicate_zero,List.push_toArray,List.append_toArray,gJ,dC]
  gi_wp2
  refine wpIn_wide.2 (wp_scope_straight (wpIn_wide (n:=2).1 ?_))
  gi_wp2_with (first|(refine pQ rfl 35 _ rfl w.heap.size rfl 35 _ (0,0) _ HB.o Tryz.underlying35 rfl U ?_)|(refine⟨trivial,?_⟩;gi_at_call 112;refine(callsIn_wide.2 a1.o).mono ?_;rintro o3 D ⟨rfl,an⟩;have aw:=ae an;clear an)|fail)
  have bm:w.heap.size<(w.alloc (.cells O 35)).heap.size:=by simp
  have bh:Below w.heap.size w D:=ba.o.trans (aw.o.mono (by omega));have ao:D.heap[w.heap.size]?=some (.cells O 35 (0,0)):=(aw.o.block _ bm).trans HB.o;have b2:w.heap.size<D.heap.size:=(dM ao).1;have bd:lL ((D.alloc (.cells #[.int .i64 0] 3)).alloc (.cells #[.int .i64 0] 37)) D.heap.size 3 0:=(eZ _ _ _ (by simp)).trans (gM _ _);have be:lL ((D.alloc (.cells #[.int .i64 0] 3)).alloc (.cells #[.int .i64 0] 37)) (D.heap.size+1) 37 0:=by
   have:=gM (D.alloc (.cells #[.int .i64 0] 3)) (.cells #[.int .i64 0] 37)
   rwa [di]at this
  have bi:Below D.heap.size D ((D.alloc (.cells #[.int .i64 0] 3)).alloc (.cells #[.int .i64 0] 37)):=((ag _ _).alloc (af _) _).alloc (by simp) _;have bl:((D.alloc (.cells #[.int .i64 0] 3)).alloc (.cells #[.int .i64 0] 37)).heap.size=D.heap.size+2:=by simp
  generalize (D.alloc (.cells #[.int .i64 0] 3)).alloc (.cells #[.int .i64 0] 37)=w4 at *;have ap:=(bi.block _ b2).trans ao;have a7:=ae ap;refine wpIn_label ?_
  gi_wp2_with (first|(refine pQ rfl 35 _ rfl w.heap.size rfl 35 _ (0,0) _ a7.o Tryz.underlying35 rfl U ?_)|(refine⟨trivial,?_⟩;gi_at_call 168;refine(callsIn_wide.2 (bo.o _)).mono ?_;rintro o5 w5 ⟨rfl,rfl⟩)|fail)
  have aq:=gM w4 (.cells O 35);have a6:=jc w4 (.cells O 35);have b3:(w4.alloc (.cells O 35)).heap.size=D.heap.size+3:=by simp[bl]
  rw[bl]at aq;have am:Below w.heap.size w (w4.alloc (.cells O 35)):=(bh.trans (bi.mono (by omega))).trans (a6.mono (by omega));have b0:lL (w4.alloc (.cells O 35)) D.heap.size 3 0:=(a6.block _ (by omega)).trans bd;have br:lL (w4.alloc (.cells O 35)) (D.heap.size+1) 37 0:=(a6.block _ (by omega)).trans be;generalize w4.alloc (.cells O 35)=wA at *;clear bd be a6 ap a7;rw[<-aE.o]at aq;refine xI (T:=TK) (Tc:=246) (n₀:=w.heap.size) rfl (λh=>by cases h) (gf:=202) (lb:=#[.pointer (some ⟨D.heap.size+2,0,none⟩)]) rfl trivial (enters_of Tryz.func202 (by kernel_rfl) rfl)
   (G9 p w.heap.size wA (D.heap.size+2) (HP.o.below am) (by omega) bj HF.o (hmx.below am bj) aq) (by omega) (ag _ _) (λ_=>rfl)
   (λpre W=>pre=[]/\wA.heap.size<=W.heap.size/\Below w.heap.size w W/\lL W D.heap.size 3 0/\lL W (D.heap.size+1) 37 0)
   (λc pre W=>∃x:Int × Int,pre=[x]/\c=.exit 0/\Below w.heap.size w W/\lL W D.heap.size 3 x.1/\lL W (D.heap.size+1) 37 x.2)
   ?hI ?hIx ⟨rfl,af _,am,b0,br⟩
   (λx a' W=>∃b:Nat,wA.heap.size<=b/\W.heap[b]?=some (.cells #[.int .i64 x.1,.int .i64 x.2] 206 (0,0))/\a'={ tmps:=#[.agg O,.pointer (some ⟨w.heap.size,0,none⟩),.int .i64 0,.int .i64 0,.pointer (some ⟨D.heap.size,0,none⟩),.pointer (some ⟨D.heap.size+1,0,none⟩),.pointer (some ⟨b,0,none⟩),.agg O,.bool true,.bool false,.agg O,.func (.func 202) #[] #[.pointer (some ⟨D.heap.size+2,0,none⟩)],.agg #[.int .i64 x.1,.int .i64 x.2],undef,undef,undef,undef,undef,undef],defers:=[] })
   ?hAx ?assign ?eY ?done ?stop
  case hI =>
   rintro s X' Y rw⟨h1,a3,h2,V,h4⟩ hg hr;exact⟨h1,ai a3 hg.size,h2.grown hg h2.size (λq hq=>by have:=(hr q hq).1;omega),uM V hg hr (by decide),uM h4 hg hr (by decide)⟩
  case hIx =>
   rintro c s X' Y rw⟨x,h0,h1,h2,V,h4⟩ hg hr;exact⟨x,h0,h1,h2.grown hg h2.size (λq hq=>by have:=(hr q hq).1;omega),uM V hg hr (by decide),uM h4 hg hr (by decide)⟩
  case hAx =>
   rintro x a' _ X' Y rw⟨b,h0,h1,h2⟩ hg hr;exact⟨b,h0,(hg.block b (dM h1).1 (λe=>by
    obtain⟨_,o,ho,hc⟩:=hr b e.symm;rw[h1]at ho;cases ho
    rcases hc with hc|⟨cs,fr,hc⟩<;>cases hc)).trans h1,h2⟩
  case assign =>
   rintro l2 pre x Wc K ⟨h1,a3,h2,V,h4⟩ hK;have ad:=jc Wc (.cells #[.int .i64 x.1,.int .i64 x.2] 206)
   gi_wp2
   exact hK _ _ (dD.of_below ad) (ad.mono (by omega)) ⟨h1,ai a3 ad.size,h2.trans (ad.mono (by omega)),(ad.block _ (dM (V:Wc.heap[_]?=_)).1).trans V,(ad.block _ (dM (h4:Wc.heap[_]?=_)).1).trans h4⟩ ⟨_,a3,gM _ _,rfl⟩
  case eY =>
   rintro l2 pre x a' Wc _ ⟨rfl,_,h2,V,h4⟩ ⟨b,_,hb,rfl⟩ _;obtain⟨q0,q1⟩:=xD hb;have bt:=ae V;have bw:=ae h4;have cP:=one_cell (V:Wc.heap[_]?=_);have cE:=one_cell (h4:Wc.heap[_]?=_);have fP:Wc.frozen? ⟨D.heap.size,0,none⟩=false:=by
    have h:=bt.o;unfold lL at h;simp[World.frozen?,h]
   have fE:Wc.frozen? ⟨D.heap.size+1,0,none⟩=false:=by
    have h:=bw.o;unfold lL at h;simp[World.frozen?,h]
   have F1:=ae (Sc (B:=wA.heap.size) (n₀:=w.heap.size) (a':=x.1) (b':=x.2) V h4 (by omega) rfl rfl (by omega) (by omega));clear V h4 hb
   gi_wp2
   gi_region
   all_goals
    gi_wp2
    first
     |exact⟨F1.o.1,F1.o.2.1,x,rfl,rfl,h2.trans F1.o.2.1,F1.o.2.2.1,F1.o.2.2.2⟩
     |exact⟨F2.o.1,F2.o.2.1,x,rfl,rfl,h2.trans F2.o.2.1,F2.o.2.2.2,F2.o.2.2.1⟩
  case done =>
   rintro Dq ys Wd hD rfl ⟨h1,_,h2,V,h4⟩ hK;have cP:=one_cell (V:Wd.heap[_]?=_);have cE:=one_cell (h4:Wd.heap[_]?=_);have ab:lc p=(0,0):=by rw[bc.o,h1];rfl
   have HR:=ae ab;have a8:=ae hK;clear h1 ab hK V h4
   gi_wp2
   gi_region
   gi_wp2
   simp only[Exit.noGoto];refine⟨by simp,.inl ⟨_,_,rfl,run_takeDeferred (w:=Wd.drew) a8.o,?_⟩⟩;exact⟨_,results_tmp2 rfl _ _ _,by rw[HR.o];rfl,(h2.trans ((ag _ Wd).drew)).trans (jk _ _ (by omega))⟩
  case stop =>
   rintro Dq c pre Wd hD ⟨b1,bk⟩ ⟨x,rfl,rfl,h2,V,h4⟩ hK;have cP:=one_cell (V:Wd.heap[_]?=_);have cE:=one_cell (h4:Wd.heap[_]?=_);have ab:lc p=x:=by
    obtain⟨r,hr⟩:=bk;rw[bc.o,<-hr];rfl
   have HR:=ae ab;have a8:=ae hK;clear b1 bk ab hK V h4
   gi_wp2
   gi_region
   gi_wp2
   simp only[Exit.noGoto];refine⟨by simp,.inl ⟨_,_,rfl,run_takeDeferred (w:=Wd.drew) a8.o,?_⟩⟩;exact⟨_,results_tmp2 rfl _ _ _,by rw[HR.o];rfl,(h2.trans ((ag _ Wd).drew)).trans (jk _ _ (by omega))⟩
 .have ar:lc p=(0,5):=if_neg hl
  rw[az hl]at a1;rw[ar];clear hl ar hN hwt;refine callsIn_of_wp_marks Tryz.func108 rfl trivial ?_ rfl;simp only[Tryz.ntmps108,List.size_toArray,aF,bK,Nat.reduceAdd,Nat.reduceSub,Array.replicate_succ,Array.replicate_zero,List.push_toArray,List.append_toArray,gJ,dC]
  gi_wp2
  refine wpIn_wide.2 (wp_scope_straight (wpIn_wide (n:=2).1 ?_))
  gi_wp2_with (first|(refine pQ rfl 35 _ rfl w.heap.size rfl 35 _ (0,0) _ HB.o Tryz.underlying35 rfl U ?_)|(refine⟨trivial,?_⟩;gi_at_call 112;refine(callsIn_wide.2 a1.o).mono ?_;rintro o3 D ⟨rfl,an⟩;have aw:=ae an;clear an)|fail)
  simp only[Exit.noGoto];exact⟨_,results_tmp2 rfl _ _ _,rfl,ba.o.trans (aw.o.mono (by simp))⟩
end
section
theorem Fp:∀(l:List dH) (b:Int),b+((l.map λi=>1+i.bv.pre.length).sum:Nat)<=20000->iQ l b=b+((l.map λi=>1+i.bv.pre.length).sum:Nat)
 |[],b,_=>by simp[iQ]
 |i::l,b,h=>by
  have e:iQ (i::l) b=iQ l (kX i.bv.pre.length (b+1)):=rfl;simp only[ax,bL]at h ⊢;rw[e,zb (by omega),Fp l _ (by omega)];omega
theorem FV:∀(l:List bG) (b:Int),b+((l.map jy).sum:Nat)<=20000->kT l b=b+((l.map jy).sum:Nat)
 |[],b,_=>by simp[kT]
 |q::l,b,h=>by
  have e:kT (q::l) b=kT l (jU (q.eY.flatMap aa.pre) (b+1+q.bC.length)):=rfl;have D:jy q=1+q.bC.length+lW (q.eY.flatMap aa.pre):=rfl;simp only[ax,bL]at h ⊢;rw[e,rf _ _ (by omega),FV l _ (by omega)];omega
theorem xe{p:aj}(h:eF p<=20000):countP p=eF p:=by
 have e:nO p=(p.fB.length+p.ek.length+p.gp.length+p.fP.length+1:Nat):=by unfold nO;omega
 unfold eF aV at *;unfold countP;have h1:kX p.eD.pre.length (nO p)=nO p+p.eD.pre.length:=zb (by omega);rw[h1];have D:=Fp p.eQ (nO p+p.eD.pre.length) (by omega);rw[D];have O:=FV p.aA (nO p+p.eD.pre.length+((p.eQ.map λi=>1+i.bv.pre.length).sum:Nat)) (by omega);rw[O];have U:=rf (p.eX.flatMap aa.pre) (nO p+p.eD.pre.length+((p.eQ.map λi=>1+i.bv.pre.length).sum:Nat)+((p.aA.map jy).sum:Nat)) (by omega);rw[U];have V:=rf (p.eB.flatMap aa.pre) (nO p+p.eD.pre.length+((p.eQ.map λi=>1+i.bv.pre.length).sum:Nat)+((p.aA.map jy).sum:Nat)+lW (p.eX.flatMap aa.pre)) (by omega);rw[V,zb (by omega)];omega
theorem DN(l:List aa):nS l<=lW l:=by
 unfold nS lW;refine yL _ _ _ λs _=>?_
 have:s.bf.length<=dU s.bf:=uO _ (λe=>mH e) _;omega
theorem Bo(p:aj):l9 p<=eF p:=by
 have h1:(p.aA.map λq=>1+q.bC.length+nS (q.eY.flatMap aa.pre)).sum<=(p.aA.map jy).sum:=by
  refine yL _ _ _ λq _=>?_
  have:=DN (q.eY.flatMap aa.pre);unfold jy aV;omega
 have D:=DN (p.eX.flatMap aa.pre);have O:=DN (p.eB.flatMap aa.pre);unfold l9 eF aV;omega
theorem Qv{p:aj}{k:Nat}(hk:(jf p 0).length=k)(h:k<=20000):Ha p=lD (jf p k) 0:=by
 have D:eF p=k:=by rw[<-mO p 0,hk]
 unfold Ha;rw[xe (by omega),D];unfold mD;rw[if_pos (by omega)]
theorem za{p:aj}{k:Nat}(hk:(jf p 0).length=k)(h:k<=20000){r:Int × Int}(hr:(lD (jf p k) 0).headD (0,0)=r):lc p=r:=by
 have D:eF p=k:=by rw[<-mO p 0,hk]
 unfold lc;rw[if_pos (by rw[xe (by omega)];omega),Qv hk h,hr]
section
variable (v ws a b c d:Sp)
end
end
section
def fF(p:aj):Prop:=∀c∈jf p (eF p),c=0
theorem FQ:∀(l:List Int) (n:Nat),(∃c∈l,c≠0)->((lD l n).headD (0,0)).2≠0
 |[],_,h=>by obtain⟨c,hc,_⟩:=h;cases hc
 |c::l,n,h=>by
  rw[lD];by_cases hc:c=0
  .rw[if_pos hc]
   refine FQ l (n+1) ?_;obtain⟨d,D,hne⟩:=h;rcases List.mem_cons.1 D with rfl|D
   .exact absurd hc hne
   .exact⟨d,D,hne⟩
  .rw[if_neg hc]
   exact hc
theorem Jn{p:aj}(hl:eF p<=20000)(h:(lc p).2=0):fF p:=by
 have D:(jf p 0).length=eF p:=by rw[mO]
 intro c hc;by_cases O:c=0
 .exact O
 .exfalso
  have h1:lc p=(lD (jf p (eF p)) 0).headD (0,0):=za D hl rfl;rw[h1]at h;exact FQ _ 0 ⟨c,hc,O⟩ h
section
variable {p:aj}(h:fF p)
include h
theorem fF.aA:∀c∈fO p p.aA 0 (fC p),c=0:=λc hc=>h c (by
 unfold jf;simp only[bE,dF]
 right;right;right;right;right;right;right;left
 exact hc)
theorem fF.eX:∀c∈eH p outside p.eX 1,c=0:=λc hc=>h c (by
 unfold jf;simp only[bE,dF]
 right;right;right;right;right;right;right;right;left
 exact hc)
theorem fF.eB:∀c∈eH p outside p.eB 1,c=0:=λc hc=>h c (by
 unfold jf;simp only[bE,dF]
 right;right;right;right;right;right;right;right;right;left
 exact hc)
end
theorem Ji{p:aj}:∀(l:List bG) (n:Nat) (before:List ByteArray),(∀c∈fO p l n before,c=0)->∀i (hi:i<l.length),∃bf,(∀s∈before,s∈bf)/\(∀j (D:j<l.length),j<i->(l[j]).aT∈bf)/\∀c∈nM p bf (n+i) l[i],c=0
 |q::l,n,before,h,0,_=>⟨before,λ_ O=>O,λj _ D=>absurd D (dX _),λc hc=>h c (by rw[fO];exact cz _ hc)⟩
 |q::l,n,before,h,i+1,hi=>by
  obtain⟨bf,h1,U,V⟩:=Ji l (n+1) (before++[q.aT]) (λc hc=>h c (by rw[fO];exact bF _ hc)) i (by simpa using hi);refine⟨bf,λs O=>h1 s (cz _ O),λj D ab=>?_,λc hc=>V c (by rwa [show n+1+i=n+(i+1) by omega])⟩
  match j with
  |0=>exact h1 _ (bF _ (List.mem_singleton.2 rfl))
  |j+1=>exact U j (by simpa using D) (by omega)
theorem Dm{l:List ByteArray}{s:ByteArray}:lK l s=true↔s∈l:=by
 unfold lK;rw[iy]
 constructor
 .rintro⟨x,hx,he⟩;rw[<-dB he];exact hx
 .exact λD=>⟨s,D,aC rfl⟩
structure SN(p:aj)(i:Nat)(q:bG):Prop where
 fresh:q.aT∉fC p
 named:kH p q.aT.data.toList=true
 few:q.bC.length<=8
 bC:∀c∈gH p false q.bC (eO p),c=0
 eY:∀c∈eH p (inside p i) q.eY 1,c=0
theorem fF.proc{p:aj}(h:fF p)(i:Nat)(hi:i<p.aA.length):SN p i p.aA[i]/\∀j (hj:j<p.aA.length),j<i->(p.aA[j]).aT≠(p.aA[i]).aT:=by
 obtain⟨bf,h1,h2,D⟩:=Ji p.aA 0 (fC p) h.aA i hi;rw[fI]at D;unfold nM at D;have he:=D _ (aD ..);unfold xP at he;have U:¬(lK bf (p.aA[i]).aT=true\/kH p (p.aA[i]).aT.data.toList=false):=λhc=>by rw[if_pos hc]at he;cases he
 rw[if_neg U]at he;have hb:¬(p.aA[i]).bC.length>8:=λhc=>by rw[if_pos hc]at he;cases he
 have O:(p.aA[i]).aT∉bf:=λhm=>U (.inl (Dm.2 hm))
 refine⟨⟨λhm=>O (h1 _ hm),?_,by omega,λc hc=>D c (au _ (cz _ hc)),λc hc=>D c (au _ (bF _ hc))⟩,λj hj V e=>O (e ▸ h2 j hj V)⟩;cases hx:kH p (p.aA[i]).aT.data.toList with
 |true=>rfl
 |false=>exact absurd (.inr hx) U
theorem fF.nodup{p:aj}(h:fF p):(p.aA.map bG.aT).Nodup:=by
 rw[List.nodup_iff_pairwise_ne,List.pairwise_iff_getElem];intro i j hi O D;rw[List.getElem_map,List.getElem_map];exact(h.proc j (by simpa using O)).2 i (by simpa using hi) D
theorem xO:∀(l:List bG) (n:Nat) (s:ByteArray) (j:Int),look (numbered bG.aT l n) s=some j->∃i,∃hi:i<l.length,j=((n+i:Nat):Int)/\(l[i]).aT=s
 |[],n,s,j,h=>by cases h
 |q::l,n,s,j,h=>by
  unfold look numbered at h;rw[List.find?_cons]at h;by_cases hq:q.aT=s
  .rw[aC hq]at h
   simp only[Option.map_some,Option.some.injEq]at h;exact⟨0,by simp,by rw[<-h];rfl,hq⟩
  .rw[az hq]at h
   obtain⟨i,hi,e,D⟩:=xO l (n+1) s j h;exact⟨i+1,by simpa using hi,by rw[e];congr 1;omega,by simpa using D⟩
theorem zH:∀(l:List bG) (n i:Nat) (hi:i<l.length),(numbered bG.aT l n)[i]?=some ((l[i]).aT,((n+i:Nat):Int))
 |q::l,n,0,_=>rfl
 |q::l,n,i+1,hi=>by
  rw[numbered,dm,zH l (n+1) i (by simpa using hi)];simp only[List.getElem_cons_succ];rw[show n+1+i=n+(i+1) by omega]
theorem wF:∀(l:List bG) (n:Nat),(numbered bG.aT l n).map (·.1)=l.map bG.aT
 |[],_=>rfl
 |q::l,n=>by rw[numbered,ax,ax,wF l]
theorem GQ{α:Type}:∀{T:List (ByteArray × α)}{x:ByteArray × α},(T.map (·.1)).Nodup->x∈T->look T x.1=some x.2
 |[],x,_,h=>by cases h
 |y::T,x,D,h=>by
  rw[ax,List.nodup_cons]at D;unfold look;rw[List.find?_cons];rcases List.mem_cons.1 h with rfl|h
  .simp
  .have hne:y.1≠x.1:=λe=>D.1 (by rw[e];exact iE h)
   simp only[az hne];exact GQ D.2 h
theorem Nt{α:Type}{l:List α}(h:l.Nodup):l.reverse.Nodup:=by
 rw[List.nodup_iff_pairwise_ne,List.pairwise_reverse];exact h.imp λhne=>Ne.symm hne
theorem uo{p:aj}(h:fF p)(i:Nat)(hi:i<p.aA.length):dG p (p.aA[i]).aT=i/\look (eG p) (p.aA[i]).aT=some (i:Int):=by
 have D:=zH p.aA 0 i hi;rw[fI]at D;have hm:=mZ D;have O:((numbered bG.aT p.aA 0).map (·.1)).Nodup:=by rw[wF];exact h.nodup
 refine⟨?_,GQ (x:=((p.aA[i]).aT,(i:Int))) O hm⟩;unfold dG eG;have:=GQ (T:=(numbered bG.aT p.aA 0).reverse) (x:=((p.aA[i]).aT,(i:Int))) (by rw[List.map_reverse];exact Nt O) (List.mem_reverse.2 hm);rw[this]
 rfl
theorem Ow{l:List ByteArray}{s x:ByteArray}:x∈qP l s↔x∈l\/x=s:=by
 unfold qP
 split
 .next D=>exact⟨.inl,λhx=>hx.elim id λe=>by rw[e];exact Dm.1 D⟩
 .simp
theorem CZ:∀(l:List aa) (out:List ByteArray) (x:ByteArray),x∈l.foldl (λout s=>if s.bI=8 then qP out s.aT else out) out↔x∈out\/∃s∈l,s.bI=8/\s.aT=x
 |[],out,x=>by simp
 |s::l,out,x=>by
  rw[il,CZ l];by_cases hk:s.bI=8
  .rw[if_pos hk,Ow]
   constructor
   .rintro((h|rfl)|⟨t,ht,h1,D⟩)
    .exact .inl h
    .exact .inr ⟨s,aD ..,hk,rfl⟩
    .exact .inr ⟨t,au _ ht,h1,D⟩
   .rintro(h|⟨t,ht,h1,D⟩)
    .exact .inl (.inl h)
    .rcases List.mem_cons.1 ht with rfl|ht
     .exact .inl (.inr D.symm)
     .exact .inr ⟨t,ht,h1,D⟩
  .rw[if_neg hk]
   constructor
   .rintro(h|⟨t,ht,h1,D⟩)
    .exact .inl h
    .exact .inr ⟨t,au _ ht,h1,D⟩
   .rintro(h|⟨t,ht,h1,D⟩)
    .exact .inl h
    .rcases List.mem_cons.1 ht with rfl|ht
     .exact absurd h1 hk
     .exact .inr ⟨t,ht,h1,D⟩
theorem JZ{l:List aa}{x:ByteArray}:x∈jG l↔∃s∈l.flatMap aa.pre,s.bI=8/\s.aT=x:=by
 unfold jG;rw[CZ];simp
theorem Cu{p:aj}{E:Env}{s:aa}{d:Nat}(h:pV p E s d=0)(hk:s.bI=8):∃i,∃hi:i<p.aA.length,(p.aA[i]).aT=s.aT/\look (eG p) s.aT=some (i:Int)/\lJ p E i s.bf=false/\(E.within≥0->kF p i E.within.toNat=false):=by
 unfold pV at h;by_cases hf:qJ s=true
 .rw[if_pos hf]at h
  by_cases D:jh p E s=0
  .unfold jh at D
   rw[hk]at D;simp only[show ¬(8:Int)=1 by decide,show ¬(8:Int)=2 by decide,show ¬(8:Int)=3 by decide,show ¬(8:Int)=7 by decide,if_false,if_true]at D;cases hl:look (eG p) s.aT with
   |none=>rw[hl]at D;cases D
   |some j =>
    rw[hl]at D;obtain⟨i,hi,rfl,U⟩:=xO p.aA 0 s.aT j hl;rw[fI]at hl D;refine⟨i,hi,U,by rw[fI],?_⟩
    dsimp only at D
    rw[gD]at D;by_cases O:lJ p E i s.bf=true
    .rw[if_pos O]at D;cases D
    .rw[if_neg O]at D
     refine⟨by simpa using O,λhe=>?_⟩;cases hx:kF p i E.within.toNat with
     |false=>rfl
     |true=>rw[if_pos ⟨he,hx⟩]at D;cases D
  .rw[if_neg D]at h;exact absurd h D
 .rw[if_neg hf]at h;cases h
theorem fF.rank{p:aj}(h:fF p):Sn p (rankP p):=by
 intro i hi s O hk;have hq:fU p i=p.aA[i]:=by unfold fU;rw[aX hi];rfl
 rw[hq]at O;obtain⟨d,V⟩:=zV p (inside p i) _ 1 s O;obtain⟨j,U,hn,hl,_,D⟩:=Cu ((h.proc i hi).1.eY _ V) hk;rw[<-hn,(uo h j U).1];refine⟨RS hi ?_ ?_,U⟩
 .unfold lC
  rw[aX hi];refine List.mem_filterMap.2 ⟨s.aT,JZ.2 ⟨s,O,hk,rfl⟩,?_⟩;rw[hl];rfl
 .have:=D (show(0:Int)<=(i:Int) by omega)
  exact this
end
def UQ(s:ByteArray):Prop:=(46:UInt8)∉s.data.toList
theorem Tu{l:List UInt8}(h:kE l=true):(46:UInt8)∉l:=λhm=>by
 unfold kE at h;rw[bg,bg]at h;have:=List.all_eq_true.1 h.1.2 46 hm
 revert this
 decide
theorem FD{p:aj}(hp:p.aA≠[]){s:ByteArray}(h:kH p s.data.toList=true):kE s.data.toList=true/\UQ s:=by
 have hl:¬p.aA.length=0:=λe=>hp (List.length_eq_zero_iff.1 e)
 have h1:kE s.data.toList=true:=by
  unfold kH at h
  revert h
  cases vU s.data.toList with
  |none=>exact λh=>h
  |some D =>
   obtain⟨a,b⟩:=D;intro h
   simpa[hl]using h
 exact⟨h1,Tu h1⟩
theorem AZ(e:ah):(bX e).pre=e.pre.map bX:=by
 induction e using ah.ind with
 |h k o v w n sp l O =>
  rw[ah.pre_eq,ah.pre_eq,ax,rT,List.flatMap_map,List.map_flatMap]
  congr 1
  exact ic λs D=>O s D
theorem xx(e:ah):(bX e).pre.length=e.pre.length:=by rw[AZ,cZ]
theorem Kr(l:List ah):dU (l.map bX)=dU l:=by
 unfold dU;rw[dw];exact congrArg List.sum (dA λe _=>xx e)
theorem Kq(l:List aa):lW (l.map aJ)=lW l:=by
 unfold lW;rw[dw];refine congrArg List.sum (dA λs _=>?_);show 1+dU (aJ s).bf=_;rw[oJ,Kr]
theorem iV(l:List aa):aV (l.map aJ)=aV l:=by
 unfold aV;rw[FP,Kq]
theorem qf(p:aj):eF (dx p)=eF p:=by
 unfold eF;rw[show(dx p).eD=bX p.eD from rfl,show(dx p).d9=bX p.d9 from rfl,show(dx p).eQ=p.eQ.map vP from rfl,show(dx p).aA=p.aA.map gF from rfl,show(dx p).eX=p.eX.map aJ from rfl,show(dx p).eB=p.eB.map aJ from rfl,xx,xx,iV,iV,dw,dw];have D:(λi:dH=>1+i.bv.pre.length) ∘ vP=λi=>1+i.bv.pre.length:=by funext i;exact congrArg (1+·) (xx i.bv)
 have O:jy ∘ gF=jy:=by
  funext q
  show 1+q.bC.length+aV (q.eY.map aJ)=_;rw[iV]
  rfl
 rw[D,O]
 rfl
theorem K4{p:aj}(h:ng p):ng (dx p):=
 ⟨h.decls,λq hq=>by
  obtain⟨O,D,rfl⟩:=List.mem_map.1 hq;exact h.aA O D⟩
theorem Ew{p:aj}(h:ng (dx p)):ng p :=
 ⟨h.decls,λq hq=>h.aA (gF q) (iE hq)⟩
theorem J7{p q:aj}(h:dx p=dx q)(k:Int):jf p k=jf q k:=by rw[<-BD,h,BD]
def Ky(s:aa):Nat:=1+dU s.bf+aV s.gy+aV s.iD
theorem fq(s:aa)(l:List aa):aV (s::l)=Ky s+aV l:=oD s l
theorem gu:aV []=0:=rfl
theorem ku(a b:List aa):aV (a++b)=aV a+aV b:=by
 unfold aV lW;rw[bT,aO,fo]
section
section
variable {p:aj}{E:Env}
theorem Jy{s:aa}{d:Nat}(h:pV p E s d=0):qJ s=true/\jh p E s=0:=by
 unfold pV at h;by_cases hf:qJ s=true
 .rw[if_pos hf]at h
  by_cases D:jh p E s=0
  .exact⟨hf,D⟩
  .rw[if_neg D]at h;exact absurd h D
 .rw[if_neg hf]at h;cases h
end
end
section
theorem MU{p:aj}{before:List ByteArray}{a:Bool}{d:bO}(h:tQ p before a d=0):d.aT∉before/\kH p d.aT.data.toList=true/\ik d.aS=true/\(if a=true then decide (1<=d.size/\d.size<=16) else decide (d.size=0))=true:=by
 unfold tQ at h;by_cases h1:lK before d.aT=true\/kH p d.aT.data.toList=false
 .rw[if_pos h1]at h;cases h
 .rw[if_neg h1]at h
  by_cases D:ik d.aS=false
  .rw[if_pos D]at h;cases h
  .rw[if_neg D]at h
   by_cases O:(if a=true then decide (1<=d.size/\d.size<=16) else decide (d.size=0))=false
   .rw[if_pos O]at h;cases h
   .refine⟨λhm=>h1 (.inl (Dm.2 hm)),?_,by simpa using D,Bool.not_eq_false _ ▸ O⟩
    cases hn:kH p d.aT.data.toList with
    |true=>rfl
    |false=>exact absurd (.inr hn) h1
def MC(p:aj)(a:Bool)(d:bO):Prop:=kH p d.aT.data.toList=true/\ik d.aS=true/\(if a=true then decide (1<=d.size/\d.size<=16) else decide (d.size=0))=true
theorem rC{p:aj}{a:Bool}:∀(l:List bO) (before:List ByteArray),(∀c∈gH p a l before,c=0)->before.Nodup->(before++l.map bO.aT).Nodup/\∀d∈l,MC p a d
 |[],before,_,hb=>⟨by simpa using hb,λ_ h=>by cases h⟩
 |d::l,before,h,hb=>by
  rw[gH]at h;obtain⟨h1,O⟩:=MU (h _ (aD ..));have D:(before++[d.aT]).Nodup:=List.nodup_append.2 ⟨hb,by simp,λx hx y hy=>by
   rw[List.mem_singleton.1 hy];rintro rfl;exact h1 hx⟩
  obtain⟨U,V⟩:=rC l (before++[d.aT]) (λc hc=>h c (au _ hc)) D;refine⟨by simpa using U,λx hx=>?_⟩;rcases List.mem_cons.1 hx with rfl|hx
  .exact O
  .exact V x hx
section
variable {p:aj}(h:fF p)
include h
theorem fF.decls:(fC p).Nodup/\(∀d∈p.fB,MC p false d)/\(∀d∈p.ek,MC p false d)/\(∀d∈p.gp,MC p false d)/\∀d∈p.fP,MC p true d:=by
 have h1:=h;unfold fF jf at h1;simp only[bE,dF]at h1;obtain⟨D,V⟩:=rC p.fB [] (λc hc=>h1 c (.inr (.inl hc))) List.nodup_nil;rw[gJ]at D;obtain⟨n2,o2⟩:=rC p.ek (pF p) (λc hc=>h1 c (.inr (.inr (.inl hc)))) D;obtain⟨O,o3⟩:=rC p.gp (names2 p) (λc hc=>h1 c (.inr (.inr (.inr (.inl hc))))) n2;obtain⟨U,o4⟩:=rC p.fP (qo p) (λc hc=>h1 c (.inr (.inr (.inr (.inr (.inl hc)))))) O;exact⟨U,V,o2,o3,o4⟩
end
theorem Hm(p:aj):(lH p).map (·.1)=fC p:=by
 unfold lH fC qo names2 pF;simp only[aO,dw]
 rfl
def Tv(p:aj):List bO:=p.aA.flatMap λq=>q.bC.map (wP q)
section
variable {p:aj}(h:fF p)
include h
theorem fF.bC(i:Nat)(hi:i<p.aA.length):(eO p++(p.aA[i]).bC.map bO.aT).Nodup/\∀d∈(p.aA[i]).bC,MC p false d:=by
 have D:(eO p).Nodup:=by
  unfold eO;rw[Hm];exact h.decls.1
 exact rC _ _ (h.proc i hi).1.bC D
theorem fF.undP(hne:p.aA≠[]){q:bG}(hq:q∈p.aA):kE q.aT.data.toList=true/\UQ q.aT/\∀d∈q.bC,kE d.aT.data.toList=true/\UQ d.aT:=by
 obtain⟨i,hi,rfl⟩:=gm hq;obtain⟨h1,D⟩:=FD hne (h.proc i hi).1.named;exact⟨h1,D,λd O=>FD hne ((h.bC i hi).2 d O).1⟩
end
section
variable {p:aj}(h:fF p)(hne:p.aA≠[])
include h hne
end
theorem Nk{α:Type}{T:List (ByteArray × α)}{s:ByteArray}{x:α}(h:look T s=some x):(s,x)∈T:=by
 unfold look at h;cases hf:T.find? λx=>decide (x.1=s)with
 |none=>rw[hf]at h;cases h
 |some y =>
  rw[hf]at h;have h1:=List.find?_some hf;have D:=List.mem_of_find?_eq_some hf;rw[aU]at h1;obtain⟨a,b⟩:=y;injection h with h
  dsimp only at h h1
  rw[<-h,<-h1];exact D
structure UM(p q:aj)(E F:Env)(τ:ByteArray->ByteArray):Prop where
 aS:q.aS=p.aS
 find:∀n,(dJ p E n).bI≠0->(dJ q F (τ n)).aS=(dJ p E n).aS/\(dJ q F (τ n)).bI=if(dJ p E n).bI=5 then 3 else(dJ p E n).bI
section
variable {p q:aj}{E F:Env}{τ:ByteArray->ByteArray}(m:UM p q E F τ)
include m
end
section
variable {p q:aj}{E F:Env}{τ:ByteArray->ByteArray}(m:UM p q E F τ)(hlim:jd p 32 1000<=jd q 32 1000)
include m hlim
end
end
section
section
variable {p:aj}(h:fF p)(hne:p.aA≠[])
include h hne
end
section
variable {p:aj}{E:Env}{τ:ByteArray->ByteArray}(m:UM p (pR p) E outside τ)
include m
end
theorem wZ{l:List aa}{c:ByteArray}(h:c∈eT l):∃s∈l.flatMap aa.pre,s.bI=8/\s.aT=c:=by
 rw[gZ]at h;obtain⟨s,O,h⟩:=List.mem_flatMap.1 h;rw[CW]at h;obtain⟨x,hx,rfl⟩:=List.mem_map.1 h;obtain⟨h1,D⟩:=List.mem_filter.1 hx;exact⟨x,List.mem_flatMap.2 ⟨s,O,h1⟩,dB D,rfl⟩
section
variable {p:aj}(h:fF p)(hne:p.aA≠[])
include h hne
theorem fF.few:p.aA.length<=16/\p.gp.length<=16:=by
 have D:=h _ (by unfold jf;exact aD ..);unfold kZ at D;by_cases a:p.iF<1\/p.iF>8\/ik p.aS=false
 .rw[if_pos a]at D;cases D
 .rw[if_neg a]at D
  by_cases b:p.fB.length>16\/p.ek.length>16\/(p.gp.length:Int)>jd p 16 256\/p.fP.length>16\/p.aA.length>16\/(eF p:Int)>jd p 2000 20000
  .rw[if_pos b]at D;cases D
  .have e:jd p 16 256=16:=by
    unfold jd;rw[if_pos (List.length_pos_iff.2 hne)]
   omega
omit h in
end
end
section
section
variable {p:aj}(h:fF p)(hne:p.aA≠[])
include h hne
end
theorem Pz(p:aj)(B:Nat->List aa)(s:aa)(h:∀x∈s.pre,x.bI≠8):(inT p B s).map aJ=[aJ s]:=by
 induction s using aa.ind with
 |h k n es ex b ts th os el D O =>
  have hk:k≠8:=h (.mk k n es ex b ts th os el) (by rw[aa.pre_eq];exact aD ..);have each:∀l:List aa,(∀s∈l,(inT p B s).map aJ=[aJ s])->(fG p B l).map aJ=l.map aJ:=λl=>by
   induction l with
   |nil=>intro _;rw[fG]
   |cons s l U =>
    intro hl;rw[fG,aO,hl s (aD ..),U λt ht=>hl t (au _ ht)]
    rfl
  rw[inT,if_neg hk,ax,dh,dS,dS,each th λt ht=>D t ht λx hx=>h x (by
   rw[aa.pre_eq];exact au _ (cz _ (List.mem_flatMap.2 ⟨t,ht,hx⟩))),each el λt ht=>O t ht λx hx=>h x (by
   rw[aa.pre_eq];exact au _ (bF _ (List.mem_flatMap.2 ⟨t,ht,hx⟩)))]
theorem Fh(p:aj)(B:Nat->List aa):∀l:List aa,(∀x∈l.flatMap aa.pre,x.bI≠8)->(fG p B l).map aJ=l.map aJ
 |[],_=>by rw[fG]
 |s::l,h=>by
  rw[bA]at h;rw[fG,aO,Pz p B s λx hx=>h x (cz _ hx),Fh p B l λx hx=>h x (bF _ hx)]
  rfl
end
theorem wS{P:Program}{Q:Exit->Act->World->Prop}{a:Act}{w:World}{C C':Code}(h:C=C')(D:C'.wp P Q a w):C.wp P Q a w:=by subst h;exact D

theorem wrap_small{x:Int}(h:-2000000<=x/\x<=2000000):IntKind.i64.wrap x=x:=by
 unfold IntKind.wrap;simp[IntKind.bits,IntKind.signed];omega
def Mc(p:aj)(size:Int):List Int :=
 kZ p size::(gH p false p.fB []++(gH p false p.ek (pF p)++(gH p false p.gp (names2 p)++(gH p true p.fP (qo p)++(jv p outside 1 p.eD 1++jA p p.eQ [])))))
theorem ze(p:aj)(size:Int):jf p size=Mc p size++(fO p p.aA 0 (fC p)++(eH p outside p.eX 1++(eH p outside p.eB 1++jv p outside 2 p.d9 1))):=by
 unfold jf Mc;simp only[dC,aY]
theorem FE{M:jr}{p:aj}(h:IsHead M p):fC p=(kV M++jo M++mh M++[(M.N.a,(⟨4,M.w⟩:gV))]).map (·.1):=by
 obtain⟨z,_,_,hz⟩:=h.fP;unfold fC qo names2 pF;rw[h.fB,h.ek,h.gp,hz];have e:(lG M).map bO.aT=(kV M).map (·.1):=by
  unfold lG kV;rw[List.map_take,List.map_take];rfl
 rw[e];simp only[aO]
 rfl
theorem rz{M:jr}{p:aj}(h:IsHead M p)(D:su M.N=true):(fC p).Nodup:=by
 rw[FE h];exact vw D
theorem sj{M:jr}{p:aj}(h:IsHead M p):∀s∈fC p,s∈[M.N.i,M.N.j,M.N.g,M.N.h,M.N.v,M.N.c,M.N.a]:=by
 rw[FE h];exact λs D=>AY.subset D
theorem Rh{M:jr}{p:aj}(D:su M.N=true){d:bO}(h1:d.aT∈[M.N.i,M.N.j,M.N.g,M.N.h,M.N.v,M.N.c,M.N.a]):kH p d.aT.data.toList=true :=
 qL (DI D _ h1).1 (DI D _ h1).2.1
theorem PH{M:jr}{p:aj}(h:IsHead M p)(V:su M.N=true):∀(l:List dH) (before:List Int),(∀i∈l,0<=i.block/\i.block<p.iF/\WX M 1 1 M.w i.bv)->l.Pairwise (λx y=>x.block<y.block)->(∀b∈before,∀i∈l,b<i.block)->jF (jA p l before)
 |[],_,_,_,_=>.nil
 |x::l,before,h1,D,U=>by
  rw[jA];obtain⟨b1,b2,O⟩:=h1 x (aD ..);rw[List.pairwise_cons]at D;have hE:=uJ h V (-1);have e:xL p before x=0:=by
   unfold xL;have hb:x.block∉before:=λhm=>by have:=U _ hm x (aD ..);omega
   rw[if_neg (by
           rintro(h|h|h)
           .omega
           .omega
           .exact hb h),if_neg]
   rw[show outside=⟨-1,[]⟩from rfl,(O.aS h.ok hE).1,h.aS,gK]
   decide
  refine .append (.cons e (O.codes h.ok hE 1 (by omega))) (PH h V l _ (λi hi=>h1 i (au _ hi)) D.2 λb hb i hi=>?_);rcases List.mem_append.1 hb with hb|hb
  .exact U b hb i (au _ hi)
  .rw[List.mem_singleton.1 hb];exact D.1 i hi
theorem Ug{M:jr}{p:aj}(h:IsHead M p)(hN:su M.N=true)(hp:p.aA.length<=16){size:Int}(hs:size<=2000):jF (Mc p size):=by
 obtain⟨z,z1,z2,hz⟩:=h.fP;obtain⟨U,aq,_⟩:=h.ok;have ad:=rz h hN;have ao:=sj h;have ab:(qo p).Nodup:=ad.sublist (List.sublist_append_left _ _);have V:(names2 p).Nodup:=ab.sublist (List.sublist_append_left _ _);have ap:(pF p).Nodup:=V.sublist (List.sublist_append_left _ _);have O:∀d,d∈p.fB\/d∈p.ek\/d∈p.gp\/d∈p.fP->kH p d.aT.data.toList=true:=λd D=>by
  refine Rh hN (ao _ ?_);unfold fC qo names2 pF;simp only[dF,Ag];rcases D with D|D|D|D
  .exact .inl (.inl (.inl ⟨d,D,rfl⟩))
  .exact .inl (.inl (.inr ⟨d,D,rfl⟩))
  .exact .inl (.inr ⟨d,D,rfl⟩)
  .exact .inr ⟨d,D,rfl⟩
 have am:∀d∈p.fB,(1<=d.aS/\d.aS<=16)/\d.size=0:=λd D=>by
  rw[h.fB]at D;have:=jm D;simp at this;rcases this with rfl|rfl<;>simp<;>omega
 have al:∀d∈p.ek,(1<=d.aS/\d.aS<=16)/\d.size=0:=λd D=>by
  rw[h.ek]at D;simp[ry]at D;rcases D with rfl|rfl<;>simp<;>omega
 have an:∀d∈p.gp,(1<=d.aS/\d.aS<=16)/\d.size=0:=λd D=>by
  rw[h.gp]at D;simp[BS]at D;rcases D with rfl|rfl<;>simp<;>omega
 have hE:=uJ h hN (-1);unfold Mc;refine .cons ?_ (.append (vX _ _ (by simpa[pF]using ap) λd D=>⟨O d (.inl D),(am d D).1,by simpa using(am d D).2⟩) (.append (vX _ _ V λd D=>⟨O d (.inr (.inl D)),(al d D).1,by simpa using(al d D).2⟩)
  (.append (vX _ _ ab λd D=>⟨O d (.inr (.inr (.inl D))),(an d D).1,by simpa using(an d D).2⟩) (.append (vX _ _ ad λd D=>⟨O d (.inr (.inr (.inr D))),?_⟩) (.append (h.eD.codes h.ok hE 1 (by omega)) (PH h hN _ _ h.eQ h.blocksN (by simp)))))))
 .obtain⟨b1,b2⟩:=h.iF
  unfold kZ;rw[if_neg (by rw[h.aS,mY ⟨U,by omega⟩];simp;omega),if_neg];have e1:p.fB.length<=2:=by rw[h.fB];exact ai (List.length_take_le' _ _) (af _)
  have e2:p.ek.length=2:=by rw[h.ek];rfl
  have e3:p.gp.length=2:=by rw[h.gp];rfl
  have e4:p.fP.length=1:=by rw[hz];rfl
  have e5:(16:Int)<=jd p 16 256:=by unfold jd;split<;>omega
  have e6:(2000:Int)<=jd p 2000 20000:=by unfold jd;split<;>omega
  omega
 .rw[hz]at D
  simp at D;subst D;exact⟨⟨U,show M.w<=16 by omega⟩,by simp;omega⟩
theorem II{M:jr}{p:aj}(h:IsHead M p):p.fB.length+p.ek.length+p.gp.length+p.fP.length+1+p.eD.pre.length+(p.eQ.map λi=>1+i.bv.pre.length).sum+p.d9.pre.length<=76:=by
 obtain⟨z,_,_,hz⟩:=h.fP;have V:p.fB.length<=2:=by rw[h.fB];exact ai (List.length_take_le' _ _) (af _)
 have e2:p.ek.length=2:=by rw[h.ek];rfl
 have e3:p.gp.length=2:=by rw[h.gp];rfl
 have e4:p.fP.length=1:=by rw[hz];rfl
 have D:=h.eD.few;have O:=h.d9.few;have e7:(p.eQ.map λi=>1+i.bv.pre.length).sum<=p.eQ.length*5:=by
  have:∀l:List dH,(∀i∈l,i.bv.pre.length<=4)->(l.map λi=>1+i.bv.pre.length).sum<=l.length*5:=by
   intro l;induction l with
   |nil=>intro _;simp
   |cons x l U =>
    intro hl;have h1:=hl x (aD ..);have h2:=U λi hi=>hl i (au _ hi)
    simp only[ax,bL,aF];omega
  exact this _ λi hi=>((h.eQ i hi).2.2.few:_)
 have e8:=h.iQ;simp only[Hz]at D O;omega
theorem FK{M:jr}{p:aj}(h:IsHead M p)(D:su M.N=true):xB∉fC p/\pB∉fC p :=
 ⟨λhm=>(QU D _ (sj h _ hm)).1 rfl,λhm=>(QU D _ (sj h _ hm)).2 rfl⟩
theorem tC(p:aj):eO p=fC p:=by
 unfold eO lH fC qo names2 pF;simp[aO,Function.comp_def]
theorem SE{M:jr}{hasP:Bool}{p:aj}(h:IsHead M p)(V:su M.N=true){q:bG}(hq:vN M hasP q){i:Nat}(hi:p.aA[i]?=some q){before:List ByteArray}(hb:pB∉before):jF (nM p before i q):=by
 obtain⟨D,O,U⟩:=h.ok;have hx:=FK h V;unfold nM;refine .cons ?_ (.append ?_ (nU λs hs=>?_))
 .unfold xP
  rw[hq.aT,hq.bC];have e:lK before pB=false:=by
   unfold lK;rw[List.any_eq_false];intro x hx;simp only[aU];rintro rfl;exact hb hx
  have e2:kH p pB.data.toList=true:=qL (by decide) (by decide);rw[if_neg (by rw[e,e2];simp),if_neg (by simp)]
 .rw[hq.bC]
  refine vX _ _ ?_ λd hd=>?_
  .rw[tC,j6]
   refine⟨rz h V,by simp,λa ha b hb=>?_⟩;simp at hb;rw[hb];exact λe=>hx.1 (e ▸ ha)
  .simp at hd
   subst hd;exact⟨qL (s:=xB.data.toList) (by decide) (by decide),⟨D,show M.w<=16 by omega⟩,by simp⟩
 .have e:inside p i=⟨i,[(xB,⟨5,M.w⟩)]⟩:=by
   unfold inside nC;rw[hi];simp only[hq.bC];rfl
  rw[e];exact(hq.eY s hs).codes (M:={ M with iR:=true }) ⟨D,O,U⟩ (Tf h V i) (λ_ hf=>by cases hf) 1 (by omega)
theorem UV{M:jr}{p:aj}(h:IsHead M p)(D:su M.N=true):jF (jv p outside 2 p.d9 1):=h.d9.codes h.ok (uJ h D (-1)) 1 (by omega)
theorem Jp{p:aj}{k:Nat}(hk:eF p=k)(h:k<=20000)(hz:jF (jf p k)):lc p=(0,0)/\Ha p=[]:=by
 have hl:(jf p 0).length=k:=by rw[mO,hk]
 have hp:lD (jf p k) 0=[]:=(FT _ _).2 hz;exact⟨za hl h (by rw[hp];rfl),by rw[Qv hl h,hp]⟩
theorem Km{M:jr}{p:aj}(h:IsHead M p)(O:su M.N=true):∀d,d∈p.fB++p.ek++p.gp++p.fP->d.aT.size<=4294967200:=λd D=>by
 have hm:d.aT∈fC p:=by
  unfold fC qo names2 pF;simp only[dF,Ag]at D ⊢;rcases D with ((D|D)|D)|D
  .exact .inl (.inl (.inl ⟨d,D,rfl⟩))
  .exact .inl (.inl (.inr ⟨d,D,rfl⟩))
  .exact .inl (.inr ⟨d,D,rfl⟩)
  .exact .inr ⟨d,D,rfl⟩
 have:=(DI O _ (sj h _ hm)).2.2;omega
theorem DV{M:jr}{hasP:Bool}{q:bG}(h:vN M hasP q):q.aT.size<=4294967200/\∀d∈q.bC,d.aT.size<=4294967200:=by
 rw[h.aT,h.bC];refine⟨by decide,λd D=>?_⟩;simp at D;subst D;show xB.size<=4294967200
 decide
section
section
variable {f t:ByteArray}
end
end
section
theorem WT.calls_no{M:jr}(U:M.iR=true){hasP:Bool}{d:Nat}{s:aa}(h:WT M hasP d s):∀x,x∈s.pre->x.bI≠8:=by
 induction h with
 |write _ _=>intro x hx;rw[aa.pre_eq]at hx;simp[fw,aa.gy,aa.iD]at hx;subst hx;simp[aa.bI]
 |flush hk=>intro x hx;rw[aa.pre_eq]at hx;simp[yo,aa.gy,aa.iD]at hx;subst hx;simp[aa.bI];omega
 |set _ _=>intro x hx;rw[aa.pre_eq]at hx;simp[ji,aa.gy,aa.iD]at hx;subst hx;simp[aa.bI]
 |put _ _=>intro x hx;rw[aa.pre_eq]at hx;simp[aa.gy,aa.iD]at hx;subst hx;simp[aa.bI]
 |cond _ _ _ _ _ O V =>
  intro x hx;rw[aa.pre_eq,bE,dF,nJ,nJ]at hx;rcases hx with rfl|⟨s,D,hx⟩|⟨s,D,hx⟩
  .simp[aa.bI]
  .exact O s D x hx
  .exact V s D x hx
 |loop _ _ _ _ _ O =>
  intro x hx;rw[aa.pre_eq,bE,dF,nJ,nJ]at hx;rcases hx with rfl|⟨s,D,hx⟩|⟨s,D,hx⟩
  .simp[aa.bI]
  .exact O s D x hx
  .simp[aa.iD]at D
 |call h1 _ _=>rw[U]at h1;cases h1
theorem Dl{α β:Type}(f:α->β->α):∀(l:List β) (a:α),(∀x∈l,f a x=a)->l.foldl f a=a
 |[],_,_=>rfl
 |x::l,a,h=>by
  rw[il,h x (aD ..)];exact Dl f l a λy D=>h y (au _ D)
theorem BA{l:List aa}(h:∀s,s∈l->∀x,x∈s.pre->x.bI≠8):jG l=[]:=by
 unfold jG;refine Dl _ _ _ λx hx=>?_
 obtain⟨s,O,D⟩:=List.mem_flatMap.1 hx;rw[if_neg (h s O x D)]
section
variable {M:jr}{hasP:Bool}{p:aj}{rs ws:Sp}
end
section
variable {M:jr}{hasP:Bool}{p p':aj}
end
section
variable {M:jr}{hasP:Bool}{p:aj}{rs ws:Sp}
end
end
theorem FX(w:World)(p:aj)(hp:jT w.heap.size w p)(am:0<w.heap.size)(hN:ng p)(hwt:l9 p<=1125899906842624)(hmx:MxAt w) :
  Calls Tryz.prog 51 #[.agg p.arr] w λo w'=>o=.returned (.bool (decide ((lc p).2=0)))/\Below w.heap.size w w':=by
 have O:=jc w (.cells p.arr 35);have hB:=gM w (.cells p.arr 35);have ad:=MP _ p (hp.on O) (aI am O.size) hN hwt (hmx.below O am);have D:=dZ p;rw[Ct]at ad;generalize lc p=ck at *;have al:=ae ad;have HB:=ae hB;have V:=ae O;clear ad hB O;generalize p.arr=an at *;by_cases e:ck.2=0
 .have hd:decide (ck.2=0)=true:=aC e
  have he:(ck.2 == 0)=true:=by simpa using e
  rw[hd];clear hd e;go_enter Tryz.func51,Tryz.ntmps51
  go_wp2_with(first|(refine bH rfl 35 _ rfl w.heap.size rfl 35 _ (0,0) _ HB.o Tryz.underlying35 rfl D ?_)|(go_at_call 108;refine al.o.mono ?_;rintro o2 w2 ⟨rfl,U⟩;have ab:=ae U;clear U)|fail)
  go_ret
  exact⟨rfl,V.o.trans (ab.o.mono V.o.size)⟩
 .have hd:decide (ck.2=0)=false:=az e
  have he:(ck.2 == 0)=false:=by simpa using e
  rw[hd];clear hd e;go_enter Tryz.func51,Tryz.ntmps51
  go_wp2_with(first|(refine bH rfl 35 _ rfl w.heap.size rfl 35 _ (0,0) _ HB.o Tryz.underlying35 rfl D ?_)|(go_at_call 108;refine al.o.mono ?_;rintro o2 w2 ⟨rfl,U⟩;have ab:=ae U;clear U)|fail)
  go_ret
  exact⟨rfl,V.o.trans (ab.o.mono V.o.size)⟩

section
section
variable {w wr W':World}{l cur:List aa}{k:Nat}{A:Option Addr}{c:Nat}
end
end

end Go.Proofs.YtepacjkacjabbaaGreatDoor
