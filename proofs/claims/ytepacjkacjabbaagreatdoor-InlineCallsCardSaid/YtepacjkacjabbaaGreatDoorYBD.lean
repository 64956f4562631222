import Derived.Test.YtepacjkacjabbaaGreatDoorYBB
import Derived.Test.YtepacjkacjabbaaGreatDoorYBC
set_option linter.all false
set_option maxRecDepth 10000000
set_option maxHeartbeats 64000000
namespace Go.Proofs.YtepacjkacjabbaaGreatDoor
open Go Go.Maps Go.RowKit
theorem JY(w:World)(bp:Nat)(p:aj)(sl:Sp)(l:List aa)(hx:Bx bp w p)(hp:jT w.heap.size w p)(hl:gq w.heap.size w sl l)(ap:0<w.heap.size)(hmx:MxAt w)(hr:rH (withW p sl l))(hwt:lI (withW p sl l)<=20000) :
  Calls Tryz.prog 31 #[.slice sl.dO l.length sl.df,.pointer (some ⟨bp,0,none⟩)] w λo w'=>∃q:aj,o=.returned (.slice q.ws.dO q.eX.length q.ws.df)/\dx q=dx (pR (withW p sl l))/\sJ w.heap.size w' q/\Below w.heap.size w w':=by
 have HI:=ae λ(W:World) (hW:Below w.heap.size w W) (h:jT W.heap.size W (withW p sl l))=>Mf W (withW p sl l) h (aI ap hW.size) (hmx.below hW ap) hr hwt
 have HX:=ae hx;have HP:Hid (jT w.heap.size w (withW p sl l)):=ae { hp with eX:=hl };clear hx hp hl hmx hr hwt;go_enter Tryz.func31,Tryz.ntmps31
 go_upto_region 2 with (first
  |(refine bH rfl 35 _ rfl bp rfl 35 _ (0,0) _ HX.o Tryz.underlying35 rfl (dZ _) ?_)
  |(refine dY (t:=35) rfl rfl (jQ _) ?_)
  |(refine aK rfl 35 _ _ rfl w.heap.size p.arr (by rfl) (by rfl) 35 ed.arr (gM _ _) (dZ _) (by kernel_rfl) (lX _) ?_)
  |fail)
 have D:Below w.heap.size w ((w.alloc (.cells ed.arr 35)).setRow w.heap.size p.arr):=below_setRow ((ag _ _).alloc (af _) _) (af _);have ad:Bx w.heap.size ((w.alloc (.cells ed.arr 35)).setRow w.heap.size p.arr) p:=bM _ _ _ _ _ _ (gM _ _);generalize (w.alloc (.cells ed.arr 35)).setRow w.heap.size p.arr=w1 at *;have hh:w1.heap[w.heap.size]?=_:=ad;have f14:w1.frozen? ⟨w.heap.size,14,none⟩=false:=by simp[World.frozen?,hh]
 have V:=ad.cell 14 rfl;simp only[Sp.val]at V;clear hh;go_upto_region 3 with fail
 have ar:Bx w.heap.size (w1.setCell ⟨w.heap.size,14,none⟩ (.slice sl.dO l.length sl.df)) (withW p sl l):=ad.put 14 _ (by simp[withW,aj.arr,aj.cells,Sp.val]);have ab:Below w.heap.size w (w1.setCell ⟨w.heap.size,14,none⟩ (.slice sl.dO l.length sl.df)):=D.setCell (p:=⟨w.heap.size,14,none⟩) (af _) _;generalize w1.setCell ⟨w.heap.size,14,none⟩ (.slice sl.dO l.length sl.df)=w4 at *;have am:=ae ar;have U:=ae ab;have HW:=ae (HI.o w4 ab (HP.o.on ab));clear ad ar ab D f14 V HX HI HP;obtain⟨pw,an⟩:∃x,x=withW p sl l:=⟨_,rfl⟩;rw[<-an]at am HW;have a3:=ae an;clear an;go_wp2_with(first
  |(refine bH rfl 35 _ rfl w.heap.size rfl 35 _ (0,0) _ am.o Tryz.underlying35 rfl (dZ _) ?_)
  |fail)
 refine HW.o.mono ?_;rintro o O ⟨q,rfl,hq,aq,hb⟩;have HQ:=ae hq;have ao:Hid (sJ w.heap.size O q):=ae (sJ.less aq U.o.size);have al:=ae (U.o.trans (hb.mono U.o.size));clear hq aq hb HW am U;go_upto_region 4 with (first
  |(refine dY (t:=35) rfl rfl (jQ _) ?_)
  |(refine aK rfl 35 _ _ rfl O.heap.size q.arr (by rfl) (by rfl) 35 ed.arr (gM _ _) (dZ _) (by kernel_rfl) (lX _) ?_)
  |fail)
 have D:Below O.heap.size O ((O.alloc (.cells ed.arr 35)).setRow O.heap.size q.arr):=below_setRow ((ag _ _).alloc (af _) _) (af _);have aw:Bx O.heap.size ((O.alloc (.cells ed.arr 35)).setRow O.heap.size q.arr) q:=bM _ _ _ _ _ _ (gM _ _);generalize (O.alloc (.cells ed.arr 35)).setRow O.heap.size q.arr=w6 at *;have a4:=ae (ao.o.below D);have a1:=ae (al.o.trans (D.mono al.o.size));have V:=aw.cell 14 rfl;simp only[Sp.val]at V;clear D aw ao al;go_wp2_with fail
 go_ret
 exact⟨q,rfl,a3.o ▸ HQ.o,a4.o,a1.o⟩
def EJ(p:aj)(l r:List aa):Prop:=∀sl:Sp,rH (withW p sl l)/\lI (withW p sl l)<=20000/\∀q:aj,dx q=dx (pR (withW p sl l))->q.eX.map aJ=r/\aV q.eX<=20000
theorem LD(p:aj):aV p.eX<=eF p:=by unfold eF;omega
theorem zn{p m:aj}{M:jr}{hasP:Bool}(hp:dx p=dx m){l k r:List aa}(hl:l.map aJ=k.map aJ)(h:∀ws,ou (withW m ws k) M hasP)(hr:xK p l=r):EJ p l r:=λsl=>by
 have hb:=LC (ws:=sl) (vs:=sl) hp hl;have D:=AP hb (h sl).good;have U:lI (withW p sl l)<=20000:=by
  rw[Ac hb D.right (h sl).good.right];have:=(h sl).weight;omega
 have O:eF (pR (withW p sl l))<=20000:=by have:=qy D.right;omega
 refine⟨D,U,λq hq=>?_⟩;have e:q.eX.map aJ=(pR (withW p sl l)).eX.map aJ:=congrArg aj.eX hq;refine⟨by rw[e,Px,hr],?_⟩;rw[<-iV,e,iV];exact ai (LD _) O
structure QY(p:aj):Prop where
 kv:aV p.eX<=1100
 all:EJ p p.eX (xK p p.eX)
 one:∀(k:Nat) (h:k<p.eX.length),EJ p [p.eX[k]] (xK p [p.eX[k]])
 call:∀sp:Sp,EJ p [dN sp bQ [aZ bV,cO 1 1]] ((Ab p.aS).map aJ)
 iff:∀es ts os sp:Sp,EJ p [.mk 6 ⟨#[]⟩ es [aZ bV] 0 ts [dN sp bQ [aZ bV,cO 1 1]] os p.eX] [.mk 6 ⟨#[]⟩ Sp.none [bX (aZ bV)] 0 Sp.none ((Ab p.aS).map aJ) Sp.none (xK p p.eX)]
 wf:(Lit.int .i64 p.aS).wf=true
theorem Re{p p0:aj}{M:jr}{hasP:Bool}{D:Nat}(h0:xW M hasP p0)(hN:M.N=std)(hp:dx p=dx (uP p0 hasP D)):QY p:=by
 have hm:=Rv h0 hN D;have hK:=K3 h0 D;obtain⟨O,ab⟩:=IY h0 D;generalize uP p0 hasP D=m at *;have hl:p.eX.map aJ=m.eX.map aJ:=congrArg aj.eX hp;have hq:p.aA.map gF=m.aA.map gF:=congrArg aj.aA hp;have ad:p.aS=m.aS:=(congrArg aj.aS hp:(dx p).aS=(dx m).aS);have hw:p.aS=M.w:=ad.trans hm.head.aS;have V:p.eX.length=m.eX.length:=by simpa using congrArg List.length hl
 have ha:xK p p.eX=xK m m.eX:=zl hq hl;refine⟨?_,zn hp hl (λws=>hm.withW hm.workZ hm.workL hm.workC) rfl,λk hk=>?_,λsp=>?_,λes ts os sp=>?_,?_⟩
 .rw[<-iV,hl,iV]
  exact O
 .have U:k<m.eX.length:=V ▸ hk
  have e:aJ p.eX[k]=aJ m.eX[k]:=by
   have h1:=congrArg (·[k]?) hl
   simpa[iK,aX hk,aX U]using h1
  exact zn hp (k:=[m.eX[k]]) (by rw[ax,ax,e]) (λws=>PK hm (ak U)) rfl
 .refine zn hp (k:=[dN sp bQ [aZ bV,cO 1 1]]) rfl (λws=>Nc hm) ?_
  rw[zl hq rfl,(zo hm (es:=sp) (ts:=sp) (os:=sp)).1,hw]
 .refine zn hp (k:=[.mk 6 ⟨#[]⟩ es [aZ bV] 0 ts [dN sp bQ [aZ bV,cO 1 1]] os m.eX]) ?_ (λws=>Rt hm hK O ab) ?_
  .rw[ax,ax,dS,dS,hl]
  .rw[zl hq (m:=[.mk 6 ⟨#[]⟩ es [aZ bV] 0 ts [dN sp bQ [aZ bV,cO 1 1]] os m.eX]) (by rw[ax,ax,dS,dS,hl]),(zo hm).2,hw,ha]
 .have h1:=hm.head.ok
  rw[hw];obtain⟨a,b,_⟩:=h1;have h3:M.w=1\/M.w=2\/M.w=3:=by omega
  rcases h3 with e|e|e<;>rw[e] <;>decide
theorem uF(w:World)(bp:Nat)(p:aj)(sl:Sp)(l r:List aa)(hx:Bx bp w p)(hp:jT w.heap.size w p)(hl:gq w.heap.size w sl l)(O:0<w.heap.size)(hmx:MxAt w)(h:EJ p l r)(n:Nat)(hn:l.length=n) :
  Calls Tryz.prog 31 #[.slice sl.dO n sl.df,.pointer (some ⟨bp,0,none⟩)] w λo w'=>∃(ws:Sp) (m:List aa),o=.returned (.slice ws.dO m.length ws.df)/\m.map aJ=r/\aV m<=20000/\j4 w.heap.size w' ws m/\Below w.heap.size w w':=by
 subst hn;obtain⟨h1,U,V⟩:=h sl;refine(JY w bp p sl l hx hp hl O hmx h1 U).mono ?_;rintro o w' ⟨q,rfl,hq,D,hb⟩;obtain⟨h4,h5⟩:=V q hq;exact⟨q.ws,q.eX,rfl,h4,h5,⟨D.eX.row,D.eX.ok⟩,hb⟩
theorem Ot(w:World)(a b c e d:Sp)(wd:Int)(h1:kW w (ji a ⟨#[113,46,121]⟩ (aZ bV)))(D:kW w (ji b ⟨#[113,46,122]⟩ (cO 1 1)))(O:kW w (fw c (aZ ⟨#[113,46,122]⟩) (rU 3 (aZ ⟨#[113,46,121]⟩) (cO 1 wd) e)))(U:kW w (ji d ⟨#[113,46,121]⟩ (cO 0 wd))) :
  gq (w.alloc (.cells #[.int .u8 1,.string ⟨#[113,46,121]⟩,.slice a.dO 1 a.df,.int .i64 0,.slice none 0 0,.slice none 0 0,.int .u8 1,.string ⟨#[113,46,122]⟩,.slice b.dO 1 b.df,.int .i64 0,.slice none 0 0,.slice none 0 0,.int .u8 3,.string ⟨#[]⟩,.slice c.dO 2 c.df,.int .i64 0,.slice none 0 0,.slice none 0 0,.int .u8 1,.string ⟨#[113,46,121]⟩,.slice d.dO 1 d.df,.int .i64 0,.slice none 0 0,.slice none 0 0] 43)).heap.size (w.alloc (.cells #[.int .u8 1,.string ⟨#[113,46,121]⟩,.slice a.dO 1 a.df,.int .i64 0,.slice none 0 0,.slice none 0 0,.int .u8 1,.string ⟨#[113,46,122]⟩,.slice b.dO 1 b.df,.int .i64 0,.slice none 0 0,.slice none 0 0,.int .u8 3,.string ⟨#[]⟩,.slice c.dO 2 c.df,.int .i64 0,.slice none 0 0,.slice none 0 0,.int .u8 1,.string ⟨#[113,46,121]⟩,.slice d.dO 1 d.df,.int .i64 0,.slice none 0 0,.slice none 0 0] 43)) ⟨some ⟨w.heap.size,0,none⟩,4⟩ [ji a ⟨#[113,46,121]⟩ (aZ bV),ji b ⟨#[113,46,122]⟩ (cO 1 1),fw c (aZ ⟨#[113,46,122]⟩) (rU 3 (aZ ⟨#[113,46,121]⟩) (cO 1 wd) e),ji d ⟨#[113,46,121]⟩ (cO 0 wd)]:=by
 have hb:=(ag _ w).alloc (af _) (.cells #[.int .u8 1,.string ⟨#[113,46,121]⟩,.slice a.dO 1 a.df,.int .i64 0,.slice none 0 0,.slice none 0 0,.int .u8 1,.string ⟨#[113,46,122]⟩,.slice b.dO 1 b.df,.int .i64 0,.slice none 0 0,.slice none 0 0,.int .u8 3,.string ⟨#[]⟩,.slice c.dO 2 c.df,.int .i64 0,.slice none 0 0,.slice none 0 0,.int .u8 1,.string ⟨#[113,46,121]⟩,.slice d.dO 1 d.df,.int .i64 0,.slice none 0 0,.slice none 0 0] 43);refine⟨iX (λ_=>rfl) rfl (by simp) (gM w _),λt ht=>?_⟩;simp only[bE,bu,or_false]at ht;rcases ht with rfl|rfl|rfl|rfl
 .exact kW.on h1 hb
 .exact kW.on D hb
 .exact kW.on O hb
 .exact kW.on U hb
theorem LB(a b c e d:Sp)(wd:Int):([ji a ⟨#[113,46,121]⟩ (aZ bV),ji b ⟨#[113,46,122]⟩ (cO 1 1),fw c (aZ ⟨#[113,46,122]⟩) (rU 3 (aZ ⟨#[113,46,121]⟩) (cO 1 wd) e),ji d ⟨#[113,46,121]⟩ (cO 0 wd)]:List aa).map aJ=(Ab wd).map aJ:=rfl
noncomputable def opsI16:Array Oper:=((Tryz.f5.body.bind (opsOf 16)).getD #[])
def CB(t:Nat):Bool:=decide (t<15) || (decide (15<t) && decide (t<59)) || decide (74<t)
theorem ND:jH opsI16 17 93 CB=true:=by kernel_rfl
theorem TC{a0:Act}{w0:World}(an:a0.tmps.size=93)(bp:Nat)(p:aj)(f5:a0.tmps[5]?.getD undef=.pointer (some ⟨bp,0,none⟩))(hx:Bx bp w0 p)(ao:(Lit.int .i64 p.aS).wf=true) :
  (Code.region 16 opsI16 true).wp Tryz.prog (λe' a w=>e'=.normal/\a.tmps.size=93/\a.defers=a0.defers/\(∀t:Nat,CB t=true->a.tmps[t]?.getD undef=a0.tmps[t]?.getD undef)/\(∃(b:Nat) (l:List aa),a.tmps[15]?.getD undef=.slice (some ⟨b,0,none⟩) 4 4/\l.map aJ=(Ab p.aS).map aJ/\l.length=4/\gq w.heap.size w ⟨some ⟨b,0,none⟩,4⟩ l)/\Below w0.heap.size w0 w) a0 w0:=by
 have x1:=hx.cell 1 rfl;have am:=hx.lt;generalize p.aS=wd at *;refine fQ (n:=17) (sz:=93) (keep:=CB) rfl ND an (λ_ w=>Below w0.heap.size w0 w) (λ_ w w'=>Below w.heap.size w w') ((ag _ _).drew) ?_;have e:opsI16.toList=opsI16.toList:=rfl
 conv at e=>rhs;arg 1;whnf
 simp only at e;rw[e];clear e;refine aQ.any (λL v w=>v=.agg #[.int .u8 2,.int .u8 0,.int .u32 0,.int .i64 0,.string bV,.slice none 0 0]) rfl ?_ ?_ ?_
 .exact λ_ _ _ _ _ _ _ V=>V
 .rintro L a w ⟨hL,O,U,ab,D⟩
  refine Oper.wp_enter (f:=33) (args:=#[.string bV]) (w':=w) ?_ ?_
  .simp[go_sem,bV]
  .refine(nz bV w).mono ?_
   rintro o w' ⟨rfl,hb⟩;exact⟨_,rfl,_,rfl,λe=>(by cases e),rfl,O.trans (hb.mono O.size),hb⟩
 refine aQ.any (λL v w=>∃sp:Sp,v=.agg #[.int .u8 1,.string ⟨#[113,46,121]⟩,.slice sp.dO 1 sp.df,.int .i64 0,.slice none 0 0,.slice none 0 0]/\kW w (ji sp ⟨#[113,46,121]⟩ (aZ bV))) rfl ?_ ?_ ?_
 .exact λ_ _ _ _ _ _ hR V=>V.imp λ_ h=>⟨h.1,h.2.on hR⟩
 .rintro L a w ⟨hL,O,U,ab,D⟩
  have ap:=aB (D.1 rfl).2;refine Oper.wp_enter (f:=35) (args:=#[.string ⟨#[113,46,121]⟩,.agg #[.int .u8 2,.int .u8 0,.int .u32 0,.int .i64 0,.string bV,.slice none 0 0]]) (w':=w) ?_ ?_
  .simp[go_sem,ap]
  .refine(zQ ⟨#[113,46,121]⟩ (by decide) (aZ bV) w (kY _ _ (by decide))).mono ?_
   rintro o w' ⟨sp,rfl,hn,hb⟩;exact⟨_,rfl,_,rfl,λe=>(by cases e),⟨sp,rfl,hn⟩,O.trans (hb.mono O.size),hb⟩
 refine aQ.any (λL v w=>v=.agg #[.int .u8 1,.int .u8 0,.int .u32 1,.int .i64 1,.string ⟨#[]⟩,.slice none 0 0]) rfl ?_ ?_ ?_
 .exact λ_ _ _ _ _ _ _ V=>V
 .rintro L a w ⟨hL,O,U,ab,D⟩
  refine Oper.wp_enter (f:=34) (args:=#[.int .u32 1,.int .i64 1]) (w':=w) ?_ ?_
  .simp[go_sem]
  .refine(pG 1 1 w).mono ?_
   rintro o w' ⟨rfl,hb⟩;exact⟨_,rfl,_,rfl,λe=>(by cases e),rfl,O.trans (hb.mono O.size),hb⟩
 refine aQ.any (λL v w=>∃sp:Sp,v=.agg #[.int .u8 1,.string ⟨#[113,46,122]⟩,.slice sp.dO 1 sp.df,.int .i64 0,.slice none 0 0,.slice none 0 0]/\kW w (ji sp ⟨#[113,46,122]⟩ (cO 1 1))) rfl ?_ ?_ ?_
 .exact λ_ _ _ _ _ _ hR V=>V.imp λ_ h=>⟨h.1,h.2.on hR⟩
 .rintro L a w ⟨hL,O,U,ab,D⟩
  have ar:=aB (D.1 rfl).2;refine Oper.wp_enter (f:=35) (args:=#[.string ⟨#[113,46,122]⟩,.agg #[.int .u8 1,.int .u8 0,.int .u32 1,.int .i64 1,.string ⟨#[]⟩,.slice none 0 0]]) (w':=w) ?_ ?_
  .simp[go_sem,ar]
  .refine(zQ ⟨#[113,46,122]⟩ (by decide) (cO 1 1) w (mU _ 1 1 (by decide) (by decide))).mono ?_
   rintro o w' ⟨sp,rfl,hn,hb⟩;exact⟨_,rfl,_,rfl,λe=>(by cases e),⟨sp,rfl,hn⟩,O.trans (hb.mono O.size),hb⟩
 refine aQ.any (λL v w=>v=.agg #[.int .u8 2,.int .u8 0,.int .u32 0,.int .i64 0,.string ⟨#[113,46,122]⟩,.slice none 0 0]) rfl ?_ ?_ ?_
 .exact λ_ _ _ _ _ _ _ V=>V
 .rintro L a w ⟨hL,O,U,ab,D⟩
  refine Oper.wp_enter (f:=33) (args:=#[.string ⟨#[113,46,122]⟩]) (w':=w) ?_ ?_
  .simp[go_sem]
  .refine(nz ⟨#[113,46,122]⟩ w).mono ?_
   rintro o w' ⟨rfl,hb⟩;exact⟨_,rfl,_,rfl,λe=>(by cases e),rfl,O.trans (hb.mono O.size),hb⟩
 refine aQ.any (λL v w=>v=.agg #[.int .u8 2,.int .u8 0,.int .u32 0,.int .i64 0,.string ⟨#[113,46,121]⟩,.slice none 0 0]) rfl ?_ ?_ ?_
 .exact λ_ _ _ _ _ _ _ V=>V
 .rintro L a w ⟨hL,O,U,ab,D⟩
  refine Oper.wp_enter (f:=33) (args:=#[.string ⟨#[113,46,121]⟩]) (w':=w) ?_ ?_
  .simp[go_sem]
  .refine(nz ⟨#[113,46,121]⟩ w).mono ?_
   rintro o w' ⟨rfl,hb⟩;exact⟨_,rfl,_,rfl,λe=>(by cases e),rfl,O.trans (hb.mono O.size),hb⟩
 apply aQ.exact rfl rfl;exact λ_ _ h=>h;exact λw=>ag _ w;rintro _ _ _ ⟨-,_,-,b,_⟩;simp[go_sem,(b 5 rfl).trans f5];exact rfl
 apply aQ.exact rfl rfl;exact λ_ _ h=>h;exact λw=>ag _ w;rintro _ _ _ ⟨-,b,-,_,c⟩;have a4:=aB (c.1 rfl).2;have c1:=(b.cell (p:=⟨bp,1,none⟩) am).trans x1;simp[go_sem,a4,c1];exact rfl
 refine aQ.any (λL v w=>v=.agg #[.int .u8 1,.int .u8 0,.int .u32 1,.int .i64 wd,.string ⟨#[]⟩,.slice none 0 0]) rfl ?_ ?_ ?_
 .exact λ_ _ _ _ _ _ _ V=>V
 .rintro L a w ⟨hL,O,U,ab,D⟩
  have a5:=aB (D.1 rfl).2;refine Oper.wp_enter (f:=34) (args:=#[.int .u32 1,.int .i64 wd]) (w':=w) ?_ ?_
  .simp[go_sem,a5]
  .refine(pG 1 wd w).mono ?_
   rintro o w' ⟨rfl,hb⟩;exact⟨_,rfl,_,rfl,λe=>(by cases e),rfl,O.trans (hb.mono O.size),hb⟩
 refine aQ.any (λL v w=>∃e:Sp,v=.agg #[.int .u8 6,.int .u8 3,.int .u32 0,.int .i64 0,.string ⟨#[]⟩,.slice e.dO 2 e.df]/\sU w (rU 3 (aZ ⟨#[113,46,121]⟩) (cO 1 wd) e)) rfl ?_ ?_ ?_
 .exact λ_ _ _ _ _ _ hR V=>V.imp λ_ h=>⟨h.1,sU.on h.2 hR⟩
 .rintro L a w ⟨hL,O,U,ab,D⟩
  have a3:=aB (D.1 rfl).2;have a6:=aB (D.2.1 rfl).2;refine Oper.wp_enter (f:=37) (args:=#[.int .u8 3,.agg #[.int .u8 2,.int .u8 0,.int .u32 0,.int .i64 0,.string ⟨#[113,46,121]⟩,.slice none 0 0],.agg #[.int .u8 1,.int .u8 0,.int .u32 1,.int .i64 wd,.string ⟨#[]⟩,.slice none 0 0]]) (w':=w) ?_ ?_
  .simp[go_sem,a3,a6]
  .refine(Bz 3 (by decide) (aZ ⟨#[113,46,121]⟩) (cO 1 wd) w (kY _ _ (by decide)) (mU _ 1 wd (by decide) ao)).mono ?_
   rintro o w' ⟨e,rfl,hn,hb⟩;exact⟨_,rfl,_,rfl,λe=>(by cases e),⟨e,rfl,hn⟩,O.trans (hb.mono O.size),hb⟩
 refine aQ.any (λL v w=>∃c e:Sp,v=.agg #[.int .u8 3,.string ⟨#[]⟩,.slice c.dO 2 c.df,.int .i64 0,.slice none 0 0,.slice none 0 0]/\kW w (fw c (aZ ⟨#[113,46,122]⟩) (rU 3 (aZ ⟨#[113,46,121]⟩) (cO 1 wd) e))) rfl ?_ ?_ ?_
 .exact λ_ _ _ _ _ _ hR V=>V.imp λ_ h=>h.imp λ_ h=>⟨h.1,h.2.on hR⟩
 .rintro L a w ⟨hL,O,U,ab,D⟩
  have a1:=aB (D.1 rfl).2;obtain⟨e,bi,hne⟩:=(D.2.1 rfl).2;have a7:a.tmps[68]?.getD undef=.agg #[.int .u8 6,.int .u8 3,.int .u32 0,.int .i64 0,.string ⟨#[]⟩,.slice e.dO 2 e.df]:=aB bi;refine Oper.wp_enter (f:=36) (args:=#[.agg #[.int .u8 2,.int .u8 0,.int .u32 0,.int .i64 0,.string ⟨#[113,46,122]⟩,.slice none 0 0],.agg #[.int .u8 6,.int .u8 3,.int .u32 0,.int .i64 0,.string ⟨#[]⟩,.slice e.dO 2 e.df]]) (w':=w) ?_ ?_
  .simp[go_sem,a1,a7]
  .refine(Eg (aZ ⟨#[113,46,122]⟩) (rU 3 (aZ ⟨#[113,46,121]⟩) (cO 1 wd) e) w (kY _ _ (by decide)) hne).mono ?_
   rintro o w' ⟨c,rfl,hn,hb⟩;exact⟨_,rfl,_,rfl,λe=>(by cases e),⟨c,e,rfl,hn⟩,O.trans (hb.mono O.size),hb⟩
 apply aQ.exact rfl rfl;exact λ_ _ h=>h;exact λw=>ag _ w;rintro _ _ _ ⟨-,_,-,b,_⟩;simp[go_sem,(b 5 rfl).trans f5];exact rfl
 apply aQ.exact rfl rfl;exact λ_ _ h=>h;exact λw=>ag _ w;rintro _ _ _ ⟨-,b,-,_,c⟩;have a9:=aB (c.1 rfl).2;have c1:=(b.cell (p:=⟨bp,1,none⟩) am).trans x1;simp[go_sem,a9,c1];exact rfl
 refine aQ.any (λL v w=>v=.agg #[.int .u8 1,.int .u8 0,.int .u32 0,.int .i64 wd,.string ⟨#[]⟩,.slice none 0 0]) rfl ?_ ?_ ?_
 .exact λ_ _ _ _ _ _ _ V=>V
 .rintro L a w ⟨hL,O,U,ab,D⟩
  have aE:=aB (D.1 rfl).2;refine Oper.wp_enter (f:=34) (args:=#[.int .u32 0,.int .i64 wd]) (w':=w) ?_ ?_
  .simp[go_sem,aE]
  .refine(pG 0 wd w).mono ?_
   rintro o w' ⟨rfl,hb⟩;exact⟨_,rfl,_,rfl,λe=>(by cases e),rfl,O.trans (hb.mono O.size),hb⟩
 refine aQ.any (λL v w=>∃sp:Sp,v=.agg #[.int .u8 1,.string ⟨#[113,46,121]⟩,.slice sp.dO 1 sp.df,.int .i64 0,.slice none 0 0,.slice none 0 0]/\kW w (ji sp ⟨#[113,46,121]⟩ (cO 0 wd))) rfl ?_ ?_ ?_
 .exact λ_ _ _ _ _ _ hR V=>V.imp λ_ h=>⟨h.1,h.2.on hR⟩
 .rintro L a w ⟨hL,O,U,ab,D⟩
  have ba:=aB (D.1 rfl).2;refine Oper.wp_enter (f:=35) (args:=#[.string ⟨#[113,46,121]⟩,.agg #[.int .u8 1,.int .u8 0,.int .u32 0,.int .i64 wd,.string ⟨#[]⟩,.slice none 0 0]]) (w':=w) ?_ ?_
  .simp[go_sem,ba]
  .refine(zQ ⟨#[113,46,121]⟩ (by decide) (cO 0 wd) w (mU _ 0 wd (by decide) ao)).mono ?_
   rintro o w' ⟨sp,rfl,hn,hb⟩;exact⟨_,rfl,_,rfl,λe=>(by cases e),⟨sp,rfl,hn⟩,O.trans (hb.mono O.size),hb⟩
 refine aQ.any (λL v w=>∃(b:Nat) (l:List aa),v=.slice (some ⟨b,0,none⟩) 4 4/\l.map aJ=(Ab wd).map aJ/\l.length=4/\gq w.heap.size w ⟨some ⟨b,0,none⟩,4⟩ l) rfl ?_ ?_ ?_
 .exact λ_ _ _ _ _ _ hR V=>V.imp λ_ h=>h.imp λ_ h=>⟨h.1,h.2.1,h.2.2.1,(h.2.2.2.below hR).more hR.size⟩
 .rintro L a w ⟨hL,O,U,ab,D⟩
  obtain⟨s1,be,h1⟩:=(D.1 rfl).2;obtain⟨s2,bh,h2⟩:=(D.2.1 rfl).2;obtain⟨s3,e,bj,h3⟩:=(D.2.2.1 rfl).2;obtain⟨s4,bk,h4⟩:=(D.2.2.2.1 rfl).2;have aq:a.tmps[60]?.getD undef=.agg #[.int .u8 1,.string ⟨#[113,46,121]⟩,.slice s1.dO 1 s1.df,.int .i64 0,.slice none 0 0,.slice none 0 0]:=aB be;have aw:a.tmps[62]?.getD undef=.agg #[.int .u8 1,.string ⟨#[113,46,122]⟩,.slice s2.dO 1 s2.df,.int .i64 0,.slice none 0 0,.slice none 0 0]:=aB bh;have a8:a.tmps[69]?.getD undef=.agg #[.int .u8 3,.string ⟨#[]⟩,.slice s3.dO 2 s3.df,.int .i64 0,.slice none 0 0,.slice none 0 0]:=aB bj;have bc:a.tmps[73]?.getD undef=.agg #[.int .u8 1,.string ⟨#[113,46,121]⟩,.slice s4.dO 1 s4.df,.int .i64 0,.slice none 0 0,.slice none 0 0]:=aB bk;have al:=jc w (.cells #[.int .u8 1,.string ⟨#[113,46,121]⟩,.slice s1.dO 1 s1.df,.int .i64 0,.slice none 0 0,.slice none 0 0,.int .u8 1,.string ⟨#[113,46,122]⟩,.slice s2.dO 1 s2.df,.int .i64 0,.slice none 0 0,.slice none 0 0,.int .u8 3,.string ⟨#[]⟩,.slice s3.dO 2 s3.df,.int .i64 0,.slice none 0 0,.slice none 0 0,.int .u8 1,.string ⟨#[113,46,121]⟩,.slice s4.dO 1 s4.df,.int .i64 0,.slice none 0 0,.slice none 0 0] 43);refine Oper.wp_value (v:=.slice (some ⟨w.heap.size,0,none⟩) 4 4) (w':=w.alloc (.cells #[.int .u8 1,.string ⟨#[113,46,121]⟩,.slice s1.dO 1 s1.df,.int .i64 0,.slice none 0 0,.slice none 0 0,.int .u8 1,.string ⟨#[113,46,122]⟩,.slice s2.dO 1 s2.df,.int .i64 0,.slice none 0 0,.slice none 0 0,.int .u8 3,.string ⟨#[]⟩,.slice s3.dO 2 s3.df,.int .i64 0,.slice none 0 0,.slice none 0 0,.int .u8 1,.string ⟨#[113,46,121]⟩,.slice s4.dO 1 s4.df,.int .i64 0,.slice none 0 0,.slice none 0 0] 43)) ?_ ?_
  .simp[go_sem,aq,aw,a8,bc]
  .exact⟨_,rfl,λe=>(by cases e),⟨_,_,rfl,LB s1 s2 s3 e s4 wd,rfl,Ot w s1 s2 s3 e s4 wd h1 h2 h3 h4⟩,O.trans (al.mono O.size),al⟩
 refine aQ.any (λL v w=>∃(b:Nat) (l:List aa),v=.slice (some ⟨b,0,none⟩) 4 4/\l.map aJ=(Ab wd).map aJ/\l.length=4/\gq w.heap.size w ⟨some ⟨b,0,none⟩,4⟩ l) rfl ?_ ?_ ?_
 .exact λ_ _ _ _ _ _ hR V=>V.imp λ_ h=>h.imp λ_ h=>⟨h.1,h.2.1,h.2.2.1,(h.2.2.2.below hR).more hR.size⟩
 .rintro L a w ⟨hL,O,U,ab,D⟩
  obtain⟨b,l,bl,h1,h2,h3⟩:=(D.1 rfl).2;have bd:a.tmps[74]?.getD undef=.slice (some ⟨b,0,none⟩) 4 4:=aB bl;refine Oper.wp_value (v:=.slice (some ⟨b,0,none⟩) 4 4) (w':=w) ?_ ?_
  .simp[go_sem,bd]
  .exact⟨_,rfl,λe=>(by cases e),⟨b,l,rfl,h1,h2,h3⟩,O,ag _ _⟩
 rintro L a w hL ⟨O,ad,hv⟩;obtain⟨b,l,h1,h2,h3,h4⟩:=hv 16;exact⟨rfl,ad.1.trans an,ad.2.1,ad.2.2,⟨b,l,aB h1,h2,h3,h4⟩,O⟩
theorem TH(s:ByteArray)(D:s.size<=maxLen)(e:ah)(w:World)(he:sU w e):Calls Tryz.prog 35 #[.string s,e.val] w λo w'=>∃sp:Sp,o=.returned (.agg #[.int .u8 1,.string s,.slice sp.dO 1 sp.df,.int .i64 0,.slice none 0 0,.slice none 0 0])/\kW w' (ji sp s e)/\Below w.heap.size w w':=zQ s D e w he
theorem M6(e:ah):∀m,mr (bX e) m=mr e m:=by
 induction e using ah.ind with
 |h k o v w n sp l D =>
  have each:∀l:List ah,(∀e∈l,∀m,mr (bX e) m=mr e m)->∀m n,pu (l.map bX) m n=pu l m n:=λl=>by
   induction l with
   |nil=>intro _ _ _;rfl
   |cons e l D =>
    intro h m n;rw[ax,pu,pu,h e (aD ..),D λx hx=>h x (au _ hx)]
  intro m;rw[jW,mr,mr,each l D]
theorem Dg:∀(l:List ah) (m n:Int),lu (l.map bX) m n=lu l m n
 |[],_,_=>rfl
 |e::l,m,n=>by rw[ax,lu,lu,M6,Dg l]
theorem M5(s:aa):∀m n,qI (aJ s) m n=qI s m n:=by
 induction s using aa.ind with
 |h k V es ex b ts th os el D O =>
  have each:∀l:List aa,(∀s∈l,∀m n,qI (aJ s) m n=qI s m n)->∀m n,eu (l.map aJ) m n=eu l m n:=λl=>by
   induction l with
   |nil=>intro _ _ _;rfl
   |cons s l U =>
    intro h m n;rw[ax,eu,eu,h s (aD ..),U λx hx=>h x (au _ hx)]
  intro m n;rw[dS,qI,qI,Dg];simp only[each th D,each el O]
theorem yj:∀(l:List aa) (m n:Int),eu (l.map aJ) m n=eu l m n
 |[],_,_=>rfl
 |s::l,m,n=>by rw[ax,eu,eu,M5,yj l]
theorem Kj{a b:List aa}(h:a.map aJ=b.map aJ)(m n:Int):eu a m n=eu b m n:=by rw[<-yj,h,yj]
theorem RD{e f:ah}(h:bX e=bX f)(hf:sK f):sK e:=λy V=>by
 have h1:bX y∈(bX e).pre:=by rw[AZ];exact iE V
 rw[h,AZ]at h1;obtain⟨z,hz,D⟩:=List.mem_map.1 h1;have O:=hf z hz;have U:y.aT=z.aT:=by rw[<-rR,<-D,rR]
 rw[U];exact O
theorem RA{s t:aa}(h:aJ s=aJ t)(ht:uA t):uA s:=λx hx=>by
 have h1:aJ x∈(aJ s).pre:=by rw[Ao];exact iE hx
 rw[h,Ao]at h1;obtain⟨z,hz,D⟩:=List.mem_map.1 h1;have O:=ht z hz;refine⟨by rw[<-rQ,<-D,rQ];exact O.1,λe he=>?_⟩;have U:bX e∈(aJ x).bf:=by rw[oJ];exact iE he
 rw[<-D,oJ]at U;obtain⟨f,hf,V⟩:=List.mem_map.1 U;exact RD V.symm (O.2 f hf)
theorem Ml{k o v w:Int}{n:ByteArray}{sp:Sp}{l:List ah}(h1:n.size<=140737488355328)(D:∀x∈l,sK x):sK (.mk k o v w n sp l):=λx hx=>by
 rw[ah.pre_eq]at hx;rcases List.mem_cons.1 hx with rfl|hx
 .exact h1
 .obtain⟨s,O,hx⟩:=List.mem_flatMap.1 hx
  exact D s O x hx
theorem ul{k b:Int}{n:ByteArray}{es:Sp}{ex:List ah}(h1:n.size<=140737488355328)(D:∀x∈ex,sK x):uA (.mk k n es ex b Sp.none [] Sp.none []):=λx hx=>by
 rw[aa.pre_eq]at hx;have hx:x=.mk k n es ex b Sp.none [] Sp.none []:=by simpa[aa.gy,aa.iD]using hx
 rw[hx];exact⟨h1,D⟩
theorem qM{k o v w:Int}{n:ByteArray}{sp:Sp}(h1:n.size<=140737488355328):sK (.mk k o v w n sp []):=Ml h1 λ_ h=>by cases h
theorem GY{e:ah}(h:sK e):∀x∈[e],sK x:=λx hx=>by rw[List.mem_singleton.1 hx];exact h
theorem GZ{e f:ah}(h:sK e)(k:sK f):∀x∈[e,f],sK x:=λx hx=>by
 rcases List.mem_cons.1 hx with rfl|hx
 .exact h
 .rw[List.mem_singleton.1 hx];exact k
theorem QP:∀s∈xS,uA s:=λs D=>by
 simp only[xS,bE,bu,or_false]at D;rcases D with rfl|rfl|rfl|rfl|rfl
 .exact ul (by decide) (GY (qM (by decide)))
 .exact ul (by decide) (GY (Ml (by decide) (GZ (qM (by decide)) (qM (by decide)))))
 .exact ul (by decide) (GZ (qM (by decide)) (qM (by decide)))
 .exact ul (by decide) (GY (qM (by decide)))
 .exact ul (by decide) (GZ (qM (by decide)) (qM (by decide)))
theorem QQ:eu xS 100 0=35:=by kernel_rfl
theorem Fw{l:List aa}(h:l.map aJ=xS.map aJ):eu l 100 0<=100/\(∀s∈l,uA s)/\aV l<=100:=by
 refine⟨by rw[Kj h,QQ];decide,λs D=>?_,?_⟩
 .have h1:aJ s∈xS.map aJ:=by rw[<-h];exact iE D
  obtain⟨t,ht,e⟩:=List.mem_map.1 h1;exact RA e.symm (QP t ht)
 .rw[<-iV,h,iV]
  unfold xS;simp only[ji,fw,rU,aZ,cO,ny,jD,jM,gu,fq,nD]
  decide
theorem DW{W W':World}{sp:Sp}{l:List aa}(h:tJ W.heap.size W sp l)(hb:Below W.heap.size W W'):tJ W'.heap.size W' sp l :=
 h.cells hb.size λp _ hp hc=>(hb.cell (p:=p) hp).trans hc
theorem QI(w:World)(sp:Sp)(l:List aa)(hr:gq w.heap.size w sp l)(hh:aV l<=100)(n:Nat)(hn:l.length=n)(hl:n<=100) :
  Calls Tryz.prog 29 #[.slice sp.dO n sp.df] w λo w'=>∃(A:Option Addr) (c:Nat) (m:List aa),o=.returned (.slice A m.length c)/\m.map aJ=l.map aJ/\tJ w'.heap.size w' ⟨A,c⟩ m/\Below w.heap.size w w':=by
 subst hn;refine(DY (n0:=w.heap.size) (W0:=w) 900000 (sp:=sp) (l:=l) (by omega) (af _) hr w (ag _ _) (af _)).mono ?_;rintro o w' ⟨A,c,m,rfl,hm,D,hb⟩;have V:m.length=l.length:=by simpa using congrArg List.length hm
 obtain⟨O,U⟩:=D.row Ri (λ_=>rfl) (by omega);exact⟨A,c,m,rfl,hm,⟨O.cells λ_ _ _ hc=>(bJ.1 hc).2,λy hy=>uB.cells (U y hy) (af _) λ_ _ _ hc=>(iJ.1 hc).2.2⟩,hb⟩
theorem QR(w:World)(a D b c d e:Sp)(h1:kW w (ji a ⟨#[113,46,121]⟩ (cO 3 2)))(O:kW w (ji b ⟨#[112,46,120]⟩ (rU 3 (aZ ⟨#[113,46,121]⟩) (cO 1 2) D)))(U:kW w (fw c (cO 0 1) (aZ ⟨#[112,46,120]⟩)))(V:kW w (ji d ⟨#[112,46,120]⟩ (aZ ⟨#[113,46,121]⟩)))(h5:kW w (fw e (cO 0 1) (aZ ⟨#[112,46,120]⟩))) :
  gq (w.alloc (.cells #[.int .u8 1,.string ⟨#[113,46,121]⟩,.slice a.dO 1 a.df,.int .i64 0,.slice none 0 0,.slice none 0 0,.int .u8 1,.string ⟨#[112,46,120]⟩,.slice b.dO 1 b.df,.int .i64 0,.slice none 0 0,.slice none 0 0,.int .u8 3,.string ⟨#[]⟩,.slice c.dO 2 c.df,.int .i64 0,.slice none 0 0,.slice none 0 0,.int .u8 1,.string ⟨#[112,46,120]⟩,.slice d.dO 1 d.df,.int .i64 0,.slice none 0 0,.slice none 0 0,.int .u8 3,.string ⟨#[]⟩,.slice e.dO 2 e.df,.int .i64 0,.slice none 0 0,.slice none 0 0] 43)).heap.size (w.alloc (.cells #[.int .u8 1,.string ⟨#[113,46,121]⟩,.slice a.dO 1 a.df,.int .i64 0,.slice none 0 0,.slice none 0 0,.int .u8 1,.string ⟨#[112,46,120]⟩,.slice b.dO 1 b.df,.int .i64 0,.slice none 0 0,.slice none 0 0,.int .u8 3,.string ⟨#[]⟩,.slice c.dO 2 c.df,.int .i64 0,.slice none 0 0,.slice none 0 0,.int .u8 1,.string ⟨#[112,46,120]⟩,.slice d.dO 1 d.df,.int .i64 0,.slice none 0 0,.slice none 0 0,.int .u8 3,.string ⟨#[]⟩,.slice e.dO 2 e.df,.int .i64 0,.slice none 0 0,.slice none 0 0] 43)) ⟨some ⟨w.heap.size,0,none⟩,5⟩ [ji a ⟨#[113,46,121]⟩ (cO 3 2),ji b ⟨#[112,46,120]⟩ (rU 3 (aZ ⟨#[113,46,121]⟩) (cO 1 2) D),fw c (cO 0 1) (aZ ⟨#[112,46,120]⟩),ji d ⟨#[112,46,120]⟩ (aZ ⟨#[113,46,121]⟩),fw e (cO 0 1) (aZ ⟨#[112,46,120]⟩)]:=by
 have hb:=(ag _ w).alloc (af _) (.cells #[.int .u8 1,.string ⟨#[113,46,121]⟩,.slice a.dO 1 a.df,.int .i64 0,.slice none 0 0,.slice none 0 0,.int .u8 1,.string ⟨#[112,46,120]⟩,.slice b.dO 1 b.df,.int .i64 0,.slice none 0 0,.slice none 0 0,.int .u8 3,.string ⟨#[]⟩,.slice c.dO 2 c.df,.int .i64 0,.slice none 0 0,.slice none 0 0,.int .u8 1,.string ⟨#[112,46,120]⟩,.slice d.dO 1 d.df,.int .i64 0,.slice none 0 0,.slice none 0 0,.int .u8 3,.string ⟨#[]⟩,.slice e.dO 2 e.df,.int .i64 0,.slice none 0 0,.slice none 0 0] 43);refine⟨iX (λ_=>rfl) rfl (by simp) (gM w _),λt ht=>?_⟩;simp only[bE,bu,or_false]at ht;rcases ht with rfl|rfl|rfl|rfl|rfl
 .exact kW.on h1 hb
 .exact kW.on O hb
 .exact kW.on U hb
 .exact kW.on V hb
 .exact kW.on h5 hb
theorem P7(w:World):Hw (w.alloc (.cells #[.int .i64 1,.int .i64 0] 3)) (.slice (some ⟨w.heap.size,0,none⟩) 2 2) [1,0]:=by
 refine⟨_,_,rfl,λ_=>⟨_,0,rfl,λj D=>?_⟩⟩;have h:=gM w (.cells #[.int .i64 1,.int .i64 0] 3)
 match j,D with
 |0,_=>simp only[World.cell?];rw[h];rfl
 |1,_=>simp only[World.cell?];rw[h];rfl
theorem Ou(a D b c d e:Sp):([ji a ⟨#[113,46,121]⟩ (cO 3 2),ji b ⟨#[112,46,120]⟩ (rU 3 (aZ ⟨#[113,46,121]⟩) (cO 1 2) D),fw c (cO 0 1) (aZ ⟨#[112,46,120]⟩),ji d ⟨#[112,46,120]⟩ (aZ ⟨#[113,46,121]⟩),fw e (cO 0 1) (aZ ⟨#[112,46,120]⟩)]:List aa).map aJ=xS.map aJ:=by kernel_rfl
theorem Ic(w:World)(ev:0<w.heap.size)(hmx:MxAt w):Calls Tryz.prog 14 #[] w λo w'=>o=.returned (.bool true)/\Below w.heap.size w w':=by
 have e8:=ae λ(W:World) (hW:Below w.heap.size w W)=>hmx.below hW ev
 have f7:IntKind.i64.wrap 0=0:=by decide
 have fi:Hid (Below w.heap.size w w):=ae (ag _ _);clear hmx;obtain⟨w0,fx⟩:∃w0,w0=w:=⟨_,rfl⟩;go_enter Tryz.func14,Tryz.ntmps14
 go_wp2_with fail
 refine(BF w).mono ?_;rintro o w1 ⟨P,rfl,hP,ad,hb⟩;have hg:=AP hP zg;have hwt:lI P<=20000:=by rw[Ac hP hg.right zg.right,Kb];decide
 have e7:=ae (Mf w1 P ad (aI ev hb.size) (e8.o w1 hb) hg hwt);have e9:=ae hP;have ee:=ae hb;clear hP ad hb hg hwt fi fx;go_wp2_with fail
 refine e7.o.mono ?_;rintro o w2 ⟨q,rfl,hq,ad,hb⟩;have ew:dx q=dx (pR vJ):=hq.trans (Fq e9.o);have ep:Hid (q.eX.map aJ=xS.map aJ):=ae ((congrArg aj.eX ew:(dx q).eX=(dx (pR vJ)).eX).trans O9);have fp:Hid (q.aA=[]):=ae (List.map_eq_nil_iff.1 (congrArg aj.aA ew:q.aA.map gF=[]));have ef:=ae (ee.o.trans (hb.mono ee.o.size));have eC:=ae (jT.cells ad λ_ _ _ hc=>(bJ.1 hc).2);clear hq ew ad hb e7 e9 ee;go_upto_region 2 with (first
  |(refine dY (t:=35) rfl rfl (jQ _) ?_)
  |(refine aK rfl 35 _ _ rfl w2.heap.size q.arr (by rfl) (by rfl) 35 ed.arr (gM _ _) (dZ _) (by kernel_rfl) (lX _) ?_)
  |fail)
 have et:Below w2.heap.size w2 ((w2.alloc (.cells ed.arr 35)).setRow w2.heap.size q.arr):=below_setRow ((ag _ _).alloc (af _) _) (af _);have fc:Bx w2.heap.size ((w2.alloc (.cells ed.arr 35)).setRow w2.heap.size q.arr) q:=bM _ _ _ _ _ _ (gM _ _);have dg:=ae (eC.o.on et);have d1:=ae fc;have ar:=ae (ef.o.trans (et.mono ef.o.size));clear et fc eC ef;generalize (w2.alloc (.cells ed.arr 35)).setRow w2.heap.size q.arr=w3 at *;generalize w2.heap.size=bq at *;go_wp2_with fail
 refine(BF w3).mono ?_;rintro o w4 ⟨P,rfl,hP,ad,hb⟩;have hg:=AP hP zg;have eo:=ae (NK w4 P ad (aI ev (ai ar.o.size hb.size)) (e8.o w4 (ar.o.trans (hb.mono ar.o.size))) hg);have eA:Hid (tu P=[1,0]):=ae ((Jc hP).trans MW);have eg:=ae (ar.o.trans (hb.mono ar.o.size));have dj:=ae (dg.o.on hb);have d2:=ae (d1.o.on hb);clear hP ad hb hg ar dg d1;rw[eA.o]at eo;go_wp2_with fail
 refine eo.o.mono ?_;rintro o w5 ⟨v5,rfl,db,hb⟩;have eh:=ae (eg.o.trans (hb.mono eg.o.size));have dk:=ae (dj.o.on hb);have d3:=ae (d2.o.on hb);have dr:=ae (vk (l:=[1,0]) db);obtain⟨A5,c5,rfl⟩:=oN db;clear db hb eg dj d2 eo eA;go_wp2_with fail
 refine(I6 3 2 w5).mono ?_;rintro o w6 ⟨rfl,hb⟩;have ei:=ae (eh.o.trans (hb.mono eh.o.size));have dl:=ae ((dk.o).on hb);have d4:=ae ((d3.o).on hb);have dt:=ae ((dr.o).on hb);clear hb eh dk d3 dr;go_wp2_with fail
 refine(TH ⟨#[113,46,121]⟩ (show(3:Nat)<=maxLen by decide) (cO 3 2) w6 (mU _ 3 2 (by decide) (by decide))).mono ?_;rintro o w7 ⟨e1,rfl,hn,hb⟩;have d8:=ae (hn);clear hn;have ej:=ae (ei.o.trans (hb.mono ei.o.size));have dn:=ae ((dl.o).on hb);have d5:=ae ((d4.o).on hb);have du:=ae ((dt.o).on hb);clear hb ei dl d4 dt;go_wp2_with fail
 refine(BJ ⟨#[113,46,121]⟩ w7).mono ?_;rintro o w8 ⟨rfl,hb⟩;have em:=ae (ej.o.trans (hb.mono ej.o.size));have dp:=ae ((dn.o).on hb);have d6:=ae ((d5.o).on hb);have dv:=ae ((du.o).on hb);have dT:=ae ((d8.o).on hb);clear hb ej dn d5 du d8;go_wp2_with fail
 refine(I6 1 2 w8).mono ?_;rintro o w9 ⟨rfl,hb⟩;have en:=ae (em.o.trans (hb.mono em.o.size));have dq:=ae ((dp.o).on hb);have d7:=ae ((d6.o).on hb);have dy:=ae ((dv.o).on hb);have eb:=ae ((dT.o).on hb);clear hb em dp d6 dv dT;go_wp2_with fail
 refine(Uc 3 (by decide) (aZ ⟨#[113,46,121]⟩) (cO 1 2) w9 (kY _ _ (show(3:Nat)<=maxLen by decide)) (mU _ 1 2 (by decide) (by decide))).mono ?_;rintro o fy ⟨e2,rfl,hn,hb⟩;have aw:=ae (hn);clear hn;have a1:=ae (en.o.trans (hb.mono en.o.size));have bi:=ae ((dq.o).on hb);have ch:=ae ((d7.o).on hb);have b4:=ae ((dy.o).on hb);have cv:=ae ((eb.o).on hb);clear hb en dq d7 dy eb;go_wp2_with fail
 refine(TH ⟨#[112,46,120]⟩ (show(3:Nat)<=maxLen by decide) (rU 3 (aZ ⟨#[113,46,121]⟩) (cO 1 2) e2) fy aw.o).mono ?_;rintro o fz ⟨e3,rfl,hn,hb⟩;have cD:=ae (hn);clear hn;have a3:=ae (a1.o.trans (hb.mono a1.o.size));have bj:=ae ((bi.o).on hb);have ci:=ae ((ch.o).on hb);have b5:=ae ((b4.o).on hb);have cw:=ae ((cv.o).on hb);have e0:=ae ((aw.o).on hb);clear hb a1 bi ch b4 cv aw;go_wp2_with fail
 clear e0;refine(I6 0 1 fz).mono ?_;rintro o f0 ⟨rfl,hb⟩;have a4:=ae (a3.o.trans (hb.mono a3.o.size));have bk:=ae ((bj.o).on hb);have cj:=ae ((ci.o).on hb);have b6:=ae ((b5.o).on hb);have cx:=ae ((cw.o).on hb);have cE:=ae ((cD.o).on hb);clear hb a3 bj ci b5 cw cD;go_wp2_with fail
 refine(BJ ⟨#[112,46,120]⟩ f0).mono ?_;rintro o f1 ⟨rfl,hb⟩;have a5:=ae (a4.o.trans (hb.mono a4.o.size));have bl:=ae ((bk.o).on hb);have ck:=ae ((cj.o).on hb);have b7:=ae ((b6.o).on hb);have cy:=ae ((cx.o).on hb);have cF:=ae ((cE.o).on hb);clear hb a4 bk cj b6 cx cE;go_wp2_with fail
 refine(LG (cO 0 1) (aZ ⟨#[112,46,120]⟩) f1 (mU _ 0 1 (by decide) (by decide)) (kY _ _ (show(3:Nat)<=maxLen by decide))).mono ?_;rintro o f2 ⟨e4,rfl,hn,hb⟩;have cN:=ae (hn);clear hn;have a6:=ae (a5.o.trans (hb.mono a5.o.size));have bm:=ae ((bl.o).on hb);have cl:=ae ((ck.o).on hb);have b8:=ae ((b7.o).on hb);have c0:=ae ((cy.o).on hb);have cG:=ae ((cF.o).on hb);clear hb a5 bl ck b7 cy cF;go_wp2_with fail
 refine(BJ ⟨#[113,46,121]⟩ f2).mono ?_;rintro o f3 ⟨rfl,hb⟩;have a7:=ae (a6.o.trans (hb.mono a6.o.size));have bo:=ae ((bm.o).on hb);have cm:=ae ((cl.o).on hb);have b9:=ae ((b8.o).on hb);have c3:=ae ((c0.o).on hb);have cH:=ae ((cG.o).on hb);have cP:=ae ((cN.o).on hb);clear hb a6 bm cl b8 c0 cG cN;go_wp2_with fail
 refine(TH ⟨#[112,46,120]⟩ (show(3:Nat)<=maxLen by decide) (aZ ⟨#[113,46,121]⟩) f3 (kY _ _ (show(3:Nat)<=maxLen by decide))).mono ?_;rintro o f4 ⟨e5,rfl,hn,hb⟩;have cU:=ae (hn);clear hn;have a8:=ae (a7.o.trans (hb.mono a7.o.size));have br:=ae ((bo.o).on hb);have cn:=ae ((cm.o).on hb);have bC:=ae ((b9.o).on hb);have c4:=ae ((c3.o).on hb);have cI:=ae ((cH.o).on hb);have cQ:=ae ((cP.o).on hb);clear hb a7 bo cm b9 c3 cH cP;go_wp2_with fail
 refine(I6 0 1 f4).mono ?_;rintro o f5 ⟨rfl,hb⟩;have a9:=ae (a8.o.trans (hb.mono a8.o.size));have bt:=ae ((br.o).on hb);have co:=ae ((cn.o).on hb);have ca:=ae ((bC.o).on hb);have c8:=ae ((c4.o).on hb);have cJ:=ae ((cI.o).on hb);have cR:=ae ((cQ.o).on hb);have cV:=ae ((cU.o).on hb);clear hb a8 br cn bC c4 cI cQ cU;go_wp2_with fail
 refine(BJ ⟨#[112,46,120]⟩ f5).mono ?_;rintro o f6 ⟨rfl,hb⟩;have aE:=ae (a9.o.trans (hb.mono a9.o.size));have b0:=ae ((bt.o).on hb);have cp:=ae ((co.o).on hb);have cb:=ae ((ca.o).on hb);have cA:=ae ((c8.o).on hb);have cL:=ae ((cJ.o).on hb);have cS:=ae ((cR.o).on hb);have cW:=ae ((cV.o).on hb);clear hb a9 bt co ca c8 cJ cR cV;go_wp2_with fail
 refine(LG (cO 0 1) (aZ ⟨#[112,46,120]⟩) f6 (mU _ 0 1 (by decide) (by decide)) (kY _ _ (show(3:Nat)<=maxLen by decide))).mono ?_;rintro o dd ⟨e6,rfl,hn,hb⟩;have cY:=ae (hn);clear hn;have ba:=ae (aE.o.trans (hb.mono aE.o.size));have b1:=ae ((b0.o).on hb);have cq:=ae ((cp.o).on hb);have cc:=ae ((cb.o).on hb);have cC:=ae ((cA.o).on hb);have cM:=ae ((cL.o).on hb);have cT:=ae ((cS.o).on hb);have cX:=ae ((cW.o).on hb);clear hb aE b0 cp cb cA cL cS cW;go_upto_region 4 with fail
 have fb:=QR dd e1 e2 e3 e4 e5 e6 cC.o cM.o cT.o cX.o cY.o;have hb:=(ag _ dd).alloc (af _) (.cells #[.int .u8 1,.string ⟨#[113,46,121]⟩,.slice e1.dO 1 e1.df,.int .i64 0,.slice none 0 0,.slice none 0 0,.int .u8 1,.string ⟨#[112,46,120]⟩,.slice e3.dO 1 e3.df,.int .i64 0,.slice none 0 0,.slice none 0 0,.int .u8 3,.string ⟨#[]⟩,.slice e4.dO 2 e4.df,.int .i64 0,.slice none 0 0,.slice none 0 0,.int .u8 1,.string ⟨#[112,46,120]⟩,.slice e5.dO 1 e5.df,.int .i64 0,.slice none 0 0,.slice none 0 0,.int .u8 3,.string ⟨#[]⟩,.slice e6.dO 2 e6.df,.int .i64 0,.slice none 0 0,.slice none 0 0] 43);clear cC cM cT cX cY;generalize eY:dd.alloc (.cells #[.int .u8 1,.string ⟨#[113,46,121]⟩,.slice e1.dO 1 e1.df,.int .i64 0,.slice none 0 0,.slice none 0 0,.int .u8 1,.string ⟨#[112,46,120]⟩,.slice e3.dO 1 e3.df,.int .i64 0,.slice none 0 0,.slice none 0 0,.int .u8 3,.string ⟨#[]⟩,.slice e4.dO 2 e4.df,.int .i64 0,.slice none 0 0,.slice none 0 0,.int .u8 1,.string ⟨#[112,46,120]⟩,.slice e5.dO 1 e5.df,.int .i64 0,.slice none 0 0,.slice none 0 0,.int .u8 3,.string ⟨#[]⟩,.slice e6.dO 2 e6.df,.int .i64 0,.slice none 0 0,.slice none 0 0] 43)=fL at *;clear eY;have bc:=ae (ba.o.trans (hb.mono ba.o.size));have al:=ae ((b1.o).on hb);have ab:=ae ((cq.o).on hb);have cd:=ae ((cc.o).on hb);clear hb ba b1 cq cc;have U:=ae fb;clear fb;have dc:=Ou e1 e2 e3 e4 e5 e6;obtain⟨wl,ey⟩:∃l,l=[ji e1 ⟨#[113,46,121]⟩ (cO 3 2),ji e3 ⟨#[112,46,120]⟩ (rU 3 (aZ ⟨#[113,46,121]⟩) (cO 1 2) e2),fw e4 (cO 0 1) (aZ ⟨#[112,46,120]⟩),ji e5 ⟨#[112,46,120]⟩ (aZ ⟨#[113,46,121]⟩),fw e6 (cO 0 1) (aZ ⟨#[112,46,120]⟩)]:=⟨_,rfl⟩;rw[<-ey]at U dc;have fa:wl.length=5:=by rw[ey];rfl
 clear ey;obtain⟨eI,eJ,eK⟩:=Fw ep.o;obtain⟨_,_,eL⟩:=Fw dc;have eS:q.eX.length=5:=by simpa[xS]using congrArg List.length ep.o
 have eR:q.aA.length=0:=by rw[fp.o];rfl
 have eE:decide (eu q.eX 100 0<=100)=true:=aC eI;have HF:=ae (And.intro eJ (And.intro eK (And.intro eL (And.intro fa (And.intro eS eE)))));have fk:=ae ((vY q.eX wl).2 (ep.o.trans dc.symm));have fE:=ae dc;clear eI eJ eK eL eS eE dc;generalize fv:dd.heap.size=bw at *;clear fv;have er:=ab.o.cell 13 rfl;have da:=ab.o.cell 14 rfl;rw[eR]at er;simp only[Sp.val]at er da;clear eR;go_wp2_with fail
 refine(IA _ q.ws q.eX al.o.eX HF.o.1 100 (by decide) (by decide)).mono ?_;rintro o fN ⟨rfl,hb⟩;rw[HF.o.2.2.2.2.2];have bd:=ae (bc.o.trans (hb.mono bc.o.size));have am:=ae ((al.o).on hb);have an:=ae ((ab.o).on hb);have ce:=ae ((cd.o).on hb);have ap:=ae (((U.o).below hb).more hb.size);clear hb bc al ab cd U;clear er da;have da:=an.o.cell 14 rfl;simp only[Sp.val]at da;go_wp2_with fail
 refine(QI _ q.ws q.eX am.o.eX HF.o.2.1 _ rfl (by have:=HF.o.2.2.2.2.1;omega)).mono ?_;rintro o fR ⟨A6,c6,m6,rfl,eM,eV,hb⟩;clear da;have fl:=ae eM;have ao:=ae eV;clear eM eV;have be:=ae (bd.o.trans (hb.mono bd.o.size));have b2:=ae ((am.o).on hb);have cr:=ae ((an.o).on hb);have cf:=ae ((ce.o).on hb);have V:=ae (((ap.o).below hb).more hb.size);clear hb bd am an ce ap;go_wp2_with fail
 refine(QI _ ⟨some ⟨bw,0,none⟩,5⟩ wl V.o HF.o.2.2.1 5 fa (by omega)).mono ?_;rintro o ez ⟨A7,c7,m7,rfl,eN,eW,hb⟩;have fm:=ae eN;have O:=ae eW;clear eN eW;have bh:=ae (be.o.trans (hb.mono be.o.size));have b3:=ae ((b2.o).on hb);have ct:=ae ((cr.o).on hb);have cg:=ae ((cf.o).on hb);have aq:=ae (((V.o).below hb).more hb.size);have D:=ae (DW (ao.o) hb);clear hb be b2 cr cf V ao;go_wp2_with fail
 refine(Jr (n0:=ez.heap.size) (W0:=ez) D.o O.o ez (ag _ _) (af _)).mono ?_;rintro o fd ⟨rfl,hb⟩;have he:kJ m6 m7=true:=(vY _ _).2 ((fl.o.trans ((vY _ _).1 fk.o)).trans fm.o.symm);rw[he];have de:=ae (bh.o.trans (hb.mono bh.o.size));have fs:=ae ((b3.o).on hb);have ft:=ae ((ct.o).on hb);have eq:=ae ((cg.o).on hb);have fh:=ae (((aq.o).below hb).more hb.size);have ff:=ae (DW (D.o) hb);have fg:=ae (DW (O.o) hb);clear hb bh b3 ct cg aq D O;clear he;go_wp2_with fail
 have hb:=(ag _ fd).alloc (af _) (.cells #[.int .i64 1,.int .i64 0] 3);have hz:=P7 fd;have HZ:=ae (Ka _ _ _ [1,0] (Hw.on eq.o hb) hz (by decide));have fj:=ae (de.o.trans (hb.mono de.o.size));clear hb hz;refine HZ.o.mono ?_;rintro o fS ⟨rfl,qd,rfl⟩;go_wp2_with fail
 go_ret
 exact⟨rfl,fj.o.trans (⟨rfl,rfl,rfl,af _,λ_ _=>rfl⟩)⟩
structure Q7(w0:World)(A:Option Addr)(c:Nat)(cur:List aa)(w:World):Prop where
 own:dz w0.heap.size w 43 6 aa.cells (.slice A cur.length c) cur
 el:∀x∈cur,nV w0.heap.size (Value.slice A cur.length c).ownBlock w x
 low:Below w0.heap.size w0 w
theorem Q7.on{w0 w w':World}{A:Option Addr}{c:Nat}{cur:List aa}(h:Q7 w0 A c cur w)(hb:Below w.heap.size w w'):Q7 w0 A c cur w' :=
 ⟨h.own.on hb,λx hx=>(h.el x hx).below hb,h.low.trans (hb.mono h.low.size)⟩
theorem Q7.push{w0 w wc w':World}{A:Option Addr}{c:Nat}{cur ys:List aa}{v':Value}(h:Q7 w0 A c cur w)(hb:Below w.heap.size w wc)(hy:∀y∈ys,nk w.heap.size wc y)(ho:dz w0.heap.size w' 43 6 aa.cells v' (cur++ys))(hg:wc.grownBy w' (Value.slice A cur.length c).ownBlock)
  (D:v'.ownBlock=(Value.slice A cur.length c).ownBlock\/v'.ownBlock=some wc.heap.size):∃O U,v'=.slice O (cur++ys).length U/\Q7 w0 O U (cur++ys) w':=by
 obtain⟨O,U,rfl⟩:=ho.form;have V:=h.on hb;refine⟨O,U,rfl,ho,λx hx=>?_,V.own.below hg (af _) V.low V.low.size⟩;rcases List.mem_append.1 hx with hx|hx
 .exact(V.el x hx).grow hg D
 .exact((hy x hx).tox (λb hb=>h.own.iP b hb) h.low.size).grow hg D
theorem Q7.rd{w0 w:World}{A:Option Addr}{c:Nat}{cur:List aa}(h:Q7 w0 A c cur w)(hl:cur.length<=1000000):gq w.heap.size w ⟨A,c⟩ cur:=by
 obtain⟨sp,e,hr,_⟩:=h.own.row (λ_=>rfl) (by omega);have:sp=⟨A,c⟩:=by
  unfold Sp.val at e;injection e with e1 e2 e3;rw[e1,e3]
 subst this;exact⟨hr,λs D=>lV.cells (h.el s D) λ_ _ _ hc=>(iJ.1 hc).2.2⟩
theorem gq.onC{w w':World}{sp:Sp}{l:List aa}(h:gq w.heap.size w sp l)(hb:Below w.heap.size w w'):gq w'.heap.size w' sp l:=(h.below hb).more hb.size
theorem j4.rdC{lo:Nat}{w:World}{sp:Sp}{l:List aa}(h:j4 lo w sp l):gq w.heap.size w sp l:=⟨h.1.cells λ_ _ _ hc=>(bJ.1 hc).2,λs D=>lV.cells (h.2 s D) λ_ _ _ hc=>(bJ.1 hc).2⟩
theorem Me{W:World}{D:Nat}{ts os:Sp}{th el:List aa}(h1:W.heap[D]?=some (.cells #[.int .u8 2,.int .u8 0,.int .u32 0,.int .i64 0,.string ⟨#[118]⟩,.slice none 0 0] 30 (0,0)))(ht:gq W.heap.size W ts th)(hl:gq W.heap.size W os el):kW W (.mk 6 ⟨#[]⟩ ⟨some ⟨D,0,none⟩,1⟩ [aZ bV] 0 ts th os el):=
 .mk _ (show(0:Int)<=6/\(6:Int)<=255 by decide) (show(Lit.int .i64 0).wf=true by decide) (show(0:Nat)<=maxLen by decide) (row_one (enc:=ah.cells) (x:=aZ bV) h1) (λy O=>by
  have:y=aZ bV:=by simpa[aa.bf]using O
  rw[this];exact kY _ _ (by decide)) ht.row ht.ok hl.row hl.ok
theorem UT(w:World)(ts os:Sp)(th el:List aa)(n:Nat)(U:th.length=n)(ht:gq w.heap.size w ts th)(hl:gq w.heap.size w os el) :
  gq ((w.alloc (.cells #[.int .u8 2,.int .u8 0,.int .u32 0,.int .i64 0,.string ⟨#[118]⟩,.slice none 0 0] 30)).alloc (.cells #[.int .u8 6,.string ⟨#[]⟩,.slice (some ⟨w.heap.size,0,none⟩) 1 1,.int .i64 0,.slice ts.dO n ts.df,.slice os.dO el.length os.df] 43)).heap.size ((w.alloc (.cells #[.int .u8 2,.int .u8 0,.int .u32 0,.int .i64 0,.string ⟨#[118]⟩,.slice none 0 0] 30)).alloc (.cells #[.int .u8 6,.string ⟨#[]⟩,.slice (some ⟨w.heap.size,0,none⟩) 1 1,.int .i64 0,.slice ts.dO n ts.df,.slice os.dO el.length os.df] 43)) ⟨some ⟨w.heap.size+1,0,none⟩,1⟩ [.mk 6 ⟨#[]⟩ ⟨some ⟨w.heap.size,0,none⟩,1⟩ [aZ bV] 0 ts th os el]/\Below w.heap.size w ((w.alloc (.cells #[.int .u8 2,.int .u8 0,.int .u32 0,.int .i64 0,.string ⟨#[118]⟩,.slice none 0 0] 30)).alloc (.cells #[.int .u8 6,.string ⟨#[]⟩,.slice (some ⟨w.heap.size,0,none⟩) 1 1,.int .i64 0,.slice ts.dO n ts.df,.slice os.dO el.length os.df] 43)):=by
 subst U;obtain⟨h1,O,_,D⟩:=pX w (.cells #[.int .u8 2,.int .u8 0,.int .u32 0,.int .i64 0,.string ⟨#[118]⟩,.slice none 0 0] 30) (.cells #[.int .u8 6,.string ⟨#[]⟩,.slice (some ⟨w.heap.size,0,none⟩) 1 1,.int .i64 0,.slice ts.dO th.length ts.df,.slice os.dO el.length os.df] 43);exact⟨sF O (Me h1 (ht.onC D) (hl.onC D)),D⟩
theorem UU(w:World)(bq:Nat)(ws:Sp)(l:List aa)(hc:kW w (dN ⟨some ⟨bq,0,none⟩,2⟩ bQ [aZ bV,cO 1 1]))(hl:gq w.heap.size w ws l) :
  gq (((w.alloc (.cells #[.int .u8 2,.int .u8 0,.int .u32 0,.int .i64 0,.string ⟨#[118]⟩,.slice none 0 0] 30)).alloc (.cells #[.int .u8 8,.string ⟨#[113]⟩,.slice (some ⟨bq,0,none⟩) 2 2,.int .i64 0,.slice none 0 0,.slice none 0 0] 43)).alloc (.cells #[.int .u8 6,.string ⟨#[]⟩,.slice (some ⟨w.heap.size,0,none⟩) 1 1,.int .i64 0,.slice (some ⟨w.heap.size+1,0,none⟩) 1 1,.slice ws.dO l.length ws.df] 43)).heap.size (((w.alloc (.cells #[.int .u8 2,.int .u8 0,.int .u32 0,.int .i64 0,.string ⟨#[118]⟩,.slice none 0 0] 30)).alloc (.cells #[.int .u8 8,.string ⟨#[113]⟩,.slice (some ⟨bq,0,none⟩) 2 2,.int .i64 0,.slice none 0 0,.slice none 0 0] 43)).alloc (.cells #[.int .u8 6,.string ⟨#[]⟩,.slice (some ⟨w.heap.size,0,none⟩) 1 1,.int .i64 0,.slice (some ⟨w.heap.size+1,0,none⟩) 1 1,.slice ws.dO l.length ws.df] 43)) ⟨some ⟨w.heap.size+1+1,0,none⟩,1⟩ [.mk 6 ⟨#[]⟩ ⟨some ⟨w.heap.size,0,none⟩,1⟩ [aZ bV] 0 ⟨some ⟨w.heap.size+1,0,none⟩,1⟩ [dN ⟨some ⟨bq,0,none⟩,2⟩ bQ [aZ bV,cO 1 1]] ws l]/\Below w.heap.size w (((w.alloc (.cells #[.int .u8 2,.int .u8 0,.int .u32 0,.int .i64 0,.string ⟨#[118]⟩,.slice none 0 0] 30)).alloc (.cells #[.int .u8 8,.string ⟨#[113]⟩,.slice (some ⟨bq,0,none⟩) 2 2,.int .i64 0,.slice none 0 0,.slice none 0 0] 43)).alloc (.cells #[.int .u8 6,.string ⟨#[]⟩,.slice (some ⟨w.heap.size,0,none⟩) 1 1,.int .i64 0,.slice (some ⟨w.heap.size+1,0,none⟩) 1 1,.slice ws.dO l.length ws.df] 43)):=by
 obtain⟨h1,O,U,D⟩:=pX w (.cells #[.int .u8 2,.int .u8 0,.int .u32 0,.int .i64 0,.string ⟨#[118]⟩,.slice none 0 0] 30) (.cells #[.int .u8 8,.string ⟨#[113]⟩,.slice (some ⟨bq,0,none⟩) 2 2,.int .i64 0,.slice none 0 0,.slice none 0 0] 43);have hb:=(ag _ ((w.alloc (.cells #[.int .u8 2,.int .u8 0,.int .u32 0,.int .i64 0,.string ⟨#[118]⟩,.slice none 0 0] 30)).alloc (.cells #[.int .u8 8,.string ⟨#[113]⟩,.slice (some ⟨bq,0,none⟩) 2 2,.int .i64 0,.slice none 0 0,.slice none 0 0] 43))).alloc (af _) (.cells #[.int .u8 6,.string ⟨#[]⟩,.slice (some ⟨w.heap.size,0,none⟩) 1 1,.int .i64 0,.slice (some ⟨w.heap.size+1,0,none⟩) 1 1,.slice ws.dO l.length ws.df] 43);have hq:=gM ((w.alloc (.cells #[.int .u8 2,.int .u8 0,.int .u32 0,.int .i64 0,.string ⟨#[118]⟩,.slice none 0 0] 30)).alloc (.cells #[.int .u8 8,.string ⟨#[113]⟩,.slice (some ⟨bq,0,none⟩) 2 2,.int .i64 0,.slice none 0 0,.slice none 0 0] 43)) (.cells #[.int .u8 6,.string ⟨#[]⟩,.slice (some ⟨w.heap.size,0,none⟩) 1 1,.int .i64 0,.slice (some ⟨w.heap.size+1,0,none⟩) 1 1,.slice ws.dO l.length ws.df] 43);rw[U]at hq;exact⟨sF hq (kW.on (Me h1 (sF O (kW.on hc D)) (hl.onC D)) hb),D.trans (hb.mono D.size)⟩
theorem Qy(w:World)(sa O:Sp)(D lb:List aa)(na nb:Nat)(ha:gq w.heap.size w sa D)(hb:gq w.heap.size w O lb)(e:D.map aJ=lb.map aJ)(wa:aV D<=20000)(U:D.length=na)(V:lb.length=nb) :
  Calls Tryz.prog 38 #[.slice sa.dO na sa.df,.slice O.dO nb O.df] w λo w'=>o=.returned (.bool true)/\Below w.heap.size w w':=by
 subst U V;have h:=EF w sa O D lb ha hb wa (by rw[<-iV,<-e,iV];exact wa);rw[(vY _ _).2 e]at h;exact h
theorem inlineCalls_any(w:World)(c4:0<w.heap.size)(hmx:MxAt w)(lv:Sp)(len:Nat)(ls:List Int)(ei:ls.length=min len 200)(ej:len<=maxLen)(eg:len<=lv.df)(hcm:lv.df<=maxLen)(hr:RowOf w.heap.size w lv 1 encU ls)(hb:∀x∈ls,0<=x/\x<=255)(b:Int)(dt:0<=b/\b<=255) :
  Calls Tryz.prog 5 #[.slice lv.dO len lv.df,.int .u8 b] w λo w'=>o=.returned (.bool true)/\Below w.heap.size w w':=by
 have dq:=ae λ(W:World) (hW:Below w.heap.size w W)=>hmx.below hW c4
 have e9:=ae (Ic w c4 hmx);obtain⟨gl,rfl⟩:∃n:Nat,b=n:=⟨b.toNat,by omega⟩;have eL:=ae λ(w1:World) (dl:Below w.heap.size w w1)=>KY w1 lv len ls gl (by omega) ei ej eg hcm ((hr.below dl).more dl.size) hb
 clear hmx ei ej eg hcm hr hb dt;go_enter Tryz.func5,Tryz.ntmps5
 go_wp2_with fail
 refine e9.o.mono ?_;clear e9;rintro o w1 ⟨rfl,dl⟩;have dp:=ae dl;clear dl;go_wp2_with fail
 refine(eL.o w1 dp.o).mono ?_;rintro o w2 ⟨p0,p,M,hasP,rfl,h0,hN,hp,f1,dt⟩;have cy:=ae (Re h0 hN hp);have eq:=ae (dp.o.trans (dt.mono dp.o.size));clear dt eL h0 hN hp dp;go_upto_region 4 with (first
  |(refine dY (t:=35) rfl rfl (jQ _) ?_)
  |(refine aK rfl 35 _ _ rfl w2.heap.size p.arr (by rfl) (by rfl) 35 ed.arr (gM _ _) (dZ _) (by kernel_rfl) (lX _) ?_)
  |fail)
 have D:Below w2.heap.size w2 ((w2.alloc (.cells ed.arr 35)).setRow w2.heap.size p.arr):=below_setRow ((ag _ _).alloc (af _) _) (af _);have f3:Bx w2.heap.size ((w2.alloc (.cells ed.arr 35)).setRow w2.heap.size p.arr) p:=bM _ _ _ _ _ _ (gM _ _);have a6:=ae (f1.on D);have bm:=ae (eq.o.trans (D.mono eq.o.size));have ct:=ae f3;clear D f3 f1 eq;generalize (w2.alloc (.cells ed.arr 35)).setRow w2.heap.size p.arr=w3 at *;generalize w2.heap.size=bp at *;have bl:=ct.o.cell 14 rfl;simp only[Sp.val]at bl;have HK:=ae (uF w3 bp p p.ws p.eX _ ct.o a6.o a6.o.eX (aI c4 bm.o.size) (dq.o w3 bm.o) cy.o.all _ rfl);go_wp2_with fail
 refine HK.o.mono ?_;rintro o w4 ⟨e8,mW,rfl,fx,fk,f0,hb⟩;have ew:=ae fx;have eK:=ae fk;have d3:=ae f0.rdC;clear fx fk f0 HK bl;have cb:=ae (((bm.o).trans (hb.mono (bm.o).size)));have b5:=ae ((a6.o).on hb);have cv:=ae ((ct.o).on hb);clear hb bm a6 ct;have bl:=cv.o.cell 14 rfl;simp only[Sp.val]at bl;have g1:p.eX.length<=1100:=ai (lM _) cy.o.kv;go_wp2_with fail
 go_loopw[29,8] (λe6 s8 wr=>∃(k:Nat) (A:Option Addr) (c:Nat) (cu:List aa),k<=p.eX.length/\e6=.int .i64 k/\s8=.slice A cu.length c/\cu.map aJ=xK p (p.eX.take k)/\Q7 w4 A c cu wr) (λe6 _ _=>p.eX.length - (intOf e6).toNat)
 case atStart=>exact⟨0,none,0,[],aH _,rfl,rfl,by rw[iY,Rs];rfl,dz.nil,λ_ h=>(by cases h),ag _ _⟩
 case round =>
  obtain⟨k,A,c,cu,hk,rfl,rfl,he,hO⟩:=hrel;have HE:=ae he;have HO:=ae hO;have cx:=hO.low;have ar:=ae (cb.o.trans (cx.mono cb.o.size));have U:=ae (b5.o.on cx);have cw:=ae (cv.o.on cx);have er:Hid (cu.length<=20000):=ae (by
   have h1:cu.length=(xK p (p.eX.take k)).length:=by simpa using congrArg List.length he
   have h2:mW.length=(xK p p.eX).length:=by simpa using congrArg List.length ew.o
   have h3:=Dr p (p.eX.take k) (p.eX.drop k);rw[fA]at h3;rw[h3,ay]at h2;have h4:=lM mW;have h5:=eK.o;omega)
  clear he hO cx;have gj:(0:Int)<=(k:Int):=by omega
  by_cases c3:k<p.eX.length
  .clear cb b5 cv bl
   obtain⟨g,e5,eA,hg,hc⟩:=U.o.eX.row.row (by omega);have ca:=hc k c3;have g0:(k:Int)<(p.eX.length:Int):=by omega
   have gg:=ae (Pw p p.eX k c3);have eW:=ae (U.o.eX.ok _ (ak c3));have eR:=ae (cy.o.one k c3);clear hc;generalize p.eX[k]=s at *;have k0:=ca 0 _ rfl;rw[bS]at k0;have k1:=ca 1 _ rfl;have k2:wr.cell? ⟨g,e5+k*6+2,none⟩=some (.slice s.es.dO s.bf.length s.es.df):=ca 2 _ rfl;have k3:=ca 3 _ rfl;have k4:wr.cell? ⟨g,e5+k*6+4,none⟩=some (.slice s.ts.dO s.gy.length s.ts.df):=ca 4 _ rfl;have k5:wr.cell? ⟨g,e5+k*6+5,none⟩=some (.slice s.os.dO s.iD.length s.os.df):=ca 5 _ rfl;have D:=jc wr (.cells s.r 43);have eY:=ae (gM wr (.cells s.r 43));have V:=ae (ar.o.trans (D.mono ar.o.size));have ap:=ae (U.o.on D);have bo:=ae (cw.o.on D);have d1:=ae (HO.o.on D);have d2:=ae (kW.on eW.o D);clear ca D ar U cw HO eW;rw[eA];have EA:=ae eA;clear eA;go_upto_region 10 with fail
   clear k0 k1 k2 k3 k4 k5;generalize wr.alloc (.cells s.r 43)=w6 at *;generalize wr.heap.size=bx at *;obtain⟨x0,x1,x2,x3,x4,x5⟩:=aR eY.o;have D:=jc w6 (.cells s.r 43);have fa:=ae (gM w6 (.cells s.r 43));have HK:=ae (uF (w6.alloc (.cells s.r 43)) bp p ⟨some ⟨w6.heap.size,0,none⟩,1⟩ [s] _ (bo.o.on D) (ap.o.on D) (sF fa.o (kW.on d2.o D)) (aI c4 (ai V.o.size D.size)) (dq.o _ (V.o.trans (D.mono V.o.size))) eR.o 1 rfl);have cf:=ae (d1.o.on D);clear D V ap bo d1 d2 eY fa eR;go_wp2_with fail
   refine HK.o.mono ?_;clear x0 x1 x2 x3 x4 x5 HK;generalize w6.alloc (.cells s.r 43)=w7 at *;rintro o w8 ⟨gt,m8,rfl,fs,gi,e3,hb⟩;have ga:=ae fs;have eM:=ae e3;have eV:=ae e3.rdC.row;have eN:=ae (cf.o.on hb).own;have ge:=ae (cf.o.on hb).low.size;have fY:Hid (cu.length+m8.length<=1000000):=ae (by
    have h1:=er.o;have h2:=lM m8;omega)
   have eC:=ae hb;clear fs gi e3 hb;go_wp2_with(first
    |(at_builtin;refine gQ rfl (.tmp 33) (.tmp 37) 33 rfl xQ (λ_=>rfl) mV _ cu rfl eN.o gt m8 rfl eV.o fY.o ge.o ?_)
    |fail)
   intro v9 w9 dn fh ef;obtain⟨A9,c9,rfl,fd⟩:=cf.o.push eC.o eM.o.2 dn fh ef;have gd:=ae fd;have fN:Hid ((cu++m8).map aJ=xK p (p.eX.take (k+1))):=ae (by rw[gg.o,aO,HE.o,ga.o]);clear dn fh ef fd cf eN eV eM eC;go_wp2_with fail
   exact⟨⟨k+1,A9,c9,_,c3,rfl,rfl,fN.o,gd.o⟩,by simp only[intOf];omega⟩
  .obtain rfl:k=p.eX.length:=by omega
   have cN:=ae (HO.o.rd (by have:=er.o;omega));have eS:Hid (cu.map aJ=mW.map aJ):=ae (by rw[HE.o,bW,ew.o]);have d4:=ae (d3.o.onC HO.o.low);clear cb b5 cv d3 bl HE HO hk gj c3 er;go_upto_region 12 with fail
   go_wp2_with fail
   refine(BJ ⟨#[118]⟩ _).mono ?_;rintro o w6 ⟨rfl,hb⟩;have c0:=hb;clear hb;have V:=ae (((ar.o).trans (c0.mono (ar.o).size)));have ap:=ae ((U.o).on c0);have bo:=ae ((cw.o).on c0);have d5:=ae ((d4.o).onC c0);have cP:=ae ((cN.o).onC c0);clear c0 ar U cw d4 cN;go_wp2_with fail
   refine(I6 1 1 _).mono ?_;rintro o w7 ⟨rfl,hb⟩;have c7:=ae (((V.o).trans (hb.mono (V.o).size)));have cT:=ae ((ap.o).on hb);have dT:=ae ((bo.o).on hb);have d6:=ae ((d5.o).onC hb);have cQ:=ae ((cP.o).onC hb);clear hb V ap bo d5 cP;have eo:RowOf (w7.alloc (.cells #[.int .u8 2,.int .u8 0,.int .u32 0,.int .i64 0,.string ⟨#[118]⟩,.slice none 0 0,.int .u8 1,.int .u8 0,.int .u32 1,.int .i64 1,.string ⟨#[]⟩,.slice none 0 0] 30)).heap.size (w7.alloc (.cells #[.int .u8 2,.int .u8 0,.int .u32 0,.int .i64 0,.string ⟨#[118]⟩,.slice none 0 0,.int .u8 1,.int .u8 0,.int .u32 1,.int .i64 1,.string ⟨#[]⟩,.slice none 0 0] 30)) ⟨some ⟨w7.heap.size,0,none⟩,2⟩ 6 ah.cells [aZ bV,cO 1 1]:=pM rfl (gM w7 _);have hb:=(ag _ w7).alloc (af _) (.cells #[.int .u8 2,.int .u8 0,.int .u32 0,.int .i64 0,.string ⟨#[118]⟩,.slice none 0 0,.int .u8 1,.int .u8 0,.int .u32 1,.int .i64 1,.string ⟨#[]⟩,.slice none 0 0] 30);have c8:=ae (((c7.o).trans (hb.mono (c7.o).size)));have cU:=ae ((cT.o).on hb);have eb:=ae ((dT.o).on hb);have d7:=ae ((d6.o).onC hb);have cR:=ae ((cQ.o).onC hb);clear hb c7 cT dT d6 cQ;have eJ:Hid (kW (w7.alloc (.cells #[.int .u8 2,.int .u8 0,.int .u32 0,.int .i64 0,.string ⟨#[118]⟩,.slice none 0 0,.int .u8 1,.int .u8 0,.int .u32 1,.int .i64 1,.string ⟨#[]⟩,.slice none 0 0] 30)) (dN ⟨some ⟨w7.heap.size,0,none⟩,2⟩ bQ [aZ bV,cO 1 1])):=ae (wX (by decide) eo λx hx=>by
    simp only[bE,bu,or_false]at hx;rcases hx with rfl|rfl
    .exact kY _ _ (by decide)
    .exact mU _ 1 1 (by decide) (by decide))
   have eI:Hid (Calls Tryz.prog 32 #[.string ⟨#[113]⟩,.slice (some ⟨w7.heap.size,0,none⟩) 2 2] (w7.alloc (.cells #[.int .u8 2,.int .u8 0,.int .u32 0,.int .i64 0,.string ⟨#[118]⟩,.slice none 0 0,.int .u8 1,.int .u8 0,.int .u32 1,.int .i64 1,.string ⟨#[]⟩,.slice none 0 0] 30)) λo w'=>o=.returned (.agg #[.int .u8 8,.string ⟨#[113]⟩,.slice (some ⟨w7.heap.size,0,none⟩) 2 2,.int .i64 0,.slice none 0 0,.slice none 0 0])/\Below (w7.alloc (.cells #[.int .u8 2,.int .u8 0,.int .u32 0,.int .i64 0,.string ⟨#[118]⟩,.slice none 0 0,.int .u8 1,.int .u8 0,.int .u32 1,.int .i64 1,.string ⟨#[]⟩,.slice none 0 0] 30)).heap.size (w7.alloc (.cells #[.int .u8 2,.int .u8 0,.int .u32 0,.int .i64 0,.string ⟨#[118]⟩,.slice none 0 0,.int .u8 1,.int .u8 0,.int .u32 1,.int .i64 1,.string ⟨#[]⟩,.slice none 0 0] 30)) w'):=ae (pY bQ ⟨some ⟨w7.heap.size,0,none⟩,2⟩ [aZ bV,cO 1 1] (w7.alloc (.cells #[.int .u8 2,.int .u8 0,.int .u32 0,.int .i64 0,.string ⟨#[118]⟩,.slice none 0 0,.int .u8 1,.int .u8 0,.int .u32 1,.int .i64 1,.string ⟨#[]⟩,.slice none 0 0] 30)));clear eo;go_wp2_with fail
   refine eI.o.mono ?_;clear eI;generalize w7.alloc (.cells #[.int .u8 2,.int .u8 0,.int .u32 0,.int .i64 0,.string ⟨#[118]⟩,.slice none 0 0,.int .u8 1,.int .u8 0,.int .u32 1,.int .i64 1,.string ⟨#[]⟩,.slice none 0 0] 30)=w8 at *;generalize w7.heap.size=bq at *;rintro o w9 ⟨rfl,hb⟩;have cC:=ae (kW.on eJ.o hb);clear eJ;have cA:=ae (((c8.o).trans (hb.mono (c8.o).size)));have cV:=ae ((cU.o).on hb);have ee:=ae ((eb.o).on hb);have d8:=ae ((d7.o).onC hb);have cS:=ae ((cR.o).onC hb);clear hb c8 cU eb d7 cR;have f4:=gM w9 (.cells #[.int .u8 8,.string ⟨#[113]⟩,.slice (some ⟨bq,0,none⟩) 2 2,.int .i64 0,.slice none 0 0,.slice none 0 0] 43);have hb:=(ag _ w9).alloc (af _) (.cells #[.int .u8 8,.string ⟨#[113]⟩,.slice (some ⟨bq,0,none⟩) 2 2,.int .i64 0,.slice none 0 0,.slice none 0 0] 43);have br:=ae (((cA.o).trans (hb.mono (cA.o).size)));have cn:=ae ((cV.o).on hb);have de:=ae ((ee.o).on hb);have cW:=ae ((d8.o).onC hb);have cg:=ae ((cS.o).onC hb);have cc:=ae (kW.on (cC.o) hb);clear hb cA cV ee d8 cS cC;have ab:=ae f4;clear f4;go_upto_region 13 with fail
   generalize w9.alloc (.cells #[.int .u8 8,.string ⟨#[113]⟩,.slice (some ⟨bq,0,none⟩) 2 2,.int .i64 0,.slice none 0 0,.slice none 0 0] 43)=c5 at *;generalize w9.heap.size=bc at *;obtain⟨x0,x1,x2,x3,x4,x5⟩:=aR ab.o;have f2:=gM c5 (.cells #[.int .u8 8,.string ⟨#[113]⟩,.slice (some ⟨bq,0,none⟩) 2 2,.int .i64 0,.slice none 0 0,.slice none 0 0] 43);have hb:=(ag _ c5).alloc (af _) (.cells #[.int .u8 8,.string ⟨#[113]⟩,.slice (some ⟨bq,0,none⟩) 2 2,.int .i64 0,.slice none 0 0,.slice none 0 0] 43);have an:=ae (((br.o).trans (hb.mono (br.o).size)));have a3:=ae ((cn.o).on hb);have b8:=ae ((de.o).on hb);have cX:=ae ((cW.o).onC hb);have ch:=ae ((cg.o).onC hb);have aw:=ae (kW.on (cc.o) hb);have a7:=ae ((hb.block _ (dM (ab.o)).1).trans (ab.o));clear hb br cn de cW cg cc ab;have HK:=ae (uF (c5.alloc (.cells #[.int .u8 8,.string ⟨#[113]⟩,.slice (some ⟨bq,0,none⟩) 2 2,.int .i64 0,.slice none 0 0,.slice none 0 0] 43)) bp p ⟨some ⟨c5.heap.size,0,none⟩,1⟩ [(dN ⟨some ⟨bq,0,none⟩,2⟩ bQ [aZ bV,cO 1 1])] _ b8.o a3.o (sF f2 aw.o) (aI c4 an.o.size) (dq.o _ an.o) (cy.o.call _) 1 rfl);clear f2;go_wp2_with fail
   refine HK.o.mono ?_;clear x0 x1 x2 x3 x4 x5 HK;generalize c5.alloc (.cells #[.int .u8 8,.string ⟨#[113]⟩,.slice (some ⟨bq,0,none⟩) 2 2,.int .i64 0,.slice none 0 0,.slice none 0 0] 43)=g2 at *;generalize c5.heap.size=gx at *;rintro o du ⟨gv,mG,rfl,ft,fi,fy,hb⟩;have gb:=ae ft;have fS:=ae fi;have cD:=ae fy.rdC;clear ft fi fy;have bt:=ae (((an.o).trans (hb.mono (an.o).size)));have co:=ae ((a3.o).on hb);have dg:=ae ((b8.o).on hb);have cY:=ae ((cX.o).onC hb);have ci:=ae ((ch.o).onC hb);have cd:=ae (kW.on (aw.o) hb);have a8:=ae ((hb.block _ (dM (a7.o)).1).trans (a7.o));clear hb an a3 b8 cX ch aw a7;have f5:=gM du (.cells #[.int .u8 2,.int .u8 0,.int .u32 0,.int .i64 0,.string ⟨#[118]⟩,.slice none 0 0] 30);have hb:=(ag _ du).alloc (af _) (.cells #[.int .u8 2,.int .u8 0,.int .u32 0,.int .i64 0,.string ⟨#[118]⟩,.slice none 0 0] 30);have bw:=ae (((bt.o).trans (hb.mono (bt.o).size)));have a4:=ae ((co.o).on hb);have bk:=ae ((dg.o).on hb);have da:=ae ((cY.o).onC hb);have cj:=ae ((ci.o).onC hb);have ce:=ae (kW.on (cd.o) hb);have O:=ae ((hb.block _ (dM (a8.o)).1).trans (a8.o));have cE:=ae ((cD.o).onC hb);clear hb bt co dg cY ci cd a8 cD;have ad:=ae f5;clear f5;go_upto_region 15 with fail
   generalize du.alloc (.cells #[.int .u8 2,.int .u8 0,.int .u32 0,.int .i64 0,.string ⟨#[118]⟩,.slice none 0 0] 30)=aq at *;generalize du.heap.size=be at *;obtain⟨y0,y1,y2,y3,y4,y5⟩:=aR ad.o;obtain⟨x0,x1,x2,x3,x4,x5⟩:=aR O.o;have bl:=bk.o.cell 14 rfl;simp only[Sp.val]at bl;have fm:bc<aq.heap.size:=(dM O.o).1;have fp:=bk.o.lt;have h3:=UU aq bq p.ws p.eX ce.o a4.o.eX;have hb:=h3.2;clear ce;have ao:=ae (((bw.o).trans (hb.mono (bw.o).size)));have a5:=ae ((a4.o).on hb);have b9:=ae ((bk.o).on hb);have db:=ae ((da.o).onC hb);have ck:=ae ((cj.o).onC hb);have aE:=ae ((hb.block _ (dM (O.o)).1).trans (O.o));have cF:=ae ((cE.o).onC hb);have bi:=ae ((hb.block _ (dM (ad.o)).1).trans (ad.o));clear hb bw a4 bk da cj O cE ad;have HK:=ae (uF (((aq.alloc (.cells #[.int .u8 2,.int .u8 0,.int .u32 0,.int .i64 0,.string ⟨#[118]⟩,.slice none 0 0] 30)).alloc (.cells #[.int .u8 8,.string ⟨#[113]⟩,.slice (some ⟨bq,0,none⟩) 2 2,.int .i64 0,.slice none 0 0,.slice none 0 0] 43)).alloc (.cells #[.int .u8 6,.string ⟨#[]⟩,.slice (some ⟨aq.heap.size,0,none⟩) 1 1,.int .i64 0,.slice (some ⟨aq.heap.size+1,0,none⟩) 1 1,.slice p.ws.dO p.eX.length p.ws.df] 43)) bp p ⟨some ⟨aq.heap.size+1+1,0,none⟩,1⟩ [_] _ b9.o a5.o h3.1 (aI c4 ao.o.size) (dq.o _ ao.o) (cy.o.iff _ _ _ _) 1 rfl);clear h3;go_wp2_with fail
   refine HK.o.mono ?_;clear x0 x1 x2 x3 x4 x5 y0 y1 y2 y3 y4 y5 bl HK fm fp;generalize ((aq.alloc (.cells #[.int .u8 2,.int .u8 0,.int .u32 0,.int .i64 0,.string ⟨#[118]⟩,.slice none 0 0] 30)).alloc (.cells #[.int .u8 8,.string ⟨#[113]⟩,.slice (some ⟨bq,0,none⟩) 2 2,.int .i64 0,.slice none 0 0,.slice none 0 0] 43)).alloc (.cells #[.int .u8 6,.string ⟨#[]⟩,.slice (some ⟨aq.heap.size,0,none⟩) 1 1,.int .i64 0,.slice (some ⟨aq.heap.size+1,0,none⟩) 1 1,.slice p.ws.dO p.eX.length p.ws.df] 43)=g3 at *;generalize aq.heap.size=b13 at *;rintro o g4 ⟨gw,mI,rfl,fv,fj,fz,hb⟩;have gc:=ae fv;have fW:=ae fj;have cI:=ae fz.rdC;clear fv fj fz;have b0:=ae (((ao.o).trans (hb.mono (ao.o).size)));have cp:=ae ((a5.o).on hb);have bC:=ae ((b9.o).on hb);have dc:=ae ((db.o).onC hb);have cl:=ae ((ck.o).onC hb);have ba:=ae ((hb.block _ (dM (aE.o)).1).trans (aE.o));have cG:=ae ((cF.o).onC hb);have bj:=ae ((hb.block _ (dM (bi.o)).1).trans (bi.o));clear hb ao a5 b9 db ck aE cF bi;go_upto_region 16 with fail
   refine dK ?_ (kD (C':=.region 16 opsI16 true) (by kernel_rfl) (TC rfl bp p rfl bC.o cy.o.wf));rintro e a9 gn ⟨rfl,ep,ff,fl,⟨ez,e4,fc,eh,em,en⟩,hb⟩;have dv:=ae eh;have dy:=ae em;have cM:=ae en;clear eh em en;have b1:=ae (((b0.o).trans (hb.mono (b0.o).size)));have cq:=ae ((cp.o).on hb);have dj:=ae ((bC.o).on hb);have b7:=ae ((dc.o).onC hb);have a1:=ae ((cl.o).onC hb);have bd:=ae ((hb.block _ (dM (ba.o)).1).trans (ba.o));have cH:=ae ((cG.o).onC hb);have al:=ae ((hb.block _ (dM (bj.o)).1).trans (bj.o));have cJ:=ae ((cI.o).onC hb);clear hb b0 cp bC dc cl ba cG bj cI;obtain⟨F,hF,fg⟩:=Cs ep;rw[fg,ff];simp only[List.range,List.range.loop,List.map];have gk:∀i:Nat,CB i=true->F i=_:=λi hi=>(hF i).trans (bz (fl i hi))
   have g5:=gk 5 rfl;have g6:=gk 6 rfl;have g7:=gk 7 rfl;have g8:=gk 8 rfl;have e0:=gk 12 rfl;have e1:=gk 13 rfl;have e2:=gk 14 rfl;simp only[List.getElem?_toArray,bD,dm,iq]at g5 g6 g7 g8 e0 e1 e2;have fb:F 15=_:=(hF 15).trans (bz fc);rw[g5,g6,g7,g8,e0,e1,e2,fb];clear gk hF fg fl ep ff fb fc g5 g6 g7 g8 e0 e1 e2;obtain⟨y0,y1,y2,y3,y4,y5⟩:=aR al.o;have b6:=ae (Qy gn ⟨A,c⟩ e8 cu mW _ _ a1.o b7.o eS.o (by rw[<-iV,eS.o,iV];exact eK.o) rfl rfl);go_wp2_with fail
   refine b6.o.mono ?_;rintro o gr ⟨rfl,hb⟩;clear b6 y0 y1 y2 y3 y4 y5;have b2:=ae (((b1.o).trans (hb.mono (b1.o).size)));have cr:=ae ((cq.o).on hb);have dk:=ae ((dj.o).on hb);have dd:=ae ((b7.o).onC hb);have cm:=ae ((a1.o).onC hb);have bh:=ae ((hb.block _ (dM (bd.o)).1).trans (bd.o));have b3:=ae ((cH.o).onC hb);have am:=ae ((hb.block _ (dM (al.o)).1).trans (al.o));have cL:=ae ((cJ.o).onC hb);have b4:=ae ((cM.o).onC hb);clear hb b1 cq dj b7 a1 bd cH al cJ cM;obtain⟨y0,y1,y2,y3,y4,y5⟩:=aR am.o;have b6:=ae (Qy gr gv ⟨some ⟨ez,0,none⟩,4⟩ mG e4 _ _ b3.o b4.o (gb.o.trans dv.o.symm) fS.o rfl dy.o);go_wp2_with fail
   refine b6.o.mono ?_;rintro o e7 ⟨rfl,hb⟩;clear b6 y0 y1 y2 y3 y4 y5;have c6:=ae (((b2.o).trans (hb.mono (b2.o).size)));have f7:=ae ((cr.o).on hb);have gh:=ae ((dk.o).on hb);have ey:=ae ((dd.o).onC hb);have f6:=ae ((cm.o).onC hb);have fE:=ae ((hb.block _ (dM (bh.o)).1).trans (bh.o));have fR:=ae ((b3.o).onC hb);have dr:=ae ((hb.block _ (dM (am.o)).1).trans (am.o));have et:=ae ((cL.o).onC hb);have ev:=ae ((b4.o).onC hb);clear hb b2 cr dk dd cm bh b3 am cL b4;obtain⟨y0,y1,y2,y3,y4,y5⟩:=aR dr.o;obtain⟨h1,hb⟩:=UT e7 ⟨some ⟨ez,0,none⟩,4⟩ e8 e4 mW 4 dy.o ev.o ey.o;have fX:Hid (mI.map aJ=([.mk 6 ⟨#[]⟩ ⟨some ⟨e7.heap.size,0,none⟩,1⟩ [aZ bV] 0 ⟨some ⟨ez,0,none⟩,4⟩ e4 e8 mW]:List aa).map aJ):=ae (by rw[gc.o,ax,dh,dS,dv.o,ew.o];rfl);have b6:=ae (Qy _ gw ⟨some ⟨e7.heap.size+1,0,none⟩,1⟩ mI _ _ 1 (et.o.onC hb) h1 fX.o fW.o rfl rfl);have eE:=ae (c6.o.trans (hb.mono c6.o.size));clear h1 hb;go_wp2_with fail
   refine b6.o.mono ?_;rintro o g9 ⟨rfl,hb⟩;have fL:=ae (eE.o.trans (hb.mono eE.o.size));clear hb;go_wp2_with fail
   go_ret
   exact⟨rfl,fL.o⟩
theorem MxAt.pos{W:World}(h:MxAt W):0<W.heap.size:=by
 obtain⟨m,hm⟩:=h
 rcases Nat.eq_zero_or_pos W.heap.size with h0 | h0
 .have:W.heap[0]?=none:=by simp[h0]
  simp[World.cell?,this]at hm
 .exact h0
end Go.Proofs.YtepacjkacjabbaaGreatDoor
