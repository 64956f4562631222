import Derived.Test.YtepacjkacjabbaaGreatDoorYAM
set_option linter.all false
set_option maxRecDepth 10000000
set_option maxHeartbeats 64000000
namespace Go.Proofs.YtepacjkacjabbaaGreatDoor
open Go Go.Maps Go.RowKit
section
def Bx(s0:Nat)(w:World)(p:aj):Prop:=w.heap[s0]?=some (.cells p.arr 35 (0,0))
def Mk(s0:Nat)(w w':World):Prop:=Below w.heap.size (mask s0 w) (mask s0 w')
section
variable {s0 lo:Nat}{w w' w2:World}{p q:aj}
theorem Mk.refl:Mk s0 w w:=ag _ _
theorem Mk.size(h:Mk s0 w w'):w.heap.size<=w'.heap.size:=ja h
theorem Mk.trans(h:Mk s0 w w')(D:Mk s0 w' w2):Mk s0 w w2:=Below.trans h (Below.mono D h.size)
theorem Mk.of(h:Below w.heap.size w w')(D:s0<w.heap.size):Mk s0 w w':=bn D h
theorem Mk.set(_:s0<w.heap.size)(i:Nat)(v:Value):Mk s0 w (w.setCell ⟨s0,i,none⟩ v):=by
 unfold Mk;rw[l6];exact ag _ _
theorem Mk.below(h:Mk s0 w w'){n:Nat}(D:n<=s0)(O:s0<w.heap.size):Below n w w':=nG D (Below.mono h (by omega))
theorem Mk.heap(h:Mk s0 w w'){b:Nat}(hb:b≠s0)(hl:b<w.heap.size):w'.heap[b]?=w.heap[b]? := by
 have:=Below.block h b hl
 rwa [gz hb,gz hb]at this
theorem Mk.cell(h:Mk s0 w w'){a:Addr}(hb:a.block≠s0)(hl:a.block<w.heap.size):w'.cell? a=w.cell? a:=aM (h.heap hb hl)
theorem Bx.cell(h:Bx s0 w p)(i:Nat){v:Value}(hi:p.cells[i]?=some v):w.cell? ⟨s0,i,none⟩=some v:=by
 have D:w.heap[s0]?=_:=h;simp[World.cell?,D,aj.arr,hi]
theorem Bx.on(h:Bx s0 w p)(hb:Below w.heap.size w w'):Bx s0 w' p:=(hb.block s0 (dM h).1).trans h
theorem Bx.lt(h:Bx s0 w p):s0<w.heap.size:=(dM h).1
theorem Bx.put(h:Bx s0 w p)(i:Nat)(v:Value)(hq:q.arr=p.arr.setIfInBounds i v):Bx s0 (w.setCell ⟨s0,i,none⟩ v) q:=by
 have D:w.heap[s0]?=_:=h;unfold Bx;simp[World.setCell,cK,D,hq]
theorem Bx.free(h:Bx s0 w p)(i:Nat):w.frozen? ⟨s0,i,none⟩=false:=by
 have:w.heap[s0]?=_:=h;simp[World.frozen?,this]
def Q3(lo:Nat)(b:Bool)(w:World)(e D:ah):Prop:=(b=true->bX D=bX e/\fV lo w D)/\(b=false->D=e)
theorem Q3.on{b:Bool}{e D:ah}(h:Q3 lo b w e D)(hm:Mk s0 w w')(O:s0<lo):Q3 lo b w' e D:=⟨λhb=>⟨(h.1 hb).1,(h.1 hb).2.on hm O⟩,h.2⟩
theorem Q3.off{e:ah}:Q3 lo false w e e:=⟨λh=>(by cases h),λ_=>rfl⟩
def Q0(lo:Nat)(b:Bool)(w:World)(sp:Sp)(l:List aa)(D:Sp)(O:List aa):Prop:=(b=true->O.map aJ=l.map aJ/\j4 lo w D O)/\(b=false->D=sp/\O=l)
theorem Q0.on{b:Bool}{sp D:Sp}{l O:List aa}(h:Q0 lo b w sp l D O)(hm:Mk s0 w w')(U:s0<lo):Q0 lo b w' sp l D O:=⟨λhb=>⟨(h.1 hb).1,(h.1 hb).2.on hm U⟩,h.2⟩
theorem Q0.off{sp:Sp}{l:List aa}:Q0 lo false w sp l sp l:=⟨λh=>(by cases h),λ_=>⟨rfl,rfl⟩⟩
def H6{α:Type}(B:Nat)(ty:TypeId)(k:Nat)(enc:α->List Value)(b:Bool)(w:World)(sp D:Sp)(l:List α):Prop:=(b=true->dz B w ty k enc (.slice D.dO l.length D.df) l)/\(b=false->D=sp)
theorem dz.onM{α:Type}{B:Nat}{ty:TypeId}{k:Nat}{enc:α->List Value}{v:Value}{l:List α}(h:dz B w ty k enc v l)(hm:Mk s0 w w')(U:s0<B):dz B w' ty k enc v l :=
 h.kept λg _ _ O D=>hm.heap (by omega) (dM D).1
theorem H6.on{α:Type}{B:Nat}{ty:TypeId}{k:Nat}{enc:α->List Value}{b:Bool}{sp D:Sp}{l:List α}(h:H6 B ty k enc b w sp D l)(hm:Mk s0 w w')(O:s0<B):H6 B ty k enc b w' sp D l:=⟨λhb=>(h.1 hb).onM hm O,h.2⟩
theorem H6.off{α:Type}{B:Nat}{ty:TypeId}{k:Nat}{enc:α->List Value}{sp:Sp}{l:List α}:H6 B ty k enc false w sp sp l:=⟨λh=>(by cases h),λ_=>rfl⟩
theorem Mk.six(_:s0<w.heap.size)(o:Nat)(D O U V v4 v5:Value):Mk s0 w (six w s0 o D O U V v4 v5):=by
 unfold Mk Go.Proofs.YtepacjkacjabbaaGreatDoor.six;simp only[l6];exact ag _ _
theorem Bx.six(h:Bx s0 w p)(o:Nat)(D O U V v4 v5:Value)(hq:q.arr=(((((p.arr.setIfInBounds o D).setIfInBounds (o+1) O).setIfInBounds (o+2) U).setIfInBounds (o+3) V).setIfInBounds (o+4) v4).setIfInBounds (o+5) v5):Bx s0 (six w s0 o D O U V v4 v5) q:=by
 have hh:w.heap[s0]?=_:=h;unfold Bx Go.Proofs.YtepacjkacjabbaaGreatDoor.six;simp[World.setCell,cK,hh,hq]
end
end
def JU(n0:Nat)(W0:World)(a b:aa):Prop:=∀W,Below n0 W0 W->n0<=W.heap.size ->
 Calls Tryz.prog 96 #[.agg #[.int .u8 a.bI,.string a.aT,.slice a.es.dO a.bf.length a.es.df,.int .i64 a.gT,.slice a.ts.dO a.gy.length a.ts.df,.slice a.os.dO a.iD.length a.os.df],.agg #[.int .u8 b.bI,.string b.aT,.slice b.es.dO b.bf.length b.es.df,.int .i64 b.gT,.slice b.ts.dO b.gy.length b.ts.df,.slice b.os.dO b.iD.length b.os.df]] W λo w'=>o=.returned (.bool (O7 a b))/\Below W.heap.size W w'
def Cr(n0:Nat)(W0:World)(sa O:Sp)(D lb:List aa):Prop:=∀W,Below n0 W0 W->n0<=W.heap.size ->
 Calls Tryz.prog 95 #[.slice sa.dO D.length sa.df,.slice O.dO lb.length O.df,.func (.func 96) #[] #[]] W λo w'=>o=.returned (.bool (kJ D lb))/\Below W.heap.size W w'
theorem EZ(D lb:List aa)(h:D.length=lb.length)(k:Nat)(hk:k<D.length):kJ (D.drop k) (lb.drop k)=(O7 D[k] (lb[k]'(by omega)) && kJ (D.drop (k+1)) (lb.drop (k+1))):=by
 rw[dR hk,dR (by omega:k<lb.length),kJ]
theorem Iu{D lb:List aa}(h:D.length≠lb.length):kJ D lb=false:=by
 cases e:kJ D lb with
 |false=>rfl
 |true=>exact absurd (by simpa using congrArg List.length ((vY D lb).1 e)) h
theorem yG{n0:Nat}{W0:World}{sa sb:Sp}{la lb:List aa}(ra:RowOf n0 W0 sa 6 aa.cells la)(rb:RowOf n0 W0 sb 6 aa.cells lb)(ih:∀a∈la,∀b∈lb,JU n0 W0 a b):Cr n0 W0 sa sb la lb:=by
 intro w hw hn;have br:=ae ((ra.below hw).more hn);have bt:=ae ((rb.below hw).more hn);have bo:=ae λ(i:Nat) (hi:i<la.length) (hj:i<lb.length) (W:World) (hW:Below w.heap.size w W)=>ih _ (ak hi) _ (ak hj) W (hw.trans (hW.mono hn)) (ai hn hW.size)
 have fa:=ra.few;have fb:=rb.few;clear ra rb ih hw;go_enter Tryz.func95,Tryz.ntmps95
 by_cases hl:la.length=lb.length
 .have hd:((la.length:Int) == (lb.length:Int))=true:=by simp[hl]
  have bw:((la.length:Int) != (lb.length:Int))=false:=by simp[hl]
  have HL:=ae hl;clear hl;go_wp2_with fail
  go_loopw[17] (λv wr=>∃k:Nat,k<=la.length/\v=.int .i64 k/\kJ la lb=kJ (la.drop k) (lb.drop k)/\Below w.heap.size w wr) (λv _=>la.length - (intOf v).toNat)
  case atStart=>exact⟨0,aH _,rfl,rfl,ag _ _⟩
  case round =>
   obtain⟨k,hk,rfl,bd,hb⟩:=hrel;have a8:=ae bd;have al:=ae hb;clear bd hb;by_cases an:k<la.length
   .have bi:k<lb.length:=by have:=HL.o;omega
    obtain⟨ga,oa,eA,_,be⟩:=(br.o.below al.o).row (by omega);obtain⟨gb,ob,eB,b7,bh⟩:=(bt.o.below al.o).row (by omega);have D:=be k an;have O:=bh k bi;have bc:=ae (a8.o.trans (EZ la lb HL.o k an));have ad:=ae (bo.o k an bi);clear be bh;generalize la[k]=x at *;generalize lb[k]=y at *;have a0:=D 0 _ rfl;rw[bS]at a0;have a1:=D 1 _ rfl;have a2:wr.cell? ⟨ga,oa+k*6+2,none⟩=some (.slice x.es.dO x.bf.length x.es.df):=D 2 _ rfl;have a3:=D 3 _ rfl;have a4:wr.cell? ⟨ga,oa+k*6+4,none⟩=some (.slice x.ts.dO x.gy.length x.ts.df):=D 4 _ rfl;have a5:wr.cell? ⟨ga,oa+k*6+5,none⟩=some (.slice x.os.dO x.iD.length x.os.df):=D 5 _ rfl;have b0:=O 0 _ rfl;rw[bS]at b0;have b1:=O 1 _ rfl;have b2:wr.cell? ⟨gb,ob+k*6+2,none⟩=some (.slice y.es.dO y.bf.length y.es.df):=O 2 _ rfl;have b3:=O 3 _ rfl;have b4:wr.cell? ⟨gb,ob+k*6+4,none⟩=some (.slice y.ts.dO y.gy.length y.ts.df):=O 4 _ rfl;have b5:wr.cell? ⟨gb,ob+k*6+5,none⟩=some (.slice y.os.dO y.iD.length y.os.df):=O 5 _ rfl;have b8:(0:Int)<=(k:Int):=by omega
    have b9:(k:Int)<(la.length:Int):=by omega
    have bC:(k:Int)<(lb.length:Int):=by omega
    clear D O;rw[eA,eB];clear eA eB;go_upto_region 6 with fail
    have V:=jc wr (.cells x.r 43);have a7:=gM wr (.cells x.r 43);have bk:=al.o.size;have U:gb<wr.heap.size:=by omega
    replace b0:=(V.cell (p:=⟨gb,ob+k*6,none⟩) U).trans b0
    replace b1:=(V.cell (p:=⟨gb,ob+k*6+1,none⟩) U).trans b1
    replace b2:=(V.cell (p:=⟨gb,ob+k*6+2,none⟩) U).trans b2
    replace b3:=(V.cell (p:=⟨gb,ob+k*6+3,none⟩) U).trans b3
    replace b4:=(V.cell (p:=⟨gb,ob+k*6+4,none⟩) U).trans b4
    replace b5:=(V.cell (p:=⟨gb,ob+k*6+5,none⟩) U).trans b5
    generalize wr.alloc (.cells x.r 43)=W5 at *;have bj:=V.size;generalize wr.heap.size=bx at *;obtain⟨x0,x1,x2,x3,x4,x5⟩:=aR a7;have ar:=ae a7;have a9:=ae V;clear a0 a1 a2 a3 a4 a5 a7 V;go_upto_region 7 with fail
    have aw:=jc W5 (.cells y.r 43);have bm:=gM W5 (.cells y.r 43);have bl:=(aw.block bx (dM ar.o).1).trans ar.o;have ba:=al;have ap:=ba.o.trans ((a9.o.trans (aw.mono bj)).mono bk);clear x0 x1 x2 x3 x4 x5 b0 b1 b2 b3 b4 b5 ar a9;generalize W5.alloc (.cells y.r 43)=W7 at *;generalize W5.heap.size=b6 at *;obtain⟨x0,x1,x2,x3,x4,x5⟩:=aR bl;obtain⟨y0,y1,y2,y3,y4,y5⟩:=aR bm;have ab:=ae ap;have ao:=ab.o.size;clear bl bm aw ap;obtain⟨bv,a6⟩:∃b,O7 x y=b:=⟨_,rfl⟩;have aE:=ae a6;rw[a6]at ad;clear a6;cases bv with
    |false =>
     go_wp2_with(go_at_call 96;refine(ad.o W7 ab.o).mono ?_;rintro o W8 ⟨rfl,am⟩;have aq:=ae am;clear am)
     go_ret
     exact⟨by rw[bc.o,aE.o];rfl,ab.o.trans (aq.o.mono ao)⟩
    |true =>
     go_wp2_with(go_at_call 96;refine(ad.o W7 ab.o).mono ?_;rintro o W8 ⟨rfl,am⟩;have aq:=ae am;clear am)
     exact⟨⟨k+1,an,rfl,by rw[bc.o,aE.o];rfl,ab.o.trans (aq.o.mono ao)⟩,by simp only[intOf];omega⟩
   .obtain rfl:k=la.length:=by omega
    have e0:kJ la lb=true:=by
     rw[a8.o,fD,HL.o,fD]
     rfl
    have E0:=ae e0;clear an e0;go_wp2_with fail
    go_ret
    exact⟨by rw[E0.o];rfl,al.o⟩
 .have hd:((la.length:Int) == (lb.length:Int))=false:=by simp;omega
  have bw:((la.length:Int) != (lb.length:Int))=true:=by simp;omega
  rw[Iu hl];clear hl;go_wp2_with fail
  go_ret
  exact⟨rfl,ag _ _⟩
theorem D6{n0:Nat}{W0:World}{a b:aa}(bm:Gf n0 W0 a.es b.es a.bf b.bf)(bl:Cr n0 W0 a.ts b.ts a.gy b.gy)(bk:Cr n0 W0 a.os b.os a.iD b.iD):JU n0 W0 a b:=by
 intro w hw hn;have HX:=ae λ(W:World) (hW:Below w.heap.size w W)=>bm W (hw.trans (hW.mono hn)) (ai hn hW.size)
 have HT:=ae λ(W:World) (hW:Below w.heap.size w W)=>bl W (hw.trans (hW.mono hn)) (ai hn hW.size)
 have HE:=ae λ(W:World) (hW:Below w.heap.size w W)=>bk W (hw.trans (hW.mono hn)) (ai hn hW.size)
 obtain⟨k,n,es,ex,bd,ts,th,os,el⟩:=a;obtain⟨k',n',ad,D,U,am,O,al,V⟩:=b;have a6:Below w.heap.size w ((w.alloc (.cells #[.int .u8 k,.string n,.slice es.dO ex.length es.df,.int .i64 bd,.slice ts.dO th.length ts.df,.slice os.dO el.length os.df] 43)).alloc (.cells #[.int .u8 k',.string n',.slice ad.dO D.length ad.df,.int .i64 U,.slice am.dO O.length am.df,.slice al.dO V.length al.df] 43)):=((ag _ _).alloc (af _) _).alloc (by simp) _;have e0:O7 (.mk k n es ex bd ts th os el) (.mk k' n' ad D U am O al V)=(decide (k=k'/\n=n'/\bd=U) && (kK ex D && (kJ th O && kJ el V))):=by rw[O7];rfl
 rw[e0];clear bm bl bk hw;simp only[aa.bI,aa.aT,aa.gT,aa.es,aa.bf,aa.ts,aa.gy,aa.os,aa.iD]at *;go_enter Tryz.func96,Tryz.ntmps96
 obtain⟨be,bi,br,_⟩:=pX w (.cells #[.int .u8 k,.string n,.slice es.dO ex.length es.df,.int .i64 bd,.slice ts.dO th.length ts.df,.slice os.dO el.length os.df] 43) (.cells #[.int .u8 k',.string n',.slice ad.dO D.length ad.df,.int .i64 U,.slice am.dO O.length am.df,.slice al.dO V.length al.df] 43);have ab:=ae a6;have bo:=ae a6.size;have a1:=ae be;have a4:=ae bi;clear a6 be bi br;by_cases h1:k=k'
 .by_cases h2:n=n'
  .by_cases h3:bd=U
   .subst h1 h2 h3
    have e2:(decide (k=k/\n=n/\bd=bd) && (kK ex D && (kJ th O && kJ el V)))=(kK ex D && (kJ th O && kJ el V)):=by simp
    rw[e2];clear e0 e2;go_wp2_with fail
    refine(HX.o _ ab.o).mono ?_;rintro o W8 ⟨rfl,ap⟩;obtain⟨bx,a8⟩:∃b,kK ex D=b:=⟨_,rfl⟩;have aw:=ae a8;rw[a8];clear a8;have an:=ae (ab.o.trans (ap.mono bo.o));have a9:=(ap.block _ (dM a1.o).1).trans a1.o;have aE:=(ap.block _ (dM a4.o).1).trans a4.o;obtain⟨x0,x1,x2,x3,x4,x5⟩:=aR a9;obtain⟨y0,y1,y2,y3,y4,y5⟩:=aR aE;have a3:=ae a9;have a5:=ae aE;clear ap HX a9 aE a1 a4;cases bx with
    |false =>
     go_wp2_with fail
     go_ret
     exact⟨by rw[aw.o];rfl,an.o⟩
    |true =>
     go_wp2_with fail
     refine(HT.o _ an.o).mono ?_;rintro o W9 ⟨rfl,aq⟩;obtain⟨bt,a7⟩:∃b,kJ th O=b:=⟨_,rfl⟩;have bc:=ae a7;rw[a7];clear a7;have ao:=ae (an.o.trans (aq.mono an.o.size));have bh:=(aq.block _ (dM a3.o).1).trans a3.o;have bj:=(aq.block _ (dM a5.o).1).trans a5.o;clear x0 x1 x2 x3 x4 x5 y0 y1 y2 y3 y4 y5;obtain⟨_,_,_,_,_,x5⟩:=aR bh;obtain⟨_,_,_,_,_,y5⟩:=aR bj;clear aq HT bh bj a3 a5;cases bt with
     |false =>
      go_wp2_with fail
      go_ret
      exact⟨by rw[aw.o,bc.o];rfl,ao.o⟩
     |true =>
      go_wp2_with fail
      refine(HE.o _ ao.o).mono ?_;rintro o bw ⟨rfl,ar⟩;have ba:=ae (ao.o.trans (ar.mono ao.o.size));clear ar HE;go_wp2_with fail
      go_ret
      exact⟨by rw[aw.o,bc.o];rfl,ba.o⟩
   .have hd:(bd == U)=false:=by simp[h3]
    have e1:(decide (k=k'/\n=n'/\bd=U) && (kK ex D && (kJ th O && kJ el V)))=false:=by simp[h3]
    rw[e1];subst h1 h2;clear h3 e1 e0;go_wp2_with fail
    go_ret
    exact⟨rfl,ab.o⟩
  .have hd:(n.toList == n'.toList)=false:=beq_eq_false_iff_ne.2 λe=>h2 (toList_inj e)
   have e1:(decide (k=k'/\n=n'/\bd=U) && (kK ex D && (kJ th O && kJ el V)))=false:=by simp[h2]
   rw[e1];subst h1;clear h2 e1 e0;go_wp2_with fail
   go_ret
   exact⟨rfl,ab.o⟩
 .have hd:(k == k')=false:=by simp[h1]
  have e1:(decide (k=k'/\n=n'/\bd=U) && (kK ex D && (kJ th O && kJ el V)))=false:=by simp[h1]
  rw[e1];clear h1 e1 e0;go_wp2_with fail
  go_ret
  exact⟨rfl,ab.o⟩
theorem NV{n0:Nat}{W0:World}(a:aa):∀b,lV n0 W0 a->lV n0 W0 b->JU n0 W0 a b:=by
 induction a using aa.ind with
 |h k n es ex bd ts th os el U V =>
  intro b D hb;exact D6 (FY D.xs.row hb.xs.row λx hx y O=>NU x y (D.xs.ok x hx) (hb.xs.ok y O)) (yG D.kS.row hb.kS.row λx hx y O=>U x hx y (D.kS.ok x hx) (hb.kS.ok y O)) (yG D.ko.row hb.ko.row λx hx y O=>V x hx y (D.ko.ok x hx) (hb.ko.ok y O))
theorem Li{n0:Nat}{W0:World}{sa U:Sp}{O lb:List aa}(D:gq n0 W0 sa O)(hb:gq n0 W0 U lb):Cr n0 W0 sa U O lb:=yG D.row hb.row λx hx y V=>NV x y (D.ok x hx) (hb.ok y V)
theorem EF(w:World)(sa V:Sp)(U lb:List aa)(ha:gq w.heap.size w sa U)(hb:gq w.heap.size w V lb)(wa:aV U<=20000)(wb:aV lb<=20000) :
  Calls Tryz.prog 38 #[.slice sa.dO U.length sa.df,.slice V.dO lb.length V.df] w λo w'=>o=.returned (.bool (kJ U lb))/\Below w.heap.size w w':=by
 have HA:=ae (kN w sa U 0 ha (by omega));have hB:∀W,Below w.heap.size w W->Calls Tryz.prog 94 #[.slice V.dO lb.length V.df,.int .i64 0] W λo w'=>o=.returned (.int .i64 (jU (lb.flatMap aa.pre) 0))/\Below W.heap.size W w':=λW hW=>kN W V lb 0 ((hb.below hW).more hW.size) (by omega)
 have HB:=ae hB;have HS:=ae (Li ha hb);have ca:jU (U.flatMap aa.pre) 0<=20000:=by
  rw[rf _ 0 (by unfold aV at wa;omega)];unfold aV at wa;omega
 have cb:jU (lb.flatMap aa.pre) 0<=20000:=by
  rw[rf _ 0 (by unfold aV at wb;omega)];unfold aV at wb;omega
 have da:=aC ca;have db:=aC cb;have ab:=ae λW=>qi (jU (U.flatMap aa.pre) 0) W
 have ad:=ae λW=>qi (jU (lb.flatMap aa.pre) 0) W
 rw[da]at ab;rw[db]at ad;simp only[Sp.val]at HA;clear ha hb ca cb da db hB wa wb;go_enter Tryz.func38,Tryz.ntmps38
 go_wp2_with fail
 refine HA.o.mono ?_;rintro o w1 ⟨rfl,O⟩;go_wp2_with fail
 refine(ab.o _).mono ?_;rintro o w2 ⟨rfl,rfl⟩;go_wp2_with fail
 refine(HB.o _ O).mono ?_;rintro o w2 ⟨rfl,al⟩;go_wp2_with fail
 refine(ad.o _).mono ?_;rintro o w3 ⟨rfl,rfl⟩;have D:=O.trans (al.mono O.size);go_wp2_with fail
 refine(HS.o _ D D.size).mono ?_;rintro o w4 ⟨rfl,am⟩;go_wp2_with fail
 go_ret
 exact⟨rfl,D.trans (am.mono D.size)⟩
theorem lS{x:Int}(h:-9000000000000000000<=x/\x<=9000000000000000000):wrap64 x=x:=IntWalk.wrap64_in _ ⟨by omega,by omega⟩
def JP(n0:Nat)(W0:World)(e:ah):Prop:=∀W,Below n0 W0 W->n0<=W.heap.size->∀m:Int,0<=m->m<=60000 ->
 Calls Tryz.prog 154 #[.agg e.r,.int .i64 m] W λo w'=>o=.returned (.int .i64 (mr e m))/\Below W.heap.size W w'
theorem Ro(e:ah)(m:Int):mr e m=pu e.cu m (1+(e.aT.size:Int)):=by cases e;rw[mr];rfl
theorem Pg{n0:Nat}{W0:World}{e:ah}(hr:mM n0 W0 e)(hn:sK e)(ih:∀s∈e.cu,JP n0 W0 s):JP n0 W0 e:=by
 intro w am al m bh bi;have HR:=ae ((hr.stays am).more al);have a6:=ae λ(i:Nat) (hi:i<e.cu.length) (W:World) (hW:Below w.heap.size w W)=>ih _ (ak hi) W (am.trans (hW.mono al)) (ai al hW.size)
 have a7:=ae λ(i:Nat) (hi:i<e.cu.length)=>hn.sub _ (ak hi)
 have bc:=hr.row.few;have ba:=hr.row.df;have aE:=hr.row.big;have bj:=hn.own;have a1:=Ro e m;have a8:=ae a1;clear hr hn ih am a1;have a9:wrap64 (1+(e.aT.size:Int))=1+(e.aT.size:Int):=lS (by omega);go_enter Tryz.func154,Tryz.ntmps154
 go_wp2_with fail
 clear a9;have ap:=jc w (.cells e.r 30);go_loopw[15,5] (λan s5 wr=>∃(k:Nat) (n:Int),k<=e.cu.length/\an=.int .i64 k/\s5=.int .i64 n/\0<=n/\n<=m+140737488355329/\mr e m=pu (e.cu.drop k) m n/\Below w.heap.size w wr) (λan _ _=>e.cu.length - (intOf an).toNat)
 case atStart=>exact⟨0,_,aH _,rfl,rfl,by omega,by omega,a8.o,ap⟩
 case round =>
  clear ap;obtain⟨k,n,hk,rfl,rfl,hp,hq,hd,hb⟩:=hrel;have HD:=ae hd;have HB:=ae hb;clear hd hb;have bd:(0:Int)<=(k:Int):=by omega
  by_cases V:k<e.cu.length
  .obtain⟨g,o,eA,hg,hc⟩:=(HR.o.row.below HB.o).row (by omega)
   have D:=hc k V;have U:Hid (pu (e.cu.drop k) m n=if n>m then n else pu (e.cu.drop (k+1)) m (n+mr e.cu[k] (m - n))):=ae (by rw[dR V,pu]);have ad:=ae (a6.o k V);have ao:=ae (a7.o k V);have be:(k:Int)<(e.cu.length:Int):=by omega
   clear hc;generalize e.cu[k]=s at *;have k0:=D 0 _ rfl;rw[bS]at k0;have k1:=D 1 _ rfl;have k2:=D 2 _ rfl;have k3:=D 3 _ rfl;have k4:=D 4 _ rfl;have k5:wr.cell? ⟨g,o+k*6+5,none⟩=some (.slice s.sp.dO s.cu.length s.sp.df):=D 5 _ rfl;have ar:=jc wr (.cells s.r 30);have ab:=ae (HB.o.trans (ar.mono HB.o.size));have a4:=gM wr (.cells s.r 30);clear D ar;rw[eA];go_upto_region 5 with fail
   clear k0 k1 k2 k3 k4 k5;generalize wr.alloc (.cells s.r 30)=W5 at *;generalize wr.heap.size=bx at *;obtain⟨x0,x1,x2,x3,x4,x5⟩:=aR a4;clear a4;by_cases O:n>m
   .have HE:Hid (mr e m=n):=ae (by rw[HD.o,U.o,if_pos O])
    have aw:m<n:=O;clear O;go_wp2_with fail
    go_ret
    exact⟨by rw[HE.o];rfl,ab.o⟩
   .have aw:¬m<n:=O
    have HE:Hid (mr e m=pu (e.cu.drop (k+1)) m (n+mr s (m - n))):=ae (by rw[HD.o,U.o,if_neg O]);have h1:=Gs s ao.o (m - n) (by omega);have h2:=Di s (m - n);have bk:wrap64 (m - n)=m - n:=lS (by omega);have a3:wrap64 (n+mr s (m - n))=n+mr s (m - n):=lS (by omega);have HC:=ae (ad.o W5 ab.o (m - n) (by omega) (by omega));have HQ:Hid (0<=n+mr s (m - n)/\n+mr s (m - n)<=m+140737488355329):=ae ⟨by omega,by omega⟩;clear h1 h2 O U HD;generalize mr s (m - n)=f at *;go_wp2_with fail
    refine HC.o.mono ?_;rintro o w6 ⟨rfl,aq⟩;have a5:=ae (ab.o.trans (aq.mono ab.o.size));clear aq HC;go_wp2_with fail
    rw[a3];clear a3;go_roundw
    case rel=>exact⟨k+1,_,V,by go_num,rfl,HQ.o.1,HQ.o.2,HE.o,a5.o⟩
    case measure=>simp[intOf];omega
  .obtain rfl:k=e.cu.length:=by omega
   have HE:Hid (mr e m=n):=ae (by rw[HD.o,fD,pu]);go_wp2_with fail
   go_ret
   exact⟨by rw[HE.o];rfl,HB.o⟩
theorem Rp{n0:Nat}{W0:World}{e:ah}(hr:mM n0 W0 e):sK e->JP n0 W0 e:=by
 induction hr with
 |mk e k o v w n row cu O=>exact λh=>Pg (.mk e k o v w n row cu) h λs D=>O s D (h.sub s D)
def wT(n0:Nat)(W0:World)(sp:Sp)(l:List aa):Prop:=∀W,Below n0 W0 W->n0<=W.heap.size->∀m:Int,0<=m->m<=60000 ->
 Calls Tryz.prog 91 #[.slice sp.dO l.length sp.df,.int .i64 m] W λo w'=>o=.returned (.int .i64 (eu l m 0))/\Below W.heap.size W w'
theorem AL{n0:Nat}{W0:World}{sp:Sp}{l:List aa}(hr:gq n0 W0 sp l)(hn:∀s∈l,uA s)(ih:∀s∈l,wT n0 W0 s.ts s.gy/\wT n0 W0 s.os s.iD):wT n0 W0 sp l:=by
 intro w a4 al m cr ct;have HR:=ae ((hr.below a4).more al);have br:=ae λ(i:Nat) (hi:i<l.length) (W:World) (hW:Below w.heap.size w W)=>And.intro ((ih _ (ak hi)).1 W (a4.trans (hW.mono al)) (ai al hW.size)) ((ih _ (ak hi)).2 W (a4.trans (hW.mono al)) (ai al hW.size))
 have cc:=ae λ(i:Nat) (hi:i<l.length) (x:ah) (hx:x∈l[i].bf) (W:World) (hW:Below w.heap.size w W)=>Rp (((hr.ok _ (ak hi)).xs.ok x hx)) ((hn _ (ak hi)).own.2 x hx) W (a4.trans (hW.mono al)) (ai al hW.size)
 have bC:=ae λ(i:Nat) (hi:i<l.length)=>hn _ (ak hi)
 have ci:=hr.row.few;have ch:=hr.row.df;have cg:=hr.row.big;clear hr hn ih a4;go_enter Tryz.func91,Tryz.ntmps91
 go_wp2_with fail
 go_loopw[12,5] (λbl s5 wr=>∃(k:Nat) (n:Int),k<=l.length/\bl=.int .i64 k/\s5=.int .i64 n/\0<=n/\n<=m+m*140737488355329/\eu l m 0=eu (l.drop k) m n/\Below w.heap.size w wr) (λbl _ _=>l.length - (intOf bl).toNat)
 case atStart=>exact⟨0,0,aH _,rfl,rfl,by omega,by omega,rfl,ag _ _⟩
 case round =>
  obtain⟨k,n,hk,rfl,rfl,hp,hq,hd,hb⟩:=hrel;have HD:=ae hd;have HB:=ae hb;clear hd hb;have cp:(0:Int)<=(k:Int):=by omega
  by_cases U:k<l.length
  .obtain⟨g,o,eA,hg,hc⟩:=(HR.o.row.below HB.o).row (by omega)
   have ad:=hc k U;have a9:Hid (l.drop k=l[k]::l.drop (k+1)):=ae (dR U);have HS:=ae (HR.o.ok _ (ak U));have cb:=ae λ(W:World) (hW:Below w.heap.size w W)=>(br.o k U W hW).1
   have b8:=ae λ(W:World) (hW:Below w.heap.size w W)=>(br.o k U W hW).2
   have cd:=ae λ(j:Nat) (hj:j<l[k].bf.length)=>cc.o k U _ (ak hj)
   have ba:=ae (bC.o k U);have cq:(k:Int)<(l.length:Int):=by omega
   clear hc;generalize l[k]=s at *;have k0:=ad 0 _ rfl;rw[bS]at k0;have k1:=ad 1 _ rfl;have k2:wr.cell? ⟨g,o+k*6+2,none⟩=some (.slice s.es.dO s.bf.length s.es.df):=ad 2 _ rfl;have k3:=ad 3 _ rfl;have k4:wr.cell? ⟨g,o+k*6+4,none⟩=some (.slice s.ts.dO s.gy.length s.ts.df):=ad 4 _ rfl;have k5:wr.cell? ⟨g,o+k*6+5,none⟩=some (.slice s.os.dO s.iD.length s.os.df):=ad 5 _ rfl;have ar:=jc wr (.cells s.r 43);have bc:=HB.o.trans (ar.mono HB.o.size);have aw:=gM wr (.cells s.r 43);have ab:=ae ((lV.stays HS.o bc).xs.more bc.size);have bo:=ae bc;clear ad ar bc;rw[eA];go_upto_region 5 with fail
   clear k0 k1 k2 k3 k4 k5;generalize wr.alloc (.cells s.r 43)=W5 at *;generalize wr.heap.size=bx at *;obtain⟨x0,x1,x2,x3,x4,x5⟩:=aR aw;have a3:=ae aw;have ce:=ba.o.own.1;have a7:=ab.o.row.df;have a6:=ab.o.row.big;have a8:=ab.o.row.few;obtain⟨a0,bw⟩:∃a0,a0=n+1+(s.aT.size:Int):=⟨_,rfl⟩;have hA0:0<a0/\a0<=m+(m+1)*140737488355329:=by omega
   have b0:-9000000000000000000<=1+(s.aT.size:Int)/\1+(s.aT.size:Int)<=9000000000000000000:=by omega
   have b1:-9000000000000000000<=a0/\a0<=9000000000000000000:=by omega
   have b5:n+(1+(s.aT.size:Int))=a0:=by omega
   have cf:wrap64 (1+(s.aT.size:Int))=1+(s.aT.size:Int):=lS b0;have a5:wrap64 (n+(1+(s.aT.size:Int)))=a0:=by rw[b5];exact lS b1
   have bh:=ae bw;have b6:=ae hA0;clear aw b0 b1 b5 bw ce hp hq hA0 a7 a6 a8;go_upto_region 6 with fail
   rw[a5];clear cf a5;have hA0:=b6.o;have a7:=ab.o.row.df;have a6:=ab.o.row.big;have a8:=ab.o.row.few;go_wp2_with fail
   go_loopw[25,5] (λbm s5 wq=>∃(j:Nat) (c:Int),j<=s.bf.length/\bm=.int .i64 j/\s5=.int .i64 c/\0<c/\c<=m+(m+1)*140737488355329/\lu s.bf m a0=lu (s.bf.drop j) m c/\Below W5.heap.size W5 wq) (λbm _ _=>s.bf.length - (intOf bm).toNat)
   case atStart=>exact⟨0,a0,aH _,rfl,rfl,hA0.1,hA0.2,rfl,ag _ _⟩
   case round =>
    clear hA0;obtain⟨wq,rfl⟩:∃wq:World,wq=wr:=⟨_,rfl⟩;obtain⟨j,c,hj,rfl,rfl,hp,hq,he,bk⟩:=hrel;have HE:=ae he;have aq:=ae bk;have HL:=ae (bo.o.trans (bk.mono bo.o.size));clear he bk;have cn:(0:Int)<=(j:Int):=by omega
    by_cases V:j<s.bf.length
    .obtain⟨g2,o2,eB,cm,b4⟩:=(ab.o.row.below aq.o).row (by omega)
     have O:=b4 j V;have a1:Hid (lu (s.bf.drop j) m c=if c>m then(c,true) else lu (s.bf.drop (j+1)) m (c+mr s.bf[j] (m - c))):=ae (by rw[dR V,lu]);have bi:=ae (cd.o j V);have ca:=ae (ba.o.own.2 _ (ak V));have co:(j:Int)<(s.bf.length:Int):=by omega
     clear b4;generalize s.bf[j]=x at *;have k0:=O 0 _ rfl;rw[bS]at k0;have k1:=O 1 _ rfl;have k2:=O 2 _ rfl;have k3:=O 3 _ rfl;have k4:=O 4 _ rfl;have k5:wq.cell? ⟨g2,o2+j*6+5,none⟩=some (.slice x.sp.dO x.cu.length x.sp.df):=O 5 _ rfl;have ar:=jc wq (.cells x.r 30);have bd:=ae (HL.o.trans (ar.mono HL.o.size));have be:=ae (aq.o.trans (ar.mono aq.o.size));have aw:=gM wq (.cells x.r 30);clear O ar;rw[eB];go_upto_region 9 with fail
     clear k0 k1 k2 k3 k4 k5;generalize wq.alloc (.cells x.r 30)=W9 at *;generalize wq.heap.size=ck at *;obtain⟨y0,y1,y2,y3,y4,y5⟩:=aR aw;clear aw;by_cases D:c>m
     .have HF:Hid (eu l m 0=c):=ae (by rw[HD.o,a9.o];exact yl (Kg (by rw[<-bh.o,HE.o,a1.o,if_pos D])))
      have ap:m<c:=D;clear D;go_wp2_with fail
      go_ret
      exact⟨by rw[HF.o];rfl,bd.o⟩
     .have ap:¬m<c:=D
      have HF:Hid (lu s.bf m a0=lu (s.bf.drop (j+1)) m (c+mr x (m - c))):=ae (by rw[HE.o,a1.o,if_neg D]);have h1:=Gs x ca.o (m - c) (by omega);have h2:=Di x (m - c);have a5:wrap64 (m - c)=m - c:=lS (by omega);have am:wrap64 (c+mr x (m - c))=c+mr x (m - c):=lS (by omega);have HC:=ae (bi.o W9 bd.o (m - c) (by omega) (by omega));have HQ:Hid (0<c+mr x (m - c)/\c+mr x (m - c)<=m+(m+1)*140737488355329):=ae ⟨by omega,by omega⟩;clear h1 h2 D a1 HE;generalize mr x (m - c)=f at *;go_wp2_with fail
      refine HC.o.mono ?_;rintro o w6 ⟨rfl,b2⟩;have b7:=ae (be.o.trans (b2.mono be.o.size));clear b2 HC;go_wp2_with fail
      rw[am];clear am;go_roundw
      case rel=>exact⟨j+1,_,V,by go_num,rfl,HQ.o.1,HQ.o.2,HF.o,b7.o⟩
      case measure=>simp[intOf];omega
    .obtain rfl:j=s.bf.length:=by omega
     have HF:Hid (lu s.bf m (n+1+(s.aT.size:Int))=(c,false)):=ae (by rw[<-bh.o,HE.o,fD,lu]);have hX:=(aq.o.block _ (dM a3.o).1).trans a3.o;clear x0 x1 x2 x3 x4 x5;obtain⟨x0,x1,x2,x3,x4,x5⟩:=aR hX;clear hX HE bh;by_cases D:c>m
     .have HG:Hid (eu l m 0=c):=ae (by rw[HD.o,a9.o];exact yl (Kh HF.o D))
      have ap:m<c:=D;clear D;go_wp2_with fail
      go_ret
      exact⟨by rw[HG.o];rfl,HL.o⟩
     .have ap:¬m<c:=D
      have h1:=tV (m - c).toNat s.gy ba.o.gy (m - c) (by omega) (by omega) 0 (by omega) (by omega);have h2:=AO s.gy (m - c) 0;have a5:wrap64 (m - c)=m - c:=lS (by omega);have am:wrap64 (c+eu s.gy (m - c) 0)=c+eu s.gy (m - c) 0:=lS (by omega);have HC:=ae (cb.o wq HL.o (m - c) (by omega) (by omega));have an:=ae (λh=>Ki HF.o D (h:c+eu s.gy (m - c) 0>m));have ao:=ae (λh=>Rn HF.o D (h:¬c+eu s.gy (m - c) 0>m));clear D;generalize eu s.gy (m - c) 0=f at *;go_wp2_with fail
      refine HC.o.mono ?_;rintro o w7 ⟨rfl,bj⟩;have aE:=ae (HL.o.trans (bj.mono HL.o.size));have bt:=(bj.block _ (by have:=(dM a3.o).1;have:=aq.o.size;omega)).trans ((aq.o.block _ (dM a3.o).1).trans a3.o);clear x0 x1 x2 x3 x4 x5 bj HC;obtain⟨x0,x1,x2,x3,x4,x5⟩:=aR bt;clear bt;go_upto_region 16 with fail
      clear am;obtain⟨d,hd⟩:∃d,d=c+f:=⟨_,rfl⟩;rw[<-hd]at an ao ⊢;have cl:0<d/\d<=m+m*140737488355329:=by omega
      clear h1 h2 hd;by_cases D:d>m
      .have HG:Hid (eu l m 0=d):=ae (by rw[HD.o,a9.o];exact yl (an.o (by omega)))
       have ap:m<d:=D;clear D an ao;go_wp2_with fail
       go_ret
       exact⟨by rw[HG.o];rfl,aE.o⟩
      .have cj:¬m<d:=D
       have h1:=tV (m - d).toNat s.iD ba.o.iD (m - d) (by omega) (by omega) 0 (by omega) (by omega);have h2:=AO s.iD (m - d) 0;have a5:wrap64 (m - d)=m - d:=lS (by omega);have am:wrap64 (d+eu s.iD (m - d) 0)=d+eu s.iD (m - d) 0:=lS (by omega);have HC:=ae (b8.o w7 aE.o (m - d) (by omega) (by omega));have HG:Hid (eu l m 0=eu (l.drop (k+1)) m (d+eu s.iD (m - d) 0)):=ae (by rw[HD.o,a9.o];exact Pf (ao.o (by omega)));have HQ:Hid (0<=d+eu s.iD (m - d) 0/\d+eu s.iD (m - d) 0<=m+m*140737488355329):=ae ⟨by omega,by omega⟩;clear D an ao h1 h2;generalize eu s.iD (m - d) 0=f2 at *;go_wp2_with fail
       refine HC.o.mono ?_;rintro o w8 ⟨rfl,b3⟩;have b9:=ae (aE.o.trans (b3.mono aE.o.size));clear b3 HC;go_wp2_with fail
       rw[am];clear am;go_roundw
       case rel=>exact⟨k+1,_,U,by go_num,rfl,HQ.o.1,HQ.o.2,HG.o,b9.o⟩
       case measure=>simp[intOf];omega
  .obtain rfl:k=l.length:=by omega
   have HE:Hid (eu l m 0=n):=ae (by rw[HD.o,fD,eu]);go_wp2_with fail
   go_ret
   exact⟨by rw[HE.o];rfl,HB.o⟩
theorem Gr{n0:Nat}{W0:World}(sp:Sp)(l:List aa)(hr:gq n0 W0 sp l)(V:∀s∈l,uA s):wT n0 W0 sp l:=by
 have one:∀s:aa,lV n0 W0 s->uA s->wT n0 W0 s.ts s.gy/\wT n0 W0 s.os s.iD:=λs hr=>by
  induction hr with
  |mk s k b n er ex tr th D el O U=>exact λh=>⟨AL ⟨tr,th⟩ h.gy λt ht=>O t ht (h.gy t ht),AL ⟨D,el⟩ h.iD λt ht=>U t ht (h.iD t ht)⟩
 exact AL hr V λs hs=>one s (hr.ok s hs) (V s hs)
theorem IA(w:World)(sp:Sp)(l:List aa)(hr:gq w.heap.size w sp l)(U:∀s∈l,uA s)(m:Int)(D:0<=m)(O:m<=60000) :
  Calls Tryz.prog 25 #[.slice sp.dO l.length sp.df,.int .i64 m] w λo w'=>o=.returned (.bool (decide (eu l m 0<=m)))/\Below w.heap.size w w':=by
 have V:=ae (Gr sp l hr U w (ag _ _) (af _) m D O);clear hr U;go_enter Tryz.func25,Tryz.ntmps25
 go_wp2_with fail
 refine V.o.mono ?_;rintro o w' ⟨rfl,hb⟩;go_wp2_with fail
 go_ret
 exact⟨rfl,hb⟩
theorem nZ{L:Nat->Bool}(i:Nat){j:Nat}(h:L j=true):pI L i j=true:=by unfold pI;split<;>simp[*]
theorem own_ne{α:Type}{k B b:Nat}{enc:α->List Value}{e t:TypeId}{v:Value}{l:List α}{W:World}{cs:Array Value}{fr:Nat × Nat}(ho:dz B W e k enc v l)(h:W.heap[b]?=some (.cells cs t fr))(ht:t≠e):v.ownBlock≠some b:=λU=>by
 obtain⟨_,O,V,D⟩:=ho.iO U;rw[h]at D;injection D with D;injection D with _ D;exact ht D
theorem MX:(Tryz.prog.info? 101).map (λi=>(i.zero,i.size,i.bytes))=some (some (.agg #[.int .i64 0,.int .i64 0,.int .i64 0,.int .i64 0,.string ⟨#[]⟩,.slice none 0 0]),6,72):=by kernel_rfl
theorem Pd:sN Tryz.prog 60 101 6:=rY MX Tryz.underlying60 (by decide) rfl (by decide)
theorem FL:∀x:ah,∀u∈x.cellsR,u.oneCell'=true:=by
 intro x u D;simp only[ah.cellsR,bE,bu,or_false]at D;rcases D with rfl|rfl|rfl|rfl|rfl|rfl<;>rfl
noncomputable def opsRX:Array Oper:=((Tryz.f93.body.bind (opsOf 5)).getD #[])
def GK(t:Nat):Bool:=decide (t<=26) || decide (34<=t)
theorem Qj:jH opsRX 8 36 GK=true:=by kernel_rfl
def JN(q V lo:Nat)(U w0:World)(bx:Option Addr->Nat->Nat->Obj)(x:ah)(A:Option Addr)(c:Nat)(cur:List ah)(L:Nat->Bool)(w:World):Prop:=Below lo (mask q U) (mask q w)/\(L 5=false->Below w0.heap.size w0 w)/\(L 7=false->w.heap[q]?=some (bx A cur.length c))/\w.heap[V]?=some (.cells x.r 30)/\(L 7=true->∃(y:ah) (D:Option Addr) (O:Nat),w.heap[q]?=some (bx D (cur++[y]).length O)/\bX y=bX x/\nN BV 101 ah.cellsR lo w D O (cur++[y]))
theorem JN.flag{q O lo:Nat}{D w0:World}{bx:Option Addr->Nat->Nat->Obj}{x:ah}{A:Option Addr}{c:Nat}{cur:List ah}{k:Nat}{L:Nat->Bool}{w:World}(hk:k≠5/\k≠7)(h:JN q O lo D w0 bx x A c cur L w):JN q O lo D w0 bx x A c cur (pI L k) w:=by
 unfold JN at h ⊢;rw[av (Ne.symm hk.1),av (Ne.symm hk.2)];exact h
theorem JN.on{q O lo:Nat}{D w0:World}{bx:Option Addr->Nat->Nat->Obj}{x:ah}{A:Option Addr}{c:Nat}{cur:List ah}{L:Nat->Bool}{w w':World}(h:JN q O lo D w0 bx x A c cur L w)(hn:lo<=D.heap.size/\q<lo)(hb:Below w.heap.size w w'):JN q O lo D w0 bx x A c cur L w' :=
 ⟨h.1.trans (bn (by have:=h.1.size;rw[gI,gI]at this;omega) (hb.mono (by have:=h.1.size;rw[gI,gI]at this;omega))),λU=>(h.2.1 U).trans (hb.mono (h.2.1 U).size),λV=>(hb.block q (dM (h.2.2.1 V)).1).trans (h.2.2.1 V),(hb.block O (dM h.2.2.2.1).1).trans h.2.2.2.1,λe=>by
  obtain⟨y,A',c',h1,h2,h3⟩:=h.2.2.2.2 e;exact⟨y,A',c',(hb.block q (dM h1).1).trans h1,h2,h3.on Cb hb⟩⟩
theorem Ux{a0:Act}{w0:World}(ba:a0.tmps.size=36)(q b5 lo:Nat)(Wn:World)(x:ah)(A:Option Addr)(c:Nat)(cur:List ah)(e0:ah)(f3:a0.tmps[3]?.getD undef=.pointer (some ⟨q,0,none⟩))(f5:a0.tmps[5]?.getD undef=.pointer (some ⟨b5,0,none⟩))(a6:w0.heap[q]?=some (.cells #[.int .i64 e0.bI,.int .i64 e0.op,.int .i64 e0.bv,.int .i64 e0.aS,.string e0.aT,.slice A cur.length c] 101 (0,0)))
  (h5:w0.heap[b5]?=some (.cells x.r 30)) (aq:∀W,Below w0.heap.size w0 W->Calls Tryz.prog 93 #[.agg x.r] W λo w'=>∃y:ah,o=.returned y.valR/\bX y=bX x/\BV W.heap.size none w' y/\Below W.heap.size W w')
  (ap:nN BV 101 ah.cellsR lo w0 A c cur) (bt:lo<=Wn.heap.size) (a9:q<lo) (ar:lo<=w0.heap.size) (aw:Below lo (mask q Wn) (mask q w0)) (hl:cur.length<=900000) :
  (Code.region 5 opsRX true).wp Tryz.prog (λe a w=>e=.normal/\a.tmps.size=36/\a.defers=a0.defers/\(∀t:Nat,GK t=true->a.tmps[t]?.getD undef=a0.tmps[t]?.getD undef)/\Below lo (mask q Wn) (mask q w)/\∃(y:ah) (A':Option Addr) (c':Nat),w.heap[q]?=some (.cells #[.int .i64 e0.bI,.int .i64 e0.op,.int .i64 e0.bv,.int .i64 e0.aS,.string e0.aT,(.slice A' (cur++[y]).length c')] 101 (0,0))/\bX y=bX x/\nN BV 101 ah.cellsR lo w A' c' (cur++[y])) a0 w0:=by
 have hq:q<w0.heap.size:=by omega
 have a8:lo<=Wn.heap.size/\q<lo:=⟨bt,a9⟩;have bo:b5<w0.heap.size:=(dM h5).1;refine fQ (n:=8) (sz:=36) (keep:=GK) rfl Qj ba (JN q b5 lo Wn w0 (λA n c=>.cells #[.int .i64 e0.bI,.int .i64 e0.op,.int .i64 e0.bv,.int .i64 e0.aS,.string e0.aT,.slice A n c] 101 (0,0)) x A c cur) (λi w w'=>i=5\/i=7\/Below w.heap.size w w') ⟨aw.trans (bn hq (ag lo w0).drew),λ_=>(ag _ _).drew,λ_=>a6,h5,λh=>(by cases h)⟩ ?_;have e:opsRX.toList=opsRX.toList:=rfl
 conv at e=>rhs;arg 1;whnf
 simp only at e;rw[e];clear e
 apply aQ.exact rfl rfl;exact λ_ _ h=>JN.flag (by decide) h;exact λw=>.inr (.inr (ag _ w));rintro _ _ _ ⟨-,_,_,b,_⟩;simp[go_sem,(b 3 rfl).trans f3];exact rfl
 apply aQ.exact rfl rfl
 .exact λ_ _ h=>JN.flag (by decide) h
 .exact λw=>.inr (.inr (ag _ w))
 .rintro L a w ⟨-,U,O,ao,D⟩
  have bh:=aB (D.1 rfl).2;have hc:w.cell? ⟨q,5,none⟩=some (.slice A cur.length c):=by have h:=U.2.2.1 (O 7 rfl);simp[World.cell?,h]
  simp[go_sem,bh,hc];exact rfl
 apply aQ.exact rfl rfl;exact λ_ _ h=>JN.flag (by decide) h;exact λw=>.inr (.inr (ag _ w));rintro _ _ _ ⟨-,b,_,c,_⟩;have f5:=(c 5 rfl).trans f5;obtain⟨x0,x1,x2,x3,x4,x5⟩:=aR b.2.2.2.1;simp[go_sem,f5,x0,x1,x2,x3,x4,x5];exact rfl
 refine aQ.any (λL v w=>(L 5=true\/L 7=true)\/∃y:ah,v=y.valR/\bX y=bX x/\BV w0.heap.size none w y) rfl ?_ ?_ ?_
 .intro i L v w w' _ hR hP
  rcases hR with rfl|rfl|hR
  .exact .inl (.inl bU)
  .exact .inl (.inr bU)
  .exact hP.imp (λh=>h.imp (nZ _) (nZ _)) λh=>h.imp λy h2=>⟨h2.1,h2.2.1,Cb.below h2.2.2 hR⟩
 .rintro L a w ⟨hL,U,O,ao,D⟩
  have bi:=aB (D.1 rfl).2;have V:Below w0.heap.size w0 w:=U.2.1 (O 5 rfl);refine Oper.wp_enter (f:=93) (args:=#[.agg x.r]) (w':=w) ?_ ?_
  .simp[go_sem,bi]
  .refine(aq w V).mono ?_
   rintro o w' ⟨y,rfl,ad,br,am⟩;exact⟨_,rfl,_,rfl,λe=>(by cases e),.inr ⟨y,rfl,ad,Cb.less br V.size⟩,JN.flag (by decide) (JN.on U a8 am),.inr (.inr am)⟩
 refine aQ.any (λL v w=>(L 5=true\/L 7=true)\/∃(b:Nat) (y:ah),v=.slice (some ⟨b,0,none⟩) 1 1/\RowOf w.heap.size w ⟨some ⟨b,0,none⟩,1⟩ 6 ah.cellsR [y]/\bX y=bX x/\BV w0.heap.size none w y) rfl ?_ ?_ ?_
 .intro i L v w w' _ hR hP
  rcases hR with rfl|rfl|hR
  .exact .inl (.inl bU)
  .exact .inl (.inr bU)
  .exact hP.imp (λh=>h.imp (nZ _) (nZ _)) λh=>h.imp λb h=>h.imp λy h2=>⟨h2.1,(h2.2.1.below hR).more hR.size,h2.2.2.1,Cb.below h2.2.2.2 hR⟩
 .rintro L a w ⟨hL,U,O,ao,D⟩
  obtain⟨y,bc,ad,hn⟩:∃y:ah,a.eval (.tmp 30)=y.valR/\bX y=bX x/\BV w0.heap.size none w y:=(D.1 rfl).2.resolve_left (by rw[O 5 rfl,O 7 rfl];simp);have am:=jc w (.cells y.cellsR.toArray 101);refine Oper.wp_value (v:=.slice (some ⟨w.heap.size,0,none⟩) 1 1) (w':=w.alloc (.cells y.cellsR.toArray 101)) ?_ ?_
  .have bk:=aB bc
   simp[go_sem,bk,ah.valR,ah.cellsR,Sp.val]
  .exact⟨_,rfl,λe=>(by cases e),.inr ⟨_,y,rfl,row_one (gM w _),ad,Cb.below hn am⟩,JN.flag (by decide) (JN.on U a8 am),.inr (.inr am)⟩
 refine aQ.any (λL v w=>L 7=true\/∃(y:ah) (A':Option Addr) (c':Nat),v=.slice A' (cur++[y]).length c'/\bX y=bX x/\nN BV 101 ah.cellsR lo w A' c' (cur++[y])) rfl ?_ ?_ ?_
 .intro i L v w w' hi hR hP
  rcases hR with rfl|rfl|hR
  .exact absurd rfl hi
  .exact .inl bU
  .exact hP.imp (nZ _) λh=>h.imp λy h=>h.imp λA' h=>h.imp λc' h2=>⟨h2.1,h2.2.1,h2.2.2.on Cb hR⟩
 .rintro L a w ⟨hL,U,O,ao,D⟩
  have bw:=aB (D.1 rfl).2;have V:Below w0.heap.size w0 w:=U.2.1 hL;obtain⟨b,y,bd,aE,ad,hn⟩:∃(b:Nat) (y:ah),a.eval (.tmp 31)=.slice (some ⟨b,0,none⟩) 1 1/\RowOf w.heap.size w ⟨some ⟨b,0,none⟩,1⟩ 6 ah.cellsR [y]/\bX y=bX x/\BV w0.heap.size none w y:=(D.2.1 rfl).2.resolve_left (by rw[hL,O 7 rfl];simp);have a3:a.eval (.tmp 28)=.slice A cur.length c:=(D.1 rfl).2;have ab:=ap.on Cb V;refine Oper.wp_append (.tmp 28) (.tmp 31) 60 rfl Pd (λ_=>rfl) FL _ cur a3 ab.own ⟨some ⟨b,0,none⟩,1⟩ [_] bd aE (by simp;omega) (ai ar V.size) ?_;intro v' w' ho hg bm;obtain⟨A',c',rfl,a4⟩:=ab.push Cb (Cb.far hn (λb e=>ap.own.iP b e) ar) ho hg bm;have a1:=U.1.trans (bn (aI hq V.size) (ab.own.below hg (af _) (ag lo w) (ai ar V.size)));have a7:w'.heap[q]?=_:=(hg.block q (aI hq V.size) (λe=>by have:=(ab.own.iO e.symm).1;omega)).trans (U.2.2.1 (O 7 rfl));have a5:w'.heap[b5]?=_:=(hg.block b5 (aI bo V.size) (λe=>own_ne ab.own U.2.2.2.1 (by decide) e.symm)).trans U.2.2.2.1;exact⟨_,rfl,λe=>(by cases e),.inr ⟨y,A',c',rfl,ad,a4⟩,⟨a1,λh=>(by rw[bU]at h;cases h),λ_=>a7,a5,λh=>(by rw[av (by decide),O 7 rfl]at h;cases h)⟩,.inl rfl⟩
 apply aQ.exact rfl rfl;exact λ_ _ h=>JN.flag (by decide) h;exact λw=>.inr (.inr (ag _ w));rintro _ _ _ ⟨-,_,_,b,_⟩;simp[go_sem,(b 3 rfl).trans f3];exact rfl
 refine aQ.any (λL v w=>True) rfl ?_ ?_ ?_
 .exact λ_ _ _ _ _ _ _ h=>h
 .rintro L a w ⟨hL,U,O,ao,D⟩
  have bj:=aB (D.1 rfl).2;obtain⟨y,A',c',be,ad,ab⟩:∃(y:ah) (A':Option Addr) (c':Nat),a.eval (.tmp 32)=.slice A' (cur++[y]).length c'/\bX y=bX x/\nN BV 101 ah.cellsR lo w A' c' (cur++[y]):=(D.2.1 rfl).2.resolve_left (by rw[hL];exact Bool.false_ne_true);have bl:=aB be;have an:=U.2.2.1 hL;have hc:w.cell? ⟨q,5,none⟩=some (.slice A cur.length c):=by simp[World.cell?,an]
  have hf:w.frozen? ⟨q,5,none⟩=false:=by simp[World.frozen?,an]
  refine Oper.wp_skip (w':=w.setCell ⟨q,5,none⟩ (.slice A' (cur++[y]).length c')) ?_ ?_
  .simp[go_sem,bj,bl,hc,hf]
  .refine⟨undef,rfl,λ_=>rfl,trivial,⟨by rw[l6];exact U.1,λh=>?_,λh=>(by rw[bU]at h;cases h),?_,λ_=>⟨y,A',c',?_,ad,ab.set Cb a9 _ _⟩⟩,.inr (.inl rfl)⟩
   .rw[av (by decide),(D.2.1 rfl).1]at h
    cases h
   .refine(aN _ _ _ _ (show b5≠q from λe=>?_)).trans U.2.2.2.1
    have h1:=U.2.2.2.1;rw[e,an]at h1;injection h1 with h1;injection h1 with _ h1;exact absurd h1 (by decide)
   .simp[World.setCell,cK,an]
 rintro L a w hL ⟨U,al,hv⟩;exact⟨rfl,al.1.trans ba,al.2.1,al.2.2,U.1,U.2.2.2.2 (hL 7 (by decide))⟩
noncomputable def opsRS:Array Oper:=((Tryz.f29.body.bind (opsOf 9)).getD #[])
def GI(t:Nat):Bool:=decide (t<=35) || decide (43<=t)
theorem Qh:jH opsRS 8 50 GI=true:=by kernel_rfl
def JL(q V lo:Nat)(U w0:World)(bx:Option Addr->Nat->Nat->Obj)(x:ah)(A:Option Addr)(c:Nat)(cur:List ah)(L:Nat->Bool)(w:World):Prop:=Below lo (mask q U) (mask q w)/\(L 5=false->Below w0.heap.size w0 w)/\(L 7=false->w.heap[q]?=some (bx A cur.length c))/\w.heap[V]?=some (.cells x.r 30)/\(L 7=true->∃(y:ah) (D:Option Addr) (O:Nat),w.heap[q]?=some (bx D (cur++[y]).length O)/\bX y=bX x/\nN BV 101 ah.cellsR lo w D O (cur++[y]))
theorem JL.flag{q O lo:Nat}{D w0:World}{bx:Option Addr->Nat->Nat->Obj}{x:ah}{A:Option Addr}{c:Nat}{cur:List ah}{k:Nat}{L:Nat->Bool}{w:World}(hk:k≠5/\k≠7)(h:JL q O lo D w0 bx x A c cur L w):JL q O lo D w0 bx x A c cur (pI L k) w:=by
 unfold JL at h ⊢;rw[av (Ne.symm hk.1),av (Ne.symm hk.2)];exact h
theorem JL.on{q O lo:Nat}{D w0:World}{bx:Option Addr->Nat->Nat->Obj}{x:ah}{A:Option Addr}{c:Nat}{cur:List ah}{L:Nat->Bool}{w w':World}(h:JL q O lo D w0 bx x A c cur L w)(hn:lo<=D.heap.size/\q<lo)(hb:Below w.heap.size w w'):JL q O lo D w0 bx x A c cur L w' :=
 ⟨h.1.trans (bn (by have:=h.1.size;rw[gI,gI]at this;omega) (hb.mono (by have:=h.1.size;rw[gI,gI]at this;omega))),λU=>(h.2.1 U).trans (hb.mono (h.2.1 U).size),λV=>(hb.block q (dM (h.2.2.1 V)).1).trans (h.2.2.1 V),(hb.block O (dM h.2.2.2.1).1).trans h.2.2.2.1,λe=>by
  obtain⟨y,A',c',h1,h2,h3⟩:=h.2.2.2.2 e;exact⟨y,A',c',(hb.block q (dM h1).1).trans h1,h2,h3.on Cb hb⟩⟩
theorem Uv{a0:Act}{w0:World}(ba:a0.tmps.size=50)(q b5 lo:Nat)(Wn:World)(x:ah)(A:Option Addr)(c:Nat)(cur:List ah)(kd bd:Int)(nm:ByteArray)(th el:Value)(f6:a0.tmps[6]?.getD undef=.pointer (some ⟨q,0,none⟩))(f8:a0.tmps[8]?.getD undef=.pointer (some ⟨b5,0,none⟩))(a6:w0.heap[q]?=some (.cells #[.int .i64 kd,.string nm,.slice A cur.length c,.int .i64 bd,th,el] 63 (0,0)))
  (h5:w0.heap[b5]?=some (.cells x.r 30)) (aq:∀W,Below w0.heap.size w0 W->Calls Tryz.prog 93 #[.agg x.r] W λo w'=>∃y:ah,o=.returned y.valR/\bX y=bX x/\BV W.heap.size none w' y/\Below W.heap.size W w')
  (ap:nN BV 101 ah.cellsR lo w0 A c cur) (bw:lo<=Wn.heap.size) (a9:q<lo) (ar:lo<=w0.heap.size) (aw:Below lo (mask q Wn) (mask q w0)) (hl:cur.length<=900000) :
  (Code.region 9 opsRS true).wp Tryz.prog (λe a w=>e=.normal/\a.tmps.size=50/\a.defers=a0.defers/\(∀t:Nat,GI t=true->a.tmps[t]?.getD undef=a0.tmps[t]?.getD undef)/\Below lo (mask q Wn) (mask q w)/\∃(y:ah) (A':Option Addr) (c':Nat),w.heap[q]?=some (.cells #[.int .i64 kd,.string nm,(.slice A' (cur++[y]).length c'),.int .i64 bd,th,el] 63 (0,0))/\bX y=bX x/\nN BV 101 ah.cellsR lo w A' c' (cur++[y])) a0 w0:=by
 have hq:q<w0.heap.size:=by omega
 have a8:lo<=Wn.heap.size/\q<lo:=⟨bw,a9⟩;have br:b5<w0.heap.size:=(dM h5).1;refine fQ (n:=8) (sz:=50) (keep:=GI) rfl Qh ba (JL q b5 lo Wn w0 (λA n c=>.cells #[.int .i64 kd,.string nm,.slice A n c,.int .i64 bd,th,el] 63 (0,0)) x A c cur) (λi w w'=>i=5\/i=7\/Below w.heap.size w w') ⟨aw.trans (bn hq (ag lo w0).drew),λ_=>(ag _ _).drew,λ_=>a6,h5,λh=>(by cases h)⟩ ?_;have e:opsRS.toList=opsRS.toList:=rfl
 conv at e=>rhs;arg 1;whnf
 simp only at e;rw[e];clear e
 apply aQ.exact rfl rfl;exact λ_ _ h=>JL.flag (by decide) h;exact λw=>.inr (.inr (ag _ w));rintro _ _ _ ⟨-,_,_,b,_⟩;simp[go_sem,(b 6 rfl).trans f6];exact rfl
 apply aQ.exact rfl rfl
 .exact λ_ _ h=>JL.flag (by decide) h
 .exact λw=>.inr (.inr (ag _ w))
 .rintro L a w ⟨-,U,O,ao,D⟩
  have bi:=aB (D.1 rfl).2;have hc:w.cell? ⟨q,2,none⟩=some (.slice A cur.length c):=by have h:=U.2.2.1 (O 7 rfl);simp[World.cell?,h]
  simp[go_sem,bi,hc];exact rfl
 apply aQ.exact rfl rfl;exact λ_ _ h=>JL.flag (by decide) h;exact λw=>.inr (.inr (ag _ w));rintro _ _ _ ⟨-,b,_,c,_⟩;have f8:=(c 8 rfl).trans f8;obtain⟨x0,x1,x2,x3,x4,x5⟩:=aR b.2.2.2.1;simp[go_sem,f8,x0,x1,x2,x3,x4,x5];exact rfl
 refine aQ.any (λL v w=>(L 5=true\/L 7=true)\/∃y:ah,v=y.valR/\bX y=bX x/\BV w0.heap.size none w y) rfl ?_ ?_ ?_
 .intro i L v w w' _ hR hP
  rcases hR with rfl|rfl|hR
  .exact .inl (.inl bU)
  .exact .inl (.inr bU)
  .exact hP.imp (λh=>h.imp (nZ _) (nZ _)) λh=>h.imp λy h2=>⟨h2.1,h2.2.1,Cb.below h2.2.2 hR⟩
 .rintro L a w ⟨hL,U,O,ao,D⟩
  have bj:=aB (D.1 rfl).2;have V:Below w0.heap.size w0 w:=U.2.1 (O 5 rfl);refine Oper.wp_enter (f:=93) (args:=#[.agg x.r]) (w':=w) ?_ ?_
  .simp[go_sem,bj]
  .refine(aq w V).mono ?_
   rintro o w' ⟨y,rfl,ad,bt,am⟩;exact⟨_,rfl,_,rfl,λe=>(by cases e),.inr ⟨y,rfl,ad,Cb.less bt V.size⟩,JL.flag (by decide) (JL.on U a8 am),.inr (.inr am)⟩
 refine aQ.any (λL v w=>(L 5=true\/L 7=true)\/∃(b:Nat) (y:ah),v=.slice (some ⟨b,0,none⟩) 1 1/\RowOf w.heap.size w ⟨some ⟨b,0,none⟩,1⟩ 6 ah.cellsR [y]/\bX y=bX x/\BV w0.heap.size none w y) rfl ?_ ?_ ?_
 .intro i L v w w' _ hR hP
  rcases hR with rfl|rfl|hR
  .exact .inl (.inl bU)
  .exact .inl (.inr bU)
  .exact hP.imp (λh=>h.imp (nZ _) (nZ _)) λh=>h.imp λb h=>h.imp λy h2=>⟨h2.1,(h2.2.1.below hR).more hR.size,h2.2.2.1,Cb.below h2.2.2.2 hR⟩
 .rintro L a w ⟨hL,U,O,ao,D⟩
  obtain⟨y,bc,ad,hn⟩:∃y:ah,a.eval (.tmp 39)=y.valR/\bX y=bX x/\BV w0.heap.size none w y:=(D.1 rfl).2.resolve_left (by rw[O 5 rfl,O 7 rfl];simp);have am:=jc w (.cells y.cellsR.toArray 101);refine Oper.wp_value (v:=.slice (some ⟨w.heap.size,0,none⟩) 1 1) (w':=w.alloc (.cells y.cellsR.toArray 101)) ?_ ?_
  .have bl:=aB bc
   simp[go_sem,bl,ah.valR,ah.cellsR,Sp.val]
  .exact⟨_,rfl,λe=>(by cases e),.inr ⟨_,y,rfl,row_one (gM w _),ad,Cb.below hn am⟩,JL.flag (by decide) (JL.on U a8 am),.inr (.inr am)⟩
 refine aQ.any (λL v w=>L 7=true\/∃(y:ah) (A':Option Addr) (c':Nat),v=.slice A' (cur++[y]).length c'/\bX y=bX x/\nN BV 101 ah.cellsR lo w A' c' (cur++[y])) rfl ?_ ?_ ?_
 .intro i L v w w' hi hR hP
  rcases hR with rfl|rfl|hR
  .exact absurd rfl hi
  .exact .inl bU
  .exact hP.imp (nZ _) λh=>h.imp λy h=>h.imp λA' h=>h.imp λc' h2=>⟨h2.1,h2.2.1,h2.2.2.on Cb hR⟩
 .rintro L a w ⟨hL,U,O,ao,D⟩
  have b0:=aB (D.1 rfl).2;have V:Below w0.heap.size w0 w:=U.2.1 hL;obtain⟨b,y,be,aE,ad,hn⟩:∃(b:Nat) (y:ah),a.eval (.tmp 40)=.slice (some ⟨b,0,none⟩) 1 1/\RowOf w.heap.size w ⟨some ⟨b,0,none⟩,1⟩ 6 ah.cellsR [y]/\bX y=bX x/\BV w0.heap.size none w y:=(D.2.1 rfl).2.resolve_left (by rw[hL,O 7 rfl];simp);have a3:a.eval (.tmp 37)=.slice A cur.length c:=(D.1 rfl).2;have ab:=ap.on Cb V;refine Oper.wp_append (.tmp 37) (.tmp 40) 60 rfl Pd (λ_=>rfl) FL _ cur a3 ab.own ⟨some ⟨b,0,none⟩,1⟩ [_] be aE (by simp;omega) (ai ar V.size) ?_;intro v' w' ho hg bo;obtain⟨A',c',rfl,a4⟩:=ab.push Cb (Cb.far hn (λb e=>ap.own.iP b e) ar) ho hg bo;have a1:=U.1.trans (bn (aI hq V.size) (ab.own.below hg (af _) (ag lo w) (ai ar V.size)));have a7:w'.heap[q]?=_:=(hg.block q (aI hq V.size) (λe=>by have:=(ab.own.iO e.symm).1;omega)).trans (U.2.2.1 (O 7 rfl));have a5:w'.heap[b5]?=_:=(hg.block b5 (aI br V.size) (λe=>own_ne ab.own U.2.2.2.1 (by decide) e.symm)).trans U.2.2.2.1;exact⟨_,rfl,λe=>(by cases e),.inr ⟨y,A',c',rfl,ad,a4⟩,⟨a1,λh=>(by rw[bU]at h;cases h),λ_=>a7,a5,λh=>(by rw[av (by decide),O 7 rfl]at h;cases h)⟩,.inl rfl⟩
 apply aQ.exact rfl rfl;exact λ_ _ h=>JL.flag (by decide) h;exact λw=>.inr (.inr (ag _ w));rintro _ _ _ ⟨-,_,_,b,_⟩;simp[go_sem,(b 6 rfl).trans f6];exact rfl
 refine aQ.any (λL v w=>True) rfl ?_ ?_ ?_
 .exact λ_ _ _ _ _ _ _ h=>h
 .rintro L a w ⟨hL,U,O,ao,D⟩
  have bk:=aB (D.1 rfl).2;obtain⟨y,A',c',bh,ad,ab⟩:∃(y:ah) (A':Option Addr) (c':Nat),a.eval (.tmp 41)=.slice A' (cur++[y]).length c'/\bX y=bX x/\nN BV 101 ah.cellsR lo w A' c' (cur++[y]):=(D.2.1 rfl).2.resolve_left (by rw[hL];exact Bool.false_ne_true);have bm:=aB bh;have an:=U.2.2.1 hL;have hc:w.cell? ⟨q,2,none⟩=some (.slice A cur.length c):=by simp[World.cell?,an]
  have hf:w.frozen? ⟨q,2,none⟩=false:=by simp[World.frozen?,an]
  refine Oper.wp_skip (w':=w.setCell ⟨q,2,none⟩ (.slice A' (cur++[y]).length c')) ?_ ?_
  .simp[go_sem,bk,bm,hc,hf]
  .refine⟨undef,rfl,λ_=>rfl,trivial,⟨by rw[l6];exact U.1,λh=>?_,λh=>(by rw[bU]at h;cases h),?_,λ_=>⟨y,A',c',?_,ad,ab.set Cb a9 _ _⟩⟩,.inr (.inl rfl)⟩
   .rw[av (by decide),(D.2.1 rfl).1]at h
    cases h
   .refine(aN _ _ _ _ (show b5≠q from λe=>?_)).trans U.2.2.2.1
    have h1:=U.2.2.2.1;rw[e,an]at h1;injection h1 with h1;injection h1 with _ h1;exact absurd h1 (by decide)
   .simp[World.setCell,cK,an]
 rintro L a w hL ⟨U,al,hv⟩;exact⟨rfl,al.1.trans ba,al.2.1,al.2.2,U.1,U.2.2.2.2 (hL 7 (by decide))⟩
theorem OX{a:Act}(h:a.tmps.size=36):∃F:Nat->Value,(∀i:Nat,F i=a.eval (.tmp i))/\a=⟨(F 0::F 1::F 2::F 3::F 4::F 5::F 6::F 7::F 8::F 9::F 10::F 11::F 12::F 13::F 14::F 15::F 16::F 17::F 18::F 19::F 20::F 21::F 22::F 23::F 24::F 25::F 26::F 27::F 28::F 29::F 30::F 31::F 32::F 33::F 34::F 35::[]).toArray,a.defers⟩:=by
 obtain⟨D,O⟩:=a;have V:(⟨D,[]⟩:Act).tmps.size=36:=h;have e:=JW V rfl;refine⟨λi=>(⟨D,O⟩:Act).eval (.tmp i),λ_=>rfl,?_⟩;have U:D=((λi=>(⟨D,[]⟩:Act).eval (.tmp i)) 0::(λi=>(⟨D,[]⟩:Act).eval (.tmp i)) 1::(λi=>(⟨D,[]⟩:Act).eval (.tmp i)) 2::(λi=>(⟨D,[]⟩:Act).eval (.tmp i)) 3::(λi=>(⟨D,[]⟩:Act).eval (.tmp i)) 4::(λi=>(⟨D,[]⟩:Act).eval (.tmp i)) 5::(λi=>(⟨D,[]⟩:Act).eval (.tmp i)) 6::(λi=>(⟨D,[]⟩:Act).eval (.tmp i)) 7::(λi=>(⟨D,[]⟩:Act).eval (.tmp i)) 8::(λi=>(⟨D,[]⟩:Act).eval (.tmp i)) 9::(λi=>(⟨D,[]⟩:Act).eval (.tmp i)) 10::(λi=>(⟨D,[]⟩:Act).eval (.tmp i)) 11::(λi=>(⟨D,[]⟩:Act).eval (.tmp i)) 12::(λi=>(⟨D,[]⟩:Act).eval (.tmp i)) 13::(λi=>(⟨D,[]⟩:Act).eval (.tmp i)) 14::(λi=>(⟨D,[]⟩:Act).eval (.tmp i)) 15::(λi=>(⟨D,[]⟩:Act).eval (.tmp i)) 16::(λi=>(⟨D,[]⟩:Act).eval (.tmp i)) 17::(λi=>(⟨D,[]⟩:Act).eval (.tmp i)) 18::(λi=>(⟨D,[]⟩:Act).eval (.tmp i)) 19::(λi=>(⟨D,[]⟩:Act).eval (.tmp i)) 20::(λi=>(⟨D,[]⟩:Act).eval (.tmp i)) 21::(λi=>(⟨D,[]⟩:Act).eval (.tmp i)) 22::(λi=>(⟨D,[]⟩:Act).eval (.tmp i)) 23::(λi=>(⟨D,[]⟩:Act).eval (.tmp i)) 24::(λi=>(⟨D,[]⟩:Act).eval (.tmp i)) 25::(λi=>(⟨D,[]⟩:Act).eval (.tmp i)) 26::(λi=>(⟨D,[]⟩:Act).eval (.tmp i)) 27::(λi=>(⟨D,[]⟩:Act).eval (.tmp i)) 28::(λi=>(⟨D,[]⟩:Act).eval (.tmp i)) 29::(λi=>(⟨D,[]⟩:Act).eval (.tmp i)) 30::(λi=>(⟨D,[]⟩:Act).eval (.tmp i)) 31::(λi=>(⟨D,[]⟩:Act).eval (.tmp i)) 32::(λi=>(⟨D,[]⟩:Act).eval (.tmp i)) 33::(λi=>(⟨D,[]⟩:Act).eval (.tmp i)) 34::(λi=>(⟨D,[]⟩:Act).eval (.tmp i)) 35::[]).toArray:=congrArg Act.tmps e;exact congrArg (λt=>(⟨t,O⟩:Act)) U
theorem Af{P:Program}{Q:Exit->Act->World->Prop}{a:Act}{w:World}{C C':Code}(h:C=C')(D:C'.wp P Q a w):C.wp P Q a w:=by subst h;exact D
structure UI(b0:Nat)(w wr:World)(e:ah)(k:Nat)(A:Option Addr)(c:Nat)(cur:List ah):Prop where
 low:Below b0 w wr
 box:wr.heap[b0+2]?=some (.cells #[.int .i64 e.bI,.int .i64 e.op,.int .i64 e.bv,.int .i64 e.aS,.string e.aT,.slice A cur.length c] 101 (0,0))
 res:wr.heap[b0+1]?=some (.cells #[.int .i64 0,.int .i64 0,.int .i64 0,.int .i64 0,.string ⟨#[]⟩,.slice none 0 0] 101 (0,0))
 acc:nN BV 101 ah.cellsR (b0+3) wr A c cur
 size:b0+3<=wr.heap.size
 eq:cur.map bX=(e.cu.take k).map bX
def JS(n0:Nat)(W0:World)(e:ah):Prop:=∀W,Below n0 W0 W->n0<=W.heap.size ->
 Calls Tryz.prog 93 #[.agg e.r] W λo w'=>∃y:ah,o=.returned y.valR/\bX y=bX e/\BV W.heap.size none w' y/\Below W.heap.size W w'
theorem yf(y:ah):(Tryz.prog.info? 101).map (·.size)=some y.cellsR.toArray.size:=by kernel_rfl
theorem MZ(y:ah):y.cellsR.toArray.all (·.oneCell')=true:=by kernel_rfl
theorem wrap_u8{x:Int}(h:0<=x/\x<=255):wrap64 x=x:=IntWalk.wrap64_in _ ⟨by omega,by omega⟩
theorem wrap_u32{x:Int}(h:0<=x/\x<=4294967295):wrap64 x=x:=IntWalk.wrap64_in _ ⟨by omega,by omega⟩
theorem NR{n0:Nat}{W0:World}{e:ah}(hr:mM n0 W0 e)(aw:e.cu.length<=900000)(ih:∀s∈e.cu,JS n0 W0 s):JS n0 W0 e:=by
 intro w a8 a7;obtain⟨cg,ci,cm⟩:=(match hr with|.mk _ a b c _ _ _ _=>⟨a,b,c⟩:_/\_/\_);have HR:=ae ((hr.stays a8).more a7);have cq:=ae λ(i:Nat) (hi:i<e.cu.length) (W:World) (hW:Below w.heap.size w W)=>ih _ (ak hi) W (a8.trans (hW.mono a7)) (ai a7 hW.size)
 have c0:=hr.row.df;have cy:=hr.row.big;have cv:=wrap_u8 cg;have cw:=wrap_u8 ci;have cx:=wrap_u32 cm;have am:=ae aw;clear hr ih a8 cg ci cm aw;go_enter Tryz.func93,Tryz.ntmps93
 go_upto_region 2 with fail
 clear cv cw cx;obtain⟨a1,a2,a3,a4,a5⟩:=CR w (.cells e.r 30) (.cells #[.int .i64 0,.int .i64 0,.int .i64 0,.int .i64 0,.string ⟨#[]⟩,.slice none 0 0] 101) (.cells #[.int .i64 e.bI,.int .i64 e.op,.int .i64 e.bv,.int .i64 e.aS,.string e.aT,.slice none 0 0] 101);have x5:(((w.alloc (.cells e.r 30)).alloc (.cells #[.int .i64 0,.int .i64 0,.int .i64 0,.int .i64 0,.string ⟨#[]⟩,.slice none 0 0] 101)).alloc (.cells #[.int .i64 e.bI,.int .i64 e.op,.int .i64 e.bv,.int .i64 e.aS,.string e.aT,.slice none 0 0] 101)).cell? ⟨w.heap.size,5,none⟩=some (.slice e.sp.dO e.cu.length e.sp.df):=(aR a1).2.2.2.2.2;have bh:Hid (UI w.heap.size w (((w.alloc (.cells e.r 30)).alloc (.cells #[.int .i64 0,.int .i64 0,.int .i64 0,.int .i64 0,.string ⟨#[]⟩,.slice none 0 0] 101)).alloc (.cells #[.int .i64 e.bI,.int .i64 e.op,.int .i64 e.bv,.int .i64 e.aS,.string e.aT,.slice none 0 0] 101)) e 0 none 0 []):=ae ⟨a5,a3,a2,nN.nil,by simp,rfl⟩;clear a1 a2 a3 a4 a5;generalize (((w.alloc (.cells e.r 30)).alloc (.cells #[.int .i64 0,.int .i64 0,.int .i64 0,.int .i64 0,.string ⟨#[]⟩,.slice none 0 0] 101)).alloc (.cells #[.int .i64 e.bI,.int .i64 e.op,.int .i64 e.bv,.int .i64 e.aS,.string e.aT,.slice none 0 0] 101))=W3 at *;go_wp2_with fail
 clear x5;generalize cb:w.heap.size=V at *;have ba:=ae cb;clear cb;go_loopw[23] (λaE wr=>∃(k:Nat) (A:Option Addr) (c:Nat) (cur:List ah),k<=e.cu.length/\aE=.int .i64 k/\UI V w wr e k A c cur) (λaE _=>e.cu.length - (intOf aE).toNat)
 case atStart=>exact⟨0,none,0,[],aH _,rfl,bh.o⟩
 case round =>
  clear bh;obtain⟨k,A,c,cur,hk,rfl,ck⟩:=hrel;have U:=ae ck;clear ck;have c3:(0:Int)<=(k:Int):=by omega
  by_cases aq:k<e.cu.length
  .obtain⟨g,o,eA,hg,hc⟩:=(HR.o.row.below U.o.low).row (by omega)
   have ab:=hc k aq;have bd:Hid (e.cu.take (k+1)=e.cu.take k++[e.cu[k]]):=ae (aG aq);have al:=ae (cq.o k aq);have c4:(k:Int)<(e.cu.length:Int):=by omega
   have ap:cur.length<=900000:=by
    have h1:=congrArg List.length U.o.eq;rw[cZ,cZ,dW]at h1;have:=am.o;omega
   have bc:=ae ap;clear hc ap;generalize e.cu[k]=x at *;have k0:=ab 0 _ rfl;rw[bS]at k0;have k1:=ab 1 _ rfl;have k2:=ab 2 _ rfl;have k3:=ab 3 _ rfl;have k4:=ab 4 _ rfl;have k5:wr.cell? ⟨g,o+k*6+5,none⟩=some (.slice x.sp.dO x.cu.length x.sp.df):=ab 5 _ rfl;have ad:=jc wr (.cells x.r 30);have cn:=gM wr (.cells x.r 30);have cl:=U.o.size;have D:Hid (UI V w (wr.alloc (.cells x.r 30)) e k A c cur):=ae ⟨U.o.low.trans (ad.mono (by omega)),(ad.block _ (by omega)).trans U.o.box,(ad.block _ (by omega)).trans U.o.res,U.o.acc.on Cb ad,ai cl ad.size,U.o.eq⟩;have bi:=ae cn;clear ab ad cn U cl;rw[eA];go_upto_region 5 with fail
   clear k0 k1 k2 k3 k4 k5;generalize wr.alloc (.cells x.r 30)=W5 at *;generalize wr.heap.size=bx at *;refine dK ?_ (Af (C':=.region 5 opsRX true) (by kernel_rfl) (Ux rfl (V+2) bx (V+3) W5 x A c cur e rfl rfl D.o.box bi.o (λW hW=>al.o W (D.o.low.trans (hW.mono (by have:=D.o.size;omega)))) D.o.acc D.o.size (by omega) D.o.size (ag _ _) bc.o));rintro ex a9 w9 ⟨rfl,a6,cc,ch,O,y,A',c',ar,ao,an⟩;obtain⟨F,hF,cf⟩:=OX a6;rw[cf,cc];have gk:∀i:Nat,GK i=true->F i=_:=λi hi=>(hF i).trans (bz (ch i hi))
   obtain⟨g0,g1,g2,g3,g4,g5,g6,g7,g8,g9⟩:=UD gk rfl;obtain⟨bj,bk,bl,bm,bo,br,bt,bw,b1,b2⟩:=Sk gk rfl;obtain⟨b3,b4,b5,b6,b7⟩:=U1 gk rfl;have b8:=gk 25 rfl;have b9:=gk 26 rfl;have bC:=gk 34 rfl;have ca:=gk 35 rfl;rw[g0,g1,g2,g3,g4,g5,g6,g7,g8,g9,bj,bk,bl,bm,bo,br,bt,bw,b1,b2,b3,b4,b5,b6,b7,b8,b9,bC,ca];clear gk hF cf ch a6 cc g0 g1 g2 g3 g4 g5 g6 g7 g8 g9 bj bk bl bm bo br bt bw b1 b2 b3 b4 b5 b6 b7 b8 b9 bC ca;have ct:Hid (UI V w w9 e (k+1) A' c' (cur++[y])):=ae ⟨D.o.low.trans (nG (q:=V+2) (by omega) (O.mono (by omega))),ar,(iB O (show V+1<V+3 by omega) (by omega)).trans D.o.res,an,ai D.o.size (by have:=O.size;rw[gI,gI]at this;exact this),by rw[bd.o,aO,aO,D.o.eq,ax,ax,ao]⟩;clear O ar ao an D bi al bd bc;go_wp2_with fail
   have hw:wrap64 ((k:Int)+1)=(k:Int)+1:=IntWalk.wrap64_in _ ⟨by omega,by have:=am.o;omega⟩;rw[hw];clear hw;go_roundw
   case rel =>
    repeat apply Exists.intro
    exact⟨⟨k+1,A',c',cur++[y],aq,by go_num,ct.o⟩,rfl⟩
   case measure=>simp[intOf];omega
  .obtain rfl:k=e.cu.length:=by omega
   have ap:cur.length=e.cu.length:=by
    have h1:=congrArg List.length U.o.eq;rw[cZ,cZ,dW]at h1;omega
   have ce:cur.map bX=e.cu.map bX:=by rw[U.o.eq,bW]
   obtain⟨cj,cd⟩:=U.o.acc.row Cb (λ_=>rfl) (by rw[ap];have:=am.o;omega);have hy:ah.cellsR (.mk e.bI e.op e.bv e.aS e.aT ⟨A,c⟩ cur)=[.int .i64 e.bI,.int .i64 e.op,.int .i64 e.bv,.int .i64 e.aS,.string e.aT,.slice A cur.length c]:=rfl;have HY:Hid (bX (.mk e.bI e.op e.bv e.aS e.aT ⟨A,c⟩ cur)=bX e):=ae (by
    cases e
    rw[jW,jW];exact congrArg _ ce)
   have cp:Hid (BV (V+3) none wr (.mk e.bI e.op e.bv e.aS e.aT ⟨A,c⟩ cur)):=ae (.mk _ (show RowOf wr.heap.size (gP (V+3) (jZ none wr)) ⟨A,c⟩ 6 ah.cellsR cur from cj) cd);have co:Hid (wr.heap[V+2]?=some (.cells (ah.cellsR (.mk e.bI e.op e.bv e.aS e.aT ⟨A,c⟩ cur)).toArray 101 (0,0))):=ae U.o.box;have be:=ae U.o.res;have cr:=ae U.o.low;have hv:ah.valR (.mk e.bI e.op e.bv e.aS e.aT ⟨A,c⟩ cur)=.agg (ah.cellsR (.mk e.bI e.op e.bv e.aS e.aT ⟨A,c⟩ cur)).toArray:=rfl;have HV:=ae hv;clear hy hv cj cd ce ap U;generalize ah.mk e.bI e.op e.bv e.aS e.aT ⟨A,c⟩ cur=y at *;go_wp2_with(first
    |(refine bH rfl 101 _ rfl (V+2) rfl 101 y.cellsR.toArray (0,0) _ co.o Tryz.underlying101 rfl (yf y) ?_)
    |(refine aK rfl 101 _ _ rfl (V+1) y.cellsR.toArray (by rfl) (by rfl) 101 #[.int .i64 0,.int .i64 0,.int .i64 0,.int .i64 0,.string ⟨#[]⟩,.slice none 0 0] be.o (yf y) (by kernel_rfl) (MZ y) ?_)
    |fail)
   have hz:=bM wr (V+1) #[.int .i64 0,.int .i64 0,.int .i64 0,.int .i64 0,.string ⟨#[]⟩,.slice none 0 0] y.cellsR.toArray 101 (0,0) be.o;refine aW (aL rfl _ _ (V+1) 101 _ (0,0) _ rfl hz Tryz.underlying101 rfl (yf y)) rfl ⟨y,by rw[HV.o],HY.o,?_,by rw[ba.o];exact below_setRow cr.o (by omega)⟩;exact Cb.move cp.o (by rw[eP];exact af _) λb h1 h2 _=>⟨by rw[ba.o];omega,h2,dQ _ _ _ _ (by omega)⟩
theorem Qs{n0:Nat}{W0:World}{e:ah}(hr:mM n0 W0 e):e.pre.length<=900000->JS n0 W0 e:=by
 induction hr with
 |mk e k o v w n row cu O =>
  intro hl;have h1:=zz e.cu;have U:=qN e;exact NR (.mk e k o v w n row cu) (by omega) λs D=>O s D (ai (Mm D) hl)
section
structure nK(lo:Nat)(g:Option Nat)(W:World)(A:Option Addr)(c:Nat)(m l:List aa):Prop where
 rd:tJ W.heap.size (gP lo (jZ g W)) ⟨A,c⟩ m
 eq:m.map aJ=l.map aJ
theorem nK.move{lo:Nat}{g g':Option Nat}{W W':World}{A:Option Addr}{c:Nat}{m l:List aa}(h:nK lo g W A c m l)(U:W.heap.size<=W'.heap.size)(hm:∀b:Nat,lo<=b->g≠some b->b<W.heap.size->g'≠some b/\W'.heap[b]?=W.heap[b]?):nK lo g' W' A c m l :=
 ⟨h.rd.cells U (qj λb h1 D O=>⟨h1,hm b h1 D O⟩),h.eq⟩
theorem nK.on{lo:Nat}{g:Option Nat}{W W':World}{A:Option Addr}{c:Nat}{m l:List aa}(h:nK lo g W A c m l)(hb:Below W.heap.size W W'):nK lo g W' A c m l:=h.move hb.size λb _ D O=>⟨D,hb.block b O⟩
theorem nK.of{lo:Nat}{g:Option Nat}{W:World}{A:Option Addr}{c:Nat}{m l:List aa}{lo':Nat}(O:∀b,g=some b->b<lo)(h:nN SI 63 aa.cellsR lo W A c m)(he:m.map aJ=l.map aJ)(hl:m.length<=1000000)(U:lo'<=lo):nK lo' g W A c m l:=by
 obtain⟨h1,D⟩:=h.row Ri (λ_=>rfl) hl;have hm:∀b:Nat,lo<=b->(none:Option Nat)≠some b->b<W.heap.size->lo'<=b/\g≠some b/\W.heap[b]?=W.heap[b]? := λb V _ _=>⟨by omega,λe=>by have:=O b e;omega,rfl⟩
 exact⟨⟨h1.cells λp u hp hc=>qj hm p u hp hc,λx hx=>Ri.move (D x hx) (af _) hm⟩,he⟩
theorem Oh:(Tryz.prog.info? 63).map (λi=>(i.zero,i.size,i.bytes))=some (some (.agg #[.int .i64 0,.string ⟨#[]⟩,.slice none 0 0,.int .i64 0,.slice none 0 0,.slice none 0 0]),6,104):=by kernel_rfl
theorem vo:(Tryz.prog.info? 63).map (·.size)=some 6:=by kernel_rfl
noncomputable def opsRT:Array Oper:=((Tryz.f29.body.bind (opsOf 5)).getD #[])
def GJ(t:Nat):Bool:=decide (t<=5) || (decide (7<=t) && decide (t<=14)) || decide (29<=t)
theorem Qi:jH opsRT 16 50 GJ=true:=by kernel_rfl
def bq:Bool->Value->Option Nat
 |true,.pointer (some p)=>some p.block
 |_,_=>none
structure Em(w0:World)(s:aa)(f9 f12 f13 f14 f15:Bool)(v6 v24 v27 v28:Value)(w:World):Prop where
 low:Below w0.heap.size w0 w
 p6:f14=true->∃b:Nat,v6=.pointer (some ⟨b,0,none⟩)/\w0.heap.size<=b/\b<w.heap.size/\(f15=false->w.heap[b]?=some (.cells #[.int .i64 0,.string ⟨#[]⟩,.slice none 0 0,.int .i64 0,.slice none 0 0,.slice none 0 0] 63 (0,0)))
 c9:f9=true->∃(A:Option Addr) (c:Nat) (m:List aa),v24=.slice A m.length c/\nK w0.heap.size (bq f14 v6) w A c m s.gy
 c12:f12=true->∃(A:Option Addr) (c:Nat) (m:List aa),v27=.slice A m.length c/\nK w0.heap.size (bq f14 v6) w A c m s.iD
 b13:f13=true->∃(A1 A2:Option Addr) (c1 c2:Nat) (m1 m2:List aa),v28=.agg #[.int .i64 s.bI,.string s.aT,.slice none 0 0,.int .i64 s.gT,.slice A1 m1.length c1,.slice A2 m2.length c2]/\nK w0.heap.size (bq f14 v6) w A1 c1 m1 s.gy/\nK w0.heap.size (bq f14 v6) w A2 c2 m2 s.iD
 d15:f15=true->∃(b:Nat) (A1 A2:Option Addr) (c1 c2:Nat) (m1 m2:List aa),v6=.pointer (some ⟨b,0,none⟩)/\w0.heap.size<=b/\w.heap[b]?=some (.cells #[.int .i64 s.bI,.string s.aT,.slice none 0 0,.int .i64 s.gT,.slice A1 m1.length c1,.slice A2 m2.length c2] 63 (0,0))/\nK w0.heap.size (some b) w A1 c1 m1 s.gy/\nK w0.heap.size (some b) w A2 c2 m2 s.iD
section
variable {w0:World}{s:aa}{f9 f12 f13 f14 f15:Bool}{v6 v24 v27 v28:Value}{w w':World}
theorem Em.on(h:Em w0 s f9 f12 f13 f14 f15 v6 v24 v27 v28 w)(hb:Below w.heap.size w w'):Em w0 s f9 f12 f13 f14 f15 v6 v24 v27 v28 w' where
 low:=h.low.trans (hb.mono h.low.size)
 p6:=λe=>by
  obtain⟨b,h1,D,O,V⟩:=h.p6 e;exact⟨b,h1,D,aI O hb.size,λe=>(hb.block b O).trans (V e)⟩
 c9:=λe=>by
  obtain⟨A,c,m,h1,D⟩:=h.c9 e;exact⟨A,c,m,h1,D.on hb⟩
 c12:=λe=>by
  obtain⟨A,c,m,h1,D⟩:=h.c12 e;exact⟨A,c,m,h1,D.on hb⟩
 b13:=λe=>by
  obtain⟨U,A2,c1,c2,m1,m2,h1,D,O⟩:=h.b13 e;exact⟨U,A2,c1,c2,m1,m2,h1,D.on hb,O.on hb⟩
 d15:=λe=>by
  obtain⟨b,U,A2,c1,c2,m1,m2,h1,D,O,V,h5⟩:=h.d15 e;exact⟨b,U,A2,c1,c2,m1,m2,h1,D,(hb.block b (dM O).1).trans O,V.on hb,h5.on hb⟩
theorem Em.box(h:Em w0 s f9 f12 f13 false false v6 v24 v27 v28 w):Em w0 s f9 f12 f13 true false (.pointer (some ⟨w.heap.size,0,none⟩)) v24 v27 v28 (w.alloc (.cells #[.int .i64 0,.string ⟨#[]⟩,.slice none 0 0,.int .i64 0,.slice none 0 0,.slice none 0 0] 63)):=by
 have hb:=jc w (.cells #[.int .i64 0,.string ⟨#[]⟩,.slice none 0 0,.int .i64 0,.slice none 0 0,.slice none 0 0] 63);have hm:∀{A:Option Addr}{c:Nat}{m l:List aa},nK w0.heap.size (bq false v6) w A c m l->nK w0.heap.size (some w.heap.size) (w.alloc (.cells #[.int .i64 0,.string ⟨#[]⟩,.slice none 0 0,.int .i64 0,.slice none 0 0,.slice none 0 0] 63)) A c m l:=λD=>D.move hb.size λb _ _ O=>⟨λe=>by have:=iL e;omega,hb.block b O⟩
 exact⟨h.low.trans (hb.mono h.low.size),λ_=>⟨_,rfl,h.low.size,by rw[di];exact bN _,λ_=>gM _ _⟩,λe=>by
  obtain⟨A,c,m,h1,D⟩:=h.c9 e;exact⟨A,c,m,h1,hm D⟩,λe=>by
  obtain⟨A,c,m,h1,D⟩:=h.c12 e;exact⟨A,c,m,h1,hm D⟩,λe=>by
  obtain⟨U,A2,c1,c2,m1,m2,h1,D,O⟩:=h.b13 e;exact⟨U,A2,c1,c2,m1,m2,h1,hm D,hm O⟩,λe=>by cases e⟩
theorem Em.far(h:Em w0 s f9 f12 f13 f14 f15 v6 v24 v27 v28 w):∀b,bq f14 v6=some b->b<w.heap.size:=λb e=>by
 cases f14 with
 |false=>cases e
 |true =>
  obtain⟨O,rfl,_,D,_⟩:=h.p6 rfl;obtain rfl:=iL e;exact D
end
def JM(w0:World)(s:aa)(L:Nat->Bool)(a:Act)(w:World):Prop:=a.tmps.size=50/\Em w0 s (L 9) (L 12) (L 13) (L 14) (L 15) (a.eval (.tmp 6)) (a.eval (.tmp 24)) (a.eval (.tmp 27)) (a.eval (.tmp 28)) w
theorem JM.flag{w0:World}{s:aa}{L:Nat->Bool}{a:Act}{w:World}(k d:Nat){v:Value}(hk:k≠9/\k≠12/\k≠13/\k≠14/\k≠15)(D:d≠6/\d≠24/\d≠27/\d≠28)(h:JM w0 s L a w):JM w0 s (pI L k) (a.put (some d) v) w:=by
 unfold JM at h ⊢;rw[av (Ne.symm hk.1),av (Ne.symm hk.2.1),av (Ne.symm hk.2.2.1),av (Ne.symm hk.2.2.2.1),av (Ne.symm hk.2.2.2.2),cB D.1,cB D.2.1,cB D.2.2.1,cB D.2.2.2];exact⟨by rw[size_put];exact h.1,h.2⟩
theorem Ii(k b:Int)(n:ByteArray)(D A2:Option Addr)(O c1 n2 c2:Nat):Tryz.prog.built 63 [(0,.int .i64 k),(1,.string n),(3,.int .i64 b),(4,.slice D O c1),(5,.slice A2 n2 c2)]=some #[.int .i64 k,.string n,.slice none 0 0,.int .i64 b,.slice D O c1,.slice A2 n2 c2]:=by kernel_rfl
theorem Uw{a0:Act}{w0:World}(a4:a0.tmps.size=50)(bx:Nat)(s:aa)(f5:a0.tmps[5]?.getD undef=.pointer (some ⟨bx,0,none⟩))(hX:w0.heap[bx]?=some (.cells s.r 43))(b0:IntKind.i64.wrap s.bI=s.bI)
  (br:∀W,Below w0.heap.size w0 W->Calls Tryz.prog 29 #[.slice s.ts.dO s.gy.length s.ts.df] W λo w'=>∃(A:Option Addr) (c:Nat) (m:List aa),o=.returned (.slice A m.length c)/\m.map aJ=s.gy.map aJ/\nN SI 63 aa.cellsR W.heap.size w' A c m/\Below W.heap.size W w')
  (bt:∀W,Below w0.heap.size w0 W->Calls Tryz.prog 29 #[.slice s.os.dO s.iD.length s.os.df] W λo w'=>∃(A:Option Addr) (c:Nat) (m:List aa),o=.returned (.slice A m.length c)/\m.map aJ=s.iD.map aJ/\nN SI 63 aa.cellsR W.heap.size w' A c m/\Below W.heap.size W w') (b1:s.gy.length<=900000) (b2:s.iD.length<=900000) :
  (Code.region 5 opsRT true).wp Tryz.prog (λe a w=>e=.normal/\a.tmps.size=50/\a.defers=a0.defers/\(∀t:Nat,GJ t=true->a.tmps[t]?.getD undef=a0.tmps[t]?.getD undef)/\Below w0.heap.size w0 w/\∃(b:Nat) (A1 A2:Option Addr) (c1 c2:Nat) (m1 m2:List aa),a.tmps[6]?.getD undef=.pointer (some ⟨b,0,none⟩)/\w0.heap.size<=b/\w.heap[b]?=some (.cells #[.int .i64 s.bI,.string s.aT,.slice none 0 0,.int .i64 s.gT,.slice A1 m1.length c1,.slice A2 m2.length c2] 63 (0,0))/\nK w0.heap.size (some b) w A1 c1 m1 s.gy/\nK w0.heap.size (some b) w A2 c2 m2 s.iD) a0 w0:=by
 have an:bx<w0.heap.size:=(dM hX).1;refine nI (n:=16) (sz:=50) (keep:=GJ) rfl Qi a4 (JM w0 s) (λ_ _ _=>True) ⟨a4,(ag _ _).drew,λh=>(by cases h),λh=>(by cases h),λh=>(by cases h),λh=>(by cases h),λh=>(by cases h)⟩ ?_;have e:opsRT.toList=opsRT.toList:=rfl
 conv at e=>rhs;arg 1;whnf
 simp only at e;rw[e];clear e;refine dP.exact (c:=.pointer (some ⟨bx,0,none⟩)) rfl rfl ?_ ?_ ?_ ?_
 .exact λ_ _ _ h=>JM.flag 0 15 (by decide) (by decide) h
 .exact λ_=>trivial
 .rintro L a w ⟨-,U,O,V,D⟩
  have f5:=(V 5 rfl).trans f5;simp[go_sem,f5]
 refine dP.exact (c:=.int .u8 s.bI) rfl rfl ?_ ?_ ?_ ?_
 .exact λ_ _ _ h=>JM.flag 1 16 (by decide) (by decide) h
 .exact λ_=>trivial
 .rintro L a w ⟨-,U,O,V,D⟩
  have f15:=aB (D.1 rfl).2;obtain⟨x0,x1,x2,x3,x4,x5⟩:=aR ((U.2.low.block bx an).trans hX);simp[go_sem,f15,x0]
 refine dP.exact (c:=.int .i64 s.bI) rfl rfl ?_ ?_ ?_ ?_
 .exact λ_ _ _ h=>JM.flag 2 17 (by decide) (by decide) h
 .exact λ_=>trivial
 .rintro L a w ⟨-,U,O,V,D⟩
  have a7:=aB (D.1 rfl).2;simp[go_sem,a7];exact b0
 refine dP.exact (c:=.pointer (some ⟨bx,1,none⟩)) rfl rfl ?_ ?_ ?_ ?_
 .exact λ_ _ _ h=>JM.flag 3 18 (by decide) (by decide) h
 .exact λ_=>trivial
 .rintro L a w ⟨-,U,O,V,D⟩
  have f5:=(V 5 rfl).trans f5;simp[go_sem,f5]
 refine dP.exact (c:=.string s.aT) rfl rfl ?_ ?_ ?_ ?_
 .exact λ_ _ _ h=>JM.flag 4 19 (by decide) (by decide) h
 .exact λ_=>trivial
 .rintro L a w ⟨-,U,O,V,D⟩
  have a9:=aB (D.1 rfl).2;obtain⟨x0,x1,x2,x3,x4,x5⟩:=aR ((U.2.low.block bx an).trans hX);simp[go_sem,a9,x1]
 refine dP.exact (c:=.pointer (some ⟨bx,3,none⟩)) rfl rfl ?_ ?_ ?_ ?_
 .exact λ_ _ _ h=>JM.flag 5 20 (by decide) (by decide) h
 .exact λ_=>trivial
 .rintro L a w ⟨-,U,O,V,D⟩
  have f5:=(V 5 rfl).trans f5;simp[go_sem,f5]
 refine dP.exact (c:=.int .i64 s.gT) rfl rfl ?_ ?_ ?_ ?_
 .exact λ_ _ _ h=>JM.flag 6 21 (by decide) (by decide) h
 .exact λ_=>trivial
 .rintro L a w ⟨-,U,O,V,D⟩
  have ba:=aB (D.1 rfl).2;obtain⟨x0,x1,x2,x3,x4,x5⟩:=aR ((U.2.low.block bx an).trans hX);simp[go_sem,ba,x3]
 refine dP.exact (c:=.pointer (some ⟨bx,4,none⟩)) rfl rfl ?_ ?_ ?_ ?_
 .exact λ_ _ _ h=>JM.flag 7 22 (by decide) (by decide) h
 .exact λ_=>trivial
 .rintro L a w ⟨-,U,O,V,D⟩
  have f5:=(V 5 rfl).trans f5;simp[go_sem,f5]
 refine dP.exact (c:=.slice s.ts.dO s.gy.length s.ts.df) rfl rfl ?_ ?_ ?_ ?_
 .exact λ_ _ _ h=>JM.flag 8 23 (by decide) (by decide) h
 .exact λ_=>trivial
 .rintro L a w ⟨-,U,O,V,D⟩
  have bd:=aB (D.1 rfl).2;obtain⟨x0,x1,x2,x3,x4,x5⟩:=aR ((U.2.low.block bx an).trans hX);simp[go_sem,bd,x4]
 refine dP.any (λL v w=>True) rfl ?_ ?_ ?_
 .exact λ_ _ _ _ _ _ _ h=>h
 .rintro L a w ⟨hL,U,O,V,D⟩
  have be:=aB (D.1 rfl).2;refine Oper.wp_enter (f:=29) (args:=#[.slice s.ts.dO s.gy.length s.ts.df]) (w':=w) ?_ ?_
  .simp[go_sem,be]
  .refine(br w U.2.low).mono ?_
   rintro o w' ⟨A,c,m,rfl,am,ar,aw⟩;have bw:m.length=s.gy.length:=by simpa using congrArg List.length am
   have ad:=U.2.on aw;have ao:=nK.of U.2.far ar am (by omega) U.2.low.size;refine⟨_,rfl,_,rfl,λe=>(by cases e),trivial,⟨by rw[size_put];exact U.1,?_⟩,trivial⟩;rw[bU,av (show 12≠9 by decide),av (show 13≠9 by decide),av (show 14≠9 by decide),av (show 15≠9 by decide),cB (show 24≠6 by decide),eval_put_same (by rw[U.1];decide),cB (show 24≠27 by decide),cB (show 24≠28 by decide)];exact { ad with c9:=λ_=>⟨A,c,m,rfl,ao⟩ }
 refine dP.exact (c:=.pointer (some ⟨bx,5,none⟩)) rfl rfl ?_ ?_ ?_ ?_
 .exact λ_ _ _ h=>JM.flag 10 25 (by decide) (by decide) h
 .exact λ_=>trivial
 .rintro L a w ⟨-,U,O,V,D⟩
  have f5:=(V 5 rfl).trans f5;simp[go_sem,f5]
 refine dP.exact (c:=.slice s.os.dO s.iD.length s.os.df) rfl rfl ?_ ?_ ?_ ?_
 .exact λ_ _ _ h=>JM.flag 11 26 (by decide) (by decide) h
 .exact λ_=>trivial
 .rintro L a w ⟨-,U,O,V,D⟩
  have bi:=aB (D.1 rfl).2;obtain⟨x0,x1,x2,x3,x4,x5⟩:=aR ((U.2.low.block bx an).trans hX);simp[go_sem,bi,x5]
 refine dP.any (λL v w=>True) rfl ?_ ?_ ?_
 .exact λ_ _ _ _ _ _ _ h=>h
 .rintro L a w ⟨hL,U,O,V,D⟩
  have bj:=aB (D.1 rfl).2;refine Oper.wp_enter (f:=29) (args:=#[.slice s.os.dO s.iD.length s.os.df]) (w':=w) ?_ ?_
  .simp[go_sem,bj]
  .refine(bt w U.2.low).mono ?_
   rintro o w' ⟨A,c,m,rfl,am,ar,aw⟩;have bw:m.length=s.iD.length:=by simpa using congrArg List.length am
   have ad:=U.2.on aw;have ao:=nK.of U.2.far ar am (by omega) U.2.low.size;refine⟨_,rfl,_,rfl,λe=>(by cases e),trivial,⟨by rw[size_put];exact U.1,?_⟩,trivial⟩;rw[bU,av (show 9≠12 by decide),av (show 13≠12 by decide),av (show 14≠12 by decide),av (show 15≠12 by decide),cB (show 27≠6 by decide),eval_put_same (by rw[U.1];decide),cB (show 27≠24 by decide),cB (show 27≠28 by decide)];exact { ad with c12:=λ_=>⟨A,c,m,rfl,ao⟩ }
 refine dP.any (λL v w=>True) rfl ?_ ?_ ?_
 .exact λ_ _ _ _ _ _ _ h=>h
 .rintro L a w ⟨hL,U,O,V,D⟩
  have a8:a.eval (.tmp 17)=_:=(D.1 rfl).2;have aE:a.eval (.tmp 19)=_:=(D.2.1 rfl).2;have bc:a.eval (.tmp 21)=_:=(D.2.2.1 rfl).2;obtain⟨A1,c1,m1,bh,h1⟩:=U.2.c9 (D.2.2.2.1 rfl).1;obtain⟨A2,c2,m2,bk,h2⟩:=U.2.c12 (D.2.2.2.2.1 rfl).1;have a1:Tryz.prog.built 63 ((#[(0,.tmp 17),(1,.tmp 19),(3,.tmp 21),(4,.tmp 24),(5,.tmp 27)]:Array (Nat × Operand)).map λ(i,x)=>(i,a.eval x)).toList=some #[.int .i64 s.bI,.string s.aT,.slice none 0 0,.int .i64 s.gT,.slice A1 m1.length c1,.slice A2 m2.length c2]:=by
   simp only[List.map_toArray,ax,dh,a8,aE,bc,bh,bk];exact Ii ..
  refine wp_build 63 #[(0,.tmp 17),(1,.tmp 19),(3,.tmp 21),(4,.tmp 24),(5,.tmp 27)] rfl (by rw[a1];rfl) ?_;refine⟨.agg #[.int .i64 s.bI,.string s.aT,.slice none 0 0,.int .i64 s.gT,.slice A1 m1.length c1,.slice A2 m2.length c2],congrArg (λx:Option (Array Value)=>a.put (some 28) (.agg (x.getD #[]))) a1,λe=>(by cases e),trivial,⟨by rw[size_put];exact U.1,?_⟩,trivial⟩;rw[bU,av (show 9≠13 by decide),av (show 12≠13 by decide),av (show 14≠13 by decide),av (show 15≠13 by decide),cB (show 28≠6 by decide),cB (show 28≠24 by decide),cB (show 28≠27 by decide),eval_put_same (by rw[U.1];decide)];exact { U.2 with b13:=λ_=>⟨A1,A2,c1,c2,m1,m2,congrArg (λx:Option (Array Value)=>Value.agg (x.getD #[])) a1,h1,h2⟩ }
 refine dP.any (λL v w=>True) rfl ?_ ?_ ?_
 .exact λ_ _ _ _ _ _ _ h=>h
 .rintro L a w ⟨hL,U,O,V,D⟩
  have a6:L 15=false:=O 15 rfl;have ad:=U.2;rw[hL,a6]at ad;refine Oper.wp_value (v:=.pointer (some ⟨w.heap.size,0,none⟩)) (w':=w.alloc (.cells #[.int .i64 0,.string ⟨#[]⟩,.slice none 0 0,.int .i64 0,.slice none 0 0,.slice none 0 0] 63)) ?_ ?_
  .simp[go_sem]
  .refine⟨_,rfl,λe=>(by cases e),trivial,⟨by rw[size_put];exact U.1,?_⟩,trivial⟩
   rw[bU,av (show 9≠14 by decide),av (show 12≠14 by decide),av (show 13≠14 by decide),av (show 15≠14 by decide),a6,eval_put_same (by rw[U.1];decide),cB (show 6≠24 by decide),cB (show 6≠27 by decide),cB (show 6≠28 by decide)];exact ad.box
 refine dP.any (λL v w=>True) rfl ?_ ?_ ?_
 .exact λ_ _ _ _ _ _ _ h=>h
 .rintro L a w ⟨hL,U,O,V,D⟩
  have ap:L 14=true:=(D.1 rfl).1;have bl:L 13=true:=(D.2.1 rfl).1;obtain⟨b,e6,a3,bm,bo⟩:=U.2.p6 ap;obtain⟨A1,A2,c1,c2,m1,m2,a5,h1,h2⟩:=U.2.b13 bl;have hz:=bo hL;rw[ap,e6]at h1 h2;have al:∀{A:Option Addr}{c:Nat}{m l:List aa},nK w0.heap.size (some b) w A c m l->nK w0.heap.size (some b) (w.setRow b #[.int .i64 s.bI,.string s.aT,.slice none 0 0,.int .i64 s.gT,.slice A1 m1.length c1,.slice A2 m2.length c2]) A c m l:=λh=>h.move (by rw[setRow_size];exact af _) λk _ h4 _=>⟨h4,dQ _ _ _ _ (λe=>h4 (by rw[e]))⟩
  refine wp_store_row 63 (.tmp 6) (.tmp 28) rfl b _ e6 a5 63 _ hz vo rfl (by simp[Value.oneCell']) ?_;refine⟨undef,rfl,λ_=>rfl,trivial,⟨U.1,?_⟩,trivial⟩;rw[bU,av (show 9≠15 by decide),av (show 12≠15 by decide),av (show 13≠15 by decide),av (show 14≠15 by decide)];show Em w0 s (L 9) (L 12) (L 13) (L 14) true (a.eval (.tmp 6)) (a.eval (.tmp 24)) (a.eval (.tmp 27)) (a.eval (.tmp 28)) _;rw[ap,e6];have aq:=U.2;rw[ap,e6]at aq;exact⟨below_setRow U.2.low a3,λ_=>⟨b,rfl,a3,by rw[setRow_size];exact bm,λh=>(by cases h)⟩,λe=>by
   obtain⟨A,c,m,t1,t2⟩:=aq.c9 e;exact⟨A,c,m,t1,al t2⟩,λe=>by
   obtain⟨A,c,m,t1,t2⟩:=aq.c12 e;exact⟨A,c,m,t1,al t2⟩,λ_=>⟨A1,A2,c1,c2,m1,m2,a5,al h1,al h2⟩,λ_=>⟨b,A1,A2,c1,c2,m1,m2,rfl,a3,bM _ _ _ _ _ _ hz,al h1,al h2⟩⟩
 rintro L a w hL ⟨U,ab,hv⟩;obtain⟨b,A1,A2,c1,c2,m1,m2,h1,h2,h3,h4,h5⟩:=U.2.d15 (hL 15 (by decide));exact⟨rfl,ab.1.trans a4,ab.2.1,ab.2.2,U.2.low,b,A1,A2,c1,c2,m1,m2,aB h1,h2,h3,h4,h5⟩
end
theorem Ib{a:Act}(h:a.tmps.size=50):∃F:Nat->Value,(∀i:Nat,F i=a.eval (.tmp i))/\a=⟨(F 0::F 1::F 2::F 3::F 4::F 5::F 6::F 7::F 8::F 9::F 10::F 11::F 12::F 13::F 14::F 15::F 16::F 17::F 18::F 19::F 20::F 21::F 22::F 23::F 24::F 25::F 26::F 27::F 28::F 29::F 30::F 31::F 32::F 33::F 34::F 35::F 36::F 37::F 38::F 39::F 40::F 41::F 42::F 43::F 44::F 45::F 46::F 47::F 48::F 49::[]).toArray,a.defers⟩:=by
 obtain⟨D,O⟩:=a;have V:(⟨D,[]⟩:Act).tmps.size=50:=h;have e:=JW V rfl;refine⟨λi=>(⟨D,O⟩:Act).eval (.tmp i),λ_=>rfl,?_⟩;have U:D=((λi=>(⟨D,[]⟩:Act).eval (.tmp i)) 0::(λi=>(⟨D,[]⟩:Act).eval (.tmp i)) 1::(λi=>(⟨D,[]⟩:Act).eval (.tmp i)) 2::(λi=>(⟨D,[]⟩:Act).eval (.tmp i)) 3::(λi=>(⟨D,[]⟩:Act).eval (.tmp i)) 4::(λi=>(⟨D,[]⟩:Act).eval (.tmp i)) 5::(λi=>(⟨D,[]⟩:Act).eval (.tmp i)) 6::(λi=>(⟨D,[]⟩:Act).eval (.tmp i)) 7::(λi=>(⟨D,[]⟩:Act).eval (.tmp i)) 8::(λi=>(⟨D,[]⟩:Act).eval (.tmp i)) 9::(λi=>(⟨D,[]⟩:Act).eval (.tmp i)) 10::(λi=>(⟨D,[]⟩:Act).eval (.tmp i)) 11::(λi=>(⟨D,[]⟩:Act).eval (.tmp i)) 12::(λi=>(⟨D,[]⟩:Act).eval (.tmp i)) 13::(λi=>(⟨D,[]⟩:Act).eval (.tmp i)) 14::(λi=>(⟨D,[]⟩:Act).eval (.tmp i)) 15::(λi=>(⟨D,[]⟩:Act).eval (.tmp i)) 16::(λi=>(⟨D,[]⟩:Act).eval (.tmp i)) 17::(λi=>(⟨D,[]⟩:Act).eval (.tmp i)) 18::(λi=>(⟨D,[]⟩:Act).eval (.tmp i)) 19::(λi=>(⟨D,[]⟩:Act).eval (.tmp i)) 20::(λi=>(⟨D,[]⟩:Act).eval (.tmp i)) 21::(λi=>(⟨D,[]⟩:Act).eval (.tmp i)) 22::(λi=>(⟨D,[]⟩:Act).eval (.tmp i)) 23::(λi=>(⟨D,[]⟩:Act).eval (.tmp i)) 24::(λi=>(⟨D,[]⟩:Act).eval (.tmp i)) 25::(λi=>(⟨D,[]⟩:Act).eval (.tmp i)) 26::(λi=>(⟨D,[]⟩:Act).eval (.tmp i)) 27::(λi=>(⟨D,[]⟩:Act).eval (.tmp i)) 28::(λi=>(⟨D,[]⟩:Act).eval (.tmp i)) 29::(λi=>(⟨D,[]⟩:Act).eval (.tmp i)) 30::(λi=>(⟨D,[]⟩:Act).eval (.tmp i)) 31::(λi=>(⟨D,[]⟩:Act).eval (.tmp i)) 32::(λi=>(⟨D,[]⟩:Act).eval (.tmp i)) 33::(λi=>(⟨D,[]⟩:Act).eval (.tmp i)) 34::(λi=>(⟨D,[]⟩:Act).eval (.tmp i)) 35::(λi=>(⟨D,[]⟩:Act).eval (.tmp i)) 36::(λi=>(⟨D,[]⟩:Act).eval (.tmp i)) 37::(λi=>(⟨D,[]⟩:Act).eval (.tmp i)) 38::(λi=>(⟨D,[]⟩:Act).eval (.tmp i)) 39::(λi=>(⟨D,[]⟩:Act).eval (.tmp i)) 40::(λi=>(⟨D,[]⟩:Act).eval (.tmp i)) 41::(λi=>(⟨D,[]⟩:Act).eval (.tmp i)) 42::(λi=>(⟨D,[]⟩:Act).eval (.tmp i)) 43::(λi=>(⟨D,[]⟩:Act).eval (.tmp i)) 44::(λi=>(⟨D,[]⟩:Act).eval (.tmp i)) 45::(λi=>(⟨D,[]⟩:Act).eval (.tmp i)) 46::(λi=>(⟨D,[]⟩:Act).eval (.tmp i)) 47::(λi=>(⟨D,[]⟩:Act).eval (.tmp i)) 48::(λi=>(⟨D,[]⟩:Act).eval (.tmp i)) 49::[]).toArray:=congrArg Act.tmps e;exact congrArg (λt=>(⟨t,O⟩:Act)) U
theorem UC{x:Int}(h:0<=x/\x<=255):IntKind.i64.wrap x=x:=by
 unfold IntKind.wrap;simp[IntKind.bits,IntKind.signed];omega
theorem TM:sN Tryz.prog 61 63 6:=rY Oh Tryz.underlying61 (by decide) rfl (by decide)
theorem Nu:∀x:aa,∀u∈x.cellsR,u.oneCell'=true:=by
 intro x u D;simp only[aa.cellsR,bE,bu,or_false]at D;rcases D with rfl|rfl|rfl|rfl|rfl|rfl<;>rfl
structure UH(q:Nat)(w9 wr:World)(s:aa)(v4 v5:Value)(k:Nat)(A:Option Addr)(c:Nat)(cur:List ah):Prop where
 low:Below w9.heap.size (mask q w9) (mask q wr)
 box:wr.heap[q]?=some (.cells #[.int .i64 s.bI,.string s.aT,.slice A cur.length c,.int .i64 s.gT,v4,v5] 63 (0,0))
 acc:nN BV 101 ah.cellsR w9.heap.size wr A c cur
 eq:cur.map bX=(s.bf.take k).map bX
def Cq(n0:Nat)(W0:World)(sp:Sp)(l:List aa):Prop:=∀W,Below n0 W0 W->n0<=W.heap.size ->
 Calls Tryz.prog 29 #[.slice sp.dO l.length sp.df] W λo w'=>∃(A:Option Addr) (c:Nat) (m:List aa),o=.returned (.slice A m.length c)/\m.map aJ=l.map aJ/\nN SI 63 aa.cellsR W.heap.size w' A c m/\Below W.heap.size W w'
theorem NQ{n0:Nat}{W0:World}{sp:Sp}{l:List aa}(hr:gq n0 W0 sp l)(hl:aV l<=900000)(ih:∀s∈l,Cq n0 W0 s.ts s.gy/\Cq n0 W0 s.os s.iD):Cq n0 W0 sp l:=by
 intro w cj ca;have HR:=ae ((hr.below cj).more ca);have dg:=ae λ(i:Nat) (hi:i<l.length) (W:World) (hW:Below w.heap.size w W)=>And.intro ((ih _ (ak hi)).1 W (cj.trans (hW.mono ca)) (ai ca hW.size)) ((ih _ (ak hi)).2 W (cj.trans (hW.mono ca)) (ai ca hW.size))
 have ef:=ae λ(i:Nat) (hi:i<l.length)=>ai (pE l _ (ak hi)) hl
 have eg:=ae λ(i:Nat) (hi:i<l.length)=>(match hr.ok _ (ak hi)with|.mk _ a _ _ _ _ _ _ _ _=>a:0<=l[i].bI/\l[i].bI<=255)
 have eh:=ae (ai (lM l) hl);have et:=hr.row.few;have er:=hr.row.df;have ep:=hr.row.big;clear hr ih cj hl;go_enter Tryz.func29,Tryz.ntmps29
 go_wp2_with fail
 generalize du:w.heap.size=b0 at *;have cW:=ae du;have cX:Hid (b0<=w.heap.size):=ae (by omega);clear du;go_loopw[11,3] (λcT s3 wr=>∃(k:Nat) (A:Option Addr) (c:Nat) (cur:List aa),k<=l.length/\cT=.int .i64 k/\s3=.slice A cur.length c/\nN SI 63 aa.cellsR b0 wr A c cur/\cur.map aJ=(l.take k).map aJ/\Below b0 w wr) (λcT _ _=>l.length - (intOf cT).toNat)
 case atStart=>exact⟨0,none,0,[],aH _,rfl,rfl,nN.nil,rfl,ag _ _⟩
 case round =>
  obtain⟨k,A,c,cur,hk,rfl,rfl,cm,cP,ab⟩:=hrel;have e0:(0:Int)<=(k:Int):=by omega
  have b5:cur.length=k:=by
   have h1:=congrArg List.length cP;rw[cZ,cZ,dW]at h1;omega
  have ee:=ae b5;have br:=ae cm;have cr:=ae cP;have bl:=ae ab;have cv:Hid (b0<=wr.heap.size):=ae (ai cX.o ab.size);clear cm cP ab b5;by_cases am:k<l.length
  .obtain⟨g,o,eA,hg,hc⟩:=(HR.o.row.below bl.o).row (by omega)
   have U:=hc k am;have em:Hid (l.take (k+1)=l.take k++[l[k]]):=ae (aG am);have HS:=ae (HR.o.ok _ (ak am));have dn:=ae λ(W:World) (hW:Below b0 w W)=>(dg.o k am W hW).1
   have dc:=ae λ(W:World) (hW:Below b0 w W)=>(dg.o k am W hW).2
   have ct:=ae (ef.o k am);have dj:=ae (eg.o k am);have e4:(k:Int)<(l.length:Int):=by omega
   clear hc;generalize l[k]=s at *;have k0:=U 0 _ rfl;rw[bS]at k0;have k1:=U 1 _ rfl;have k2:wr.cell? ⟨g,o+k*6+2,none⟩=some (.slice s.es.dO s.bf.length s.es.df):=U 2 _ rfl;have k3:=U 3 _ rfl;have k4:wr.cell? ⟨g,o+k*6+4,none⟩=some (.slice s.ts.dO s.gy.length s.ts.df):=U 4 _ rfl;have k5:wr.cell? ⟨g,o+k*6+5,none⟩=some (.slice s.os.dO s.iD.length s.os.df):=U 5 _ rfl;have O:=jc wr (.cells s.r 43);have cd:=gM wr (.cells s.r 43);have bm:=ae (bl.o.trans (O.mono cv.o));have bo:=ae (br.o.on Ri O);have D:Hid (b0<=(wr.alloc (.cells s.r 43)).heap.size):=ae (ai cv.o O.size);have ap:=ae cd;clear U O br bl cv cd;rw[eA];go_upto_region 5 with fail
   clear k0 k1 k2 k3 k4 k5;generalize wr.alloc (.cells s.r 43)=W5 at *;generalize wr.heap.size=bx at *;have d4:s.gy.length<=900000:=by have h1:=pz s;have h2:=lM s.gy;have:=ct.o;omega
   have d5:s.iD.length<=900000:=by have h1:=pz s;have h2:=lM s.iD;have:=ct.o;omega
   have dq:Hid (dU s.bf<=900000):=ae (by have h1:=pz s;have:=ct.o;omega);have cq:Hid (s.bf.length<=900000):=ae (ai (zz s.bf) dq.o);refine dK ?_ (Af (C':=.region 5 opsRT true) (by kernel_rfl) (Uw rfl bx s rfl ap.o (UC dj.o) (λW hW=>dn.o W (bm.o.trans (hW.mono D.o))) (λW hW=>dc.o W (bm.o.trans (hW.mono D.o))) d4 d5));rintro ex a9 w9 ⟨rfl,ao,b7,b9,ad,b6,A1,A2,c1,c2,m1,m2,h6,dv,b4,d2,d3⟩;obtain⟨F,hF,b8⟩:=Ib ao;rw[b8,b7];have gk:∀i:Nat,GJ i=true->F i=_:=λi hi=>(hF i).trans (bz (b9 i hi))
   have g6:F 6=.pointer (some ⟨b6,0,none⟩):=(hF 6).trans (bz h6);obtain⟨g0,g1,g2,g3,g4⟩:=TU gk rfl;have g5:=gk 5 rfl;have g7:=gk 7 rfl;have g8:=gk 8 rfl;have g9:=gk 9 rfl;obtain⟨aq,ar,aw,a1,a3⟩:=U0 gk rfl;have a4:=gk 29 rfl;obtain⟨a5,a6,a7,a8,aE,ba,cG,cH,cI,cJ⟩:=TS gk rfl;obtain⟨cL,cM,cN,bc,bd,be,bh,bi,bj,bk⟩:=UZ gk rfl;simp only[List.getElem?_toArray,bD,dm,iq]at g0 g1 g2 g3 g4 g5 g7 g8 g9 aq ar aw a1 a3 a4 a5 a6 a7 a8 aE ba cG cH cI cJ cL cM cN bc bd be bh bi bj bk;rw[g6,g0,g1,g2,g3,g4,g5,g7,g8,g9,aq,ar,aw,a1,a3,a4,a5,a6,a7,a8,aE,ba,cG,cH,cI,cJ,cL,cM,cN,bc,bd,be,bh,bi,bj,bk];clear gk hF b8 b9 ao b7 g6 g0 g1 g2 g3 g4 g5 g7 g8 g9 aq ar aw a1 a3 a4 a5 a6 a7 a8 aE ba cG cH cI cJ cL cM cN bc bd be bh bi bj bk;have en:=ae ((ad.block bx (dM ap.o).1).trans ap.o);have ev:=ae (bm.o.trans (ad.mono D.o));have bt:=ae ad;have dd:=ae d2;have de:=ae d3;have cp:=ae (dM b4).1;have dT:=ae dv;have dl:Hid (UH b6 w9 w9 s (.slice A1 m1.length c1) (.slice A2 m2.length c2) 0 none 0 []):=ae ⟨ag _ _,b4,nN.nil,rfl⟩;obtain⟨x0,x1,x2,x3,x4,x5⟩:=aR en.o;clear ad d2 d3 b4 dv ap dn dc d4 d5 x0 x1 x3 x4 x5 dj;go_upto_region 7 with fail
   clear x2;go_loopw[32] (λcU wr=>∃(j:Nat) (B:Option Addr) (d:Nat) (ex:List ah),j<=s.bf.length/\cU=.int .i64 j/\UH b6 w9 wr s (.slice A1 m1.length c1) (.slice A2 m2.length c2) j B d ex) (λcU _=>s.bf.length - (intOf cU).toNat)
   case atStart=>exact⟨0,none,0,[],aH _,rfl,dl.o⟩
   case round =>
    clear dl;obtain⟨j,B,d,ex,hj,rfl,cS⟩:=hrel;have V:=ae cS;have al:Hid (Below W5.heap.size W5 wr):=ae (bt.o.trans (nG (q:=b6) dT.o (cS.low.mono bt.o.size)));clear cS;have ey:(0:Int)<=(j:Int):=by omega
    by_cases an:j<s.bf.length
    .obtain⟨g2,o2,eB,cg,hc⟩:=(HS.o.xs.row.below (bm.o.trans (al.o.mono D.o))).row (by omega)
     have U:=hc j an;have ck:Hid (s.bf.take (j+1)=s.bf.take j++[s.bf[j]]):=ae (aG an);have dr:=ae (Qs (HS.o.xs.ok _ (ak an)) (ai (Df (ak an)) dq.o));have ez:(j:Int)<(s.bf.length:Int):=by omega
     have b5:ex.length<=900000:=by
      have h1:=congrArg List.length V.o.eq;rw[cZ,cZ,dW]at h1;have:=cq.o;omega
     have db:=ae b5;clear hc b5;generalize s.bf[j]=x at *;have k0:=U 0 _ rfl;rw[bS]at k0;have k1:=U 1 _ rfl;have k2:=U 2 _ rfl;have k3:=U 3 _ rfl;have k4:=U 4 _ rfl;have k5:wr.cell? ⟨g2,o2+j*6+5,none⟩=some (.slice x.sp.dO x.cu.length x.sp.df):=U 5 _ rfl;have O:=jc wr (.cells x.r 30);have cd:=gM wr (.cells x.r 30);have ci:=V.o.low.size;rw[gI,gI]at ci;have d7:=(V.o.low.trans (bn (q:=b6) (by have:=cp.o;omega) (O.mono ci)));have bw:Hid (UH b6 w9 (wr.alloc (.cells x.r 30)) s (.slice A1 m1.length c1) (.slice A2 m2.length c2) j B d ex):=ae ⟨d7,(O.block _ (by have:=cp.o;omega)).trans V.o.box,V.o.acc.on Cb O,V.o.eq⟩;have ap:=ae cd;have cf:Hid (w9.heap.size<=(wr.alloc (.cells x.r 30)).heap.size):=ae (ai ci O.size);have dp:=ae ((bm.o.trans (al.o.mono D.o)).trans (O.mono (ai D.o al.o.size)));clear U O cd d7 V ci al;rw[eB];go_upto_region 9 with fail
     clear k0 k1 k2 k3 k4 k5;generalize wr.alloc (.cells x.r 30)=W6 at *;generalize wr.heap.size=eo at *;refine dK ?_ (Af (C':=.region 9 opsRS true) (by kernel_rfl) (Uv rfl b6 eo w9.heap.size w9 x B d ex s.bI s.gT s.aT _ _ rfl rfl bw.o.box ap.o (λW hW=>dr.o W (dp.o.trans (hW.mono (by have:=D.o;have:=cf.o;have:=bt.o.size;omega))) (by have:=D.o;have:=cf.o;have:=bt.o.size;have:=hW.size;omega)) bw.o.acc (af _) cp.o cf.o bw.o.low db.o));rintro ew a9 w7 ⟨rfl,ao,b7,b9,bC,y,B',d',co,b3,b2⟩;obtain⟨G,hG,b8⟩:=Ib ao;rw[b8,b7];have gk:∀i:Nat,GI i=true->G i=_:=λi hi=>(hG i).trans (bz (b9 i hi))
     obtain⟨g0,g1,g2,g3,g4,g5,g6,g7,g8,g9⟩:=UD gk rfl;obtain⟨aq,ar,aw,a1,a3,cw,cx,cy,c0,c4⟩:=Sk gk rfl;obtain⟨c5,c6,c7,c8,cA,cC,cD,cE,cF,a4⟩:=TR gk rfl;obtain⟨a5,a6,a7,a8,aE⟩:=U2 gk rfl;have ba:=gk 35 rfl;have bc:=gk 43 rfl;have bd:=gk 44 rfl;obtain⟨be,bh,bi,bj,bk⟩:=U3 gk rfl;simp only[List.getElem?_toArray,bD,dm,iq]at g0 g1 g2 g3 g4 g5 g6 g7 g8 g9 aq ar aw a1 a3 cw cx cy c0 c4 c5 c6 c7 c8 cA cC cD cE cF a4 a5 a6 a7 a8 aE ba bc bd be bh bi bj bk;rw[g0,g1,g2,g3,g4,g5,g6,g7,g8,g9,aq,ar,aw,a1,a3,cw,cx,cy,c0,c4,c5,c6,c7,c8,cA,cC,cD,cE,cF,a4,a5,a6,a7,a8,aE,ba,bc,bd,be,bh,bi,bj,bk];clear gk hG b8 b9 ao b7 g0 g1 g2 g3 g4 g5 g6 g7 g8 g9 aq ar aw a1 a3 cw cx cy c0 c4 c5 c6 c7 c8 cA cC cD cE cF a4 a5 a6 a7 a8 aE ba bc bd be bh bi bj bk;have ej:Hid (UH b6 w9 w7 s (.slice A1 m1.length c1) (.slice A2 m2.length c2) (j+1) B' d' (ex++[y])):=ae ⟨bC,co,b2,by rw[ck.o,aO,aO,bw.o.eq,ax,ax,b3]⟩;clear bC co b3 b2 bw ap dr ck db cf dp;go_wp2_with fail
     have hw:wrap64 ((j:Int)+1)=(j:Int)+1:=IntWalk.wrap64_in _ ⟨by omega,by have:=cq.o;omega⟩;rw[hw];clear hw;go_roundw
     case rel =>
      exact⟨j+1,B',d',ex++[y],an,by go_num,ej.o⟩
     case measure=>simp[intOf];omega
    .obtain rfl:j=s.bf.length:=by omega
     have d1:ex.length<=1000000:=by
      have h1:=congrArg List.length V.o.eq;rw[cZ,cZ,dW]at h1;have:=cq.o;omega
     obtain⟨d6,dy⟩:=V.o.acc.row Cb (λ_=>rfl) d1;have ch:=V.o.low.size;rw[gI,gI]at ch;have cR:∀(p:Addr) (u:Value),p.block<wr.heap.size->(gP w9.heap.size (jZ none wr)).cell? p=some u->(gP W5.heap.size (jZ none wr)).cell? p=some u:=qj λb h1 _ _=>⟨ai bt.o.size h1,by simp,rfl⟩
     have cQ:∀(p:Addr) (u:Value),p.block<w9.heap.size->(gP W5.heap.size (jZ (some b6) w9)).cell? p=some u->(gP W5.heap.size (jZ none wr)).cell? p=some u:=qj λb h1 h2 h3=>⟨h1,by simp,iB V.o.low h3 (λe=>h2 (by rw[e]))⟩
     have ht:=dd.o.rd.cells ch cQ;have ho:=de.o.rd.cells ch cQ;have HY:Hid (SI W5.heap.size none wr (.mk s.bI s.aT ⟨B,d⟩ ex s.gT ⟨A1,c1⟩ m1 ⟨A2,c2⟩ m2:aa)):=ae (uB.mk (.mk s.bI s.aT ⟨B,d⟩ ex s.gT ⟨A1,c1⟩ m1 ⟨A2,c2⟩ m2:aa) (d6.cells cR) (λx hx=>(dy x hx).cells (af _) cR) ht.row ht.ok ho.row ho.ok);have eb:Hid (aJ (.mk s.bI s.aT ⟨B,d⟩ ex s.gT ⟨A1,c1⟩ m1 ⟨A2,c2⟩ m2:aa)=aJ s):=ae (by
      have e1:=dd.o.eq;have e2:=de.o.eq;have e3:ex.map bX=s.bf.map bX:=by rw[V.o.eq,bW]
      cases s
      rw[dS,dS];simp only[aa.gy,aa.iD,aa.bf]at e1 e2 e3;simp only[aa.bI,aa.aT,aa.gT,e1,e2,e3])
     have O:=jc wr (.cells #[.int .i64 s.bI,.string s.aT,.slice B ex.length d,.int .i64 s.gT,.slice A1 m1.length c1,.slice A2 m2.length c2] 63);have da:Hid (wr.heap[b6]?=some (.cells #[.int .i64 s.bI,.string s.aT,.slice B ex.length d,.int .i64 s.gT,.slice A1 m1.length c1,.slice A2 m2.length c2] 63 (0,0))):=ae V.o.box;have cc:=al.o.size;have ce:=ae ((bo.o.on Ri al.o).on Ri O);have dt:=ae (Ri.far (lo':=b0) (Ri.below HY.o O) (λb e=>bo.o.own.iP b e) D.o);have dk:=ae (row_one (enc:=aa.cellsR) (x:=(.mk s.bI s.aT ⟨B,d⟩ ex s.gT ⟨A1,c1⟩ m1 ⟨A2,c2⟩ m2:aa)) (k:=6) (gM wr (.cells #[.int .i64 s.bI,.string s.aT,.slice B ex.length d,.int .i64 s.gT,.slice A1 m1.length c1,.slice A2 m2.length c2] 63)));have b1:Hid (b0<=(wr.alloc (.cells #[.int .i64 s.bI,.string s.aT,.slice B ex.length d,.int .i64 s.gT,.slice A1 m1.length c1,.slice A2 m2.length c2] 63)).heap.size):=ae (ai D.o (ai cc O.size));have cY:=ae ((bm.o.trans (al.o.mono D.o)).trans (O.mono (ai D.o cc)));have ei:Hid (cur.length+1<=1000000):=ae (by have:=ee.o;have:=eh.o;omega);clear cR cQ ht ho d6 dy ch O cc V al bo HY;go_wp2_with(first
      |(refine bH rfl 63 _ rfl b6 rfl 63 _ (0,0) _ da.o Tryz.underlying63 rfl vo ?_)
      |(at_builtin;refine gQ rfl (.tmp 44) (.tmp 46) 61 rfl TM (λ_=>rfl) Nu _ cur rfl ce.o.own ⟨some ⟨wr.heap.size,0,none⟩,1⟩ [(.mk s.bI s.aT ⟨B,d⟩ ex s.gT ⟨A1,c1⟩ m1 ⟨A2,c2⟩ m2:aa)] rfl dk.o ei.o b1.o ?_)
      |fail)
     intro v2 w2 cb cg cn;obtain⟨A3,c3,rfl,cl⟩:=ce.o.push Ri dt.o cb cg (by rw[di];exact cn);have ab:=ce.o.own.below cg (af _) (ag b0 _) b1.o;have cV:=ae cl;have d8:=ae (cY.o.trans ab);clear cb cg cn ab cl ce dt dk cY b1;have hw:wrap64 ((k:Int)+1)=(k:Int)+1:=IntWalk.wrap64_in _ ⟨by omega,by omega⟩;go_wp2_with fail
     exact⟨⟨k+1,A3,c3,_,am,by go_num,rfl,cV.o,by rw[em.o,aO,aO,cr.o,ax,ax,eb.o],d8.o⟩,by simp[intOf];omega⟩
  .obtain rfl:k=l.length:=by omega
   rw[bW]at cr;go_wp2_with fail
   go_ret
   exact⟨A,c,cur,rfl,cr.o,by rw[cW.o];exact br.o,by rw[cW.o];exact bl.o⟩
theorem DY{n0:Nat}{W0:World}:∀(N:Nat) {sp:Sp}{l:List aa},aV l<=N->N<=900000->gq n0 W0 sp l->Cq n0 W0 sp l
 |N,_,l,h,O,hr=>NQ hr (ai h O) λs D=>by
  have h1:=pE l s D;have U:=pz s
  match N with
  |0=>omega
  |N+1=>exact⟨DY N (by omega) (by omega) (hr.ok s D).kS,DY N (by omega) (by omega) (hr.ok s D).ko⟩
section
noncomputable def opsSS:Array Oper:=((Tryz.f77.body.bind (opsOf 6)).getD #[])
def KU(t:Nat):Bool:=decide (t<=5) || (decide (8<=t) && decide (t<=19)) || decide (28<=t)
theorem Ql:jH opsSS 12 91 KU=true:=by kernel_rfl
structure QV(w0:World)(X Y:Array Value)(f8 f9 f10 f11:Bool)(v6 v7:Value)(w:World):Prop where
 low:Below w0.heap.size w0 w
 p6:f8=true->∃b:Nat,v6=.pointer (some ⟨b,0,none⟩)/\w0.heap.size<=b/\w.heap[b]?=some (.cells (if f10=true then X else #[.int .i64 0,.string ⟨#[]⟩,.slice none 0 0,.int .i64 0,.slice none 0 0,.slice none 0 0]) 63 (0,0))
 p7:f9=true->∃b:Nat,v7=.pointer (some ⟨b,0,none⟩)/\w0.heap.size<=b/\w.heap[b]?=some (.cells (if f11=true then Y else #[.int .i64 0,.string ⟨#[]⟩,.slice none 0 0,.int .i64 0,.slice none 0 0,.slice none 0 0]) 63 (0,0))
 ne:f8=true->f9=true->v6≠v7
section
variable {w0:World}{X Y:Array Value}{f8 f9 f10 f11:Bool}{v6 v7:Value}{w w':World}
theorem QV.on(h:QV w0 X Y f8 f9 f10 f11 v6 v7 w)(hb:Below w.heap.size w w'):QV w0 X Y f8 f9 f10 f11 v6 v7 w' where
 low:=h.low.trans (hb.mono h.low.size)
 p6:=λe=>by
  obtain⟨b,h1,O,D⟩:=h.p6 e;exact⟨b,h1,O,(hb.block b (dM D).1).trans D⟩
 p7:=λe=>by
  obtain⟨b,h1,O,D⟩:=h.p7 e;exact⟨b,h1,O,(hb.block b (dM D).1).trans D⟩
 ne:=h.ne
theorem QV.box6(h:QV w0 X Y false f9 false f11 v6 v7 w):QV w0 X Y true f9 false f11 (.pointer (some ⟨w.heap.size,0,none⟩)) v7 (w.alloc (.cells #[.int .i64 0,.string ⟨#[]⟩,.slice none 0 0,.int .i64 0,.slice none 0 0,.slice none 0 0] 63)):=by
 have hb:=jc w (.cells #[.int .i64 0,.string ⟨#[]⟩,.slice none 0 0,.int .i64 0,.slice none 0 0,.slice none 0 0] 63);refine⟨h.low.trans (hb.mono h.low.size),λ_=>⟨_,rfl,h.low.size,gM _ _⟩,(h.on hb).p7,λ_ e=>?_⟩;obtain⟨b,rfl,_,O⟩:=h.p7 e;have:=(dM O).1;intro D;simp at D
theorem QV.box7(h:QV w0 X Y f8 false f10 false v6 v7 w):QV w0 X Y f8 true f10 false v6 (.pointer (some ⟨w.heap.size,0,none⟩)) (w.alloc (.cells #[.int .i64 0,.string ⟨#[]⟩,.slice none 0 0,.int .i64 0,.slice none 0 0,.slice none 0 0] 63)):=by
 have hb:=jc w (.cells #[.int .i64 0,.string ⟨#[]⟩,.slice none 0 0,.int .i64 0,.slice none 0 0,.slice none 0 0] 63);refine⟨h.low.trans (hb.mono h.low.size),(h.on hb).p6,λ_=>⟨_,rfl,h.low.size,gM _ _⟩,λe _=>?_⟩;obtain⟨b,rfl,_,O⟩:=h.p6 e;have:=(dM O).1;intro D;simp at D
end
def MH(w0:World)(X Y:Array Value)(L:Nat->Bool)(a:Act)(w:World):Prop:=a.tmps.size=91/\QV w0 X Y (L 8) (L 9) (L 10) (L 11) (a.eval (.tmp 6)) (a.eval (.tmp 7)) w
theorem MH.flag{w0:World}{X Y:Array Value}{L:Nat->Bool}{a:Act}{w:World}(k d:Nat){v:Value}(hk:k≠8/\k≠9/\k≠10/\k≠11)(D:d≠6/\d≠7)(h:MH w0 X Y L a w):MH w0 X Y (pI L k) (a.put (some d) v) w:=by
 unfold MH at h ⊢;rw[av (Ne.symm hk.1),av (Ne.symm hk.2.1),av (Ne.symm hk.2.2.1),av (Ne.symm hk.2.2.2),cB D.1,cB D.2];exact⟨by rw[size_put];exact h.1,h.2⟩
theorem Uy{a0:Act}{w0:World}(ar:a0.tmps.size=91)(x y:aa)(ga oa na ca gb ob nb cb i:Nat)(f0:a0.tmps[0]?.getD undef=.slice (some ⟨ga,oa,none⟩) na ca)(f1:a0.tmps[1]?.getD undef=.slice (some ⟨gb,ob,none⟩) nb cb)(f5:a0.tmps[5]?.getD undef=.int .i64 i)(a1:(i:Int)<(na:Int))(a3:(i:Int)<(nb:Int))(aw:(0:Int)<=(i:Int))
  (ad:ga<w0.heap.size) (al:gb<w0.heap.size) (ha:∀(r:Nat) (u:Value),x.cellsR[r]?=some u->w0.cell? ⟨ga,oa+i*6+r,none⟩=some u) (hb:∀(r:Nat) (u:Value),y.cellsR[r]?=some u->w0.cell? ⟨gb,ob+i*6+r,none⟩=some u) :
  (Code.region 6 opsSS true).wp Tryz.prog (λe a w=>e=.normal/\a.tmps.size=91/\a.defers=a0.defers/\(∀t:Nat,KU t=true->a.tmps[t]?.getD undef=a0.tmps[t]?.getD undef)/\Below w0.heap.size w0 w/\∃b6 b7:Nat,a.tmps[6]?.getD undef=.pointer (some ⟨b6,0,none⟩)/\a.tmps[7]?.getD undef=.pointer (some ⟨b7,0,none⟩)/\w.heap[b6]?=some (.cells #[.int .i64 x.bI,.string x.aT,.slice x.es.dO x.bf.length x.es.df,.int .i64 x.gT,.slice x.ts.dO x.gy.length x.ts.df,.slice x.os.dO x.iD.length x.os.df] 63 (0,0))/\w.heap[b7]?=some (.cells #[.int .i64 y.bI,.string y.aT,.slice y.es.dO y.bf.length y.es.df,.int .i64 y.gT,.slice y.ts.dO y.gy.length y.ts.df,.slice y.os.dO y.iD.length y.os.df] 63 (0,0))) a0 w0:=by
 refine nI (n:=12) (sz:=91) (keep:=KU) rfl Ql ar (MH w0 #[.int .i64 x.bI,.string x.aT,.slice x.es.dO x.bf.length x.es.df,.int .i64 x.gT,.slice x.ts.dO x.gy.length x.ts.df,.slice x.os.dO x.iD.length x.os.df] #[.int .i64 y.bI,.string y.aT,.slice y.es.dO y.bf.length y.es.df,.int .i64 y.gT,.slice y.ts.dO y.gy.length y.ts.df,.slice y.os.dO y.iD.length y.os.df]) (λ_ _ _=>True) ⟨ar,(ag _ _).drew,λh=>(by cases h),λh=>(by cases h),λh=>(by cases h)⟩ ?_;have e:opsSS.toList=opsSS.toList:=rfl
 conv at e=>rhs;arg 1;whnf
 simp only at e;rw[e];clear e;refine dP.exact (c:=.slice (some ⟨ga,oa,none⟩) na ca) rfl rfl ?_ ?_ ?_ ?_
 .exact λ_ _ _ h=>MH.flag 0 20 (by decide) (by decide) h
 .exact λ_=>trivial
 .rintro L a w ⟨-,O,U,V,D⟩
  have f0:=(V 0 rfl).trans f0;simp[go_sem,f0]
 refine dP.exact (c:=.int .i64 i) rfl rfl ?_ ?_ ?_ ?_
 .exact λ_ _ _ h=>MH.flag 1 21 (by decide) (by decide) h
 .exact λ_=>trivial
 .rintro L a w ⟨-,O,U,V,D⟩
  have f5:=(V 5 rfl).trans f5;simp[go_sem,f5]
 refine dP.exact (c:=.pointer (some ⟨ga,oa+i*6,none⟩)) rfl rfl ?_ ?_ ?_ ?_
 .exact λ_ _ _ h=>MH.flag 2 22 (by decide) (by decide) h
 .exact λ_=>trivial
 .rintro L a w ⟨-,O,U,V,D⟩
  have e1:=aB (D.1 rfl).2;have e2:=aB (D.2.1 rfl).2;simp[go_sem,e1,e2,a1,aw]
 refine dP.exact (c:=.agg #[.int .i64 x.bI,.string x.aT,.slice x.es.dO x.bf.length x.es.df,.int .i64 x.gT,.slice x.ts.dO x.gy.length x.ts.df,.slice x.os.dO x.iD.length x.os.df]) rfl rfl ?_ ?_ ?_ ?_
 .exact λ_ _ _ h=>MH.flag 3 23 (by decide) (by decide) h
 .exact λ_=>trivial
 .rintro L a w ⟨-,O,U,V,D⟩
  have e1:=aB (D.1 rfl).2;have c0:=(O.2.low.cell (p:=⟨ga,oa+i*6+0,none⟩) ad).trans (ha 0 _ rfl);have c1:=(O.2.low.cell (p:=⟨ga,oa+i*6+1,none⟩) ad).trans (ha 1 _ rfl);have c2:=(O.2.low.cell (p:=⟨ga,oa+i*6+2,none⟩) ad).trans (ha 2 _ rfl);have c3:=(O.2.low.cell (p:=⟨ga,oa+i*6+3,none⟩) ad).trans (ha 3 _ rfl);have c4:=(O.2.low.cell (p:=⟨ga,oa+i*6+4,none⟩) ad).trans (ha 4 _ rfl);have c5:=(O.2.low.cell (p:=⟨ga,oa+i*6+5,none⟩) ad).trans (ha 5 _ rfl);rw[bS]at c0;simp[go_sem,e1,c0,c1,c2,c3,c4,c5,Sp.val]
 refine dP.exact (c:=.slice (some ⟨gb,ob,none⟩) nb cb) rfl rfl ?_ ?_ ?_ ?_
 .exact λ_ _ _ h=>MH.flag 4 24 (by decide) (by decide) h
 .exact λ_=>trivial
 .rintro L a w ⟨-,O,U,V,D⟩
  have f1:=(V 1 rfl).trans f1;simp[go_sem,f1]
 refine dP.exact (c:=.int .i64 i) rfl rfl ?_ ?_ ?_ ?_
 .exact λ_ _ _ h=>MH.flag 5 25 (by decide) (by decide) h
 .exact λ_=>trivial
 .rintro L a w ⟨-,O,U,V,D⟩
  have f5:=(V 5 rfl).trans f5;simp[go_sem,f5]
 refine dP.exact (c:=.pointer (some ⟨gb,ob+i*6,none⟩)) rfl rfl ?_ ?_ ?_ ?_
 .exact λ_ _ _ h=>MH.flag 6 26 (by decide) (by decide) h
 .exact λ_=>trivial
 .rintro L a w ⟨-,O,U,V,D⟩
  have e1:=aB (D.1 rfl).2;have e2:=aB (D.2.1 rfl).2;simp[go_sem,e1,e2,a3,aw]
 refine dP.exact (c:=.agg #[.int .i64 y.bI,.string y.aT,.slice y.es.dO y.bf.length y.es.df,.int .i64 y.gT,.slice y.ts.dO y.gy.length y.ts.df,.slice y.os.dO y.iD.length y.os.df]) rfl rfl ?_ ?_ ?_ ?_
 .exact λ_ _ _ h=>MH.flag 7 27 (by decide) (by decide) h
 .exact λ_=>trivial
 .rintro L a w ⟨-,O,U,V,D⟩
  have e1:=aB (D.1 rfl).2;have c0:=(O.2.low.cell (p:=⟨gb,ob+i*6+0,none⟩) al).trans (hb 0 _ rfl);have c1:=(O.2.low.cell (p:=⟨gb,ob+i*6+1,none⟩) al).trans (hb 1 _ rfl);have c2:=(O.2.low.cell (p:=⟨gb,ob+i*6+2,none⟩) al).trans (hb 2 _ rfl);have c3:=(O.2.low.cell (p:=⟨gb,ob+i*6+3,none⟩) al).trans (hb 3 _ rfl);have c4:=(O.2.low.cell (p:=⟨gb,ob+i*6+4,none⟩) al).trans (hb 4 _ rfl);have c5:=(O.2.low.cell (p:=⟨gb,ob+i*6+5,none⟩) al).trans (hb 5 _ rfl);rw[bS]at c0;simp[go_sem,e1,c0,c1,c2,c3,c4,c5,Sp.val]
 refine dP.any (λL v w=>True) rfl ?_ ?_ ?_
 .exact λ_ _ _ _ _ _ _ h=>h
 .rintro L a w ⟨hL,O,U,V,D⟩
  have aq:L 10=false:=U 10 rfl;have am:=O.2;rw[hL,aq]at am;refine Oper.wp_value (v:=.pointer (some ⟨w.heap.size,0,none⟩)) (w':=w.alloc (.cells #[.int .i64 0,.string ⟨#[]⟩,.slice none 0 0,.int .i64 0,.slice none 0 0,.slice none 0 0] 63)) ?_ ?_
  .simp[go_sem]
  .refine⟨_,rfl,λe=>(by cases e),trivial,⟨by rw[size_put];exact O.1,?_⟩,trivial⟩
   rw[bU,av (show 9≠8 by decide),av (show 10≠8 by decide),av (show 11≠8 by decide),aq,eval_put_same (by rw[O.1];decide),cB (show 6≠7 by decide)];exact am.box6
 refine dP.any (λL v w=>True) rfl ?_ ?_ ?_
 .exact λ_ _ _ _ _ _ _ h=>h
 .rintro L a w ⟨hL,O,U,V,D⟩
  have aq:L 11=false:=U 11 rfl;have am:=O.2;rw[hL,aq]at am;refine Oper.wp_value (v:=.pointer (some ⟨w.heap.size,0,none⟩)) (w':=w.alloc (.cells #[.int .i64 0,.string ⟨#[]⟩,.slice none 0 0,.int .i64 0,.slice none 0 0,.slice none 0 0] 63)) ?_ ?_
  .simp[go_sem]
  .refine⟨_,rfl,λe=>(by cases e),trivial,⟨by rw[size_put];exact O.1,?_⟩,trivial⟩
   rw[bU,av (show 8≠9 by decide),av (show 10≠9 by decide),av (show 11≠9 by decide),aq,eval_put_same (by rw[O.1];decide),cB (show 7≠6 by decide)];exact am.box7
 refine dP.any (λL v w=>True) rfl ?_ ?_ ?_
 .exact λ_ _ _ _ _ _ _ h=>h
 .rintro L a w ⟨hL,O,U,V,D⟩
  have an:L 8=true:=(D.1 rfl).1;have ev:a.eval (.tmp 23)=.agg #[.int .i64 x.bI,.string x.aT,.slice x.es.dO x.bf.length x.es.df,.int .i64 x.gT,.slice x.ts.dO x.gy.length x.ts.df,.slice x.os.dO x.iD.length x.os.df]:=(D.2.1 rfl).2;obtain⟨b,e6,ao,hz⟩:=O.2.p6 an;rw[hL]at hz;refine wp_store_row 63 (.tmp 6) (.tmp 23) rfl b _ e6 ev 63 _ hz vo rfl (by simp[Value.oneCell']) ?_;refine⟨undef,rfl,λ_=>rfl,trivial,⟨O.1,?_⟩,trivial⟩;rw[bU,av (show 8≠10 by decide),av (show 9≠10 by decide),av (show 11≠10 by decide)];have ap:L 9=true->∃b2:Nat,a.eval (.tmp 7)=.pointer (some ⟨b2,0,none⟩)/\w0.heap.size<=b2/\(w.setRow b #[.int .i64 x.bI,.string x.aT,.slice x.es.dO x.bf.length x.es.df,.int .i64 x.gT,.slice x.ts.dO x.gy.length x.ts.df,.slice x.os.dO x.iD.length x.os.df]).heap[b2]?=some (.cells (if L 11=true then #[.int .i64 y.bI,.string y.aT,.slice y.es.dO y.bf.length y.es.df,.int .i64 y.gT,.slice y.ts.dO y.gy.length y.ts.df,.slice y.os.dO y.iD.length y.os.df] else #[.int .i64 0,.string ⟨#[]⟩,.slice none 0 0,.int .i64 0,.slice none 0 0,.slice none 0 0]) 63 (0,0)):=λe=>by
   obtain⟨b2,h1,h2,h3⟩:=O.2.p7 e;refine⟨b2,h1,h2,(dQ _ _ _ _ λe2=>?_).trans h3⟩;have hne:=O.2.ne an e;rw[e6,h1]at hne;exact hne (by rw[e2])
  exact⟨below_setRow O.2.low ao,λ_=>⟨b,e6,ao,bM _ _ _ _ _ _ hz⟩,ap,O.2.ne⟩
 refine dP.any (λL v w=>True) rfl ?_ ?_ ?_
 .exact λ_ _ _ _ _ _ _ h=>h
 .rintro L a w ⟨hL,O,U,V,D⟩
  have an:L 9=true:=(D.1 rfl).1;have ev:a.eval (.tmp 27)=.agg #[.int .i64 y.bI,.string y.aT,.slice y.es.dO y.bf.length y.es.df,.int .i64 y.gT,.slice y.ts.dO y.gy.length y.ts.df,.slice y.os.dO y.iD.length y.os.df]:=(D.2.1 rfl).2;obtain⟨b,e6,ao,hz⟩:=O.2.p7 an;rw[hL]at hz;refine wp_store_row 63 (.tmp 7) (.tmp 27) rfl b _ e6 ev 63 _ hz vo rfl (by simp[Value.oneCell']) ?_;refine⟨undef,rfl,λ_=>rfl,trivial,⟨O.1,?_⟩,trivial⟩;rw[bU,av (show 8≠11 by decide),av (show 9≠11 by decide),av (show 10≠11 by decide)];have ap:L 8=true->∃b2:Nat,a.eval (.tmp 6)=.pointer (some ⟨b2,0,none⟩)/\w0.heap.size<=b2/\(w.setRow b #[.int .i64 y.bI,.string y.aT,.slice y.es.dO y.bf.length y.es.df,.int .i64 y.gT,.slice y.ts.dO y.gy.length y.ts.df,.slice y.os.dO y.iD.length y.os.df]).heap[b2]?=some (.cells (if L 10=true then #[.int .i64 x.bI,.string x.aT,.slice x.es.dO x.bf.length x.es.df,.int .i64 x.gT,.slice x.ts.dO x.gy.length x.ts.df,.slice x.os.dO x.iD.length x.os.df] else #[.int .i64 0,.string ⟨#[]⟩,.slice none 0 0,.int .i64 0,.slice none 0 0,.slice none 0 0]) 63 (0,0)):=λe=>by
   obtain⟨b2,h1,h2,h3⟩:=O.2.p6 e;refine⟨b2,h1,h2,(dQ _ _ _ _ λe2=>?_).trans h3⟩;have hne:=O.2.ne e an;rw[h1,e6]at hne;exact hne (by rw[e2])
  exact⟨below_setRow O.2.low ao,ap,λ_=>⟨b,e6,ao,bM _ _ _ _ _ _ hz⟩,O.2.ne⟩
 rintro L a w hL ⟨O,ab,hv⟩;obtain⟨b6,h1,_,h2⟩:=O.2.p6 (hL 8 (by decide));obtain⟨b7,h3,_,h4⟩:=O.2.p7 (hL 9 (by decide));rw[hL 10 (by decide)]at h2;rw[hL 11 (by decide)]at h4;exact⟨rfl,ab.1.trans ar,ab.2.1,ab.2.2,O.2.low,b6,b7,aB h1,aB h3,h2,h4⟩
end
def Gg(n0:Nat)(W0:World)(a b:ah):Prop:=∀W,Below n0 W0 W->n0<=W.heap.size ->
 Calls Tryz.prog 145 #[.agg #[.int .i64 a.bI,.int .i64 a.op,.int .i64 a.bv,.int .i64 a.aS,.string a.aT,.slice a.sp.dO a.cu.length a.sp.df],.agg #[.int .i64 b.bI,.int .i64 b.op,.int .i64 b.bv,.int .i64 b.aS,.string b.aT,.slice b.sp.dO b.cu.length b.sp.df]] W λo w'=>o=.returned (.bool (LZ a b))/\Below W.heap.size W w'
theorem Oc{n0:Nat}{W0:World}{a b:ah}(ra:RowOf n0 W0 a.sp 6 ah.cellsR a.cu)(rb:RowOf n0 W0 b.sp 6 ah.cellsR b.cu)(ih:∀x∈a.cu,∀y∈b.cu,Gg n0 W0 x y):Gg n0 W0 a b:=by
 intro w hw hn;have bm:=ae ((ra.below hw).more hn);have bo:=ae ((rb.below hw).more hn);have bl:=ae λ(i:Nat) (hi:i<a.cu.length) (hj:i<b.cu.length) (W:World) (hW:Below w.heap.size w W)=>ih _ (ak hi) _ (ak hj) W (hw.trans (hW.mono hn)) (ai hn hW.size)
 have al:Hid (∀x y,Below w.heap.size w ((w.alloc x).alloc y)):=ae λx y=>((ag _ _).alloc (af _) _).alloc (by simp) _
 have ca:=ra.df;have ba:=ra.big;have fa:=ra.few;have cb:=rb.df;have bb:=rb.big;have fb:=rb.few;clear ra rb ih hw;obtain⟨k,o,v,wd,n,sp,l⟩:=a;obtain⟨k',o',v',U,n',ad,l'⟩:=b;have e0:LZ (.mk k o v wd n sp l) (.mk k' o' v' U n' ad l')=(decide (k=k'/\o=o'/\v=v'/\wd=U/\n=n') && kK l l'):=by rw[LZ];rfl
 rw[e0];simp only[ah.bI,ah.op,ah.bv,ah.aS,ah.aT,ah.sp,ah.cu]at *;go_enter Tryz.func145,Tryz.ntmps145
 by_cases h1:k=k'
 .by_cases h2:o=o'
  .by_cases h3:v=v'
   .by_cases h4:wd=U
    .by_cases h5:n=n'
     .by_cases h6:l.length=l'.length
      .subst h1 h2 h3 h4 h5
       have hd:((l.length:Int) != (l'.length:Int))=false:=by simp[h6]
       have HL:=ae h6;obtain⟨q1,q2,q3,q4⟩:=pX w (.cells #[.int .i64 k,.int .i64 o,.int .i64 v,.int .i64 wd,.string n,.slice sp.dO l.length sp.df] 101) (.cells #[.int .i64 k,.int .i64 o,.int .i64 v,.int .i64 wd,.string n,.slice ad.dO l'.length ad.df] 101);rw[show(decide (k=k/\o=o/\v=v/\wd=wd/\n=n) && kK l l')=kK l l' by simp];clear h6 e0;go_upto_region 3 with fail
       clear hd;have a9:=ae q1;have aE:=ae q2;have bc:=ae q4;clear q1 q2 q3 q4;generalize ((w.alloc (.cells #[.int .i64 k,.int .i64 o,.int .i64 v,.int .i64 wd,.string n,.slice sp.dO l.length sp.df] 101)).alloc (.cells #[.int .i64 k,.int .i64 o,.int .i64 v,.int .i64 wd,.string n,.slice ad.dO l'.length ad.df] 101))=W2 at *;go_wp2_with fail
       go_loopw[5] (λs5 wr=>∃j:Nat,j<=l.length/\s5=.int .i64 j/\kK l l'=kK (l.drop j) (l'.drop j)/\Below W2.heap.size W2 wr) (λs5 _=>l.length - (intOf s5).toNat)
       case atStart=>exact⟨0,aH _,rfl,rfl,ag _ _⟩
       case round =>
        obtain⟨j,hj,rfl,be,hb⟩:=hrel;have aw:=ae be;have a7:=ae hb;have am:=ae (bc.o.trans (hb.mono bc.o.size));have hX:=(hb.block _ (dM a9.o).1).trans a9.o;have hY:=(hb.block _ (dM aE.o).1).trans aE.o;have x5:wr.cell? ⟨w.heap.size,5,none⟩=some (.slice sp.dO l.length sp.df):=(aR hX).2.2.2.2.2;have y5:wr.cell? ⟨w.heap.size+1,5,none⟩=some (.slice ad.dO l'.length ad.df):=(aR hY).2.2.2.2.2;have bw:(0:Int)<=(j:Int):=by omega
        clear be hb hX hY;by_cases ap:j<l.length
        .have bj:j<l'.length:=by have:=HL.o;omega
         obtain⟨ga,oa,eA,br,bh⟩:=(bm.o.below am.o).row (by omega);obtain⟨gb,ob,eB,bt,bi⟩:=(bo.o.below am.o).row (by omega);have D:=bh j ap;have O:=bi j bj;have bd:=ae (aw.o.trans (Az l l' HL.o j ap));have ab:=ae (bl.o j ap bj);clear bh bi;generalize l[j]=x at *;generalize l'[j]=y at *;have a0:=D 0 _ rfl;rw[bS]at a0;have a1:=D 1 _ rfl;have a2:=D 2 _ rfl;have a3:=D 3 _ rfl;have a4:=D 4 _ rfl;have a5:wr.cell? ⟨ga,oa+j*6+5,none⟩=some (.slice x.sp.dO x.cu.length x.sp.df):=D 5 _ rfl;have b0:=O 0 _ rfl;rw[bS]at b0;have b1:=O 1 _ rfl;have b2:=O 2 _ rfl;have b3:=O 3 _ rfl;have b4:=O 4 _ rfl;have b5:wr.cell? ⟨gb,ob+j*6+5,none⟩=some (.slice y.sp.dO y.cu.length y.sp.df):=O 5 _ rfl;have b6:(j:Int)<(l.length:Int):=by omega
         have b7:(j:Int)<(l'.length:Int):=by omega
         clear D O;rw[eA]at x5;rw[eB]at y5;clear eA eB;go_upto_region 6 with fail
         obtain⟨bv,ar⟩:∃b,LZ x y=b:=⟨_,rfl⟩;have a8:=ae ar;rw[ar]at ab;clear ar
         go_still_tail 10,(by kernel_rfl)
         change wpList _ _ _ _ _ wr.drew;have ao:=ae (am.o.trans ((ag wr.heap.size wr).drew.mono am.o.size));have a6:=ae (a7.o.trans ((ag wr.heap.size wr).drew.mono a7.o.size));clear x5 y5 a0 a1 a2 a3 a4 a5 b0 b1 b2 b3 b4 b5;generalize wr.drew=bk at *;cases bv with
         |false =>
          go_wp2_with(go_at_call 145;refine(ab.o bk ao.o).mono ?_;rintro o W8 ⟨rfl,an⟩;have aq:=ae (ao.o.trans (an.mono ao.o.size));clear an)
          go_ret
          exact⟨by rw[bd.o,a8.o];rfl,aq.o⟩
         |true =>
          go_wp2_with(go_at_call 145;refine(ab.o bk ao.o).mono ?_;rintro o W8 ⟨rfl,an⟩;have aq:=ae (a6.o.trans (an.mono a6.o.size));clear an)
          go_roundw
          case rel=>exact⟨j+1,ap,by go_num,by rw[bd.o,a8.o];rfl,aq.o⟩
          case measure=>simp[intOf];omega
        .obtain rfl:j=l.length:=by omega
         have E0:Hid (kK l l'=true):=ae (by rw[aw.o,fD,HL.o,fD];rfl);go_wp2_with fail
         go_ret
         exact⟨by rw[E0.o];rfl,am.o⟩
      .have hd:((l.length:Int) != (l'.length:Int))=true:=by simp;omega
       have V:(decide (k=k'/\o=o'/\v=v'/\wd=U/\n=n') && kK l l')=false:=by rw[De h6,Bool.and_false]
       rw[V];subst h1 h2 h3 h4 h5;clear h6 V e0 ca ba fa cb bb fb;go_wp2_with fail
       go_ret
       exact⟨rfl,al.o _ _⟩
     .have hq:(n.toList == n'.toList)=false:=beq_eq_false_iff_ne.2 λe=>h5 (toList_inj e)
      have hd:(n.toList != n'.toList)=true:=by simp only[bne,hq];rfl
      have V:(decide (k=k'/\o=o'/\v=v'/\wd=U/\n=n') && kK l l')=false:=by simp[h5]
      rw[V];subst h1 h2 h3 h4;clear h5 V e0 ca ba fa cb bb fb;go_wp2_with fail
      go_ret
      exact⟨rfl,al.o _ _⟩
    .have hq:(wd == U)=false:=by simp[h4]
     have hd:(wd != U)=true:=by simp[h4]
     have V:(decide (k=k'/\o=o'/\v=v'/\wd=U/\n=n') && kK l l')=false:=by simp[h4]
     rw[V];subst h1 h2 h3;clear h4 V e0 ca ba fa cb bb fb;go_wp2_with fail
     go_ret
     exact⟨rfl,al.o _ _⟩
   .have hq:(v == v')=false:=by simp[h3]
    have hd:(v != v')=true:=by simp[h3]
    have V:(decide (k=k'/\o=o'/\v=v'/\wd=U/\n=n') && kK l l')=false:=by simp[h3]
    rw[V];subst h1 h2;clear h3 V e0 ca ba fa cb bb fb;go_wp2_with fail
    go_ret
    exact⟨rfl,al.o _ _⟩
  .have hq:(o == o')=false:=by simp[h2]
   have hd:(o != o')=true:=by simp[h2]
   have V:(decide (k=k'/\o=o'/\v=v'/\wd=U/\n=n') && kK l l')=false:=by simp[h2]
   rw[V];subst h1;clear h2 V e0 ca ba fa cb bb fb;go_wp2_with fail
   go_ret
   exact⟨rfl,al.o _ _⟩
 .have hq:(k == k')=false:=by simp[h1]
  have hd:(k != k')=true:=by simp[h1]
  have V:(decide (k=k'/\o=o'/\v=v'/\wd=U/\n=n') && kK l l')=false:=by simp[h1]
  rw[V];clear h1 V e0 ca ba fa cb bb fb;go_wp2_with fail
  go_ret
  exact⟨rfl,al.o _ _⟩
theorem Lh{n0:Nat}{W0:World}(a:ah):∀b,xG n0 W0 a->xG n0 W0 b->Gg n0 W0 a b:=by
 induction a using ah.ind with
 |h k o v w n sp l U =>
  intro b D hb;exact Oc D.row hb.row λx hx y O=>U x hx y (D.sub x hx) (hb.sub y O)
def wV(n0:Nat)(W0:World)(sa O:Sp)(D lb:List aa):Prop:=∀W,Below n0 W0 W->n0<=W.heap.size ->
 Calls Tryz.prog 77 #[.slice sa.dO D.length sa.df,.slice O.dO lb.length O.df] W λo w'=>o=.returned (.bool (kJ D lb))/\Below W.heap.size W w'
theorem Bh{n0:Nat}{W0:World}{sa sb:Sp}{la lb:List aa}(ra:tJ n0 W0 sa la)(rb:tJ n0 W0 sb lb)(ih:∀x∈la,∀y∈lb,wV n0 W0 x.ts y.ts x.gy y.gy/\wV n0 W0 x.os y.os x.iD y.iD):wV n0 W0 sa sb la lb:=by
 intro w hw hn;have c4:=ae ((ra.row.below hw).more hn);have c5:=ae ((rb.row.below hw).more hn);have ce:=ae λ(i:Nat) (hi:i<la.length) (hj:i<lb.length)=>And.intro (λ(W:World) (hW:Below w.heap.size w W)=>(ih _ (ak hi) _ (ak hj)).1 W (hw.trans (hW.mono hn)) (ai hn hW.size)) (λ(W:World) (hW:Below w.heap.size w W)=>(ih _ (ak hi) _ (ak hj)).2 W (hw.trans (hW.mono hn)) (ai hn hW.size))
 have c7:=ae λ(i:Nat) (hi:i<la.length)=>(ra.ok _ (ak hi)).xs.cells hn (Bw hw)
 have c8:=ae λ(i:Nat) (hi:i<lb.length)=>(rb.ok _ (ak hi)).xs.cells hn (Bw hw)
 have fa:=ra.row.few;have fb:=rb.row.few;clear ra rb ih hw;go_enter Tryz.func77,Tryz.ntmps77
 by_cases hl:la.length=lb.length
 .have hd:((la.length:Int) != (lb.length:Int))=false:=by simp[hl]
  have HL:=ae hl;clear hl;go_wp2_with fail
  go_loopw[5] (λs5 wr=>∃i:Nat,i<=la.length/\s5=.int .i64 i/\kJ la lb=kJ (la.drop i) (lb.drop i)/\Below w.heap.size w wr) (λs5 _=>la.length - (intOf s5).toNat)
  case atStart=>exact⟨0,aH _,rfl,rfl,ag _ _⟩
  case round =>
   clear hd;obtain⟨i,hi,rfl,cC,hb⟩:=hrel;have cm:=ae cC;have al:=ae hb;clear cC hb;have cS:(0:Int)<=(i:Int):=by omega
   by_cases ao:i<la.length
   .have bw:i<lb.length:=by have:=HL.o;omega
    obtain⟨ga,oa,eA,cL,cE⟩:=(c4.o.below al.o).row (by omega);obtain⟨gb,ob,eB,cM,cF⟩:=(c5.o.below al.o).row (by omega);have cv:=ae (cE i ao);have cw:=ae (cF i bw);have U:=ae (cm.o.trans (EZ la lb HL.o i ao));have cr:=ae (ce.o i ao bw).1;have ct:=ae (ce.o i ao bw).2;have cg:=ae (c7.o i ao);have cA:=ae (c8.o i bw);have cT:(i:Int)<(la.length:Int):=by omega
    have cU:(i:Int)<(lb.length:Int):=by omega
    have cx:Hid (ga<wr.heap.size):=ae (aI cL al.o.size);have cy:Hid (gb<wr.heap.size):=ae (aI cM al.o.size);clear cE cF cL cM;generalize la[i]=x at *;generalize lb[i]=y at *;rw[eA,eB];clear eA eB;go_upto_region 6 with fail
    refine dK ?_ (Af (C':=.region 6 opsSS true) (by kernel_rfl) (Uy rfl x y ga oa la.length sa.df gb ob lb.length sb.df i rfl rfl rfl cT cU cS cx.o cy.o cv.o cw.o));rintro ex a9 w6 ⟨rfl,bC,cI,cN,a7,b6,b7,h6,h7,cP,cQ⟩;obtain⟨F,hF,cJ⟩:=nu bC cI cN rfl [6,7,20,21,22,23,24,25,26,27] rfl;rw[cJ];simp only[Oz,OA,OB,Oy,OC];have g6:F 6=.pointer (some ⟨b6,0,none⟩):=(hF 6).trans (bz h6);have g7:F 7=.pointer (some ⟨b7,0,none⟩):=(hF 7).trans (bz h7);rw[g6,g7];clear hF cJ cN bC cI g6 g7;have an:=ae (al.o.trans (a7.mono al.o.size));have bl:=ae cP;have bm:=ae cQ;obtain⟨xk,xn,ck,D,ad,cX,aE,cW,a8⟩:=x;obtain⟨yk,yn,cl,O,ba,da,bd,cY,bc⟩:=y;simp only[aa.bI,aa.aT,aa.gT,aa.es,aa.bf,aa.ts,aa.gy,aa.os,aa.iD]at *;have e0:O7 (.mk xk xn ck D ad cX aE cW a8) (.mk yk yn cl O ba da bd cY bc)=(decide (xk=yk/\xn=yn/\ad=ba) && (kK D O && (kJ aE bd && kJ a8 bc))):=by rw[O7];rfl
    rw[e0]at U;clear e0 cv cw cx cy a7 cP cQ c4 c5 ce c7 c8;obtain⟨x0,x1,x2,x3,x4,x5⟩:=aR bl.o;obtain⟨y0,y1,y2,y3,y4,y5⟩:=aR bm.o;by_cases h1:xk=yk
    .by_cases h2:xn=yn
     .by_cases h3:ad=ba
      .by_cases h4:D.length=O.length
       .subst h1 h2 h3
        have dk:(xk != xk)=false:=by simp
        have dl:(xn.toList != xn.toList)=false:=by simp
        have dn:(ad != ad)=false:=by simp
        have dp:((D.length:Int) != (O.length:Int))=false:=by simp[h4]
        have cf:=ae h4;rw[show(decide (xk=xk/\xn=xn/\ad=ad) && (kK D O && (kJ aE bd && kJ a8 bc)))=(kK D O && (kJ aE bd && kJ a8 bc)) by simp]at U;clear h4;go_wp2_with fail
        refine(cr.o _ an.o).mono ?_;rintro o W8 ⟨rfl,bo⟩;obtain⟨bt,ci⟩:∃b,kJ aE bd=b:=⟨_,rfl⟩;rw[ci]at U;rw[ci];clear ci;have bj:=ae (an.o.trans (bo.mono an.o.size));have bh:=ae ((bo.block _ (dM bl.o).1).trans bl.o);have bi:=ae ((bo.block _ (dM bm.o).1).trans bm.o);clear bo cr;clear x0 x1 x2 x3 x4 x5 y0 y1 y2 y3 y4 y5;obtain⟨x0,x1,x2,x3,x4,x5⟩:=aR bh.o;obtain⟨y0,y1,y2,y3,y4,y5⟩:=aR bi.o;clear bl bm;cases bt with
        |false =>
         go_wp2_with fail
         go_ret
         exact⟨by rw[U.o];simp,bj.o⟩
        |true =>
         go_wp2_with fail
         refine(ct.o _ bj.o).mono ?_;rintro o W9 ⟨rfl,br⟩;obtain⟨be,ch⟩:∃b,kJ a8 bc=b:=⟨_,rfl⟩;rw[ch]at U;rw[ch];clear ch;have cc:=ae (bj.o.trans (br.mono bj.o.size));have ca:=ae ((br.block _ (dM bh.o).1).trans bh.o);have cb:=ae ((br.block _ (dM bi.o).1).trans bi.o);clear br ct;clear x0 x1 x2 x3 x4 x5 y0 y1 y2 y3 y4 y5;obtain⟨x0,x1,x2,x3,x4,x5⟩:=aR ca.o;obtain⟨y0,y1,y2,y3,y4,y5⟩:=aR cb.o;clear bh bi;cases be with
         |false =>
          go_wp2_with fail
          go_ret
          exact⟨by rw[U.o];simp,cc.o⟩
         |true =>
          rw[Bool.true_and,Bool.and_true]at U;go_upto_region 9 with fail
          clear x0 x1 x2 x3 x4 x5 y0 y1 y2 y3 y4 y5;go_wp2_with fail
          go_loopw[8] (λs8 wq=>∃j:Nat,j<=D.length/\s8=.int .i64 j/\kK D O=kK (D.drop j) (O.drop j)/\Below W9.heap.size W9 wq) (λs8 _=>D.length - (intOf s8).toNat)
          case atStart=>exact⟨0,aH _,rfl,rfl,ag _ _⟩
          case round =>
           obtain⟨j,hj,rfl,cD,a6⟩:=hrel;have cn:=ae cD;have aq:=ae (cc.o.trans (a6.mono cc.o.size));have c0:=ae ((a6.block _ (dM ca.o).1).trans ca.o);have c3:=ae ((a6.block _ (dM cb.o).1).trans cb.o);have ar:=ae a6;clear cD a6;have de:(0:Int)<=(j:Int):=by omega
           have cR:=cg.o.row.few;change D.length<=4398046511104 at cR;have x2:wr.cell? ⟨b6,2,none⟩=some (.slice ck.dO D.length ck.df):=(aR c0.o).2.2.1;have y2:wr.cell? ⟨b7,2,none⟩=some (.slice cl.dO O.length cl.df):=(aR c3.o).2.2.1;by_cases b8:j<D.length
           .have b9:j<O.length:=by have:=cf.o;omega
            obtain⟨gx,ox,eX,dc,cG⟩:=(cg.o.row.below aq.o).row (by omega);obtain⟨gy,oy,eY,dd,cH⟩:=(cA.o.row.below aq.o).row (by omega);have V:=cG j b8;have ab:=cH j b9;have c6:=ae (cn.o.trans (Az D O cf.o j b8));have am:=ae (Lh D[j] O[j] (cg.o.ok _ (ak b8)) (cA.o.ok _ (ak b9)));clear cG cH;generalize D[j]=x at *;generalize O[j]=y at *;have a0:=V 0 _ rfl;rw[bS]at a0;have a1:=V 1 _ rfl;have a2:=V 2 _ rfl;have a3:=V 3 _ rfl;have a4:=V 4 _ rfl;have a5:wr.cell? ⟨gx,ox+j*6+5,none⟩=some (.slice x.sp.dO x.cu.length x.sp.df):=V 5 _ rfl;have b0:=ab 0 _ rfl;rw[bS]at b0;have b1:=ab 1 _ rfl;have b2:=ab 2 _ rfl;have b3:=ab 3 _ rfl;have b4:=ab 4 _ rfl;have b5:wr.cell? ⟨gy,oy+j*6+5,none⟩=some (.slice y.sp.dO y.cu.length y.sp.df):=ab 5 _ rfl;have dg:(j:Int)<(D.length:Int):=by omega
            have dj:(j:Int)<(O.length:Int):=by omega
            clear V ab;rw[eX]at x2;rw[eY]at y2;clear eX eY;go_upto_region 12 with fail
            obtain⟨bv,cj⟩:∃b,LZ x y=b:=⟨_,rfl⟩;have cq:=ae cj;rw[show Gg w.heap.size w x y=∀W,Below w.heap.size w W->w.heap.size<=W.heap.size->_ from rfl]at am;have ap:=ae λ(W:World) (hW:Below w.heap.size w W)=>am.o W hW hW.size
            rw[cj]at ap;clear cj am
            go_still_tail 10,(by kernel_rfl)
            change wpList _ _ _ _ _ wr.drew;have bk:=ae (aq.o.trans ((ag wr.heap.size wr).drew.mono aq.o.size));have cd:=ae (ar.o.trans ((ag wr.heap.size wr).drew.mono ar.o.size));clear x2 y2 a0 a1 a2 a3 a4 a5 b0 b1 b2 b3 b4 b5 c0 c3 aq ar;generalize wr.drew=cV at *;go_wp2_with fail
            refine(ap.o cV bk.o).mono ?_;rintro o db ⟨rfl,aw⟩;have co:=ae (cd.o.trans (aw.mono cd.o.size));have cp:=ae (bk.o.trans (aw.mono bk.o.size));clear aw bk cd;cases bv with
            |false =>
             go_wp2_with fail
             go_ret
             exact⟨by rw[U.o,c6.o,cq.o];rfl,cp.o⟩
            |true =>
             go_wp2_with fail
             go_roundw
             case rel=>exact⟨j+1,b8,by go_num,by rw[c6.o,cq.o];rfl,co.o⟩
             case measure=>simp[intOf];omega
           .obtain rfl:j=D.length:=by omega
            have E0:Hid (kK D O=true):=ae (by rw[cn.o,fD,cf.o,fD];rfl);rw[E0.o,Bool.true_and]at U;go_wp2_with fail
            go_roundw
            case rel=>exact⟨i+1,ao,by go_num,U.o,aq.o⟩
            case measure=>simp[intOf];omega
       .have hq:((D.length:Int) != (O.length:Int))=true:=by simp;omega
        have e1:=De h4;subst h1 h2 h3;have E1:Hid (kJ la lb=false):=ae (by rw[U.o,e1];simp);clear h4 e1;go_wp2_with fail
        go_ret
        exact⟨by rw[E1.o];rfl,an.o⟩
      .have hd:(ad != ba)=true:=by simp[h3]
       have hq:(ad == ba)=false:=by simp[h3]
       have E1:Hid (kJ la lb=false):=ae (by rw[U.o];simp[h3]);subst h1 h2;clear h3;go_wp2_with fail
       go_ret
       exact⟨by rw[E1.o];rfl,an.o⟩
     .have hq:(xn.toList == yn.toList)=false:=beq_eq_false_iff_ne.2 λe=>h2 (toList_inj e)
      have hd:(xn.toList != yn.toList)=true:=by simp only[bne,hq];rfl
      have E1:Hid (kJ la lb=false):=ae (by rw[U.o];simp[h2]);subst h1;clear h2;go_wp2_with fail
      go_ret
      exact⟨by rw[E1.o];rfl,an.o⟩
    .have hq:(xk == yk)=false:=by simp[h1]
     have hd:(xk != yk)=true:=by simp[h1]
     have E1:Hid (kJ la lb=false):=ae (by rw[U.o];simp[h1]);clear h1;go_wp2_with fail
     go_ret
     exact⟨by rw[E1.o];rfl,an.o⟩
   .obtain rfl:i=la.length:=by omega
    have e0:kJ la lb=true:=by
     rw[cm.o,fD,HL.o,fD]
     rfl
    have E0:=ae e0;clear ao e0;go_wp2_with fail
    go_ret
    exact⟨by rw[E0.o];rfl,al.o⟩
 .have hd:((la.length:Int) != (lb.length:Int))=true:=by simp;omega
  rw[Iu hl];clear hl;go_wp2_with fail
  go_ret
  exact⟨rfl,ag _ _⟩
theorem QF{n0:Nat}{W0:World}(x:aa):∀y,uB n0 W0 x->uB n0 W0 y->wV n0 W0 x.ts y.ts x.gy y.gy/\wV n0 W0 x.os y.os x.iD y.iD:=by
 induction x using aa.ind with
 |h k n es ex b ts th os el U V =>
  intro y O hb;exact⟨Bh O.kS hb.kS λs D t ht=>U s D t (O.kS.ok s D) (hb.kS.ok t ht),Bh O.ko hb.ko λs D t ht=>V s D t (O.ko.ok s D) (hb.ko.ok t ht)⟩
theorem Jr{n0:Nat}{W0:World}{sa U:Sp}{O lb:List aa}(D:tJ n0 W0 sa O)(hb:tJ n0 W0 U lb):wV n0 W0 sa U O lb:=Bh D hb λx hx y V=>QF x y (D.ok x hx) (hb.ok y V)
end Go.Proofs.YtepacjkacjabbaaGreatDoor
