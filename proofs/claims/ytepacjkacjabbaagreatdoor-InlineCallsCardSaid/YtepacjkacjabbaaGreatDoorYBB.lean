import Derived.Test.YtepacjkacjabbaaGreatDoorYAZ
import Derived.Test.YtepacjkacjabbaaGreatDoorYBA
set_option linter.all false
set_option maxRecDepth 10000000
set_option maxHeartbeats 64000000
namespace Go.Proofs.YtepacjkacjabbaaGreatDoor
open Go Go.Maps Go.RowKit
theorem Nj{α:Type}(s:ByteArray)(x:α)(T:List (ByteArray × α))(t:ByteArray):look ((s,x)::T) t=if t=s then some x else look T t:=by
 unfold look;rw[List.find?_cons];by_cases h:t=s
 .subst h;simp
 .have D:¬s=t:=λe=>h e.symm
  simp[h,D]
theorem Pq(p:aj)(j:Nat)(h:j<p.aA.length):(λt=>if t=(p.aA[j]).aT then some (j:Int) else look (numbered bG.aT (p.aA.take j) 0).reverse t)=look (numbered bG.aT (p.aA.take (j+1)) 0).reverse:=by
 funext t
 rw[aG h,tq,List.reverse_append,List.reverse_singleton,List.singleton_append,Nj,fI,dW,Nat.min_eq_left (dI h)]
theorem yA(w:World)(p:aj)(hp:jT w.heap.size w p)(b9:p.aA.length<=1000) :
  Calls Tryz.prog 80 #[.agg p.arr] w λo w'=>∃K:jq,K.p=p/\o=.returned (.pointer (some ⟨K.q,0,none⟩))/\mK K w'/\CQ K w'/\(∀G,Ah G K w')/\Below w.heap.size w w'/\w.heap.size<=K.bd/\w.heap.size<=K.bs:=by
 have b2:=@run_makeMap Tryz.prog;have am:=jc w (.cells p.arr 35);have hB:=gM w (.cells p.arr 35);have ab:(w.alloc (.cells p.arr 35)).heap.size=w.heap.size+1:=by simp
 have al:=dZ p;have HB:=ae hB;have bj:=ae am;have bo:=ae ((hp.below am).more am.size);clear hB am hp;go_enter Tryz.func80,Tryz.ntmps80
 go_upto_region 1 with fail
 generalize w.alloc (.cells p.arr 35)=W1 at *;go_upto_region 2 with (first
  |(refine bH rfl 35 _ rfl w.heap.size rfl 35 _ (0,0) _ HB.o Tryz.underlying35 rfl al ?_)
  |(refine wpList_build rfl 187 _ rfl (jq.cells ⟨0,w.heap.size+1,w.heap.size+1+1,w.heap.size+1+1+1,p⟩) (by kernel_rfl) ?_)
  |fail)
 clear b2;obtain⟨U,a4⟩:∃U,U=jq.cells ⟨w.heap.size+1+1+1+1,w.heap.size+1,w.heap.size+1+1,w.heap.size+1+1+1,p⟩:=⟨_,rfl⟩;have aw:(jq.cells ⟨0,w.heap.size+1,w.heap.size+1+1,w.heap.size+1+1+1,p⟩)=U:=by rw[a4];rfl
 rw[aw];have a8:=ae a4;have V:Below W1.heap.size W1 ((((W1.alloc (.map #[] 0)).alloc (.map #[] 0)).alloc (.map #[] 0)).alloc (.cells U 187)):=((((ag _ _).alloc (af _) _).alloc (by simp) _).alloc (by simp;omega) _).alloc (by simp;omega) _;have a5:iZ uh 9 ((((W1.alloc (.map #[] 0)).alloc (.map #[] 0)).alloc (.map #[] 0)).alloc (.cells U 187)) (w.heap.size+1) 0 (og (look (numbered bG.aT (p.aA.take 0) 0).reverse)) /\
   iZ UK 3 ((((W1.alloc (.map #[] 0)).alloc (.map #[] 0)).alloc (.map #[] 0)).alloc (.cells U 187)) (w.heap.size+1+1) 0 (mg λ_=>none) /\
   iZ uh 3 ((((W1.alloc (.map #[] 0)).alloc (.map #[] 0)).alloc (.map #[] 0)).alloc (.cells U 187)) (w.heap.size+1+1+1) 0 (mg λ_=>none) /\
   ((((W1.alloc (.map #[] 0)).alloc (.map #[] 0)).alloc (.map #[] 0)).alloc (.cells U 187)).heap[w.heap.size+1+1+1+1]?=some (.cells U 187 (0,0)):=by
  have m1:=iZ.made uh 9 W1;have m2:=iZ.made UK 3 (W1.alloc (.map #[] 0));have m3:=iZ.made uh 3 ((W1.alloc (.map #[] 0)).alloc (.map #[] 0));have b4:=gM (((W1.alloc (.map #[] 0)).alloc (.map #[] 0)).alloc (.map #[] 0)) (.cells U 187);rw[ab]at m1;rw[di,ab]at m2;rw[di,di,ab]at m3;rw[di,di,di,ab]at b4;refine⟨?_,?_,?_,b4⟩
  .exact(((m1.below ((ag _ _).alloc (af _) _) m1.lt).below ((ag _ _).alloc (af _) _) (by simp;omega)).below ((ag _ _).alloc (af _) _) (by simp;omega)).congr λl _=>by cases l<;>rfl
  .exact((m2.below ((ag _ _).alloc (af _) _) m2.lt).below ((ag _ _).alloc (af _) _) (by simp;omega)).congr λl _=>by cases l<;>first|rfl|(simp[mg];split<;>rfl)
  .exact(m3.below ((ag _ _).alloc (af _) _) m3.lt).congr λl _=>by cases l<;>first|rfl|(simp[mg];split<;>rfl)
 obtain⟨W2,bc⟩:∃W2,(((W1.alloc (.map #[] 0)).alloc (.map #[] 0)).alloc (.map #[] 0)).alloc (.cells U 187)=W2:=⟨_,rfl⟩;rw[bc]at a5 V ⊢;have HF:=ae a5;have bl:=ae V;have ba:=ae ((bo.o.below V).more V.size);have ar:=(V.block w.heap.size (by omega)).trans HB.o;have b0:W2.cell? ⟨w.heap.size,13,none⟩=some (.slice p.rs.dO p.aA.length p.rs.df):=mf ar rfl;have br:=ae ab;clear a4 aw a5 V bc ar ab al;generalize Value.agg U=ca;generalize Value.agg p.arr=cb;go_upto_region 3 with fail
 clear b0;go_wp2_with fail
 go_loopw[15] (λa7 wr=>∃j n:Nat,j<=p.aA.length/\n<=j/\a7=.int .i64 j/\iZ uh 9 wr (w.heap.size+1) n (og (look (numbered bG.aT (p.aA.take j) 0).reverse))/\Mk (w.heap.size+1) W2 wr) (λa7 _=>p.aA.length - (intOf a7).toNat)
 case atStart=>exact⟨0,0,aH _,af _,rfl,HF.o.1,Mk.refl⟩
 case round =>
  obtain⟨j,n,hj,hn,rfl,a1,be⟩:=hrel;have ad:=ae a1;have D:=ae be;clear a1 be;have b7:(0:Int)<=(j:Int):=by omega
  by_cases ap:j<p.aA.length
  .have a6:=D.o.rdP HF.o.1.isMap ba.o
   obtain⟨g,o,eA,hg,hc⟩:=a6.prow.row (by omega);have ao:=hc j ap;have b3:=(a6.aA _ (ak ap)).aT;have bt:=ae (Pq p j ap);have b8:(j:Int)<(p.aA.length:Int):=by omega
   clear hc a6;generalize p.aA[j]=q at *;have k0:=ao 0 _ rfl;rw[bS]at k0;have k1:wr.cell? ⟨g,o+j*3+1,none⟩=some (.slice q.ps.dO q.bC.length q.ps.df):=ao 1 _ rfl;have k2:wr.cell? ⟨g,o+j*3+2,none⟩=some (.slice q.bs.dO q.eY.length q.bs.df):=ao 2 _ rfl;have a3:=jc wr (.cells q.r 54);have bw:=ae (gM wr (.cells q.r 54));have aE:=ae (ad.o.below a3 ad.o.lt);have a9:=ae (D.o.trans (Mk.of a3 ad.o.lt));clear ao a3;rw[eA];clear eA;go_upto_region 5 with fail
   clear k0 k1 k2;generalize wr.alloc (.cells q.r 54)=W5 at *;generalize wr.heap.size=b5 at *;have x0:W5.cell? ⟨b5,0,none⟩=some (.string q.aT):=mf bw.o rfl;have an:W5.heap[w.heap.size+1+1+1+1]?=some (.cells U 187 (0,0)):=(a9.o.heap (by omega) (dM HF.o.2.2.2).1).trans HF.o.2.2.2;have b1:W5.cell? ⟨w.heap.size+1+1+1+1,22,none⟩=some (.map (some (w.heap.size+1))):=mf an (by rw[a8.o];rfl);obtain⟨W6,bh,O,bi⟩:=(aE.o.of_block (W':=W5.drew) rfl).store xH Tryz.underlying119 (by unfold maxLen;omega) (zx b3) (j:Int);have b6:(Instr.mapUpdate 119 (.map (some (w.heap.size+1))) (.string q.aT) (.int .i64 (j:Int))).run Tryz.prog W5.drew=.ok () W6:=bh;have aq:=(a9.o.trans (Mk.of (ag W5.heap.size W5).drew aE.o.lt)).trans (Mk.turned bi);rw[uZ,bt.o]at O;have bm:=ae O;have bk:=ae aq;clear bh O bi aq an
   go_still_tail 7,(by kernel_rfl)
   change wpList _ _ _ _ _ W5.drew;clear x0 b1;go_wp2_with fail
   exact⟨⟨j+1,n+1,ap,by omega,rfl,bm.o,bk.o⟩,by simp only[intOf];omega⟩
  .obtain rfl:j=p.aA.length:=by omega
   rw[bW]at ad;go_wp2_with fail
   go_ret
   have hf:=HF.o;have an:wr.heap[w.heap.size+1+1+1+1]?=some (.cells U 187 (0,0)):=(D.o.heap (by omega) (dM hf.2.2.2).1).trans hf.2.2.2;refine⟨⟨w.heap.size+1+1+1+1,w.heap.size+1,w.heap.size+1+1,w.heap.size+1+1+1,p⟩,rfl,rfl,⟨by rw[<-a8.o];exact an,⟨_,ad.o⟩,D.o.rdP hf.1.isMap ba.o,(by show w.heap.size+1≠w.heap.size+1+1;omega),(by show w.heap.size+1≠w.heap.size+1+1+1;omega),(by show w.heap.size+1+1≠w.heap.size+1+1+1;omega)⟩,⟨0,_,hf.2.2.1.of_block (D.o.heap (by show w.heap.size+1+1+1≠_;omega) hf.2.2.1.lt),aH _,λ_ _ h=>(by cases h)⟩,λG=>⟨0,_,hf.2.1.of_block (D.o.heap (by show w.heap.size+1+1≠_;omega) hf.2.1.lt),aH _,λ_ _ h=>(by cases h)⟩,?_⟩;exact⟨(bj.o.trans (bl.o.mono (by rw[br.o];omega))).trans (Below.mono (D.o.below (n:=w.heap.size+1) (af _) hf.1.lt) (by omega)),(by show w.heap.size<=w.heap.size+1+1;omega),(by show w.heap.size<=w.heap.size+1+1+1;omega)⟩
structure rH(p:aj):Prop where
 kv:eF p<=20000
 names:ng p
 chk:(lc p).2=0
theorem rH.right{p:aj}(h:rH p):fF p:=Jn h.kv h.chk
theorem rH.weight{p:aj}(h:rH p):l9 p<=1125899906842624:=by have:=Bo p;have:=h.kv;omega
def rO(p:aj):aj:={ p with rs:=Sp.none,aA:=[],ws:=Sp.none,eX:=[],cs:=Sp.none,eB:=[] }
theorem O3{n:Nat}{W:World}{p:aj}(h:jT n W p):jT n W (rO p):=by
 obtain⟨h1,O,U,V,h5,h6,h7,h8,h9,_,_,_,_,D⟩:=h;exact⟨h1,O,U,V,h5,h6,h7,h8,h9,RowOf.nil,λ_ h=>absurd h (by simp[rO]),⟨RowOf.nil,λ_ h=>absurd h (by simp[rO])⟩,⟨RowOf.nil,λ_ h=>absurd h (by simp[rO])⟩,D⟩
theorem LV(p:aj):tL p=eF (rO p):=rfl
theorem yt(p:aj):eF (rO p)+(p.aA.map λq=>q.bC.length).sum+aV p.eX+aV p.eB<=eF p:=by
 have e:aV []=0:=rfl;have h1:(p.aA.map λq=>q.bC.length).sum<=(p.aA.map jy).sum:=by
  induction p.aA with
  |nil=>exact af _
  |cons q l D =>
   rw[ax,ax,bL,bL];have:q.bC.length<=jy q:=by unfold jy;omega
   omega
 unfold eF rO;simp only[e,dh,fH];omega
theorem Lm{p:aj}(h:rH p):mD (countP (rO p))=tL p:=by
 have h1:=yt p;have D:=h.kv;rw[xe (by omega),LV];unfold mD;rw[if_pos (by omega)]
noncomputable def opsN10:Array Oper:=((Tryz.f107.body.bind (opsOf 10)).getD #[])
def Mh(t:Nat):Bool:=decide (t<=1) || (decide (3<=t) && decide (t<=28))
theorem NH:jH opsN10 13 41 Mh=true:=by kernel_rfl
theorem TF{a0:Act}{w0:World}{K:jq}(am:a0.tmps.size=41)(bp:Nat)(p:aj)(n1:Int)(f1:a0.tmps[1]?.getD undef=.pointer (some ⟨bp,0,none⟩))(f3:a0.tmps[3]?.getD undef=.pointer (some ⟨K.q,0,none⟩))(f5:a0.tmps[5]?.getD undef=.int .i64 n1)
  (al:Bx bp w0 p) (hp:jT w0.heap.size w0 p) (hB:mK K w0) (hZ:CQ K w0) (a8:IntKind.i64.wrap (n1+j3 K.p (wB K.p) p.eX 0)=n1+j3 K.p (wB K.p) p.eX 0) (a9:IntKind.i64.wrap (n1+j3 K.p (wB K.p) p.eX 0+j3 K.p (wB K.p) p.eB 0)=n1+j3 K.p (wB K.p) p.eX 0+j3 K.p (wB K.p) p.eB 0) (a7:qR K p.eX) (a6:qR K p.eB) :
  (Code.region 10 opsN10 true).wp Tryz.prog (λe a w=>e=.normal/\a.tmps.size=41/\a.defers=a0.defers/\a.tmps[2]?.getD undef=.int .i64 (min (n1+j3 K.p (wB K.p) p.eX 0+j3 K.p (wB K.p) p.eB 0) 20001)/\Mk K.bs w0 w/\CQ K w) a0 w0:=by
 have O:=hZ.isMap;refine lQ (n:=13) (sz:=41) (keep:=Mh) rfl NH am (λ_ w=>Mk K.bs w0 w/\CQ K w) (λ_ w w'=>Mk K.bs w w') ⟨GU O.lt,hZ.below (ag _ _).drew⟩ ?_;have e:opsN10.toList=opsN10.toList:=rfl
 conv at e=>rhs;arg 1;whnf
 simp only at e;rw[e];clear e
 apply StepsF.exact rfl rfl rfl;exact λ_ _ h=>h;exact λw=>Mk.refl;rintro _ _ _ ⟨-,⟨_,_⟩,_,b,_⟩;simp[go_sem,(b 5 rfl).trans f5];exact rfl
 apply StepsF.exact rfl rfl rfl;exact λ_ _ h=>h;exact λw=>Mk.refl;rintro _ _ _ ⟨-,⟨_,_⟩,_,b,_⟩;simp[go_sem,(b 3 rfl).trans f3];exact rfl
 apply StepsF.exact rfl rfl rfl;exact λ_ _ h=>h;exact λw=>Mk.refl;rintro _ _ _ ⟨-,⟨_,_⟩,_,b,_⟩;simp[go_sem,(b 1 rfl).trans f1];exact rfl
 apply StepsF.exact rfl rfl rfl;exact λ_ _ h=>h;exact λw=>Mk.refl;rintro _ _ w ⟨-,⟨_,b⟩,_,_,c⟩;have ap:=aB (c.1 rfl).2;have hc:w.cell? ⟨bp,14,none⟩=some (.slice p.ws.dO p.eX.length p.ws.df):=mQ b.1 O ⟨bp,14,none⟩ _ al.lt (al.cell 14 rfl);simp[go_sem,ap,hc];exact rfl
 refine StepsF.any (λL v w=>v=.int .i64 (j3 K.p (wB K.p) p.eX 0)) rfl rfl ?_ ?_ ?_
 .exact λ_ _ _ _ _ _ _ hP=>hP
 .rintro L a w ⟨_,⟨_,U⟩,_,_,D⟩
  have ao:=aB (D.1 rfl).2;have aq:=aB (D.2.1 rfl).2;refine Oper.wp_enter (f:=167) (args:=#[.pointer (some ⟨K.q,0,none⟩),.slice p.ws.dO p.eX.length p.ws.df]) (w':=w) ?_ ?_
  .simp[go_sem,ao,aq]
  .refine(a7 w p.ws (hB.on U.1 O (Ne.symm hB.ne2)) U.2 (U.1.rdTs O hp.eX)).mono ?_
   rintro o w' ⟨rfl,V,ad⟩;exact⟨_,rfl,_,rfl,λe=>(by cases e),rfl,⟨U.1.trans V,ad⟩,V⟩
 apply StepsF.exact rfl rfl rfl;exact λ_ _ h=>h;exact λw=>Mk.refl;rintro _ _ _ ⟨-,⟨_,_⟩,_,_,b⟩;have an:=aB (b.1 rfl).2;have ar:=aB (b.2.1 rfl).2;simp[go_sem,an,ar,a8];exact rfl
 apply StepsF.exact rfl rfl rfl;exact λ_ _ h=>h;exact λw=>Mk.refl;rintro _ _ _ ⟨-,⟨_,_⟩,_,b,_⟩;simp[go_sem,(b 3 rfl).trans f3];exact rfl
 apply StepsF.exact rfl rfl rfl;exact λ_ _ h=>h;exact λw=>Mk.refl;rintro _ _ _ ⟨-,⟨_,_⟩,_,b,_⟩;simp[go_sem,(b 1 rfl).trans f1];exact rfl
 apply StepsF.exact rfl rfl rfl;exact λ_ _ h=>h;exact λw=>Mk.refl;rintro _ _ w ⟨-,⟨_,b⟩,_,_,c⟩;have a3:=aB (c.1 rfl).2;have hc:w.cell? ⟨bp,15,none⟩=some (.slice p.cs.dO p.eB.length p.cs.df):=mQ b.1 O ⟨bp,15,none⟩ _ al.lt (al.cell 15 rfl);simp[go_sem,a3,hc];exact rfl
 refine StepsF.any (λL v w=>v=.int .i64 (j3 K.p (wB K.p) p.eB 0)) rfl rfl ?_ ?_ ?_
 .exact λ_ _ _ _ _ _ _ hP=>hP
 .rintro L a w ⟨_,⟨_,U⟩,_,_,D⟩
  have a1:=aB (D.1 rfl).2;have a4:=aB (D.2.1 rfl).2;refine Oper.wp_enter (f:=167) (args:=#[.pointer (some ⟨K.q,0,none⟩),.slice p.cs.dO p.eB.length p.cs.df]) (w':=w) ?_ ?_
  .simp[go_sem,a1,a4]
  .refine(a6 w p.cs (hB.on U.1 O (Ne.symm hB.ne2)) U.2 (U.1.rdTs O hp.eB)).mono ?_
   rintro o w' ⟨rfl,V,ad⟩;exact⟨_,rfl,_,rfl,λe=>(by cases e),rfl,⟨U.1.trans V,ad⟩,V⟩
 apply StepsF.exact rfl rfl rfl;exact λ_ _ h=>h;exact λw=>Mk.refl;rintro _ _ _ ⟨-,⟨_,_⟩,_,_,b⟩;have aw:=aB (b.1 rfl).2;have a5:=aB (b.2.1 rfl).2;simp[go_sem,aw,a5,a9];exact rfl
 apply StepsF.exact rfl rfl rfl;exact λ_ _ h=>h;exact λw=>Mk.refl;rintro _ _ _ ⟨-,⟨_,_⟩,_,_,b⟩;simp[go_sem,aB (b.1 rfl).2];exact rfl
 apply StepsF.exact rfl rfl rfl;exact λ_ _ h=>h;exact λw=>Mk.refl;rintro _ _ _ ⟨-,⟨_,_⟩,_,_,b⟩;simp[go_sem,aB (b.1 rfl).2];exact rfl
 rintro L a w _ ⟨⟨-,U⟩,ab,hv⟩;exact⟨rfl,ab.1.trans am,ab.2.1,aB (hv 12),U.1,U.2⟩
theorem Jf(l:List bG)(k:Nat)(hk:k<l.length):((l.map λq=>q.bC.length).take (k+1)).sum=((l.map λq=>q.bC.length).take k).sum+(l[k]).bC.length:=by
 rw[aG (by simpa using hk),fo];simp
theorem BM(l:List bG)(k:Nat):((l.map λq=>q.bC.length).take k).sum<=(l.map λq=>q.bC.length).sum:=by
 conv=>rhs;rw[<-fA k (l.map λq=>q.bC.length)]
 rw[fo];omega
theorem JH(w:World)(p:aj)(hp:jT w.heap.size w p)(hr:rH p) :
  Calls Tryz.prog 107 #[.agg p.arr] w λo w'=>o=.returned (.int .i64 (lI p))/\Below w.heap.size w w':=by
 have aw:=jc w (.cells p.arr 35);have hB:=gM w (.cells p.arr 35);have U:p.aA.length<=1000:=by
  by_cases h:p.aA=[]
  .rw[h];exact aH _
  .have:=(hr.right.few h).1;omega
 have O:=dZ p;have HB:=ae hB;have aq:=ae aw;have HP:=ae hp;have HR:=ae hr;have be:=ae (yA (w.alloc (.cells p.arr 35)) p ((hp.below aw).more aw.size) U);have cv:=ae U;clear hB aw hp hr U;obtain⟨V,an⟩:∃V,V=p.arr:=⟨_,rfl⟩;have ab:=ae an;rw[<-an]at HB aq be O ⊢;clear an;go_enter Tryz.func107,Tryz.ntmps107
 go_wp2_with(first|(refine bH rfl 35 _ rfl (w.heap.size) rfl 35 _ (0,0) _ HB.o Tryz.underlying35 rfl O ?_)|fail)
 refine be.o.mono ?_;rintro o2 w2 ⟨K,b5,rfl,b7,co,-,bi,-,a8⟩;have bo:=ae (ai aq.o.size a8);have bj:=(bi.block _ (dM HB.o).1).trans HB.o;have bd:=ae bj;have bm:=ae b7;have b4:=ae co;have D:=ae b5;have cn:w.heap.size<w2.heap.size:=(dM bj).1;obtain⟨wz,a6⟩:∃wz,wz=w2.alloc (.cells ed.arr 35):=⟨_,rfl⟩;have cb:Below w2.heap.size w2 wz:=by rw[a6];exact(ag _ _).alloc (af _) _
 have hZ:wz.heap[w2.heap.size]?=some (.cells ed.arr 35 (0,0)):=by rw[a6];exact gM _ _
 have HZ:=ae hZ;have br:=ae cb;have b2:=ae a6;have cp:=ae bi;clear bj cb hZ a6 bi b7 co b5 be a8;go_upto_region 3 with (first
  |(refine bH rfl 35 _ rfl (w.heap.size) rfl 35 _ (0,0) _ bd.o Tryz.underlying35 rfl O ?_)
  |(refine dY (t:=35) rfl rfl (jQ _) ?_;rw[<-b2.o])
  |(refine aK rfl 35 _ _ rfl w2.heap.size V (by rfl) (by rfl) 35 ed.arr HZ.o O (by rw[ab.o];kernel_rfl) (by rw[ab.o];exact lX p) ?_)
  |fail)
 have a3:Bx w2.heap.size (wz.setRow w2.heap.size V) p:=by unfold Bx;rw[<-ab.o];exact bM _ _ _ _ _ _ HZ.o
 have b8:Below w2.heap.size w2 (wz.setRow w2.heap.size V):=below_setRow br.o (af _);generalize wz.setRow w2.heap.size V=w3 at *;have cc:=a3.cell 13 rfl;have cg:=a3.free 13;have a4:Bx w2.heap.size (w3.setCell ⟨w2.heap.size,13,none⟩ (.slice none 0 0)) { p with rs:=Sp.none,aA:=[] }:=a3.put 13 _ (by simp[aj.arr,aj.cells,Sp.val,Sp.none]);have cd:=a4.cell 14 rfl;have ch:=a4.free 14;have a5:Bx w2.heap.size ((w3.setCell ⟨w2.heap.size,13,none⟩ (.slice none 0 0)).setCell ⟨w2.heap.size,14,none⟩ (.slice none 0 0)) { p with rs:=Sp.none,aA:=[],ws:=Sp.none,eX:=[] }:=a4.put 14 _ (by simp[aj.arr,aj.cells,Sp.val,Sp.none]);have ce:=a5.cell 15 rfl;have ci:=a5.free 15;have cm:Bx w2.heap.size (((w3.setCell ⟨w2.heap.size,13,none⟩ (.slice none 0 0)).setCell ⟨w2.heap.size,14,none⟩ (.slice none 0 0)).setCell ⟨w2.heap.size,15,none⟩ (.slice none 0 0)) (rO p):=a5.put 15 _ (by simp[rO,aj.arr,aj.cells,Sp.val,Sp.none]);have b9:Below w2.heap.size w2 (((w3.setCell ⟨w2.heap.size,13,none⟩ (.slice none 0 0)).setCell ⟨w2.heap.size,14,none⟩ (.slice none 0 0)).setCell ⟨w2.heap.size,15,none⟩ (.slice none 0 0)):=((b8.setCell (p:=⟨w2.heap.size,13,none⟩) (af _) _).setCell (p:=⟨w2.heap.size,14,none⟩) (af _) _).setCell (p:=⟨w2.heap.size,15,none⟩) (af _) _;have b0:=ae cm;have am:=ae b9;clear a3 b8 a4 a5 cm b9;go_upto_region 4 with fail
 clear cc cg cd ch ce ci;generalize ((w3.setCell ⟨w2.heap.size,13,none⟩ (.slice none 0 0)).setCell ⟨w2.heap.size,14,none⟩ (.slice none 0 0)).setCell ⟨w2.heap.size,15,none⟩ (.slice none 0 0)=w4 at *;have ad:Below w.heap.size w w4:=(aq.o.trans (cp.o.mono aq.o.size)).trans (am.o.mono (by omega));have ca:l9 (rO p)<=1125899906842624:=by have:=Bo (rO p);have:=yt p;have:=HR.o.kv;omega
 have bh:=FZ w4 (rO p) (O3 ((HP.o.below ad).more ad.size)) ca;rw[Lm HR.o]at bh;have b1:=ae bh;have a7:=ae ad;have c0:=dZ (rO p);clear bh ad ca;go_wp2_with(first|(refine bH rfl 35 _ rfl (w2.heap.size) rfl 35 _ (0,0) _ b0.o Tryz.underlying35 rfl c0 ?_)|fail)
 refine b1.o.mono ?_;rintro o5 w5 ⟨rfl,ao⟩;have bw:=ae (a7.o.trans (ao.mono a7.o.size));have ap:Bx w.heap.size w5 p:=by unfold Bx;rw[<-ab.o];exact(ao.block _ (by have:=am.o.size;omega)).trans ((am.o.block _ cn).trans bd.o)
 have cx:w5.cell? ⟨w.heap.size,13,none⟩=some (.slice p.rs.dO p.aA.length p.rs.df):=ap.cell 13 rfl;have bl:=ae ap;have ct:=ae ((bm.o.below am.o).below ao);have b3:=ae ((b4.o.below am.o).below ao);have c4:=HR.o.kv;have c3:=yt p;clear ao ap b1 bd bm b4 b0 HZ b2 br;generalize Value.agg V=cE;generalize Value.agg (rO p).arr=cF;go_upto_region 6 with fail
 clear cx;go_wp2_with fail
 go_loopw[19,5] (λbk s5 wr=>∃j:Nat,j<=p.aA.length/\bk=.int .i64 j/\s5=.int .i64 ((tL p:Int)+(((p.aA.map λq=>q.bC.length).take j).sum:Nat))/\Below w5.heap.size w5 wr) (λbk _ _=>p.aA.length - (intOf bk).toNat)
 case atStart=>exact⟨0,aH _,rfl,by first|rfl|(congr 1;show _=(tL p:Int)+((0:Nat):Int);omega),ag _ _⟩
 case round =>
  obtain⟨j,hj,rfl,rfl,hb⟩:=hrel;have al:=ae hb;have ar:=ae (bw.o.trans (hb.mono bw.o.size));have c6:(0:Int)<=(j:Int):=by omega
  have cy:=BM p.aA j;have bc:=ae (LV p);clear hb;by_cases U:j<p.aA.length
  .obtain⟨g,o,eA,_,hc⟩:=(HP.o.prow.below ar.o).row (by omega)
   have a1:=hc j U;have cw:=ae (Jf p.aA j U);have ck:=BM p.aA (j+1);have c8:=cv.o;rw[Jf p.aA j U]at ck;have c7:(j:Int)<(p.aA.length:Int):=by omega
   clear hc;generalize p.aA[j]=q at *;have k0:=a1 0 _ rfl;rw[bS]at k0;have k1:wr.cell? ⟨g,o+j*3+1,none⟩=some (.slice q.ps.dO q.bC.length q.ps.df):=a1 1 _ rfl;have k2:wr.cell? ⟨g,o+j*3+2,none⟩=some (.slice q.bs.dO q.eY.length q.bs.df):=a1 2 _ rfl;have b6:=jc wr (.cells q.r 54);have cq:=ae (al.o.trans (b6.mono al.o.size));have cA:IntKind.i64.wrap ((tL p:Int)+(((p.aA.map λq=>q.bC.length).take j).sum:Nat)+(q.bC.length:Int))=(tL p:Int)+(((p.aA.map λq=>q.bC.length).take j).sum:Nat)+(q.bC.length:Int):=mo (by have:=bc.o;omega);clear a1 b6;rw[eA];clear eA;go_wp2_with fail
   exact⟨⟨j+1,U,rfl,by rw[cw.o];congr 1;omega,cq.o⟩,by simp only[intOf];omega⟩
  .obtain rfl:j=p.aA.length:=by omega
   have cl:(p.aA.map λq=>q.bC.length).take p.aA.length=p.aA.map λq=>q.bC.length:=List.take_of_length_le (by simp)
   rw[cl]at cy ⊢;have hR:=HR.o.right;have cC:=qz (p:=K.p) (W:=wB K.p) p.eX 0 (by decide) (by decide) λt ht=>xE (λi hi=>(q9 (by rw[D.o];exact hR) i hi).1) t (by rw[D.o];exact qH hR hR.eX t ht)
   have cD:=qz (p:=K.p) (W:=wB K.p) p.eB 0 (by decide) (by decide) λt ht=>xE (λi hi=>(q9 (by rw[D.o];exact hR) i hi).1) t (by rw[D.o];exact qH hR hR.eB t ht)
   have c5:=Na (p:=p);go_upto_region 10 with fail
   refine dK ?_ (kD (C':=.region 10 opsN10 true) (by kernel_rfl) (TF (K:=K) rfl w.heap.size p ((tL p:Int)+((p.aA.map λq=>q.bC.length).sum:Nat)) rfl rfl rfl ((al.o.block _ bl.o.lt).trans bl.o) ((HP.o.below ar.o).more ar.o.size) (ct.o.below al.o) (b3.o.below al.o) (mo (by have:=bc.o;omega)) (mo (by have:=bc.o;omega)) (JI (by rw[D.o];exact hR) (by omega) (by rw[D.o];exact qH hR hR.eX)) (JI (by rw[D.o];exact hR) (by omega) (by rw[D.o];exact qH hR hR.eB))));rintro ex a9 w9 ⟨rfl,ba,cf,h2,aE,-⟩;obtain⟨F,hF,cj⟩:=Cs ba;rw[cj,cf];simp only[List.range,List.range.loop,List.map];have g2:F 2=_:=(hF 2).trans (bz h2);rw[g2];have bt:Hid (min ((tL p:Int)+((p.aA.map λq=>q.bC.length).sum:Nat)+j3 K.p (wB K.p) p.eX 0+j3 K.p (wB K.p) p.eB 0) 20001=lI p):=ae (by rw[D.o];rfl);have cr:Hid (Below w.heap.size w w9):=ae (ar.o.trans (Below.mono (aE.below (n:=w.heap.size) bo.o ((b3.o.below al.o).isMap.lt)) (af _)));clear hF cj g2 ba cf h2 aE;go_wp2_with fail
   go_ret
   exact⟨by rw[<-bt.o];rfl,cr.o⟩
section
theorem GN{p:aj}{a b:Nat}{q:bG}(D:a≠b)(O:p.aA[a]?=some q)(hq:jG q.eY=[]):kF p a b=false:=by
 have U:lC p a=[]:=by
  unfold lC;rw[O];simp only[hq]
  rfl
 unfold kF;obtain⟨n,hf⟩:∃n,vE p=n+2:=⟨_,Nat.add_comm _ _⟩;rw[hf,kP,if_neg D,if_neg (by simp),U,aP];cases n<;>simp[kP]
theorem Hf:su std=true:=by decide
structure oU(p:aj)(M:jr)(hasP:Bool)(iP iR iQ:Nat):Prop where
 head:IsHead M p
 names:M.N=std
 q:p.aA[iQ]?=some (qV M.w)
 r:p.aA[iR]?=some (rV M.w hasP)
 pr:hasP=true->∃x,p.aA[iP]?=some x/\vN M hasP x
 lq:look (eG p) bQ=some (iQ:Int)
 lr:look (eG p) bR=some (iR:Int)
 lp:hasP=true->look (eG p) pB=some (iP:Int)
 rq:iQ≠iR
 rp:hasP=true->iP≠iR
section
variable {p:aj}{M:jr}{hasP:Bool}{iP iR iQ:Nat}
theorem oU.ok(h:oU p M hasP iP iR iQ):su M.N=true:=by rw[h.names];exact Hf
theorem RN(w:Int):jG (qV w).eY=[]:=by
 refine BA λs D x hx=>?_
 have D:s=fw Sp.none (aZ bZ) (rU 3 (aZ bY) (cO 1 w) Sp.none)\/s=ji Sp.none bY (cO 0 w):=by simpa[qV,TW]using D
 rcases D with rfl|rfl<;>(rw[aa.pre_eq]at hx;simp[fw,ji,aa.gy,aa.iD]at hx;subst hx;simp[aa.bI])
theorem RL{x:bG}(h:vN M hasP x):jG x.eY=[]:=BA λs D=>(h.eY s D).calls_no rfl
theorem oU.rcodes(h:oU p M hasP iP iR iQ):∀s∈(rV M.w hasP).eY,jF (lF p ⟨iR,[(bY,⟨5,M.w⟩)]⟩ s 1):=by
 obtain⟨U,am,_⟩:=h.head.ok;have hm:M.w<=16:=by omega
 have al:(1:Int)<2 ^ M.w.toNat:=by
  have:M.w=1\/M.w=2\/M.w=3:=by omega
  rcases this with e|e|e<;>rw[e] <;>decide
 have wy:fZ p ⟨iR,[(bY,⟨5,M.w⟩)]⟩ (aZ bY)=M.w:=FO ym U hm;have lq:kF p iQ (iR:Int).toNat=false:=by rw[gD];exact GN h.rq h.q (RN _)
 have O:∀(a b:ah) (k:Nat),k<=32->fZ p ⟨iR,[(bY,⟨5,M.w⟩)]⟩ a=M.w->fZ p ⟨iR,[(bY,⟨5,M.w⟩)]⟩ b=1->jF (jv p ⟨iR,[(bY,⟨5,M.w⟩)]⟩ 0 a 1)->jF (jv p ⟨iR,[(bY,⟨5,M.w⟩)]⟩ 0 b 1)->jF (lF p ⟨iR,[(bY,⟨5,M.w⟩)]⟩ (dN Sp.none bQ [a,b]) k):=λa b k hk wa wb ca cb=>by
  refine p8 (E:=⟨iR,[(bY,⟨5,M.w⟩)]⟩) h.lq ?_ (.inr lq) hk (by rw[oC];exact ca.append cb) Sp.none rfl;unfold lJ;rw[h.q];simp only[qV,aF,bK,oW,wa,wb,gK]
  rfl
 intro s D;have D:s=RP\/(hasP=true/\s=QW)\/s=NP M.w:=by
  unfold rV at D;rcases List.mem_cons.1 D with D|D
  .exact .inl D
  .rcases List.mem_append.1 D with D|D
   .by_cases V:hasP=true
    .rw[if_pos V]at D;exact .inr (.inl ⟨V,List.mem_singleton.1 D⟩)
    .rw[if_neg V]at D;cases D
   .exact .inr (.inr (List.mem_singleton.1 D))
 rcases D with rfl|⟨V,rfl⟩|rfl
 .exact O _ _ 1 (by decide) wy (uk (by decide) (by decide)) (um ym 1 (by decide)) (uj (by decide) (by decide) (by decide) 1 (by decide))
 .obtain⟨x,ab,ad⟩:=h.pr V
  have lp:kF p iP (iR:Int).toNat=false:=by rw[gD];exact GN (h.rp V) ab (RL ad)
  refine p8 (E:=⟨iR,[(bY,⟨5,M.w⟩)]⟩) (h.lp V) ?_ (.inr lp) (by decide) (by rw[jL];exact um ym 1 (by decide)) Sp.none rfl;unfold lJ;rw[ab];simp only[ad.bC,aF,bK,oW,wy,gK]
  rfl
 .unfold NP
  rw[iH];refine .cons (ig rfl rfl (by decide)) ?_;simp only[TV,aa.bf,aa.gy,aa.iD,jL,je,aP];refine(um ym 1 (by decide)).append (nU λs D=>?_);rw[List.mem_singleton.1 D];exact O _ _ _ (by decide) (uk U hm) (uk (by decide) (by decide)) (uj al U hm 1 (by decide)) (uj (by decide) (by decide) (by decide) 1 (by decide))
theorem oU.rZ(h:oU p M hasP iP iR iQ){before:List ByteArray}(hb:bR∉before):jF (nM p before iR (rV M.w hasP)):=by
 unfold nM;refine .cons ?_ (.append (RQ h.head h.ok h.names) (nU λs O=>?_))
 .unfold xP
  have e:lK before (rV M.w hasP).aT=false:=Ma hb;have D:kH p (rV M.w hasP).aT.data.toList=true:=qL (s:=bR.data.toList) (by decide) (by decide);rw[if_neg (by rw[e,D];simp),if_neg (by simp[rV])]
 .have e:inside p iR=⟨iR,[(bY,⟨5,M.w⟩)]⟩:=by
   unfold inside nC;rw[h.r]
   rfl
  rw[e];exact h.rcodes s O
theorem oU.qZ(h:oU p M hasP iP iR iQ){before:List ByteArray}(hb:bQ∉before):jF (nM p before iQ (qV M.w)):=by
 unfold nM;refine .cons ?_ (.append (RO h.head h.ok h.names) (nU λs O=>?_))
 .unfold xP
  have e:lK before (qV M.w).aT=false:=Ma hb;have D:kH p (qV M.w).aT.data.toList=true:=qL (s:=bQ.data.toList) (by decide) (by decide);rw[if_neg (by rw[e,D];simp),if_neg (by simp[qV])]
 .have e:inside p iQ=⟨iQ,[(bY,⟨5,M.w⟩),(bZ,⟨5,1⟩)]⟩:=by
   unfold inside nC;rw[h.q]
   rfl
  rw[e];exact Tx h.head iQ _ _ _ s O
theorem oU.callAt(h:oU p M hasP iP iR iQ):OI p outside M hasP iP:=λU _=>by
 obtain⟨x,D,O⟩:=h.pr U;exact⟨h.lp U,⟨x,⟨xB,M.w,0⟩,D,O.bC,rfl⟩,.inl (by decide)⟩
theorem oU.wt(h:oU p M hasP iP iR iQ){d k:Nat}(D:k+d<=30){s:aa}(O:WT M hasP d s):jF (lF p outside s k):=
 O.codesJ h.head.ok (uJ h.head h.ok (-1)) h.callAt k D
theorem oU.v(h:oU p M hasP iP iR iQ):WX M 0 1 M.w (aZ bV):=by
 have D:(bV,(⟨3,M.w⟩:gV))∈nL M 0:=by
  unfold nL;rw[if_neg (by decide),if_pos rfl];refine bF _ (bF _ (cz _ ?_));unfold mh;rw[h.names];exact aD ..
 exact .var D
theorem oU.callR(h:oU p M hasP iP iR iQ){k:Nat}(hk:k<=32):jF (lF p outside QX k):=by
 have hE:=uJ h.head h.ok (-1);have D:=(h.v.aS h.head.ok hE).1;refine p8 h.lr ?_ (.inl (by decide)) hk (by rw[jL];exact h.v.codes h.head.ok hE 1 (by decide)) Sp.none rfl;unfold lJ;rw[h.r];simp only[rV,aF,bK,oW,outside,D,gK]
 rfl
theorem oU.callQ(h:oU p M hasP iP iR iQ){x:Int}(hx:0<=x/\x<2){k:Nat}(hk:k<=32)(sp:Sp):jF (lF p outside (dN sp bQ [aZ bV,cO x 1]) k):=by
 have hE:=uJ h.head h.ok (-1);have D:WX M 0 1 1 (cO x 1):=.num hx.1 hx.2 (by decide) (by decide);have U:=(h.v.aS h.head.ok hE).1;have O:=(D.aS h.head.ok hE).1;refine p8 h.lq ?_ (.inl (by decide)) hk (by rw[oC];exact(h.v.codes h.head.ok hE 1 (by decide)).append (D.codes h.head.ok hE 1 (by decide))) sp rfl;unfold lJ;rw[h.q];simp only[qV,aF,bK,oW,outside,U,O,gK]
 rfl
theorem oU.more(h:oU p M hasP iP iR iQ)(O:Nat){k:Nat}(hk:k<=32):∀s∈qK O,jF (lF p outside s k):=by
 intro s D;have D:s=QX\/s=Sd:=by
  unfold qK at D
  split at D
  .exact .inl (List.mem_singleton.1 D)
  .split at D
   .exact .inr (List.mem_singleton.1 D)
   .cases D
 rcases D with rfl|rfl
 .exact h.callR hk
 .exact h.callQ (by decide) hk Sp.none
end
theorem Fv:∀ex:List ah,ex.length<=dU ex
 |[]=>af _
 |e::ex=>by
  have:1<=e.pre.length:=by rw[ah.pre_eq];simp
  have D:dU (e::ex)=e.pre.length+dU ex:=by simp[dU]
  have:=Fv ex;rw[aF,D];omega
theorem ny(k b:Int)(n:ByteArray)(es ts os:Sp)(ex:List ah)(th el:List aa):Ky (.mk k n es ex b ts th os el)=1+dU ex+aV th+aV el:=rfl
theorem jD(e:ah)(ex:List ah):dU (e::ex)=e.pre.length+dU ex:=by simp[dU]
theorem jM:dU []=0:=rfl
theorem nD(k o v w:Int)(n:ByteArray)(sp:Sp)(l:List ah):(ah.mk k o v w n sp l).pre.length=1+dU l:=qN _
theorem Uk:Ky QX=2:=by simp only[QX,dN,aZ,ny,jD,jM,gu,nD]
theorem Ul:Ky Sd=3:=by simp only[Sd,dN,aZ,cO,ny,jD,jM,gu,nD]
theorem SA:Ky RP=3:=by simp only[RP,dN,aZ,cO,ny,jD,jM,gu,nD]
theorem Uj:Ky QW=2:=by simp only[QW,dN,aZ,ny,jD,jM,gu,nD]
theorem SC(w:Int):Ky (NP w)=5:=by simp only[NP,TV,dN,aZ,cO,ny,jD,jM,gu,fq,nD]
theorem Ui(w:Int):aV (qV w).eY=7:=by
 show aV [fw Sp.none (aZ bZ) (rU 3 (aZ bY) (cO 1 w) Sp.none),ji Sp.none bY (cO 0 w)]=7;simp only[fw,ji,rU,aZ,cO,ny,jD,jM,gu,fq,nD]
theorem Uh{p:aj}{B:Nat->List aa}(s:aa)(hc:∀x∈s.pre,mJ p x):aV (inT p B s)<=2*Ky s+((jX s).map λc=>aV (B (dG p c))).sum:=by
 induction s using aa.ind with
 |h k n es ex b ts th os el i1 i2 =>
  have D:=hc _ (by rw[aa.pre_eq];exact aD ..);have each:∀l:List aa,(∀s∈l,aV (inT p B s)<=2*Ky s+((jX s).map λc=>aV (B (dG p c))).sum)->aV (fG p B l)<=2*aV l+((eT l).map λc=>aV (B (dG p c))).sum:=λl=>by
   induction l with
   |nil=>intro _;rw[fG,eT,gu];simp
   |cons s l ih =>
    intro hl;have h1:=hl s (aD ..);have O:=ih λt ht=>hl t (au _ ht)
    rw[fG,eT,ku,fq,aO,fo];omega
  have a:=each th λt ht=>i1 t ht λx hx=>hc x (by
   rw[aa.pre_eq];exact au _ (cz _ (List.mem_flatMap.2 ⟨t,ht,hx⟩)))
  have b2:=each el λt ht=>i2 t ht λx hx=>hc x (by
   rw[aa.pre_eq];exact au _ (bF _ (List.mem_flatMap.2 ⟨t,ht,hx⟩)))
  have V:Ky (aa.mk k n es ex b ts th os el)=1+dU ex+aV th+aV el:=rfl;rw[inT,jX,V];by_cases hk:k=8
  .obtain⟨h1,O,U⟩:=D hk
   change th=[]at h1;change el=[]at O;change(fU p (dG p n)).bC.length=ex.length at U;have hs:=AQ (fU p (dG p n)) _ ex U;have hx:=Fv ex;subst h1;subst O;rw[if_pos hk,if_pos hk,ku,qO,hs,eT,gu];simp only[aP,ax,dh,bL,fH];omega
  .have e1:aV [aa.mk k n es ex b Sp.none (fG p B th) Sp.none (fG p B el)]=1+dU ex+aV (fG p B th)+aV (fG p B el):=by
    rw[fq,gu]
    rfl
   rw[if_neg hk,if_neg hk,e1,gJ,aO,fo];omega
theorem Cy{p:aj}{B:Nat->List aa}:∀l:List aa,(∀x∈l.flatMap aa.pre,mJ p x)->aV (fG p B l)<=2*aV l+((eT l).map λc=>aV (B (dG p c))).sum
 |[],_=>by rw[fG,eT,gu];simp
 |s::l,h=>by
  rw[bA]at h;have h1:=Uh (B:=B) s λx hx=>h x (cz _ hx)
  have D:=Cy (B:=B) l λx hx=>h x (bF _ hx)
  rw[fG,eT,ku,fq,aO,fo];omega
def Eh:Nat->Nat
 |0=>1
 |d+1=>3*Eh d
theorem Gj:∀d,1<=Eh d
 |0=>af _
 |d+1=>by have:=Gj d;rw[Eh];omega
theorem wY{l:List aa}{k:Nat}(h:∀s∈l,(jX s).length<=k):(eT l).length<=l.length*k:=by
 induction l with
 |nil=>rw[eT];simp
 |cons s l D =>
  have h1:=h s (aD ..);have O:=D λt ht=>h t (au _ ht)
  rw[eT,ay,aF,Nat.succ_mul];omega
theorem y9{l:List aa}{P:ByteArray->Prop}(h:∀s∈l,∀c∈jX s,P c):∀c∈eT l,P c:=by
 rw[gZ];intro c hc;obtain⟨s,D,hc⟩:=List.mem_flatMap.1 hc;exact h s D c hc
theorem WT.callsF{M:jr}{hasP:Bool}{d:Nat}{s:aa}(h:WT M hasP d s):(jX s).length<=Eh d/\∀c∈jX s,c=pB/\hasP=true:=by
 induction h with
 |write _ _=>simp[fw,jX,eT]
 |flush hk=>rcases hk with rfl|rfl<;>simp[yo,jX,eT]
 |set _ _=>simp[ji,jX,eT]
 |put _ _=>simp[jX,eT]
 |@cond d _ _ _ _ th el _ h1 _ V _ O U =>
  have a:=wY (k:=Eh d) λs D=>(O s D).1
  have b:=wY (k:=Eh d) λs D=>(U s D).1
  have a2:th.length*Eh d<=2*Eh d:=iG _ h1;have b2:el.length*Eh d<=1*Eh d:=iG _ V;rw[jX,if_neg (by decide),gJ,ay,Eh];refine⟨by omega,λc hc=>?_⟩;rcases List.mem_append.1 hc with hc|hc
  .exact y9 (P:=λc=>c=pB/\hasP=true) (λs D=>(O s D).2) c hc
  .exact y9 (P:=λc=>c=pB/\hasP=true) (λs D=>(U s D).2) c hc
 |@loop d _ _ _ _ th _ _ _ h1 _ O =>
  have a:=wY (k:=Eh 0) λs D=>(O s D).1
  have h3:eT ([]:List aa)=[]:=by rw[eT]
  have hp:=Gj d;rw[jX,if_neg (by decide),gJ,h3,aP,show Eh (d+1)=3*Eh d from rfl];rw[show Eh 0=1 from rfl]at a;exact⟨by omega,y9 (P:=λc=>c=pB/\hasP=true) λs D=>(O s D).2⟩
 |@call d _ _ _ hP _ =>
  have hp:=Gj d;simp only[dN,jX,eT,if_pos,aP,aF,bK,oI];exact⟨by omega,λc hc=>⟨hc,hP⟩⟩
theorem Mr{α:Type}(f:α->Nat)(k:Nat):∀l:List α,(∀c∈l,f c<=k)->(l.map f).sum<=l.length*k
 |[],_=>by simp
 |c::l,h=>by
  have h1:=h c (aD ..);have D:=Mr f k l λx hx=>h x (au _ hx)
  rw[ax,bL,aF,Nat.succ_mul];omega
def MB(hasP:Bool)(f:ByteArray->Nat):Prop:=(hasP=true->f pB<=204)/\f bR<=240/\f bQ<=7
structure ou(p:aj)(M:jr)(hasP:Bool):Prop where
 head:IsHead M p
 names:M.N=std
 aA:(hasP=true/\∃x,vN M hasP x/\(p.aA=[x,rV M.w hasP,qV M.w]\/p.aA=[qV M.w,rV M.w hasP,x]))\/(hasP=false/\(p.aA=[rV M.w hasP,qV M.w]\/p.aA=[qV M.w,rV M.w hasP]))
 workZ:∀(p':aj) iP iR iQ,oU p' M hasP iP iR iQ->∀k,k<=1->∀s∈p.eX,jF (lF p' outside s k)
 workL:aV p.eX<=1200
 workC:∀f,MB hasP f->((eT p.eX).map f).sum<=10000
 jb:p.eB.length<=3
 eB:∀s∈p.eB,WT M hasP 1 s
theorem FB(D:Nat):aV (qK D)<=3:=by
 have O:aV [QX]=2:=by rw[fq,Uk];rfl
 have U:aV [Sd]=3:=by rw[fq,Ul];rfl
 have V:aV []=0:=rfl;unfold qK
 split
 .omega
 .split<;>omega
theorem Hr{M:jr}{hasP:Bool}{f:ByteArray->Nat}(hf:MB hasP f)(d m:Nat)(t:List aa)(hm:t.length<=m)(ht:∀s∈t,WT M hasP d s):((eT t).map f).sum<=m*Eh d*204:=by
 have h1:=wY (k:=Eh d) λs D=>(ht s D).callsF.1
 have V:=Mr f 204 (eT t) λc hc=>by
  obtain⟨O,U⟩:=y9 (P:=λc=>c=pB/\hasP=true) (λs D=>(ht s D).callsF.2) c hc;rw[O];exact hf.1 U
 have h3:t.length*Eh d<=m*Eh d:=iG _ hm;exact ai V (iG _ (ai h1 h3))
theorem y8(a b:List aa):eT (a++b)=eT a++eT b:=by rw[gZ,gZ,gZ,bT]
theorem K3{p:aj}{M:jr}{hasP:Bool}(h:xW M hasP p)(D:Nat):∀(p':aj) iP iR iQ,oU p' M hasP iP iR iQ->∀k,k<=20->∀s∈(uP p hasP D).eX,jF (lF p' outside s k):=λp' iP iR iQ T k hk s O=>by
 have U:(uP p hasP D).eX=p.eX++qK D:=rfl;rw[U]at O;rcases List.mem_append.1 O with O|O
 .exact T.wt (d:=2) (by omega) (h.eX s O)
 .exact T.more D (by omega) s O
theorem Rv{p:aj}{M:jr}{hasP:Bool}(h:xW M hasP p)(hN:M.N=std)(D:Nat):ou (uP p hasP D) M hasP:=by
 have U:(uP p hasP D).eX=p.eX++qK D:=rfl;refine⟨⟨h.ok,h.iR,h.iF,h.aS,h.fB,h.ek,h.gp,h.fP,h.eD,h.eQ,h.blocksN,h.iQ,h.d9⟩,hN,?_,λp' iP iR iQ T k hk s O=>?_,?_,λf hf=>?_,h.jb,h.eB⟩
 .have hp:=h.aA
  have e:(uP p hasP D).aA=if D % 2=1 then(p.aA++[rV M.w hasP,qV M.w]).reverse else p.aA++[rV M.w hasP,qV M.w]:=by
   rw[<-h.aS];rfl
  rw[e]
  split at hp
  .next V =>
   obtain⟨x,h1,h2⟩:=hp;refine .inl ⟨V,x,h2,?_⟩;rw[h1]
   split
   .exact .inr rfl
   .exact .inl rfl
  .next V =>
   refine .inr ⟨by simpa using V,?_⟩;rw[hp]
   split
   .exact .inr rfl
   .exact .inl rfl
 .rw[U]at O
  rcases List.mem_append.1 O with O|O
  .exact T.wt (d:=2) (by omega) (h.eX s O)
  .exact T.more D (by omega) s O
 .have h3:=qa (k:=218) λs O=>(h.eX s O).few
  have h5:=h.lT;have h7:=FB D;rw[U,ku];omega
 .have w1:=Hr hf 2 5 p.eX h.lT h.eX
  have w3:((eT (qK D)).map f).sum<=240:=by
   have a:=hf.2.1;have b:=hf.2.2;unfold qK
   split
   .show f bR+0<=240
    omega
   .split
    .show f bQ+0<=240
     omega
    .show 0<=240
     decide
  simp only[Eh]at w1;rw[U,y8,aO,fo];omega
section
variable {p:aj}{M:jr}{hasP:Bool}
theorem ou.th(h:ou p M hasP):(∃iP iR iQ,oU p M hasP iP iR iQ)/\jF (fO p p.aA 0 (fC p)):=by
 have hok:su M.N=true:=by rw[h.names];exact Hf
 have nR:bR∉fC p:=wD h.head h.names (zG (by decide));have nQ:bQ∉fC p:=wD h.head h.names (zG (by decide));have nP:pB∉fC p:=(FK h.head hok).2;have D:bR≠bQ:=by decide
 have ab:bR≠pB:=by decide
 have V:bQ≠pB:=by decide
 rcases h.aA with ⟨_,x,hx,hp|hp⟩|⟨hP,hp|hp⟩
 .have T:oU p M hasP 0 1 2:=⟨h.head,h.names,by rw[hp];rfl,by rw[hp];rfl,λ_=>⟨x,by rw[hp];rfl,hx⟩,
   by unfold look eG;rw[hp];simp only[numbered,hx.aT];rfl,by unfold look eG;rw[hp];simp only[numbered,hx.aT];rfl,λ_=>by unfold look eG;rw[hp];simp only[numbered,hx.aT];rfl,by decide,λ_=>by decide⟩
  refine⟨⟨_,_,_,T⟩,?_⟩;have h0:p.aA[0]?=some x:=by rw[hp];rfl
  have z:=SE h.head hok hx h0 nP;have O:=T.rZ (before:=fC p++[x.aT]) (by simp[nR,hx.aT,ab]);have U:=T.qZ (before:=fC p++[x.aT]++[bR]) (by simp[nQ,hx.aT,V,D.symm]);rw[hp];show jF (fO p [x,rV M.w hasP,qV M.w] 0 (fC p));rw[fO,fO,fO,fO,aP];exact z.append (O.append U)
 .have T:oU p M hasP 2 1 0:=⟨h.head,h.names,by rw[hp];rfl,by rw[hp];rfl,λ_=>⟨x,by rw[hp];rfl,hx⟩,
   by unfold look eG;rw[hp];simp only[numbered,hx.aT];rfl,by unfold look eG;rw[hp];simp only[numbered,hx.aT];rfl,λ_=>by unfold look eG;rw[hp];simp only[numbered,hx.aT];rfl,by decide,λ_=>by decide⟩
  refine⟨⟨_,_,_,T⟩,?_⟩;have h0:p.aA[2]?=some x:=by rw[hp];rfl
  have z:=SE h.head hok hx h0 (before:=fC p++[bQ]++[bR]) (by simp[nP,ab.symm,V.symm]);have O:=T.rZ (before:=fC p++[bQ]) (by simp[nR,D]);have U:=T.qZ (before:=fC p) nQ;rw[hp];show jF (fO p [qV M.w,rV M.w hasP,x] 0 (fC p));rw[fO,fO,fO,fO,aP];exact U.append (O.append z)
 .have T:oU p M hasP 7 0 1:=⟨h.head,h.names,by rw[hp];rfl,by rw[hp];rfl,λe=>absurd e (by rw[hP];decide),
   by unfold look eG;rw[hp];rfl,by unfold look eG;rw[hp];rfl,λe=>absurd e (by rw[hP];decide),by decide,λ_=>by decide⟩
  refine⟨⟨_,_,_,T⟩,?_⟩;have O:=T.rZ (before:=fC p) nR;have U:=T.qZ (before:=fC p++[bR]) (by simp[nQ,D.symm]);rw[hp];show jF (fO p [rV M.w hasP,qV M.w] 0 (fC p));rw[fO,fO,fO,aP];exact O.append U
 .have T:oU p M hasP 7 1 0:=⟨h.head,h.names,by rw[hp];rfl,by rw[hp];rfl,λe=>absurd e (by rw[hP];decide),
   by unfold look eG;rw[hp];rfl,by unfold look eG;rw[hp];rfl,λe=>absurd e (by rw[hP];decide),by decide,λ_=>by decide⟩
  refine⟨⟨_,_,_,T⟩,?_⟩;have O:=T.rZ (before:=fC p++[bQ]) (by simp[nR,D]);have U:=T.qZ (before:=fC p) nQ;rw[hp];show jF (fO p [qV M.w,rV M.w hasP] 0 (fC p));rw[fO,fO,fO,aP];exact U.append O
theorem Qq(w:Int)(hasP:Bool):jy (rV w hasP)<=12/\aV (rV w hasP).eY<=10:=by
 cases hasP with
 |false =>
  have O:aV (rV w false).eY=8:=by
   show aV [RP,NP w]=8;rw[fq,fq,gu,SA,SC]
  have D:jy (rV w false)=1+1+aV (rV w false).eY:=rfl;omega
 |true =>
  have O:aV (rV w true).eY=10:=by
   show aV [RP,QW,NP w]=10;rw[fq,fq,fq,gu,SA,Uj,SC]
  have D:jy (rV w true)=1+1+aV (rV w true).eY:=rfl;omega
theorem Qo(w:Int):jy (qV w)=10/\aV (qV w).eY=7:=by
 have D:jy (qV w)=1+2+aV (qV w).eY:=rfl;have O:=Ui w;omega
theorem K9{x:bG}(hx:vN M hasP x):jy x<=206/\aV x.eY<=204:=by
 have O:=qa (k:=68) λs D=>(hx.eY s D).few
 have U:=hx.few;unfold jy;rw[hx.bC];simp only[aF,bK];omega
theorem ou.procN(h:ou p M hasP):p.aA.length<=3/\(p.aA.map jy).sum<=228/\(p.aA.map λq=>q.bC.length).sum<=4:=by
 have hr:=(Qq M.w hasP).1;have hq:=(Qo M.w).1;have O:(rV M.w hasP).bC.length=1:=rfl;have D:(qV M.w).bC.length=2:=rfl;rcases h.aA with ⟨_,x,hx,hp|hp⟩|⟨_,hp|hp⟩
 .have U:=(K9 hx).1
  rw[hp];simp only[ax,dh,bL,fH,hx.bC,aF,bK,O,D];omega
 .have U:=(K9 hx).1
  rw[hp];simp only[ax,dh,bL,fH,hx.bC,aF,bK,O,D];omega
 .rw[hp]
  simp only[ax,dh,bL,fH,aF,bK,O,D];omega
 .rw[hp]
  simp only[ax,dh,bL,fH,aF,bK,O,D];omega
theorem ou.workH(h:ou p M hasP):aV p.eX<=1200/\aV p.eB<=204:=by
 have U:=qa (k:=68) λs D=>(h.eB s D).few
 have V:=h.jb;have O:=h.workL;omega
theorem ou.kv(h:ou p M hasP):eF p<=1800:=by
 have h1:=II h.head;have D:=h.procN;have O:=h.workH;unfold eF;omega
theorem ou.namesOk(h:ou p M hasP):ng p:=by
 have hok:su M.N=true:=by rw[h.names];exact Hf
 have O:∀q,q=rV M.w hasP\/q=qV M.w->q.aT.size<=4294967200/\∀d∈q.bC,d.aT.size<=4294967200:=by
  rintro q (rfl|rfl)
  .exact⟨show bR.size<=4294967200 by decide,λd D=>by rw[List.mem_singleton.1 D];show bY.size<=4294967200;decide⟩
  .refine⟨show bQ.size<=4294967200 by decide,λd D=>?_⟩
   rcases List.mem_cons.1 D with rfl|D
   .show bY.size<=4294967200;decide
   .rw[List.mem_singleton.1 D];show bZ.size<=4294967200;decide
 refine⟨Km h.head hok,λq hq=>?_⟩;rcases h.aA with ⟨_,x,hx,hp|hp⟩|⟨U,hp|hp⟩<;>(rw[hp]at hq;simp only[bE,bu,or_false]at hq)
 .rcases hq with rfl|hq
  .exact DV hx
  .exact O q hq
 .rcases hq with hq|hq|rfl
  .exact O q (.inr hq)
  .exact O q (.inl hq)
  .exact DV hx
 .exact O q hq
 .exact O q hq.symm
theorem ou.right(h:ou p M hasP):lc p=(0,0):=by
 have hok:su M.N=true:=by rw[h.names];exact Hf
 have hf:=h.kv;obtain⟨⟨iP,iR,iQ,T⟩,hz⟩:=h.th;refine(Jp rfl (by omega) ?_).1;rw[ze];refine(Ug h.head hok (by have:=h.procN.1;omega) (by omega)).append (hz.append (.append ?_ (.append ?_ (UV h.head hok))))
 .exact nU λs D=>h.workZ _ _ _ _ T 1 (by decide) s D
 .exact nU λs D=>T.wt (d:=1) (by decide) (h.eB s D)
theorem ou.good(h:ou p M hasP):rH p:=⟨by have:=h.kv;omega,h.namesOk,by rw[h.right]⟩
end
theorem AP{p q:aj}(h:dx p=dx q)(hq:rH q):rH p:=by
 have D:eF p=eF q:=by rw[<-qf,h,qf]
 refine⟨by rw[D];exact hq.kv,Ew (by rw[h];exact K4 hq.names),?_⟩;have h1:lc p=_:=za (k:=eF p) (by rw[mO]) (by rw[D];exact hq.kv) rfl;have O:lc q=_:=za (k:=eF q) (by rw[mO]) hq.kv rfl;rw[h1,J7 h,D,<-O];exact hq.chk
theorem EP{p:aj}{i:Nat}{q:bG}(hi:p.aA[i]?=some q)(hq:∀s∈q.eY,∀x∈s.pre,x.bI≠8)(n:Nat):aV (j5 p n i)<=aV q.eY:=by
 cases n with
 |zero=>rw[j5,gu];exact aH _
 |succ n =>
  have e:fU p i=q:=by unfold fU;rw[hi];rfl
  rw[j5,qc,e,<-iV,Fh p _ q.eY λx hx=>by
   obtain⟨s,D,hx⟩:=List.mem_flatMap.1 hx;exact hq s D x hx,iV]
  exact af _
theorem Ty(w:Int):∀s∈(qV w).eY,∀x∈s.pre,x.bI≠8:=λs D x hx=>by
 have D:s=fw Sp.none (aZ bZ) (rU 3 (aZ bY) (cO 1 w) Sp.none)\/s=ji Sp.none bY (cO 0 w):=by simpa[qV,TW]using D
 rcases D with rfl|rfl<;>(rw[aa.pre_eq]at hx;simp[fw,ji,aa.gy,aa.iD]at hx;subst hx;simp[aa.bI])
section
variable {p:aj}{M:jr}{hasP:Bool}
theorem ou.inl(h:ou p M hasP):eF (pR p)<=15000:=by
 obtain⟨⟨iP,iR,iQ,T⟩,_⟩:=h.th;have D:=h.good.right;have dO:∀(i:Nat) (q:bG),p.aA[i]?=some q->dG p q.aT=i:=λi q hi=>by
  obtain⟨hl,hg⟩:=List.getElem?_eq_some_iff.1 hi;rw[<-hg];exact(uo D i hl).1
 have hQ:∀n,aV (j5 p n (dG p bQ))<=7:=λn=>by
  rw[show dG p bQ=iQ from dO _ _ T.q];exact ai (EP T.q (Ty _) n) (Nat.le_of_eq (Qo _).2)
 have hP:hasP=true->∀n,aV (j5 p n (dG p pB))<=204:=λe n=>by
  obtain⟨x,V,O⟩:=T.pr e;rw[<-O.aT,dO _ _ V];exact ai (EP V (λs hs=>(O.eY s hs).calls_no rfl) n) (K9 O).2
 have ad:iR<p.aA.length:=(List.getElem?_eq_some_iff.1 T.r).1;have al:fU p iR=rV M.w hasP:=by unfold fU;rw[T.r];rfl
 have U:∀x∈(rV M.w hasP).eY.flatMap aa.pre,mJ p x:=by
  have:=ru D (D.proc iR ad).1.eY;have e:p.aA[iR]=rV M.w hasP:=(List.getElem?_eq_some_iff.1 T.r).2;rw[e]at this;exact this
 have ab:∀n,aV (j5 p n (dG p bR))<=240:=λn=>by
  rw[show dG p bR=iR from dO _ _ T.r];cases n with
  |zero=>rw[j5,gu];exact aH _
  |succ n =>
   rw[j5,qc,al];have h1:=Cy (B:=j5 p n) _ U;have h2:=(Qq M.w hasP).2;have h3:((eT (rV M.w hasP).eY).map λc=>aV (j5 p n (dG p c))).sum<=218:=by
    have q1:=hQ n;cases hasP with
    |false =>
     show aV (j5 p n (dG p bQ))+(aV (j5 p n (dG p bQ))+0)<=218;omega
    |true =>
     have q2:=hP rfl n;show aV (j5 p n (dG p bQ))+(aV (j5 p n (dG p pB))+(aV (j5 p n (dG p bQ))+0))<=218;omega
   omega
 have hC:MB hasP λc=>aV (eU p (dG p c)):=⟨λe=>hP e _,ab _,hQ _⟩
 have w1:=h.workC _ hC;have w2:=Hr hC 1 3 p.eB h.jb h.eB;have a1:=Cy (B:=eU p) p.eX (ru D D.eX);have a2:=Cy (B:=eU p) p.eB (ru D D.eB);have h3:=h.workH;have h1:=II h.head;have h2:=h.procN.2.2;have hb:tL p<=76:=by
  unfold tL eF;show p.fB.length+p.ek.length+p.gp.length+p.fP.length+1+p.eD.pre.length+(p.eQ.map λi=>1+i.bv.pre.length).sum+0+aV []+aV []+p.d9.pre.length<=76;rw[gu];omega
 simp only[Eh]at w2;rw[CU];omega
theorem ou.weight(h:ou p M hasP):lI p<=15000:=by
 have:=h.inl;rw[qy h.good.right];omega
end
end
section
section
variable {p:aj}{M:jr}{hasP:Bool}
end
end
section
section
variable {p q:aj}{M:jr}{hasP:Bool}
def withW(p:aj)(ws:Sp)(l:List aa):aj:={ p with ws:=ws,eX:=l }
theorem LC{ws vs:Sp}{l m:List aa}(h:dx p=dx q)(hl:l.map aJ=m.map aJ):dx (withW p ws l)=dx (withW q vs m):=by
 unfold dx at h ⊢;unfold withW;injection h;simp only[*]
theorem ou.withW(h:ou p M hasP){ws:Sp}{l:List aa}(hz:∀(p':aj) iP iR iQ,oU p' M hasP iP iR iQ->∀k,k<=1->∀s∈l,jF (lF p' outside s k))(hl:aV l<=1200)(hc:∀f,MB hasP f->((eT l).map f).sum<=10000):ou (withW p ws l) M hasP :=
 ⟨⟨h.head.ok,h.head.iR,h.head.iF,h.head.aS,h.head.fB,h.head.ek,h.head.gp,h.head.fP,h.head.eD,h.head.eQ,h.head.blocksN,h.head.iQ,h.head.d9⟩,h.names,h.aA,hz,hl,hc,h.jb,h.eB⟩
end
end
def Ez(p:aj):aj:={ p with rs:=Sp.none,aA:=[] }
structure MJ(K:jq)(bq:Nat)(w5:World)(vs:Sp)(cur:List bO)(W:World):Prop where
 low:Below bq w5 W
 hs:bq<W.heap.size
 box:Bx bq W { Ez K.p with vs:=vs,gp:=cur }
 own:dz (bq+1) W 50 3 bO.cells (.slice vs.dO cur.length vs.df) cur
theorem MJ.below{K:jq}{bq:Nat}{D W W':World}{vs:Sp}{cur:List bO}(h:MJ K bq D vs cur W)(hb:Below W.heap.size W W'):MJ K bq D vs cur W' :=
 ⟨h.low.trans (hb.mono (dI h.hs)),aI h.hs hb.size,h.box.on hb,h.own.on hb⟩
structure SS(K:jq)(bq:Nat)(w5:World)(vs:Sp)(cur:List bO)(x:bO)(L:Nat->Bool)(w:World):Prop where
 a:L 7=false->L 9=false->MJ K bq w5 vs cur w
 b:L 9=false->Below bq w5 w/\bq<w.heap.size/\Bx bq w { Ez K.p with vs:=vs,gp:=cur }
 c:L 9=true->∃vs',MJ K bq w5 vs' (cur++[x]) w
theorem SS.flag{K:jq}{bq:Nat}{O w:World}{vs:Sp}{cur:List bO}{x:bO}{L:Nat->Bool}{k:Nat}(hk:k≠7/\k≠9)(h:SS K bq O vs cur x L w):SS K bq O vs cur x (pI L k) w:=by
 have U:pI L k 7=L 7:=av (Ne.symm hk.1);have D:pI L k 9=L 9:=av (Ne.symm hk.2);exact⟨by rw[U,D];exact h.a,by rw[D];exact h.b,by rw[D];exact h.c⟩
theorem SS.world{K:jq}{bq:Nat}{O w w':World}{vs:Sp}{cur:List bO}{x:bO}{L:Nat->Bool}(h:SS K bq O vs cur x L w)(U:L 7=false)(D:L 9=false)(hb:Below w.heap.size w w'):SS K bq O vs cur x L w':=by
 have v:=(h.a U D).below hb;exact⟨λ_ _=>v,λ_=>⟨v.low,v.hs,v.box⟩,λe=>(by rw[D]at e;cases e)⟩
def R16(i:Nat)(w w':World):Prop:=i=7\/i=9\/Below w.heap.size w w'
theorem UW{k:Nat}{P:Value->World->Prop}(h:∀{v:Value}{w w':World},Below w.heap.size w w'->P v w->P v w'):vD R16 k (λL v w=>L 7=false->L 9=false->P v w):=λi L v w w' _ U V D O=>by
 rcases U with rfl|rfl|U
 .rw[bU]at D;cases D
 .rw[bU]at O;cases O
 .exact h U (V (rA D) (rA O))
theorem UA{P:Value->World->Prop}(h:∀{v:Value}{w w':World},Below w.heap.size w w'->P v w->P v w'):vD R16 7 (λL v w=>L 9=false->P v w):=λi L v w w' hi O U D=>by
 rcases O with rfl|rfl|O
 .exact absurd rfl hi
 .rw[bU]at D;cases D
 .exact h O (U (rA D))
noncomputable def opsL16:Array Oper:=((Tryz.f16.body.bind (opsOf 16)).getD #[])
def GG(t:Nat):Bool:=decide (t<=46) || decide (56<=t)
theorem NF:jH opsL16 10 70 GG=true:=by kernel_rfl
theorem TD{a0:Act}{w0:World}{K:jq}(ap:a0.tmps.size=70)(bq i j:Nat)(V:World)(vs:Sp)(cur:List bO)(a6:fF K.p)(hi:i<K.p.aA.length)(hj:j<(K.p.aA[i]).bC.length)
  (f6:a0.tmps[6]?.getD undef=.pointer (some ⟨K.q,0,none⟩)) (f7:a0.tmps[7]?.getD undef=.pointer (some ⟨bq,0,none⟩)) (f8:a0.tmps[8]?.getD undef=.int .i64 (i:Nat)) (f10:a0.tmps[10]?.getD undef=.int .i64 (j:Nat))
  (a7:V.heap.size=bq) (hB:mK K V) (hV:MJ K bq V vs cur w0) (bd:cur.length+1<=1000000) :
  (Code.region 16 opsL16 true).wp Tryz.prog (λe' a w=>e'=.normal/\a.tmps.size=70/\a.defers=a0.defers/\(∀t:Nat,GG t=true->a.tmps[t]?.getD undef=a0.tmps[t]?.getD undef)/\∃aE,MJ K bq V aE (cur++[(wP K.p.aA[i] (K.p.aA[i]).bC[j])]) w) a0 w0:=by
 subst a7;refine fQ (n:=10) (sz:=70) (keep:=GG) rfl NF ap (SS K V.heap.size V vs cur (wP K.p.aA[i] (K.p.aA[i]).bC[j])) R16 ⟨λ_ _=>hV.below (ag _ _).drew,λ_=>⟨(hV.below (ag _ _).drew).low,(hV.below (ag _ _).drew).hs,(hV.below (ag _ _).drew).box⟩,λh=>(by cases h)⟩ ?_;have e:opsL16.toList=opsL16.toList:=rfl
 conv at e=>rhs;arg 1;whnf
 simp only at e;rw[e];clear e
 apply aQ.exact rfl rfl;exact λ_ _ h=>h.flag (by decide);exact λw=>.inr (.inr (ag _ w));rintro _ _ _ ⟨-,_,_,b,_⟩;simp[go_sem,(b 7 rfl).trans f7];exact rfl
 apply aQ.exact rfl rfl;exact λ_ _ h=>h.flag (by decide);exact λw=>.inr (.inr (ag _ w));rintro _ _ w ⟨-,c,d,_,e⟩;have ar:=aB (e.1 rfl).2;have hc:w.cell? ⟨V.heap.size,4,none⟩=some (.slice vs.dO cur.length vs.df):=(c.b (d 9 rfl)).2.2.cell 4 rfl;simp[go_sem,ar,hc];exact rfl
 apply aQ.exact rfl rfl;exact λ_ _ h=>h.flag (by decide);exact λw=>.inr (.inr (ag _ w));rintro _ _ _ ⟨-,_,_,b,_⟩;simp[go_sem,(b 6 rfl).trans f6];exact rfl
 apply aQ.exact rfl rfl;exact λ_ _ h=>h.flag (by decide);exact λw=>.inr (.inr (ag _ w));rintro _ _ _ ⟨-,_,_,b,_⟩;simp[go_sem,(b 8 rfl).trans f8];exact rfl
 apply aQ.exact rfl rfl;exact λ_ _ h=>h.flag (by decide);exact λw=>.inr (.inr (ag _ w));rintro _ _ _ ⟨-,_,_,b,_⟩;simp[go_sem,(b 10 rfl).trans f10];exact rfl
 refine aQ.any (λL v w=>v=.agg #[.string (kC K.p.aA[i] (K.p.aA[i]).bC[j]),.int .i64 ((K.p.aA[i]).bC[j]).aS,.int .i64 0]) rfl ?_ ?_ ?_
 .exact λ_ _ _ _ _ _ _ hP=>hP
 .rintro L a w ⟨hL,hS,D,ad,O⟩
  have aw:=aB (O.1 rfl).2;have a1:=aB (O.2.1 rfl).2;have a3:=aB (O.2.2.1 rfl).2;have hv:=hS.a (D 7 rfl) (D 9 rfl);refine Oper.wp_enter (f:=82) (args:=#[.pointer (some ⟨K.q,0,none⟩),.int .i64 (i:Nat),.int .i64 (j:Nat)]) (w':=w) ?_ ?_
  .simp[go_sem,aw,a1,a3]
  .refine(vz a6 w (hB.below hv.low) i j hi hj).mono ?_
   rintro o w' ⟨rfl,hb⟩;exact⟨_,rfl,_,rfl,λe=>(by cases e),rfl,(hS.flag (by decide)).world (by rw[av (by decide)];exact D 7 rfl) (by rw[av (by decide)];exact D 9 rfl) hb,.inr (.inr hb)⟩
 refine aQ.any (λL v w=>L 7=false->L 9=false->∃b,v=.slice (some ⟨b,0,none⟩) 1 1/\RowOf w.heap.size w ⟨some ⟨b,0,none⟩,1⟩ 3 bO.cells [(wP K.p.aA[i] (K.p.aA[i]).bC[j])]) rfl ?_ ?_ ?_
 .exact UW λhR hP=>hP.imp λb h2=>⟨h2.1,(h2.2.below hR).more hR.size⟩
 .rintro L a w ⟨hL,hS,D,ad,O⟩
  have a4:=aB (O.1 rfl).2;have an:=jc w (.cells #[.string (kC K.p.aA[i] (K.p.aA[i]).bC[j]),.int .i64 ((K.p.aA[i]).bC[j]).aS,.int .i64 0] 50);refine Oper.wp_value (v:=.slice (some ⟨w.heap.size,0,none⟩) 1 1) (w':=w.alloc (.cells #[.string (kC K.p.aA[i] (K.p.aA[i]).bC[j]),.int .i64 ((K.p.aA[i]).bC[j]).aS,.int .i64 0] 50)) ?_ ?_
  .simp[go_sem,a4]
  .exact⟨_,rfl,λe=>(by cases e),λ_ _=>⟨_,rfl,row_one (enc:=bO.cells) (x:=(wP K.p.aA[i] (K.p.aA[i]).bC[j])) (gM w _)⟩,(hS.flag (by decide)).world (by rw[av (by decide)];exact D 7 rfl) (by rw[av (by decide)];exact D 9 rfl) an,.inr (.inr an)⟩
 refine aQ.any (λL v w=>L 9=false->∃A c,v=.slice A (cur++[(wP K.p.aA[i] (K.p.aA[i]).bC[j])]).length c/\dz (V.heap.size+1) w 50 3 bO.cells (.slice A (cur++[(wP K.p.aA[i] (K.p.aA[i]).bC[j])]).length c) (cur++[(wP K.p.aA[i] (K.p.aA[i]).bC[j])])) rfl ?_ ?_ ?_
 .exact UA λhR hP=>hP.imp λA h=>h.imp λc h2=>⟨h2.1,h2.2.on hR⟩
 .rintro L a w ⟨hL,hS,D,ad,O⟩
  have hv:=hS.a hL (D 9 rfl);obtain⟨b,ba,ao⟩:=(O.2.1 rfl).2 hL (D 9 rfl);have aq:a.eval (.tmp 48)=.slice vs.dO cur.length vs.df:=(O.1 rfl).2;refine Oper.wp_append (.tmp 48) (.tmp 53) 24 rfl LX (λ_=>rfl) wG _ cur aq hv.own ⟨some ⟨b,0,none⟩,1⟩ [_] ba ao (by simp;omega) hv.hs ?_;intro v' w' ho hg be;obtain⟨A',c',rfl⟩:=ho.form;have ab:Below V.heap.size V w':=hv.own.below hg (ma _) hv.low hv.hs;have a8:Bx V.heap.size w' { Ez K.p with vs:=vs,gp:=cur }:=(hg.block _ hv.hs λe=>by
   obtain⟨h1,_⟩:=hv.own.iO e.symm;omega).trans hv.box
  have al:V.heap.size<w'.heap.size:=aI hv.hs hg.size;exact⟨_,rfl,λe=>(by cases e),λ_=>⟨A',c',rfl,ho⟩,⟨λh=>(by rw[bU]at h;cases h),λ_=>⟨ab,al,a8⟩,λh=>(by rw[av (by decide),D 9 rfl]at h;cases h)⟩,.inl rfl⟩
 apply aQ.exact rfl rfl;exact λ_ _ h=>h.flag (by decide);exact λw=>.inr (.inr (ag _ w));rintro _ _ _ ⟨-,_,_,b,_⟩;simp[go_sem,(b 7 rfl).trans f7];exact rfl
 refine aQ.any (λL v w=>True) rfl ?_ ?_ ?_
 .exact λ_ _ _ _ _ _ _ h=>h
 .rintro L a w ⟨hL,hS,D,ad,O⟩
  have a5:=aB (O.1 rfl).2;obtain⟨A,c,bc,ho⟩:=(O.2.1 rfl).2 hL;have am:a.tmps[54]?.getD undef=.slice A (cur++[(wP K.p.aA[i] (K.p.aA[i]).bC[j])]).length c:=aB bc;obtain⟨ab,al,hx⟩:=hS.b hL;have hc:=hx.cell 4 rfl;have a9:=hx.free 4;refine Oper.wp_skip (w':=w.setCell ⟨V.heap.size,4,none⟩ (.slice A (cur++[(wP K.p.aA[i] (K.p.aA[i]).bC[j])]).length c)) ?_ ?_
  .simp only[ay,aF,bK]at am ⊢
   simp[go_sem,a5,am,hc,a9]
  .refine⟨undef,rfl,λ_=>rfl,trivial,⟨λ_ h=>(by rw[bU]at h;cases h),λh=>(by rw[bU]at h;cases h),λ_=>⟨⟨A,c⟩,ab.setCell (p:=⟨V.heap.size,4,none⟩) (af _) _,by simpa using al,hx.put 4 _ (by simp[Ez,aj.arr,aj.cells,Sp.val]),ho.kept λg _ _ hg _=>aN _ _ _ _ (by show g≠V.heap.size;omega)⟩⟩,.inr (.inl rfl)⟩
 rintro L a w hL ⟨hS,U,_⟩;exact⟨rfl,U.1.trans ap,U.2.1,U.2.2,hS.c (hL 9 (by decide))⟩
structure Sq(K:jq)(G:Nat->Bool)(bq:Nat)(q:aj)(v:Value)(cur:List bO)(w0:World)(L:Nat->Bool)(w:World):Prop where
 kept:Below bq (mask K.bd w0) (mask K.bd w)
 size:w0.heap.size<=w.heap.size
 dn:Ah G K w
 own:dz (bq+1) w 50 3 bO.cells v cur
 box:∃(s1:Sp) (l1:List aa) (s2:Sp) (l2:List aa),Bx bq w { q with ws:=s1,eX:=l1,cs:=s2,eB:=l2 }/\(L 9=true->l1.map aJ=(fG K.p (eU K.p) K.p.eX).map aJ/\gq w.heap.size (fu G w) s1 l1)/\(L 11=true->l2.map aJ=(fG K.p (eU K.p) K.p.eB).map aJ/\gq w.heap.size (fu G w) s2 l2)
theorem Sq.flag{K:jq}{G:Nat->Bool}{bq:Nat}{q:aj}{v:Value}{cur:List bO}{w0:World}{L:Nat->Bool}{w:World}{k:Nat}(hk:k≠9/\k≠11)(h:Sq K G bq q v cur w0 L w):Sq K G bq q v cur w0 (pI L k) w:=by
 obtain⟨U,D,V,O,h1⟩:=h.box;exact⟨h.kept,h.size,h.dn,h.own,U,D,V,O,by rw[av (Ne.symm hk.1),av (Ne.symm hk.2)];exact h1⟩
theorem Sq.call{K:jq}{G:Nat->Bool}{bq:Nat}{q:aj}{v:Value}{cur:List bO}{w0:World}{L:Nat->Bool}{w w':World}{k:Nat}(hk:k≠9/\k≠11)(h:Sq K G bq q v cur w0 L w)(hm:Mk K.bd w w')(hd:Ah G K w')(hb:bq<=w0.heap.size):Sq K G bq q v cur w0 (pI L k) w':=by
 obtain⟨s1,l1,s2,l2,h1,U,V⟩:=h.box;have hi:=h.dn.isMap;refine⟨Below.trans h.kept (Below.mono hm (ai hb h.size)),ai h.size hm.size,hd,h.own.kept λg cs fr _ hh=>hm.heap (λe=>?_) (dM hh).1,s1,l1,s2,l2,?_⟩
 .obtain⟨_,_,O⟩:=hi
  rw[<-e,hh]at O;cases O
 .rw[av (Ne.symm hk.1),av (Ne.symm hk.2)]
  have D:=vK.mk (G:=G) hm hi;refine⟨(hm.heap ?_ h1.lt).trans h1,λe=>⟨(U e).1,(U e).2.move D.1 D.2⟩,λe=>⟨(V e).1,(V e).2.move D.1 D.2⟩⟩;rintro rfl;obtain⟨_,_,O⟩:=hi;have h7:w.heap[K.bd]?=_:=h1;rw[h7]at O;cases O
noncomputable def opsL19:Array Oper:=((Tryz.f16.body.bind (opsOf 19)).getD #[])
def GH(t:Nat):Bool:=decide (t<=57) || decide (68<=t)
theorem NG:jH opsL19 12 70 GH=true:=by kernel_rfl
theorem TE{a0:Act}{w0:World}{K:jq}{G:Nat->Bool}(bc:a0.tmps.size=70)(bp bq:Nat)(q:aj)(v:Value)(cur:List bO)
  (f1:a0.tmps[1]?.getD undef=.pointer (some ⟨bp,0,none⟩)) (f6:a0.tmps[6]?.getD undef=.pointer (some ⟨K.q,0,none⟩)) (f7:a0.tmps[7]?.getD undef=.pointer (some ⟨bq,0,none⟩))
  (a3:Bx bp w0 K.p) (aE:bp<bq) (a9:Bx bq w0 q) (hG:∀b,G b=decide (b=bq)) (hB:mK K w0) (V:K.q<bq/\K.bi<bq/\jT bq w0 K.p) (hD:Ah G K w0) (ba:dz (bq+1) w0 50 3 bO.cells v cur)
  (bw:rM K K.p.eX) (bt:rM K K.p.eB) :
  (Code.region 19 opsL19 true).wp Tryz.prog (λe a w=>e=.normal/\a.tmps.size=70/\a.defers=a0.defers/\(∀t:Nat,GH t=true->a.tmps[t]?.getD undef=a0.tmps[t]?.getD undef)/\Sq K G bq q v cur w0 (λ_=>true) w) a0 w0:=by
 have aw:bq<w0.heap.size:=a9.lt;have ao:=hD.isMap;have a7:G bq=true:=by rw[hG];simp
 have a8:∀b,G b=true->b<w0.heap.size:=λb hb=>by rw[hG]at hb;have:=dB hb;omega
 have hne:bp≠K.bd:=by
  rintro rfl;obtain⟨_,_,h6⟩:=ao;have h7:w0.heap[K.bd]?=_:=a3;rw[h7]at h6;cases h6
 refine fQ (n:=12) (sz:=70) (keep:=GH) rfl NG bc (Sq K G bq q v cur w0) (λ_ w w'=>vK G w w') ⟨bn ao.lt (ag _ _).drew,af _,hD.below (ag _ _).drew,ba.on (ag _ _).drew,q.ws,q.eX,q.cs,q.eB,a9,λh=>(by cases h),λh=>(by cases h)⟩ ?_;have e:opsL19.toList=opsL19.toList:=rfl
 conv at e=>rhs;arg 1;whnf
 simp only at e;rw[e];clear e
 apply aQ.exact rfl rfl;exact λ_ _ h=>h.flag (by decide);exact λw=>vK.refl _ w;rintro _ _ _ ⟨-,_,_,b,_⟩;simp[go_sem,(b 6 rfl).trans f6];exact rfl
 apply aQ.exact rfl rfl;exact λ_ _ h=>h.flag (by decide);exact λw=>vK.refl _ w;rintro _ _ _ ⟨-,_,_,b,_⟩;simp[go_sem,(b 1 rfl).trans f1];exact rfl
 apply aQ.exact rfl rfl;exact λ_ _ h=>h.flag (by decide);exact λw=>vK.refl _ w;rintro _ _ w ⟨-,b,_,_,c⟩;have bh:=aB (c.1 rfl).2;have a1:Bx bp w K.p:=(iB b.kept aE hne).trans a3;have cc:w.cell? ⟨bp,14,none⟩=some (.slice K.p.ws.dO K.p.eX.length K.p.ws.df):=a1.cell 14 rfl;simp[go_sem,bh,cc];exact rfl
 refine aQ.any (λL v w=>JQ G w v (fG K.p (eU K.p) K.p.eX)) rfl ?_ ?_ ?_
 .exact λ_ _ _ _ _ _ hR hP=>hP.on hR
 .rintro L a w ⟨hL,O,ap,a6,U⟩
  have be:=aB (U.1 rfl).2;have bj:=aB (U.2.1 rfl).2;have hi:=O.dn.isMap;have a5:∀b,G b=true->b<w.heap.size:=λb hb=>aI (a8 b hb) O.size
  have ab:bq<=w.heap.size:=ai (dI aw) O.size;have al:∀(x:Addr) (u:Value),x.block<bq->w0.cell? x=some u->(fu G w).cell? x=some u:=λx u hx hc =>
   kw.2 ⟨by rw[hG];exact az (by omega),(aM (iB O.kept hx (ao.no hc))).trans hc⟩
  have ad:gq bq w0 K.p.ws K.p.eX:=V.2.2.eX;refine Oper.wp_enter (f:=83) (args:=#[.pointer (some ⟨K.q,0,none⟩),.slice K.p.ws.dO K.p.eX.length K.p.ws.df]) (w':=w) ?_ ?_
  .simp[go_sem,be,bj]
  .refine(bw w K.p.ws G a5 (hB.of O.kept ao ab V) O.dn ((jT.cells V.2.2 al).more ab) ⟨(ad.row.cells al).more ab,λt ht=>((ad.ok t ht).cells al).more ab⟩).mono ?_
   rintro o w' ⟨D,m,rfl,hm,hr,aq,hd⟩;exact⟨_,rfl,_,rfl,λe=>(by cases e),⟨D,m,rfl,hm,hr⟩,O.call (by decide) aq hd (dI aw),.mk aq hi⟩
 apply aQ.exact rfl rfl;exact λ_ _ h=>h.flag (by decide);exact λw=>vK.refl _ w;rintro _ _ _ ⟨-,_,_,b,_⟩;simp[go_sem,(b 6 rfl).trans f6];exact rfl
 apply aQ.exact rfl rfl;exact λ_ _ h=>h.flag (by decide);exact λw=>vK.refl _ w;rintro _ _ _ ⟨-,_,_,b,_⟩;simp[go_sem,(b 1 rfl).trans f1];exact rfl
 apply aQ.exact rfl rfl;exact λ_ _ h=>h.flag (by decide);exact λw=>vK.refl _ w;rintro _ _ w ⟨-,b,_,_,c⟩;have bl:=aB (c.1 rfl).2;have a1:Bx bp w K.p:=(iB b.kept aE hne).trans a3;have cc:w.cell? ⟨bp,15,none⟩=some (.slice K.p.cs.dO K.p.eB.length K.p.cs.df):=a1.cell 15 rfl;simp[go_sem,bl,cc];exact rfl
 refine aQ.any (λL v w=>JQ G w v (fG K.p (eU K.p) K.p.eB)) rfl ?_ ?_ ?_
 .exact λ_ _ _ _ _ _ hR hP=>hP.on hR
 .rintro L a w ⟨hL,O,ap,a6,U⟩
  have bk:=aB (U.1 rfl).2;have bm:=aB (U.2.1 rfl).2;have hi:=O.dn.isMap;have a5:∀b,G b=true->b<w.heap.size:=λb hb=>aI (a8 b hb) O.size
  have ab:bq<=w.heap.size:=ai (dI aw) O.size;have al:∀(x:Addr) (u:Value),x.block<bq->w0.cell? x=some u->(fu G w).cell? x=some u:=λx u hx hc =>
   kw.2 ⟨by rw[hG];exact az (by omega),(aM (iB O.kept hx (ao.no hc))).trans hc⟩
  have ad:gq bq w0 K.p.cs K.p.eB:=V.2.2.eB;refine Oper.wp_enter (f:=83) (args:=#[.pointer (some ⟨K.q,0,none⟩),.slice K.p.cs.dO K.p.eB.length K.p.cs.df]) (w':=w) ?_ ?_
  .simp[go_sem,bk,bm]
  .refine(bt w K.p.cs G a5 (hB.of O.kept ao ab V) O.dn ((jT.cells V.2.2 al).more ab) ⟨(ad.row.cells al).more ab,λt ht=>((ad.ok t ht).cells al).more ab⟩).mono ?_
   rintro o w' ⟨D,m,rfl,hm,hr,aq,hd⟩;exact⟨_,rfl,_,rfl,λe=>(by cases e),⟨D,m,rfl,hm,hr⟩,O.call (by decide) aq hd (dI aw),.mk aq hi⟩
 apply aQ.exact rfl rfl;exact λ_ _ h=>h.flag (by decide);exact λw=>vK.refl _ w;rintro _ _ _ ⟨-,_,_,b,_⟩;simp[go_sem,(b 7 rfl).trans f7];exact rfl
 refine aQ.any (λL v w=>True) rfl ?_ ?_ ?_
 .exact λ_ _ _ _ _ _ _ h=>h
 .rintro L a w ⟨hL,O,ap,a6,U⟩
  have bo:=aB (U.1 rfl).2;obtain⟨D,m,hv,hm,hr⟩:=(U.2.1 rfl).2;have fv:a.tmps[61]?.getD undef=.slice D.dO m.length D.df:=aB hv;obtain⟨s1,l1,s2,l2,hx,_,an⟩:=O.box;have hfz:=hx.free 14;have a4:=hx.cell 14 rfl;have hk:=vK.set (G:=G) (w:=w) (i:=14) a7 (.slice D.dO m.length D.df);refine Oper.wp_skip (w':=w.setCell ⟨bq,14,none⟩ (.slice D.dO m.length D.df)) ?_ ?_
  .simp[go_sem,bo,fv,hfz,a4]
  .refine⟨undef,rfl,λ_=>rfl,trivial,⟨?_,by simpa using O.size,O.dn.move (by simp) (aN _ _ _ _ ?_) hk.2,O.own.kept λg _ _ hg _=>aN _ _ _ _ (by show g≠bq;omega),D,m,s2,l2,hx.put 14 _ (by simp[aj.arr,aj.cells,Sp.val]),λ_=>⟨hm,hr.move hk.1 hk.2⟩,λh=>⟨(an (by rwa [av (by decide)]at h)).1,(an (by rwa [av (by decide)]at h)).2.move hk.1 hk.2⟩⟩,hk⟩
   .exact Below.trans O.kept (bn O.dn.isMap.lt ((ag _ _).setCell (p:=⟨bq,14,none⟩) (af _) _))
   .rintro h;obtain⟨_,_,h6⟩:=O.dn.isMap;have h7:w.heap[bq]?=_:=hx;rw[show K.bd=bq from h,h7]at h6;cases h6
 apply aQ.exact rfl rfl;exact λ_ _ h=>h.flag (by decide);exact λw=>vK.refl _ w;rintro _ _ _ ⟨-,_,_,b,_⟩;simp[go_sem,(b 7 rfl).trans f7];exact rfl
 refine aQ.any (λL v w=>True) rfl ?_ ?_ ?_
 .exact λ_ _ _ _ _ _ _ h=>h
 .rintro L a w ⟨hL,O,ap,a6,U⟩
  have br:=aB (U.1 rfl).2;obtain⟨D,m,hv,hm,hr⟩:=(U.2.1 rfl).2;have fv:a.tmps[65]?.getD undef=.slice D.dO m.length D.df:=aB hv;obtain⟨s1,l1,s2,l2,hx,ar,_⟩:=O.box;have hfz:=hx.free 15;have a4:=hx.cell 15 rfl;have hk:=vK.set (G:=G) (w:=w) (i:=15) a7 (.slice D.dO m.length D.df);refine Oper.wp_skip (w':=w.setCell ⟨bq,15,none⟩ (.slice D.dO m.length D.df)) ?_ ?_
  .simp[go_sem,br,fv,hfz,a4]
  .refine⟨undef,rfl,λ_=>rfl,trivial,⟨?_,by simpa using O.size,O.dn.move (by simp) (aN _ _ _ _ ?_) hk.2,O.own.kept λg _ _ hg _=>aN _ _ _ _ (by show g≠bq;omega),s1,l1,D,m,hx.put 15 _ (by simp[aj.arr,aj.cells,Sp.val]),λh=>⟨(ar (by rwa [av (by decide)]at h)).1,(ar (by rwa [av (by decide)]at h)).2.move hk.1 hk.2⟩,λ_=>⟨hm,hr.move hk.1 hk.2⟩⟩,hk⟩
   .exact Below.trans O.kept (bn O.dn.isMap.lt ((ag _ _).setCell (p:=⟨bq,15,none⟩) (af _) _))
   .rintro h;obtain⟨_,_,h6⟩:=O.dn.isMap;have h7:w.heap[bq]?=_:=hx;rw[show K.bd=bq from h,h7]at h6;cases h6
 rintro L a w hL ⟨O,am,_⟩;obtain⟨s1,l1,s2,l2,hx,ar,an⟩:=O.box;exact⟨rfl,am.1.trans bc,am.2.1,am.2.2,O.kept,O.size,O.dn,O.own,s1,l1,s2,l2,hx,λ_=>ar (hL 9 (by decide)),λ_=>an (hL 11 (by decide))⟩
theorem PI(w:World)(p:aj)(hp:jT w.heap.size w p)(aw:0<w.heap.size)(hmx:MxAt w)(hN:ng p)(hwt:l9 p<=1125899906842624)(hh:(lc p).2=0->eF p<=20000) :
  Calls Tryz.prog 50 #[.agg p.arr] w λo w'=>o=.returned (if(lc p).2=0 then .tuple #[.int .i64 (lI p),.int .i64 0] else .tuple #[.int .i64 0,.int .i64 330])/\Below w.heap.size w w':=by
 have ad:=jc w (.cells p.arr 35);have hB:=gM w (.cells p.arr 35);have ab:=FX _ p (hp.on ad) (aI aw ad.size) hN hwt (hmx.below ad aw);have D:=dZ p;have HB:=ae hB;have U:=ae ad;have HP:=ae hp;by_cases e:(lc p).2=0
 .have HR:Hid (rH p):=ae ⟨hh e,hN,e⟩
  rw[aC e]at ab;rw[if_pos e];have am:=ae ab;clear ab hB ad hp hmx hN hwt hh e;obtain⟨an,O⟩:∃an,an=p.arr:=⟨_,rfl⟩;have ap:=ae O;rw[<-O]at am HB U D ⊢;clear O;go_enter Tryz.func50,Tryz.ntmps50
  go_wp2_with(first|(refine bH rfl 35 _ rfl (w.heap.size) rfl 35 _ (0,0) _ HB.o Tryz.underlying35 rfl D ?_)|fail)
  refine am.o.mono ?_;rintro o2 w2 ⟨rfl,al⟩;have ar:=(al.block _ (dM HB.o).1).trans HB.o;have a3:=ae ar;have V:=ae (U.o.trans (al.mono U.o.size));clear ar al;go_wp2_with(first|(refine bH rfl 35 _ rfl (w.heap.size) rfl 35 _ (0,0) _ a3.o Tryz.underlying35 rfl D ?_)|fail)
  have ao:=JH w2 p ((HP.o.below V.o).more V.o.size) HR.o;rw[<-ap.o]at ao;refine ao.mono ?_;clear ao;rintro o3 w3 ⟨rfl,aq⟩;have a1:=ae (V.o.trans (aq.mono V.o.size));clear aq;go_wp2_with fail
  go_ret2
  exact⟨rfl,a1.o⟩
 .rw[az e]at ab
  rw[if_neg e];have am:=ae ab;clear ab hB ad hp hmx hN hwt hh e;obtain⟨an,O⟩:∃an,an=p.arr:=⟨_,rfl⟩;rw[<-O]at am HB U D ⊢;clear O;go_enter Tryz.func50,Tryz.ntmps50
  go_wp2_with(first|(refine bH rfl 35 _ rfl (w.heap.size) rfl 35 _ (0,0) _ HB.o Tryz.underlying35 rfl D ?_)|fail)
  refine am.o.mono ?_;rintro o2 w2 ⟨rfl,al⟩;have V:=ae (U.o.trans (al.mono U.o.size));clear al;go_wp2_with fail
  go_ret2
  exact⟨rfl,V.o⟩
theorem Kv{p:aj}(h:eF p<=20000):p.eQ.length<=1000000/\∀x∈p.eQ,x.bv.pre.length<=1000000:=by
 have h1:(p.eQ.map λi=>1+i.bv.pre.length).sum<=20000:=by
  unfold eF at h;omega
 have D:∀l:List dH,l.length<=(l.map λi=>1+i.bv.pre.length).sum/\∀x∈l,x.bv.pre.length<=(l.map λi=>1+i.bv.pre.length).sum:=λl=>by
  induction l with
  |nil=>exact⟨af _,λ_ h=>by cases h⟩
  |cons y l V =>
   obtain⟨i1,U⟩:=V;simp only[ax,bL,aF];refine⟨by omega,λx hx=>?_⟩;rcases List.mem_cons.1 hx with rfl|hx
   .omega
   .have:=U x hx;omega
 obtain⟨h3,O⟩:=D p.eQ;exact⟨by omega,λx hx=>by have:=O x hx;omega⟩
def yE(q:bG):List bO:=q.bC.map (wP q)
theorem Mo(p:aj)(i:Nat)(hi:i<p.aA.length):(p.aA.take (i+1)).flatMap yE=(p.aA.take i).flatMap yE++yE p.aA[i]:=by
 rw[aG hi,bT,bA,dV,aP]
theorem Tw(p:aj)(i j:Nat)(hi:i<p.aA.length):(p.gp++(p.aA.take i).flatMap yE++(yE p.aA[i]).take j).length<=(p.gp++p.aA.flatMap yE).length:=by
 have e:p.aA.flatMap yE=(p.aA.take (i+1)).flatMap yE++(p.aA.drop (i+1)).flatMap yE:=by rw[<-bT,fA]
 rw[e,Mo p i hi];simp only[ay,dW];omega
theorem Fs(p:aj)(h:eF (pR p)<=20000):(p.gp++p.aA.flatMap yE).length<=20000:=by
 have e:(pR p).gp=p.gp++p.aA.flatMap yE:=rfl;rw[<-e];unfold eF at h;omega
theorem KG{p:aj}(h:eF (pR p)<=20000):aV (fG p (eU p) p.eX)<=20000/\aV (fG p (eU p) p.eB)<=20000:=by
 rw[CU]at h;omega
theorem TP{n:Nat}{W:World}{p:aj}(O:fF p)(hp:jT n W p):∀d∈p.gp++p.aA.flatMap yE,Gb d:=λd D=>by
 rcases List.mem_append.1 D with D|D
 .exact hp.gp.ok d D
 .obtain⟨q,hq,D⟩:=List.mem_flatMap.1 D
  obtain⟨x,hx,rfl⟩:=List.mem_map.1 D;obtain⟨i,hi,rfl⟩:=gm hq;obtain⟨j,U,rfl⟩:=gm hx;exact⟨JG O hi U,((hp.aA _ hq).bC.ok _ hx).2.1,rfl⟩
def RH(p:aj)(vs U V:Sp)(D O:List aa):aj:={ ({ Ez p with vs:=vs,gp:=p.gp++p.aA.flatMap yE }:aj)with ws:=U,eX:=D,cs:=V,eB:=O }
theorem NL(p:aj){vs V s2:Sp}{D O:List aa}(h1:D.map aJ=(fG p (eU p) p.eX).map aJ)(U:O.map aJ=(fG p (eU p) p.eB).map aJ):dx (RH p vs V s2 D O)=dx (pR p):=by
 unfold dx RH Ez pR;simp only[h1,U]
 rfl
theorem RI{n:Nat}{W W':World}{p:aj}{vs V s2:Sp}{O U:List aa}(hR:fF p)(hp:jT n W p)(hc:∀(a:Addr) (u:Value),a.block<n->W.cell? a=some u->W'.cell? a=some u)(hs:n<=W'.heap.size)(hv:RowOf W'.heap.size W' vs 3 bO.cells (p.gp++p.aA.flatMap yE))(h1:gq W'.heap.size W' V O)(h2:gq W'.heap.size W' s2 U):jT W'.heap.size W' (RH p vs V s2 O U):=by
 have ho:=TP hR hp;obtain⟨b1,b2,b3,b4,_,b6,b7,b8,b9,_,_,_,_,D⟩:=(jT.cells hp hc).more hs;exact⟨b1,b2,b3,b4,⟨hv,ho⟩,b6,b7,b8,b9,RowOf.nil,λ_ h=>(by cases h),h1,h2,D⟩
theorem Mf(w:World)(p:aj)(hp:jT w.heap.size w p)(db:0<w.heap.size)(hmx:MxAt w)(hr:rH p)(hwt:lI p<=20000) :
  Calls Tryz.prog 16 #[.agg p.arr] w λo w'=>∃q:aj,o=.returned (.tuple #[.agg q.arr,.int .i64 0])/\dx q=dx (pR p)/\jT w'.heap.size (gP w.heap.size w') q/\Below w.heap.size w w':=by
 obtain⟨cH,cJ,dk,aw⟩:=pX w (.cells p.arr 35) (.cells ed.arr 35);have cl:=PI _ p (hp.on aw) (aI db aw.size) (hmx.below aw db) hr.names hr.weight λ_=>hr.kv
 rw[if_pos hr.chk]at cl;have ab:p.aA.length<=1000:=by
  by_cases h:p.aA=[]
  .rw[h];exact aH _
  .have:=(hr.right.few h).1;omega
 have cg:=ae λ(W:World) (hW:Below w.heap.size w W)=>yA W p (hp.on hW) ab
 have HF:Hid (eF (pR p)<=20000):=ae (by have:=qy hr.right;omega);have ep:decide (20000<lI p)=false:=az (by omega);have V:=dZ p;have cj:=ae cl;have HB:=ae cH;have HZ:=ae cJ;have bh:=ae aw;have HP:=ae hp;have HR:=ae hr.right;have d3:=ae ab;have d7:Hid (p.gp.length<=1000000):=ae (by have:=hr.kv;unfold eF at this;omega);clear cl cH cJ aw hp hr hmx hwt ab;generalize lI p=wI at *;obtain⟨ao,ar⟩:∃ao,ao=p.arr:=⟨_,rfl⟩;have ad:=ae ar;rw[<-ar]at cj HB HZ bh V dk cg ⊢;clear ar;go_enter Tryz.func16,Tryz.ntmps16
 go_wp2_with(first
  |(refine bH rfl 35 _ rfl (w.heap.size) rfl 35 _ (0,0) _ HB.o Tryz.underlying35 rfl V ?_)
  |(refine dY (t:=35) rfl rfl (jQ _) ?_)
  |fail)
 refine cj.o.mono ?_;rintro o w2 ⟨rfl,bt⟩;generalize (w.alloc (.cells ao 35)).alloc (.cells ed.arr 35)=w1 at *;have dp:=(bt.block _ (dM HB.o).1).trans HB.o;have dt:=(bt.block _ (dM HZ.o).1).trans HZ.o;have bm:=ae dp;have br:=ae dt;have bj:=ae (bh.o.trans (bt.mono bh.o.size));clear dp dt bt HB HZ bh cj;go_wp2_with(first|(refine bH rfl 35 _ rfl (w.heap.size) rfl 35 _ (0,0) _ bm.o Tryz.underlying35 rfl V ?_)|fail)
 refine(cg.o w2 bj.o).mono ?_;rintro o D ⟨K,ee,rfl,b1,-,cT,bw,cM,b2⟩;subst ee;have an:=(bw.block _ (dM bm.o).1).trans bm.o;have co:=(bw.block _ (dM br.o).1).trans br.o;have b8:=(dM an).1;have du:=(dM co).1;have a3:=bj.o.trans (bw.mono bj.o.size);have de:=(dM b1.blk).1;have cV:K.bi<D.heap.size:=by obtain⟨_,h⟩:=b1.idx;exact h.lt
 have bo:Hid (Bx w.heap.size D K.p):=ae (by unfold Bx;rw[<-ad.o];exact an);have dT:=ae co;have cd:=ae a3;have bk:=ae (HP.o.on a3);have cx:=ae b1;have cf:=ae cT;have ce:Hid (w.heap.size+2<=w2.heap.size/\w2.heap.size<=K.bd):=ae ⟨by have:=(dM br.o).1;omega,cM⟩;have c6:=ae (And.intro de cV);obtain⟨wz,b7⟩:∃wz,wz=D.alloc (.cells ed.arr 35):=⟨_,rfl⟩;have cP:Below D.heap.size D wz:=by rw[b7];exact(ag _ _).alloc (af _) _
 have hZ:wz.heap[D.heap.size]?=some (.cells ed.arr 35 (0,0)):=by rw[b7];exact gM _ _
 have ck:=ae hZ;have c0:=ae cP;have cD:=ae b7;clear an bw a3 co b1 cT cM b2 de cV cP hZ b7 bm br bj cg;have an:=bo.o;unfold Bx at an;rw[<-ad.o]at an;have cF:=ae an;clear an;go_upto_region 8 with (first
  |(refine bH rfl 35 _ rfl (w.heap.size) rfl 35 _ (0,0) _ cF.o Tryz.underlying35 rfl V ?_)
  |(refine dY (t:=35) rfl rfl (jQ _) ?_;rw[<-cD.o])
  |(refine aK rfl 35 _ _ rfl D.heap.size ao (by rfl) (by rfl) 35 ed.arr ck.o V (by rw[ad.o];kernel_rfl) (by rw[ad.o];exact lX K.p) ?_)
  |fail)
 have b4:Bx D.heap.size (wz.setRow D.heap.size ao) K.p:=by unfold Bx;rw[<-ad.o];exact bM _ _ _ _ _ _ ck.o
 have cN:Below D.heap.size D (wz.setRow D.heap.size ao):=below_setRow c0.o (af _);generalize wz.setRow D.heap.size ao=w4 at *;have cQ:=b4.cell 13 rfl;have cU:=b4.free 13;have dd:Bx D.heap.size (w4.setCell ⟨D.heap.size,13,none⟩ (.slice none 0 0)) (Ez K.p):=b4.put 13 _ (by simp[Ez,aj.arr,aj.cells,Sp.val,Sp.none]);have b2:Below D.heap.size D (w4.setCell ⟨D.heap.size,13,none⟩ (.slice none 0 0)):=cN.setCell (p:=⟨D.heap.size,13,none⟩) (af _) _;have ch:=ae dd;have aq:=ae b2;clear b4 cN dd b2 ck c0 cD cF;go_upto_region 9 with fail
 clear cQ cU;generalize w4.setCell ⟨D.heap.size,13,none⟩ (.slice none 0 0)=w5 at *;have dq:Bx w.heap.size w5 K.p:=(aq.o.block _ b8).trans bo.o;have cv:w5.cell? ⟨w.heap.size,4,none⟩=some (.slice K.p.vs.dO K.p.gp.length K.p.vs.df):=dq.cell 4 rfl;have c3:=ae (p9 w5 K.p.vs K.p.gp w5.heap.size ((bk.o.gp.row.below aq.o).more aq.o.size) d7.o);clear dq;go_wp2_with fail
 refine c3.o.mono ?_;clear cv;rintro o w6 ⟨⟨v,rfl,ho⟩,b0⟩;obtain⟨A,c,rfl⟩:=ho.form;have cY:=ch.o.lt;have b5:Bx D.heap.size w6 (Ez K.p):=ch.o.on b0;have ef:=b5.cell 4 rfl;have eg:=b5.free 4;have a8:Below D.heap.size D w6:=aq.o.trans (b0.mono aq.o.size);have dn:MJ K D.heap.size D ⟨A,c⟩ K.p.gp (w6.setCell ⟨D.heap.size,4,none⟩ (.slice A K.p.gp.length c)):=
  ⟨a8.setCell (p:=⟨D.heap.size,4,none⟩) (af _) _,by have:=b0.size;simp;omega,b5.put 4 _ (by simp[Ez,aj.arr,aj.cells,Sp.val]),(ho.less (Nat.succ_le_of_lt cY)).kept λg _ _ hg _=>aN _ _ _ _ (by show g≠D.heap.size;omega)⟩
 have ci:=ae dn;clear ho b0 b5 a8 dn c3 ch aq cY;go_upto_region 10 with fail
 clear ef eg;generalize w6.setCell ⟨D.heap.size,4,none⟩ (.slice A K.p.gp.length c)=w7 at *;have eb:w7.cell? ⟨w.heap.size,13,none⟩=some (.slice K.p.rs.dO K.p.aA.length K.p.rs.df):=((bo.o.on (w':=D) (ag _ _)) |> λh=>Bx.cell (w:=w7) ((ci.o.low.block _ b8).trans h) 13 rfl);go_upto_region 11 with fail
 clear eb;go_loopw[36] (λcq wr=>∃(i:Nat) (vs:Sp),i<=K.p.aA.length/\cq=.int .i64 i/\MJ K D.heap.size D vs (K.p.gp++(K.p.aA.take i).flatMap yE) wr) (λcq _=>K.p.aA.length - (intOf cq).toNat)
 case atStart=>exact⟨0,⟨A,c⟩,aH _,rfl,by rw[iY,dV,aP];exact ci.o⟩
 case round =>
  obtain⟨i,vs,hi,rfl,hv⟩:=hrel;clear ci;have HV:=ae hv;have eh:(0:Int)<=(i:Int):=by omega
  clear hv;by_cases ab:i<K.p.aA.length
  .obtain⟨g,o,eA,_,hc⟩:=(bk.o.prow.below HV.o.low).row (by omega)
   have a4:=hc i ab;have eq:(i:Int)<(K.p.aA.length:Int):=by omega
   have cn:=Mo K.p i ab;have b6:=λj=>ai (Tw K.p i j ab) (Fs K.p HF.o)
   obtain⟨q,hq⟩:∃q,K.p.aA[i]=q:=⟨_,rfl⟩;rw[hq]at a4 cn;simp only[hq]at b6;have d6:=ae cn;have d8:=ae b6;have d4:Hid (q.bC.length<=20000):=ae (by
    have h1:=b6 q.bC.length;simp only[ay,dW,yE,cZ]at h1;omega)
   have HQ:Hid (∃h:i<K.p.aA.length,K.p.aA[i]'h=q):=ae ⟨ab,hq⟩;clear hc ab hq cn b6;have k0:=a4 0 _ rfl;rw[bS]at k0;have k1:wr.cell? ⟨g,o+i*3+1,none⟩=some (.slice q.ps.dO q.bC.length q.ps.df):=a4 1 _ rfl;have k2:wr.cell? ⟨g,o+i*3+2,none⟩=some (.slice q.bs.dO q.eY.length q.bs.df):=a4 2 _ rfl;have cL:=jc wr (.cells q.r 54);have cC:=ae (HV.o.below cL);have eo:(0:Int)<=(q.bC.length:Int):=by omega
   clear a4 cL;rw[eA];clear eA;go_upto_region 14 with fail
   clear k0 k1 k2;generalize wr.alloc (.cells q.r 54)=W8 at *;generalize wr.heap.size=b9 at *;go_loopw[44] (λcr wq=>∃(j:Nat) (be:Sp),j<=q.bC.length/\cr=.int .i64 j/\MJ K D.heap.size D be (K.p.gp++(K.p.aA.take i).flatMap yE++(yE q).take j) wq) (λcr _=>q.bC.length - (intOf cr).toNat)
   case atStart=>exact⟨0,vs,aH _,rfl,by rw[iY,aP];exact cC.o⟩
   case round =>
    clear cC;obtain⟨j,be,hj,rfl,dl⟩:=hrel;have bl:=ae dl;have ei:(0:Int)<=(j:Int):=by omega
    clear dl;by_cases al:j<q.bC.length
    .as_aux_lemma =>
      have et:(j:Int)<(q.bC.length:Int):=by omega
      have HJ:=ae al;have d2:Hid (i<K.p.aA.length):=ae HQ.o.1;have c5:Hid (K.p.aA[i]'d2.out=q):=ae (by obtain⟨_,h⟩:=HQ.o;exact h);have d1:Hid (j<(K.p.aA[i]'d2.o).bC.length):=ae (by rw[c5.o];exact al);have cA:Hid ((yE q).take (j+1)=(yE q).take j++[wP (K.p.aA[i]'d2.o) ((K.p.aA[i]'d2.o).bC[j]'d1.o)]):=ae (by
       have h:=c5.o;rw[aG (show j<(yE q).length by simp[yE];exact al)]
       congr 2
       simp only[yE,List.getElem_map,h])
      clear al;go_upto_region 16 with fail
      refine dK ?_ (kD (C':=.region 16 opsL16 true) (by kernel_rfl) (TD (K:=K) rfl D.heap.size i j D be _ HR.o d2.o d1.o rfl rfl rfl rfl rfl cx.o bl.o (by
       have h1:=d8.o j;omega)))
      rintro ex a9 w9 ⟨rfl,am,a5,a7,dv,cI⟩;obtain⟨F,hF,a6⟩:=nu am a5 a7 rfl [47,48,49,50,51,52,53,54,55] rfl;rw[a6];simp only[Oz,OA,OB,Oy,OC];clear hF a6 a7 am a5;have O:Hid (MJ K D.heap.size D dv (K.p.gp++(K.p.aA.take i).flatMap yE++(yE q).take (j+1)) w9):=ae (by rw[cA.o,<-aY];exact cI);clear cI cA bl;have ev:=d4.o;go_wp2_with fail
      exact⟨⟨j+1,dv,HJ.o,rfl,O.o⟩,by have:=HJ.o;simp only[intOf];omega⟩
    .as_aux_lemma =>
      obtain rfl:j=q.bC.length:=by omega
      have O:Hid (MJ K D.heap.size D be (K.p.gp++(K.p.aA.take (i+1)).flatMap yE) wr):=ae (by
       have h:=bl.o;have e:(yE q).take q.bC.length=yE q:=List.take_of_length_le (by simp[yE]);rw[e,aY]at h;rw[d6.o];exact h)
      clear bl al hj ei;have er:=d3.o;go_wp2_with fail
      exact⟨⟨i+1,be,HQ.o.1,rfl,O.o⟩,by have:=HQ.o.1;simp only[intOf];omega⟩
  .as_aux_lemma =>
    obtain rfl:i=K.p.aA.length:=by omega
    have O:Hid (MJ K D.heap.size D vs (K.p.gp++K.p.aA.flatMap yE) wr):=ae (by
     have h:=HV.o;rw[List.take_of_length_le (af _)]at h;exact h)
    clear HV ab hi eh;obtain⟨cW,cX⟩:=KG HF.o;have c7:=ae (Mq HR.o cW (qH HR.o HR.o.eX) (ru HR.o HR.o.eX));have c8:=ae (Mq HR.o cX (qH HR.o HR.o.eB) (ru HR.o HR.o.eB));clear cW cX;go_upto_region 19 with fail
    refine dK ?_ (kD (C':=.region 19 opsL19 true) (by kernel_rfl) (TE (K:=K) (G:=λb=>decide (b=D.heap.size)) rfl w.heap.size D.heap.size _ _ _ rfl rfl rfl ((O.o.low.block _ b8).trans bo.o) b8 O.o.box (λ_=>rfl) (cx.o.below O.o.low) ⟨c6.o.1,c6.o.2,bk.o.below O.o.low⟩ ((cf.o _).below O.o.low) O.o.own c7.o c8.o));rintro ex a9 w9 ⟨rfl,am,a5,a7,b3,dj,cS,dc,s1,l1,s2,l2,dr,h1,h2⟩;obtain⟨F,hF,a6⟩:=nu am a5 a7 rfl [58,59,60,61,62,63,64,65,66,67] rfl;rw[a6];simp only[Oz,OA,OB,Oy,OC];clear hF a6 a7 am a5;obtain⟨pf,ba⟩:∃pf:aj,pf=RH K.p vs s1 s2 l1 l2:=⟨_,rfl⟩;have cc:Bx D.heap.size w9 pf:=by rw[ba];exact dr
    obtain⟨m1,r1⟩:=h1 rfl;obtain⟨m2,r2⟩:=h2 rfl;have da:=(cf.o λb=>decide (b=D.heap.size)).isMap;have ej:=((cf.o λb=>decide (b=D.heap.size)).below O.o.low).isMap;have cR:∀(a:Addr) (u:Value),a.block<D.heap.size->D.cell? a=some u->w9.cell? a=some u:=λa u ha hc =>
     (aM (iB b3 ha (da.no hc))).trans ((O.o.low.cell ha).trans hc)
    have dg:D.heap.size<=w9.heap.size:=ai O.o.low.size dj;have hne:∀b,b<w2.heap.size->b≠K.bd:=λb hb=>by have:=ce.o.2;omega
    have aE:Below w.heap.size w w9:=(cd.o.trans (O.o.low.mono cd.o.size)).trans (nG (by have:=ce.o;omega) (Below.mono b3 cd.o.size));have cp:w9.heap[w.heap.size+1]?=some (.cells ed.arr 35 (0,0)):=(iB b3 du (hne _ (by have:=ce.o.1;omega))).trans ((O.o.low.block _ du).trans dT.o);have cb:RowOf w9.heap.size w9 vs 3 bO.cells (K.p.gp++K.p.aA.flatMap yE):=RowOf.cells (dc.low (B2:=0) (λ_=>rfl) (by have:=Fs K.p HF.o;omega) (aH _)) qg;have bc:jT w9.heap.size w9 pf:=by
     rw[ba];exact RI HR.o bk.o cR dg cb ⟨r1.row.cells G6,λt ht=>(r1.ok t ht).cells G6⟩ ⟨r2.row.cells G6,λt ht=>(r2.ok t ht).cells G6⟩
    have U:dx pf=dx (pR K.p):=by rw[ba];exact NL K.p m1 m2
    have ap:eF pf<=20000:=by rw[<-qf,U,qf];exact HF.o
    have c4:=ae (MQ w9 pf bc ap (Kv ap) (by rw[ba];rfl));have cE:=ae cc;have cG:=ae cp;have cw:=ae aE;have cy:=ae U;have cm:=(dM cp).1;clear ba dr cc h1 h2 m1 m2 r1 r2 da ej cR dg hne aE cp cb bc U ap b3 dj cS dc c7 c8 O;go_wp2_with(first|(refine bH rfl 35 _ rfl D.heap.size rfl 35 _ (0,0) _ cE.o Tryz.underlying35 rfl (dZ _) ?_)|fail)
    refine c4.o.mono ?_;rintro o en ⟨p',rfl,U,bc,a1⟩;have ca:=ae ((a1.block _ cm).trans cG.o);have ct:=ae (cw.o.trans (a1.mono cw.o.size));have d5:=ae bc;have dy:=ae (U.trans cy.o);clear U bc a1 cE cG c4 cy;go_wp2_with(first
     |(refine aK rfl 35 _ _ rfl (w.heap.size+1) p'.arr (by rfl) (by rfl) 35 ed.arr ca.o (dZ _) (by kernel_rfl) (lX _) ?_)
     |fail)
    have em:(en.setRow (w.heap.size+1) p'.arr).heap[w.heap.size+1]?=some (.cells p'.arr 35 (0,0)):=D7 ca.o p'.arr;refine aW (Ce rfl _ _ (w.heap.size+1) 35 _ (0,0) _ rfl em Tryz.underlying35 rfl (dZ _)) rfl ⟨p',rfl,dy.o,?_,below_setRow ct.o (ma _)⟩;rw[eP];refine d5.o.cells λa u _ hc=>?_
    obtain⟨k1,k2⟩:=bJ.1 hc;exact bJ.2 ⟨by omega,(cell_setRow_other _ _ _ _ (by omega)).trans k2⟩
theorem Im(f:ByteArray->Nat):∀{l:List aa}{s:aa},s∈l->((eT [s]).map f).sum<=((eT l).map f).sum
 |t::l,s,D=>by
  rw[gZ,gZ,bA,bA,dV,aP,aO,fo];rcases List.mem_cons.1 D with rfl|D
  .omega
  .have h:=Im f D
   rw[gZ,gZ,bA,dV,aP]at h;omega
theorem Md:∀{l:List aa}{s:aa},s∈l->aV [s]<=aV l
 |t::l,s,D=>by
  rw[fq s [],fq t l];rcases List.mem_cons.1 D with rfl|D
  .show _+0<=_;omega
  .have h:=Md D
   rw[fq s []]at h;omega
theorem PK{p:aj}{M:jr}{hasP:Bool}(h:ou p M hasP){ws:Sp}{s:aa}(D:s∈p.eX):ou (withW p ws [s]) M hasP :=
 h.withW (λp' iP iR iQ ht k hk t ht'=>by rw[List.mem_singleton.1 ht'];exact h.workZ p' iP iR iQ ht k hk s D) (ai (Md D) h.workL) λf hf=>ai (Im f D) (h.workC f hf)
theorem Nc{p:aj}{M:jr}{hasP:Bool}(h:ou p M hasP){ws sp:Sp}:ou (withW p ws [dN sp bQ [aZ bV,cO 1 1]]) M hasP :=
 h.withW (λp' iP iR iQ ht k hk t ht'=>by rw[List.mem_singleton.1 ht'];exact ht.callQ (by decide) (by omega) sp) (by rw[fq];simp only[dN,aZ,cO,ny,jD,jM,gu,nD];decide) λf hf=>by
  have e:eT [dN sp bQ [aZ bV,cO 1 1]]=[bQ]:=rfl;rw[e];have:=hf.2.2;simp only[ax,dh,bL,fH];omega
theorem Rt{p:aj}{M:jr}{hasP:Bool}(h:ou p M hasP)(D:∀(p':aj) iP iR iQ,oU p' M hasP iP iR iQ->∀k,k<=20->∀s∈p.eX,jF (lF p' outside s k))(hl:aV p.eX<=1100)(hc:∀f,MB hasP f->((eT p.eX).map f).sum<=9990){ws es ts os sp:Sp}:ou (withW p ws [.mk 6 ⟨#[]⟩ es [aZ bV] 0 ts [dN sp bQ [aZ bV,cO 1 1]] os p.eX]) M hasP:=by
 refine h.withW (λp' iP iR iQ ht k hk t ht'=>?_) ?_ λf hf=>?_
 .rw[List.mem_singleton.1 ht',iH]
  refine .cons (ig rfl rfl (by omega)) ?_;simp only[aa.bf,aa.gy,aa.iD,jL];have hE:=uJ ht.head ht.ok (-1);refine(ht.v.codes ht.head.ok hE 1 (by decide)).append (.append (nU λs O=>?_) (nU λs O=>?_))
  .rw[List.mem_singleton.1 O];exact ht.callQ (by decide) (by omega) sp
  .exact D p' iP iR iQ ht (k+1) (by omega) s O
 .rw[fq,ny]
  simp only[dN,aZ,cO,ny,jD,jM,gu,fq,nD];simp;omega
 .have e:eT [.mk 6 ⟨#[]⟩ es [aZ bV] 0 ts [dN sp bQ [aZ bV,cO 1 1]] os p.eX]=bQ::eT p.eX:=by
   simp[eT,jX,dN]
  rw[e];have h1:=hf.2.2;have U:=hc f hf;simp only[ax,bL];omega
theorem IY{p:aj}{M:jr}{hasP:Bool}(h:xW M hasP p)(D:Nat):aV (uP p hasP D).eX<=1100/\∀f,MB hasP f->((eT (uP p hasP D).eX).map f).sum<=9990:=by
 have O:(uP p hasP D).eX=p.eX++qK D:=rfl;refine⟨?_,λf hf=>?_⟩
 .have h3:=qa (k:=218) λs U=>(h.eX s U).few
  have h5:=h.lT;have h7:=FB D;rw[O,ku];omega
 .have V:=Hr hf 2 5 p.eX h.lT h.eX
  have w3:((eT (qK D)).map f).sum<=240:=by
   have a:=hf.2.1;have b:=hf.2.2;unfold qK
   split
   .show f bR+0<=240
    omega
   .split
    .show f bQ+0<=240
     omega
    .show 0<=240
     decide
  simp only[Eh]at V;rw[O,y8,aO,fo];omega
def xK(p:aj)(l:List aa):List aa:=(fG p (eU p) l).map aJ
theorem Py(p:aj):(pR p).eX.map aJ=xK p p.eX:=rfl
theorem zl{p q:aj}(h:p.aA.map gF=q.aA.map gF){l m:List aa}(hl:l.map aJ=m.map aJ):xK p l=xK q m:=by
 have D:p.aA.length=q.aA.length:=by have:=congrArg List.length h;simpa using this
 exact xg h (λi=>by unfold eU;rw[D];exact yc h _ i) hl
theorem Px{p:aj}{ws:Sp}{l:List aa}:(pR (withW p ws l)).eX.map aJ=xK p l:=by
 rw[Py];exact zl (p:=withW p ws l) (q:=p) rfl rfl
theorem Rs(p:aj):xK p []=[]:=by unfold xK;rw[fG];rfl
theorem Dr(p:aj)(a b:List aa):xK p (a++b)=xK p a++xK p b:=by unfold xK;rw[wm,aO]
theorem Pw(p:aj)(l:List aa)(k:Nat)(h:k<l.length):xK p (l.take (k+1))=xK p (l.take k)++xK p [l[k]]:=by
 rw[<-List.take_append_getElem h,Dr]
theorem Tk(p:aj){es ts os:Sp}{ex:List ah}{th el:List aa}:xK p [.mk 6 ⟨#[]⟩ es ex 0 ts th os el]=[.mk 6 ⟨#[]⟩ Sp.none (ex.map bX) 0 Sp.none (xK p th) Sp.none (xK p el)]:=by
 unfold xK;rw[fG,fG,inT,if_neg (by decide),aP,ax,dh,dS]
def Ab(w:Int):List aa:=[ji Sp.none ⟨#[113,46,121]⟩ (aZ bV),ji Sp.none ⟨#[113,46,122]⟩ (cO 1 1),fw Sp.none (aZ ⟨#[113,46,122]⟩) (rU 3 (aZ ⟨#[113,46,121]⟩) (cO 1 w) Sp.none),ji Sp.none ⟨#[113,46,121]⟩ (cO 0 w)]
theorem Pt{p:aj}{w:Int}(hq:fU p (dG p bQ)=qV w){sp:Sp}:xK p [dN sp bQ [aZ bV,cO 1 1]]=(Ab w).map aJ:=by
 have hb:eU p (dG p bQ)=Ld (qV w) (fG p (j5 p p.aA.length) (qV w).eY):=by
  unfold eU;rw[j5,hq]
 unfold xK dN;rw[fG,fG,inT,if_pos rfl,hq,hb,aP]
 rfl
theorem Tm{p:aj}{M:jr}{hasP:Bool}(h:ou p M hasP):fU p (dG p bQ)=qV M.w:=by
 obtain⟨⟨iP,iR,iQ,T⟩,_⟩:=h.th;have D:=h.good.right;obtain⟨hl,O⟩:=List.getElem?_eq_some_iff.1 T.q;have e:dG p bQ=iQ:=by
  have:=(uo D iQ hl).1;rw[O]at this;exact this
 rw[e];unfold fU;rw[T.q]
 rfl
theorem zo{p:aj}{M:jr}{hasP:Bool}(h:ou p M hasP){es ts os sp:Sp}:xK p [dN sp bQ [aZ bV,cO 1 1]]=(Ab M.w).map aJ/\xK p [.mk 6 ⟨#[]⟩ es [aZ bV] 0 ts [dN sp bQ [aZ bV,cO 1 1]] os p.eX]=[.mk 6 ⟨#[]⟩ Sp.none [bX (aZ bV)] 0 Sp.none ((Ab M.w).map aJ) Sp.none (xK p p.eX)]:=by
 have e:=Pt (Tm h) (sp:=sp);exact⟨e,by rw[Tk,e];rfl⟩
def UR:List aa:=[dN Sp.none ⟨#[113]⟩ [cO 3 2]]
def Pb:bG:=⟨⟨#[113]⟩,Sp.none,[⟨⟨#[121]⟩,2,0⟩],Sp.none,[dN Sp.none ⟨#[112]⟩ [rU 3 (aZ ⟨#[121]⟩) (cO 1 2) Sp.none],dN Sp.none ⟨#[112]⟩ [aZ ⟨#[121]⟩]]⟩
def OG:bG:=⟨⟨#[112]⟩,Sp.none,[⟨⟨#[120]⟩,2,0⟩],Sp.none,[fw Sp.none (cO 0 1) (aZ ⟨#[120]⟩)]⟩
def vJ:aj:=QE Sp.none Sp.none Sp.none UR [Pb,OG]
theorem I6(x wd:Int)(w:World):Calls Tryz.prog 34 #[.int .u32 x,.int .i64 wd] w λo w'=>o=.returned (.agg #[.int .u8 1,.int .u8 0,.int .u32 x,.int .i64 wd,.string ⟨#[]⟩,.slice none 0 0])/\Below w.heap.size w w':=pG x wd w
theorem BJ(s:ByteArray)(w:World):Calls Tryz.prog 33 #[.string s] w λo w'=>o=.returned (.agg #[.int .u8 2,.int .u8 0,.int .u32 0,.int .i64 0,.string s,.slice none 0 0])/\Below w.heap.size w w':=nz s w
theorem O4(s:ByteArray)(b:Nat)(e:ah)(w:World):Calls Tryz.prog 32 #[.string s,.slice (some ⟨b,0,none⟩) 1 1] w λo w'=>o=.returned (.agg #[.int .u8 8,.string s,.slice (some ⟨b,0,none⟩) 1 1,.int .i64 0,.slice none 0 0,.slice none 0 0])/\Below w.heap.size w w':=pY s ⟨some ⟨b,0,none⟩,1⟩ [e] w
theorem Uc(op:Int)(ho:0<=op/\op<=255)(D O:ah)(w:World)(U:sU w D)(V:sU w O):Calls Tryz.prog 37 #[.int .u8 op,D.val,O.val] w λo w'=>∃sp:Sp,o=.returned (.agg #[.int .u8 6,.int .u8 op,.int .u32 0,.int .i64 0,.string ⟨#[]⟩,.slice sp.dO 2 sp.df])/\sU w' (rU op D O sp)/\Below w.heap.size w w':=Bz op ho D O w U V
theorem LG(D O:ah)(w:World)(U:sU w D)(V:sU w O):Calls Tryz.prog 36 #[D.val,O.val] w λo w'=>∃sp:Sp,o=.returned (.agg #[.int .u8 3,.string ⟨#[]⟩,.slice sp.dO 2 sp.df,.int .i64 0,.slice none 0 0,.slice none 0 0])/\kW w' (fw sp D O)/\Below w.heap.size w w':=Eg D O w U V
theorem mU(w:World)(x wd:Int)(h1:0<=x/\x<=4294967295)(D:(Lit.int .i64 wd).wf=true):sU w (cO x wd):=.mk _ (show(0:Int)<=1/\(1:Int)<=255 by decide) (show(0:Int)<=0/\(0:Int)<=255 by decide) h1 D (show(0:Nat)<=maxLen by decide) RowOf.nil λ_ h=>absurd h (by simp[cO,ah.cu])
theorem kY(w:World)(s:ByteArray)(D:s.size<=maxLen):sU w (aZ s):=.mk _ (show(0:Int)<=2/\(2:Int)<=255 by decide) (show(0:Int)<=0/\(0:Int)<=255 by decide) (show(0:Int)<=0/\(0:Int)<=4294967295 by decide) (show(Lit.int .i64 0).wf=true by decide) D RowOf.nil λ_ h=>absurd h (by simp[aZ,ah.cu])
theorem wX{w:World}{s:ByteArray}{sp:Sp}{l:List ah}(D:s.size<=maxLen)(hr:RowOf w.heap.size w sp 6 ah.cells l)(hx:∀x∈l,sU w x):kW w (dN sp s l):=.mk _ (show(0:Int)<=8/\(8:Int)<=255 by decide) (show(Lit.int .i64 0).wf=true by decide) D hr hx RowOf.nil (λ_ h=>absurd h (by simp[dN,aa.gy])) RowOf.nil (λ_ h=>absurd h (by simp[dN,aa.iD]))
theorem sF{w:World}{s:aa}{b:Nat}{t:TypeId}{fr:Nat × Nat}(h:w.heap[b]?=some (.cells s.cells.toArray t fr))(D:kW w s):gq w.heap.size w ⟨some ⟨b,0,none⟩,1⟩ [s]:=⟨row_one h,λt ht=>by rw[List.mem_singleton.1 ht];exact D⟩
theorem QN{w:World}{s u:aa}{b:Nat}{t:TypeId}{fr:Nat × Nat}(h:w.heap[b]?=some (.cells (s.cells++u.cells).toArray t fr))(D:kW w s)(O:kW w u):gq w.heap.size w ⟨some ⟨b,0,none⟩,2⟩ [s,u]:=⟨pM rfl h,λt ht=>by
 rcases List.mem_cons.1 ht with rfl|ht
 .exact D
 .rw[List.mem_singleton.1 ht];exact O⟩
theorem vg{w w':World}{q:bG}(h:tH w.heap.size w q)(hb:Below w.heap.size w w'):tH w'.heap.size w' q:=⟨h.aT,(h.bC.below hb).more hb.size,(h.eY.below hb).more hb.size⟩
theorem zP{α:Type}{w w':World}{sp:Sp}{k:Nat}{enc:α->List Value}{l:List α}(h:RowOf w.heap.size w sp k enc l)(hb:Below w.heap.size w w'):RowOf w'.heap.size w' sp k enc l:=(h.below hb).more hb.size
theorem sP{k o v w:Int}{n:ByteArray}{sp:Sp}(h:k≠0):Ej (.mk k o v w n sp []):=PL h λ_ hx=>by cases hx
theorem KL{e:ah}(h:Ej e):∀x∈[e],Ej x:=λx hx=>by rw[List.mem_singleton.1 hx];exact h
theorem PM{e f:ah}(h:Ej e)(k:Ej f):∀x∈[e,f],Ej x:=λx hx=>by
 rcases List.mem_cons.1 hx with rfl|hx
 .exact h
 .rw[List.mem_singleton.1 hx];exact k
theorem Cz{k b:Int}{n:ByteArray}{es:Sp}{ex:List ah}(h:k≠0)(hx:∀x∈ex,Ej x):Gc (.mk k n es ex b Sp.none [] Sp.none []):=Tn h hx (λ_ ht=>by cases ht) (λ_ ht=>by cases ht)
theorem Mg{s:aa}(h:Gc s):∀x∈[s],Gc x:=λx hx=>by rw[List.mem_singleton.1 hx];exact h
theorem Tg(O U V s4 s5 s6 s7 s8 s9 sa sb sc:Sp):UG (QE O U V [dN s4 ⟨#[113]⟩ [cO 3 2]] [⟨⟨#[113]⟩,s5,[⟨⟨#[121]⟩,2,0⟩],s6,[dN s7 ⟨#[112]⟩ [rU 3 (aZ ⟨#[121]⟩) (cO 1 2) sa],dN s8 ⟨#[112]⟩ [aZ ⟨#[121]⟩]]⟩,⟨⟨#[112]⟩,s9,[⟨⟨#[120]⟩,2,0⟩],sb,[fw sc (cO 0 1) (aZ ⟨#[120]⟩)]⟩]):=by
 refine⟨λ_ h=>(by cases h),λ_ h=>(by cases h),λd h=>by rw[List.mem_singleton.1 h];decide,λ_ h=>(by cases h),sP (by decide),λ_ h=>(by cases h),λq hq=>?_,Mg (Cz (by decide) (KL (sP (by decide)))),λ_ h=>(by cases h),sP (by decide)⟩;rcases List.mem_cons.1 hq with rfl|hq
 .refine⟨show(⟨#[113]⟩:ByteArray)≠⟨#[]⟩ by decide,λd h=>by rw[List.mem_singleton.1 h];decide,λs D=>?_⟩
  rcases List.mem_cons.1 D with rfl|D
  .exact Cz (by decide) (KL (PL (by decide) (PM (sP (by decide)) (sP (by decide)))))
  .rw[List.mem_singleton.1 D];exact Cz (by decide) (KL (sP (by decide)))
 .rw[List.mem_singleton.1 hq]
  exact⟨show(⟨#[112]⟩:ByteArray)≠⟨#[]⟩ by decide,λd h=>by rw[List.mem_singleton.1 h];decide,Mg (Cz (by decide) (PM (sP (by decide)) (sP (by decide))))⟩
theorem BF(w:World):Calls Tryz.prog 69 #[] w λo w'=>∃p:aj,o=.returned (.agg p.arr)/\dx p=dx vJ/\jT w'.heap.size w' p/\Below w.heap.size w w':=by
 have dj:=jc w (.cells ed.arr 35);have dl:=gM w (.cells ed.arr 35);go_enter Tryz.func69,Tryz.ntmps69
 go_upto_region 1 with (first|(refine dY (t:=35) rfl rfl (jQ _) ?_)|fail)
 generalize w.alloc (.cells ed.arr 35)=w0 at *;have cn:=ae dj;have c0:=ae dl;clear dj dl;go_wp2_with fail
 refine(I6 3 2 w0).mono ?_;rintro o w1 ⟨rfl,hb⟩;have co:=ae (cn.o.trans (hb.mono cn.o.size));have c8:=ae ((hb.block _ (dM c0.o).1).trans c0.o);clear hb cn c0;go_wp2_with fail
 obtain⟨w2,he⟩:∃w2,w2=w1.alloc (.cells #[.int .u8 1,.int .u8 0,.int .u32 3,.int .i64 2,.string ⟨#[]⟩,.slice none 0 0] 30):=⟨_,rfl⟩;have hb:Below w1.heap.size w1 w2:=by rw[he];exact(ag _ _).alloc (af _) _
 have hx:w2.heap[w1.heap.size]?=some (.cells #[.int .u8 1,.int .u8 0,.int .u32 3,.int .i64 2,.string ⟨#[]⟩,.slice none 0 0] 30 (0,0)):=by rw[he];exact gM _ _
 have cL:=ae (row_one (k:=6) (enc:=ah.cells) (x:=cO 3 2) hx);rw[<-he];clear he hx;have cp:=ae (co.o.trans (hb.mono co.o.size));have cA:=ae ((hb.block _ (dM c8.o).1).trans c8.o);clear hb co c8;generalize w1.heap.size=c1 at *;refine(O4 ⟨#[113]⟩ c1 (cO 3 2) w2).mono ?_;rintro o w3 ⟨rfl,hb⟩;have cq:=ae (cp.o.trans (hb.mono cp.o.size));have cC:=ae ((hb.block _ (dM cA.o).1).trans cA.o);have cm:=ae (zP cL.o hb);clear hb cp cA cL;go_wp2_with fail
 obtain⟨w4,he⟩:∃w4,w4=w3.alloc (.cells #[.int .u8 8,.string ⟨#[113]⟩,.slice (some ⟨c1,0,none⟩) 1 1,.int .i64 0,.slice none 0 0,.slice none 0 0] 43):=⟨_,rfl⟩;have hb:Below w3.heap.size w3 w4:=by rw[he];exact(ag _ _).alloc (af _) _
 have hx:w4.heap[w3.heap.size]?=some (.cells #[.int .u8 8,.string ⟨#[113]⟩,.slice (some ⟨c1,0,none⟩) 1 1,.int .i64 0,.slice none 0 0,.slice none 0 0] 43 (0,0)):=by rw[he];exact gM _ _
 have cM:=ae (sF (s:=dN ⟨some ⟨c1,0,none⟩,1⟩ ⟨#[113]⟩ [cO 3 2]) hx (wX (show(1:Nat)<=maxLen by decide) (zP cm.o hb) λx h=>by rw[List.mem_singleton.1 h];exact mU _ 3 2 (by decide) (by decide)));rw[<-he];clear he hx;have cr:=ae (cq.o.trans (hb.mono cq.o.size));have cD:=ae ((hb.block _ (dM cC.o).1).trans cC.o);have dn:=ae (zP cm.o hb);clear hb cq cC cm;clear dn;generalize w3.heap.size=c2 at *;refine(BJ ⟨#[121]⟩ w4).mono ?_;rintro o w5 ⟨rfl,hb⟩;have ct:=ae (cr.o.trans (hb.mono cr.o.size));have cE:=ae ((hb.block _ (dM cD.o).1).trans cD.o);have cN:=ae ((cM.o).on hb);clear hb cr cD cM;go_wp2_with fail
 refine(I6 1 2 w5).mono ?_;rintro o w6 ⟨rfl,hb⟩;have cv:=ae (ct.o.trans (hb.mono ct.o.size));have cF:=ae ((hb.block _ (dM cE.o).1).trans cE.o);have cP:=ae ((cN.o).on hb);clear hb ct cE cN;go_wp2_with fail
 refine(Uc 3 (by decide) (aZ ⟨#[121]⟩) (cO 1 2) w6 (kY _ _ (show(1:Nat)<=maxLen by decide)) (mU _ 1 2 (by decide) (by decide))).mono ?_;rintro o w7 ⟨e3,rfl,hn,hb⟩;have cU:=ae (hn);have cw:=ae (cv.o.trans (hb.mono cv.o.size));have cG:=ae ((hb.block _ (dM cF.o).1).trans cF.o);have cQ:=ae ((cP.o).on hb);clear hb cv cF cP;go_wp2_with fail
 obtain⟨w8,he⟩:∃w8,w8=w7.alloc (.cells #[.int .u8 6,.int .u8 3,.int .u32 0,.int .i64 0,.string ⟨#[]⟩,.slice e3.dO 2 e3.df] 30):=⟨_,rfl⟩;have hb:Below w7.heap.size w7 w8:=by rw[he];exact(ag _ _).alloc (af _) _
 have hx:w8.heap[w7.heap.size]?=some (.cells #[.int .u8 6,.int .u8 3,.int .u32 0,.int .i64 0,.string ⟨#[]⟩,.slice e3.dO 2 e3.df] 30 (0,0)):=by rw[he];exact gM _ _
 have cY:=ae (row_one (k:=6) (enc:=ah.cells) (x:=rU 3 (aZ ⟨#[121]⟩) (cO 1 2) e3) hx);rw[<-he];clear he hx;have cx:=ae (cw.o.trans (hb.mono cw.o.size));have cH:=ae ((hb.block _ (dM cG.o).1).trans cG.o);have cR:=ae ((cQ.o).on hb);have cV:=ae ((cU.o).on hb);clear hb cw cG cQ cU;generalize w7.heap.size=c3 at *;refine(O4 ⟨#[112]⟩ c3 (rU 3 (aZ ⟨#[121]⟩) (cO 1 2) e3) w8).mono ?_;rintro o w9 ⟨rfl,hb⟩;have cy:=ae (cx.o.trans (hb.mono cx.o.size));have cI:=ae ((hb.block _ (dM cH.o).1).trans cH.o);have cS:=ae ((cR.o).on hb);have cW:=ae ((cV.o).on hb);have da:=ae (zP cY.o hb);clear hb cx cH cR cV cY;go_wp2_with fail
 have dc:=ae (wX (s:=⟨#[112]⟩) (show(1:Nat)<=maxLen by decide) da.o λx h=>by rw[List.mem_singleton.1 h];exact cW.o);clear cW;clear da;refine(BJ ⟨#[121]⟩ w9).mono ?_;rintro o bh ⟨rfl,hb⟩;have ad:=ae (cy.o.trans (hb.mono cy.o.size));have a4:=ae ((hb.block _ (dM cI.o).1).trans cI.o);have bt:=ae ((cS.o).on hb);have ca:=ae ((dc.o).on hb);clear hb cy cI cS dc;go_wp2_with fail
 obtain⟨bi,he⟩:∃bi,bi=bh.alloc (.cells #[.int .u8 2,.int .u8 0,.int .u32 0,.int .i64 0,.string ⟨#[121]⟩,.slice none 0 0] 30):=⟨_,rfl⟩;have hb:Below bh.heap.size bh bi:=by rw[he];exact(ag _ _).alloc (af _) _
 have hx:bi.heap[bh.heap.size]?=some (.cells #[.int .u8 2,.int .u8 0,.int .u32 0,.int .i64 0,.string ⟨#[121]⟩,.slice none 0 0] 30 (0,0)):=by rw[he];exact gM _ _
 have b9:=ae (row_one (k:=6) (enc:=ah.cells) (x:=aZ ⟨#[121]⟩) hx);rw[<-he];clear he hx;have al:=ae (ad.o.trans (hb.mono ad.o.size));have a5:=ae ((hb.block _ (dM a4.o).1).trans a4.o);have bw:=ae ((bt.o).on hb);have cb:=ae ((ca.o).on hb);clear hb ad a4 bt ca;generalize bh.heap.size=c4 at *;refine(O4 ⟨#[112]⟩ c4 (aZ ⟨#[121]⟩) bi).mono ?_;rintro o bj ⟨rfl,hb⟩;have am:=ae (al.o.trans (hb.mono al.o.size));have a6:=ae ((hb.block _ (dM a5.o).1).trans a5.o);have b0:=ae ((bw.o).on hb);have U:=ae ((cb.o).on hb);have bC:=ae (zP b9.o hb);clear hb al a5 bw cb b9;go_wp2_with fail
 have V:=ae (wX (s:=⟨#[112]⟩) (show(1:Nat)<=maxLen by decide) bC.o λx h=>by rw[List.mem_singleton.1 h];exact kY _ _ (show(1:Nat)<=maxLen by decide));clear bC;obtain⟨bk,he⟩:∃bk,bk=bj.alloc (.cells #[.int .u8 8,.string ⟨#[112]⟩,.slice (some ⟨c3,0,none⟩) 1 1,.int .i64 0,.slice none 0 0,.slice none 0 0,.int .u8 8,.string ⟨#[112]⟩,.slice (some ⟨c4,0,none⟩) 1 1,.int .i64 0,.slice none 0 0,.slice none 0 0] 43):=⟨_,rfl⟩;have hb:Below bj.heap.size bj bk:=by rw[he];exact(ag _ _).alloc (af _) _
 have hx:bk.heap[bj.heap.size]?=some (.cells #[.int .u8 8,.string ⟨#[112]⟩,.slice (some ⟨c3,0,none⟩) 1 1,.int .i64 0,.slice none 0 0,.slice none 0 0,.int .u8 8,.string ⟨#[112]⟩,.slice (some ⟨c4,0,none⟩) 1 1,.int .i64 0,.slice none 0 0,.slice none 0 0] 43 (0,0)):=by rw[he];exact gM _ _
 have ab:=ae (QN (s:=dN ⟨some ⟨c3,0,none⟩,1⟩ ⟨#[112]⟩ [rU 3 (aZ ⟨#[121]⟩) (cO 1 2) e3]) (u:=dN ⟨some ⟨c4,0,none⟩,1⟩ ⟨#[112]⟩ [aZ ⟨#[121]⟩]) hx (U.o.on hb) (V.o.on hb));rw[<-he];clear he hx;have an:=ae (am.o.trans (hb.mono am.o.size));have a7:=ae ((hb.block _ (dM a6.o).1).trans a6.o);have b1:=ae ((b0.o).on hb);have db:=ae ((U.o).on hb);have dd:=ae ((V.o).on hb);clear hb am a6 b0 U V;clear db;clear dd;generalize bj.heap.size=c5 at *;refine(FU ⟨#[113]⟩ ⟨#[121]⟩ (show(1:Nat)<=maxLen by decide) ⟨show(1:Nat)<=maxLen by decide,show(Lit.int .i64 2).wf=true by decide,show(Lit.int .i64 0).wf=true by decide⟩ (by decide) ⟨some ⟨c5,0,none⟩,2⟩ _ bk ab.o).mono ?_;rintro o dt ⟨d1,rfl,hq,hb⟩;have cc:=ae (hq);have ao:=ae (an.o.trans (hb.mono an.o.size));have a8:=ae ((hb.block _ (dM a7.o).1).trans a7.o);have b2:=ae ((b1.o).on hb);have de:=ae ((ab.o).on hb);clear hb an a7 b1 ab;go_wp2_with fail
 clear de;refine(I6 0 1 dt).mono ?_;rintro o du ⟨rfl,hb⟩;have ap:=ae (ao.o.trans (hb.mono ao.o.size));have a9:=ae ((hb.block _ (dM a8.o).1).trans a8.o);have b3:=ae ((b2.o).on hb);have cd:=ae (vg cc.o hb);clear hb ao a8 b2 cc;go_wp2_with fail
 refine(BJ ⟨#[120]⟩ du).mono ?_;rintro o dv ⟨rfl,hb⟩;have aq:=ae (ap.o.trans (hb.mono ap.o.size));have aE:=ae ((hb.block _ (dM a9.o).1).trans a9.o);have b4:=ae ((b3.o).on hb);have ce:=ae (vg cd.o hb);clear hb ap a9 b3 cd;go_wp2_with fail
 refine(LG (cO 0 1) (aZ ⟨#[120]⟩) dv (mU _ 0 1 (by decide) (by decide)) (kY _ _ (show(1:Nat)<=maxLen by decide))).mono ?_;rintro o bl ⟨e4,rfl,hn,hb⟩;have D:=ae (hn);have ar:=ae (aq.o.trans (hb.mono aq.o.size));have ba:=ae ((hb.block _ (dM aE.o).1).trans aE.o);have b5:=ae ((b4.o).on hb);have cf:=ae (vg ce.o hb);clear hb aq aE b4 ce;go_wp2_with fail
 obtain⟨bm,he⟩:∃bm,bm=bl.alloc (.cells #[.int .u8 3,.string ⟨#[]⟩,.slice e4.dO 2 e4.df,.int .i64 0,.slice none 0 0,.slice none 0 0] 43):=⟨_,rfl⟩;have hb:Below bl.heap.size bl bm:=by rw[he];exact(ag _ _).alloc (af _) _
 have hx:bm.heap[bl.heap.size]?=some (.cells #[.int .u8 3,.string ⟨#[]⟩,.slice e4.dO 2 e4.df,.int .i64 0,.slice none 0 0,.slice none 0 0] 43 (0,0)):=by rw[he];exact gM _ _
 have O:=ae (sF (s:=fw e4 (cO 0 1) (aZ ⟨#[120]⟩)) hx (D.o.on hb));rw[<-he];clear he hx;have aw:=ae (ar.o.trans (hb.mono ar.o.size));have bc:=ae ((hb.block _ (dM ba.o).1).trans ba.o);have b6:=ae ((b5.o).on hb);have cg:=ae (vg cf.o hb);have cT:=ae ((D.o).on hb);clear hb ar ba b5 cf D;clear cT;generalize bl.heap.size=c6 at *;refine(FU ⟨#[112]⟩ ⟨#[120]⟩ (show(1:Nat)<=maxLen by decide) ⟨show(1:Nat)<=maxLen by decide,show(Lit.int .i64 2).wf=true by decide,show(Lit.int .i64 0).wf=true by decide⟩ (by decide) ⟨some ⟨c6,0,none⟩,1⟩ _ bm O.o).mono ?_;rintro o bo ⟨d2,rfl,hq,hb⟩;have cj:=ae (hq);have a1:=ae (aw.o.trans (hb.mono aw.o.size));have bd:=ae ((hb.block _ (dM bc.o).1).trans bc.o);have b7:=ae ((b6.o).on hb);have ch:=ae (vg cg.o hb);have cX:=ae ((O.o).on hb);clear hb aw bc b6 cg O;go_wp2_with fail
 clear cX;obtain⟨br,he⟩:∃br,br=bo.alloc (.cells #[.string ⟨#[113]⟩,.slice (some ⟨d1,0,none⟩) 1 1,.slice (some ⟨c5,0,none⟩) 2 2,.string ⟨#[112]⟩,.slice (some ⟨d2,0,none⟩) 1 1,.slice (some ⟨c6,0,none⟩) 1 1] 54):=⟨_,rfl⟩;have hb:Below bo.heap.size bo br:=by rw[he];exact(ag _ _).alloc (af _) _
 have hx:br.heap[bo.heap.size]?=some (.cells #[.string ⟨#[113]⟩,.slice (some ⟨d1,0,none⟩) 1 1,.slice (some ⟨c5,0,none⟩) 2 2,.string ⟨#[112]⟩,.slice (some ⟨d2,0,none⟩) 1 1,.slice (some ⟨c6,0,none⟩) 1 1] 54 (0,0)):=by rw[he];exact gM _ _
 have cl:=ae (pM (enc:=bG.cells) (k:=3) (x:=⟨⟨#[113]⟩,⟨some ⟨d1,0,none⟩,1⟩,[⟨⟨#[121]⟩,2,0⟩],⟨some ⟨c5,0,none⟩,2⟩,[dN ⟨some ⟨c3,0,none⟩,1⟩ ⟨#[112]⟩ [rU 3 (aZ ⟨#[121]⟩) (cO 1 2) e3],dN ⟨some ⟨c4,0,none⟩,1⟩ ⟨#[112]⟩ [aZ ⟨#[121]⟩]]⟩) (y:=⟨⟨#[112]⟩,⟨some ⟨d2,0,none⟩,1⟩,[⟨⟨#[120]⟩,2,0⟩],⟨some ⟨c6,0,none⟩,1⟩,[fw e4 (cO 0 1) (aZ ⟨#[120]⟩)]⟩) rfl hx);rw[<-he];clear he hx;have a3:=ae (a1.o.trans (hb.mono a1.o.size));have be:=ae ((hb.block _ (dM bd.o).1).trans bd.o);have b8:=ae ((b7.o).on hb);have ci:=ae (vg ch.o hb);have ck:=ae (vg cj.o hb);clear hb a1 bd b7 ch cj;generalize bo.heap.size=c7 at *;refine(Lp ⟨some ⟨c2,0,none⟩,1⟩ ⟨some ⟨c7,0,none⟩,2⟩ _ _ br b8.o cl.o λq hq=>by
  rcases List.mem_cons.1 hq with rfl|hq
  .exact ci.o
  .rw[List.mem_singleton.1 hq];exact ck.o).mono ?_
 rintro o dy ⟨d3,rfl,dk,hb⟩;have dg:=ae dk;have dp:=ae (a3.o.trans (hb.mono a3.o.size));have cJ:=ae ((hb.block _ (dM be.o).1).trans be.o);clear dk hb a3 be b8 cl ci ck;obtain⟨P,hP⟩:∃P,P=QE ⟨some ⟨d3,0,none⟩,1⟩ ⟨some ⟨c2,0,none⟩,1⟩ ⟨some ⟨c7,0,none⟩,2⟩ [dN ⟨some ⟨c1,0,none⟩,1⟩ ⟨#[113]⟩ [cO 3 2]] [⟨⟨#[113]⟩,⟨some ⟨d1,0,none⟩,1⟩,[⟨⟨#[121]⟩,2,0⟩],⟨some ⟨c5,0,none⟩,2⟩,[dN ⟨some ⟨c3,0,none⟩,1⟩ ⟨#[112]⟩ [rU 3 (aZ ⟨#[121]⟩) (cO 1 2) e3],dN ⟨some ⟨c4,0,none⟩,1⟩ ⟨#[112]⟩ [aZ ⟨#[121]⟩]]⟩,⟨⟨#[112]⟩,⟨some ⟨d2,0,none⟩,1⟩,[⟨⟨#[120]⟩,2,0⟩],⟨some ⟨c6,0,none⟩,1⟩,[fw e4 (cO 0 1) (aZ ⟨#[120]⟩)]⟩]:=⟨_,rfl⟩;rw[<-hP]at dg ⊢;have dr:dx P=dx vJ:=by rw[hP];rfl
 have dq:Hid (UG P):=ae (by rw[hP];exact Tg _ _ _ _ _ _ _ _ _ _ _ _);clear hP;go_wp2_with(first|(refine aK rfl 35 _ _ rfl w.heap.size P.arr (by rfl) (by rfl) 35 ed.arr cJ.o (dZ _) (by kernel_rfl) (lX _) ?_)|fail)
 exact aW (aL rfl _ _ w.heap.size 35 _ (0,0) _ rfl (bM _ _ _ _ _ _ cJ.o) Tryz.underlying35 rfl (dZ _)) rfl ⟨P,rfl,dr,jT.putB cJ.o dg.o dq.o _,below_setRow dp.o (af _)⟩
def lh(p:aj)(out:List Int)(i:Nat):Bool:=!decide ((i:Int)∈out) && !((ow p (fU p i).eY).any λx=>!decide (x∈out))
def oH(p:aj)(out:List Int):Option Nat:=(List.range p.aA.length).find? (lh p out)
def oG(p:aj):Nat->List Int->List Int
 |0,out=>out
 |n+1,out=>match oH p out with
  |none=>out
  |some i=>oG p n (out++[(i:Int)])
def tu(p:aj):List Int:=oG p p.aA.length []
def SL(W:World)(q:Nat)(l:List Int):Prop:=∃A c,Boxed W q 87 (.slice A l.length c)/\W.ownsRow (q+1) 3 1 (.slice A l.length c) l.length (l.map (.int .i64))
theorem IX{α:Type}(f:α->Nat):∀{l:List α}{x:α},x∈l->f x<=(l.map f).sum
 |y::l,x,h=>by
  rw[ax,bL];rcases List.mem_cons.1 h with rfl|h
  .omega
  .have:=IX f h
   omega
theorem NN{p:aj}(h:eF p<=20000)(i:Nat)(hi:i<p.aA.length):aV (p.aA[i]).eY<=20000:=by
 have h1:=IX jy (ak hi);unfold eF at h;unfold jy at h1;have D:(p.aA.map jy).sum<=20000:=by omega
 have O:(p.aA.map λq=>1+q.bC.length+aV q.eY).sum=(p.aA.map jy).sum:=rfl;omega
def QD:Option Value->Nat
 |some (.slice _ k _)=>k
 |_=>0
theorem Ho{W:World}{b:Nat}{t:TypeId}{fr:Nat × Nat}{D O U:Value}(h:W.heap[b]?=some (.cells #[D,O,U] t fr)):W.cell? ⟨b,0,none⟩=some D/\W.cell? ⟨b,1,none⟩=some O/\W.cell? ⟨b,2,none⟩=some U:=by
 simp[World.cell?,h]
theorem Je{p:aj}{out:List Int}{k:Nat}(hk:k<p.aA.length)(h1:∀j,j<k->lh p out j=false)(D:lh p out k=true):oH p out=some k:=by
 unfold oH;rw[List.find?_range_eq_some];exact⟨D,List.mem_range.2 hk,λj O=>by rw[h1 j O];rfl⟩
theorem Jd{p:aj}{out:List Int}(h:∀j,j<p.aA.length->lh p out j=false):oH p out=none:=by
 unfold oH;rw[List.find?_range_eq_none];exact λj D=>by rw[h j D];rfl
theorem K8{p:aj}{out:List Int}{k n:Nat}(O:out.length<n)(h:oH p out=some k):oG p (n - out.length) out=oG p (n - (out++[(k:Int)]).length) (out++[(k:Int)]):=by
 obtain⟨m,hm⟩:∃m,n - out.length=m+1:=⟨n - out.length - 1,by omega⟩;have D:n - (out++[(k:Int)]).length=m:=by rw[ay];simp;omega
 rw[hm,D,oG,h]
theorem K7{p:aj}{out:List Int}{n:Nat}(h:oH p out=none):oG p n out=out:=by
 cases n with
 |zero=>rfl
 |succ n=>rw[oG,h]
theorem NK(w:World)(p:aj)(hp:jT w.heap.size w p)(ch:0<w.heap.size)(hmx:MxAt w)(hr:rH p) :
  Calls Tryz.prog 71 #[.agg p.arr] w λo w'=>∃v,o=.returned (.tuple #[v,.int .i64 0])/\w'.ownsRow w.heap.size 3 1 v (tu p).length ((tu p).map (.int .i64))/\Below w.heap.size w w':=by
 have a3:=jc w (.cells p.arr 35);have hB:=gM w (.cells p.arr 35);have bo:=FX _ p (hp.on a3) (aI ch a3.size) hr.names hr.weight (hmx.below a3 ch);rw[aC hr.chk]at bo;have cf:p.aA.length<=1000:=by
  by_cases h:p.aA=[]
  .rw[h];exact aH _
  .have:=(hr.right.few h).1;omega
 have b3:=ae λ(W:World) (hW:Below w.heap.size w W)=>yA W p (hp.on hW) cf
 have cn:=ae λ(i:Nat) (hi:i<p.aA.length)=>NN hr.kv i hi
 have a1:=dZ p;have HP:=ae hp;have b1:=ae bo;have bl:Hid (Bx w.heap.size (w.alloc (.cells p.arr 35)) p):=ae hB;have bc:=ae a3;clear bo hB a3 hp hmx hr;go_enter Tryz.func71,Tryz.ntmps71
 go_wp2_with fail
 refine Go.wp_scope_straight ?_;go_wp2_with(first|(refine bH rfl 35 _ rfl w.heap.size rfl 35 _ (0,0) _ bl.o Tryz.underlying35 rfl a1 ?_)|fail)
 refine b1.o.mono ?_;rintro o w1 ⟨rfl,hb⟩;have bm:=ae (bl.o.on hb);have a6:=ae (bc.o.trans (hb.mono bc.o.size));clear hb bl bc b1;go_wp2_with(first|(refine bH rfl 35 _ rfl w.heap.size rfl 35 _ (0,0) _ bm.o Tryz.underlying35 rfl a1 ?_)|fail)
 refine(b3.o w1 a6.o).mono ?_;rintro o w2 ⟨K,hK,rfl,hI,-,-,hb,-,-⟩;have ca:=ae (bm.o.on hb);have V:=ae (a6.o.trans (hb.mono a6.o.size));have HK:=ae hK;have HI:=ae λ(W:World) (hW:Below w2.heap.size w2 W)=>hI.low hW
 clear hb bm a6 b3 hK hI;obtain⟨n,hn⟩:∃n,n=p.aA.length:=⟨_,rfl⟩;obtain⟨w3,a5⟩:∃w3,w3=w2.alloc (.cells #[.slice none 0 0] 87):=⟨_,rfl⟩;have cd:Below w2.heap.size w2 w3:=by rw[a5];exact(ag _ _).alloc (af _) _
 have ce:SL w3 w2.heap.size []:=⟨none,0,by rw[a5];exact gM _ _,World.ownsRow_nil _ _ _ _⟩;have co:=ae cd;have bh:=ae ce;have b8:=ae (HP.o.on V.o);have hX:∀W,Below w2.heap.size w2 W->W.cell? ⟨w.heap.size,13,none⟩=some (.slice p.rs.dO p.aA.length p.rs.df):=λW hW=>(ca.o.on hW).cell 13 rfl
 rw[<-hn]at hX cf;have HX:=ae hX;have HN:=ae hn;clear cd ce hX ca HP hn;obtain⟨D,am⟩:∃D,D=w2.heap.size:=⟨_,rfl⟩;go_wp2_with fail
 refine Go.wp_label ?_;rw[<-a5,<-am];go_wp2_with fail
 have cA:Hid (D<w3.heap.size):=ae (by rw[am];obtain⟨_,_,h1,_⟩:=bh.o;exact h1.lt);rw[<-am]at bh;have cC:=ae a5;have bd:=ae am;obtain⟨i0,hi,c5,c6,c7⟩:=qD Du;clear a5 am;go_loopw[] (λwr=>∃(out:List Int) (A:Option Addr) (c:Nat),out.length<=n/\Hid (tu p=oG p (n - out.length) out)/\Hid (Boxed wr D 87 (.slice A out.length c))/\Hid (wr.ownsRow (D+1) 3 1 (.slice A out.length c) out.length (out.map (.int .i64)))/\Hid (Below w2.heap.size w2 wr)) (λwr=>n - QD (wr.cell? ⟨D,0,none⟩))
 case atStart =>
  obtain⟨A,c,h1,h2⟩:=bh.o;exact⟨[],A,c,aH _,ae (by rw[HN.o];rfl),ae h1,ae h2,co⟩
 case round =>
  obtain⟨out,A,c,cL,HO,HB,HR,HW⟩:=hrel;have O:=one_cell HB.o;have ci:=HX.o wr HW.o;have ct:Hid (QD (wr.cell? ⟨D,0,none⟩)=out.length):=ae (by rw[O];rfl);by_cases cg:out.length<n
  .have c3:(out.length:Int)<(n:Int):=by omega
   go_wp2_with fail
   clear O ci;go_loopw[23] (λv wi=>∃k:Nat,k<=n/\v=.int .i64 k/\Hid (∀j,j<k->lh p out j=false)/\Hid (Boxed wi D 87 (.slice A out.length c))/\Hid (wi.ownsRow (D+1) 3 1 (.slice A out.length c) out.length (out.map (.int .i64)))/\Hid (Below w2.heap.size w2 wi)) (λv _=>n - (intOf v).toNat)
   case atStart=>exact⟨0,aH _,rfl,ae λj h=>absurd h (dX _),HB,HR,HW⟩
   case round =>
    clear HB HR HW;obtain⟨k,hk,rfl,U,HB,HR,HW⟩:=hrel;by_cases cJ:k<n
    .have a4:k<p.aA.length:=by have:=HN.o;omega
     obtain⟨g,o,eA,hg,hc⟩:=(b8.o.prow.below HW.o).row (by omega);have a9:=hc k a4;have HQ:Hid (fU p k=p.aA[k]):=ae (by unfold fU;rw[aX a4];rfl);have cy:=ae (b8.o.aA _ (ak a4));have b9:=ae (cn.o k a4);have cr:=ae a4;clear hc;generalize p.aA[k]=q at *;have k0:wr.cell? ⟨g,o+k*3,none⟩=some (.string q.aT):=a9 0 _ rfl;have k1:wr.cell? ⟨g,o+k*3+1,none⟩=some (.slice q.ps.dO q.bC.length q.ps.df):=a9 1 _ rfl;have k2:wr.cell? ⟨g,o+k*3+2,none⟩=some (.slice q.bs.dO q.eY.length q.bs.df):=a9 2 _ rfl;have cG:(0:Int)<=(k:Int):=by omega
     have cH:(k:Int)<(n:Int):=by omega
     obtain⟨w7,aE⟩:∃w7,w7=wr.alloc (.cells q.r 54):=⟨_,rfl⟩;have an:Below wr.heap.size wr w7:=by rw[aE];exact(ag _ _).alloc (af _) _
     have cj:w7.heap[wr.heap.size]?=some (.cells q.r 54 (0,0)):=by rw[aE];exact gM _ _
     have cb:=ae cj;have ap:Hid (Boxed w7 D 87 (.slice A out.length c)):=ae ((an.block D HB.o.lt).trans HB.o);have ar:=ae (uT HR.o (w':=w7) λr hr=>an.block r (by obtain⟨_,cs,hh⟩:=kM HR.o r hr;exact(dM hh).1));have al:=ae (HW.o.trans (an.mono HW.o.size));have ba:=ae aE;clear a9 an cj HB HR HW aE;rw[eA];clear eA;go_upto_region 10 with fail
     rw[<-ba.out];clear k0 k1 k2 ba;generalize wr.heap.size=b7 at *;have O:=one_cell ap.o;have ck:=vk ar.o;have aq:=ae (Ja w7 D (.slice A out.length c) out k (by omega) O ck);obtain⟨x0,x1,x2⟩:=Ho cb.o;by_cases ao:(k:Int)∈out
     .rw[aC ao]at aq
      have bj:Hid (∀j,j<k+1->lh p out j=false):=ae λj hj=>by
       by_cases e:j=k
       .subst e
        unfold lh;rw[aC ao]
        rfl
       .exact U.o j (by omega)
      clear ao U O;go_wp2_with fail
      refine aq.o.mono ?_;rintro o8 w8 ⟨rfl,rfl⟩;go_wp2_with fail
      go_roundw
      case rel=>exact⟨k+1,by omega,by go_num,bj,ap,ar,al⟩
      case measure=>simp[intOf];omega
     .rw[az ao]at aq
      have cq:=ae ao;clear ao;go_wp2_with fail
      refine aq.o.mono ?_;rintro o8 w8 ⟨rfl,rfl⟩;have bt:=Gv K w7 (HI.o w7 al.o) q.bs q.eY ((cy.o.eY.below al.o).more al.o.size) b9.o;rw[HK.o]at bt;have b2:=ae bt;clear bt aq O ck;go_wp2_with fail
      refine b2.o.mono ?_;rintro o8 w8 ⟨v8,rfl,ab,a8⟩;have a7:Hid (Boxed w8 D 87 (.slice A out.length c)):=ae ((a8.block D ap.o.lt).trans ap.o);have aw:=ae (uT ar.o (w':=w8) λr hr=>a8.block r (by obtain⟨_,cs,hh⟩:=kM ar.o r hr;exact(dM hh).1));have bk:=ae (al.o.trans (a8.mono al.o.size));have O:=one_cell a7.o;have cl:(ow p q.eY).length<=1000000:=by
       unfold ow;rw[cZ];exact ai (vT (q.eY.flatMap aa.pre)) (ai (E8 _) (by have:=b9.o;omega))
      have bi:=ae (Es w8 D (.slice A out.length c) v8 out (ow p q.eY) (by omega) cl O (vk aw.o) (vk ab));obtain⟨A8,c8,rfl⟩:=oN ab;obtain⟨b,br⟩:∃b,((ow p q.eY).any λx=>!decide (x∈out))=b:=⟨_,rfl⟩;rw[br]at bi;have b6:Hid (lh p out k=!b):=ae (by unfold lh;rw[HQ.o,br,az cq.o];rfl);clear br a8 ab cl b2 cb ap ar x0 x1 x2;cases b with
      |true =>
       have bj:Hid (∀j,j<k+1->lh p out j=false):=ae λj hj=>by
        by_cases e:j=k
        .rw[e];exact b6.o
        .exact U.o j (by omega)
       clear U O;go_wp2_with fail
       refine bi.o.mono ?_;rintro o9 w9 ⟨rfl,rfl⟩;go_wp2_with fail
       go_roundw
       case rel=>exact⟨k+1,by omega,by go_num,bj,a7,aw,bk⟩
       case measure=>simp[intOf];omega
      |false =>
       have cx:=ae (Je cr.o U.o b6.o);clear U;have c0:=cell_one_new w8 (.int .i64 k) 3;have cE:∀W:World,Boxed W D 87 (.slice A out.length c)->W.frozen? ⟨D,0,none⟩=false:=λW h=>by unfold World.frozen?;rw[show W.heap[D]?=_ from h];rfl
       have an:=jc w8 (.cells #[.int .i64 k] 3);have cm:=ae an;have am:=a7.o.lt;have cI:=cm.o.size;go_wp2_with(first|(go_at_call 139;refine bi.o.mono ?_;rintro o9 w9 ⟨rfl,rfl⟩)|(at_builtin;refine wpList_append_own_at _ rfl _ _ 87 rfl (D+1) 3 i0 (.int .i64 0) 1 8 Tryz.underlying87 hi c5 c6 c7 rfl (by decide) _ _ _ rfl (aw.o.alloc _) ⟨w8.heap.size,0,none⟩ 1 1 [.int .i64 k] rfl rfl c0 (by simp[Value.oneCell']) (by simp only[maxLen];omega) (by omega) (by omega) ?_;intro v' w9 ad bw _ _;obtain⟨A9,c9,rfl⟩:=oN ad;have be:=ae ((a7.o.alloc (.cells #[.int .i64 k] 3)).kept bw (λe=>by have:=(kM (aw.o.alloc (.cells #[.int .i64 k] 3)) D e.symm).1;omega));have b4:=ae ad;have cp:=ae bw;clear ad bw O;have cD:=one_cell (show w9.heap[D]?=_ from be.o);have cF:w9.frozen? ⟨D,0,none⟩=false:=by(unfold World.frozen?;rw[show w9.heap[D]?=_ from be.o];rfl))|fail)
       have b0:(out++[(k:Int)]).length=out.length+1:=by simp
       have cc:Boxed (w9.setCell ⟨D,0,none⟩ (.slice A9 (out.length+1) c9)) D 87 (.slice A9 (out.length+1) c9):=be.o.set _;have c4:w2.heap.size<=D:=by rw[bd.o];exact af _
       refine⟨⟨out++[(k:Int)],A9,c9,by rw[b0];omega,ae (HO.o.trans (K8 cg cx.o)),ae (by rw[b0];exact cc),ae ?_,ae ?_⟩,?_⟩
       .rw[b0,aO,ax,dh]
        exact uT b4.o λg hg=>aN _ _ _ _ (λe=>by have:=(kM b4.o g hg).1;simp at e;omega)
       .exact(bk.o.grown ((World.grownBy_alloc w8 _ _).trans cp.o) bk.o.size (λb hb=>by have:=(kM (aw.o.alloc (.cells #[.int .i64 k] 3)) b hb).1;omega)).setCell (p:=⟨D,0,none⟩) c4 _
       .rw[one_cell (show(w9.setCell ⟨D,0,none⟩ (.slice A9 (out.length+1) c9)).heap[D]?=_ from cc),ct.o]
        show n - (out.length+1)<n - out.length;omega
    .obtain rfl:k=n:=by omega
     have cw:=ae (Jd (p:=p) (out:=out) λj hj=>U.o j (by have:=HN.o;omega));have O:=one_cell HB.o;clear U;go_wp2_with fail
     (try simp only[Exit.noGoto_ret])
     go_ret2
     refine⟨_,rfl,?_,V.o.trans (HW.o.mono V.o.size)⟩;rw[HO.o.trans (K7 cw.o)];exact DU HR.o (by have:=V.o.size;have:=bd.o;omega)
  .have c3:¬(out.length:Int)<(n:Int):=by omega
   have e:n - out.length=0:=by omega
   have cv:Hid (tu p=out):=ae (by rw[HO.o,e];rfl);clear e;go_wp2_with fail
   (try simp only[Exit.noGoto_ret])
   go_ret2
   refine⟨_,rfl,?_,V.o.trans (HW.o.mono V.o.size)⟩;rw[cv.o];exact DU HR.o (by have:=V.o.size;have:=bd.o;omega)
theorem Jc{p q:aj}(h:dx p=dx q):tu p=tu q:=by
 have hp:p.aA.map gF=q.aA.map gF:=congrArg aj.aA h;have hl:p.aA.length=q.aA.length:=by have:=congrArg List.length hp;simpa using this
 have hI:∀n,dG p n=dG q n:=λn=>by unfold dG;rw[zN hp]
 have D:∀out i,lh p out i=lh q out i:=λout i=>by
  have hc:ow p (fU p i).eY=ow q (fU q i).eY:=by
   unfold ow;have e:(fU p i).eY.map aJ=(fU q i).eY.map aJ:=(congrArg bG.eY (uW hp i):(gF (fU p i)).eY=(gF (fU q i)).eY);rw[<-vS,e,vS];exact dA λs _=>by rw[hI]
  unfold lh;rw[hc]
 have O:∀out,oH p out=oH q out:=λout=>by
  unfold oH;rw[hl]
  congr 1
  funext i
  exact D out i
 have hF:∀n out,oG p n out=oG q n out:=λn=>by
  induction n with
  |zero=>intro out;rfl
  |succ n U =>
   intro out;rw[oG,oG,O];cases oH q out with
   |none=>rfl
   |some i=>exact U _
 unfold tu;rw[hl,hF]
def xS:List aa:=[ji Sp.none ⟨#[113,46,121]⟩ (cO 3 2),ji Sp.none ⟨#[112,46,120]⟩ (rU 3 (aZ ⟨#[113,46,121]⟩) (cO 1 2) Sp.none),fw Sp.none (cO 0 1) (aZ ⟨#[112,46,120]⟩),ji Sp.none ⟨#[112,46,120]⟩ (aZ ⟨#[113,46,121]⟩),fw Sp.none (cO 0 1) (aZ ⟨#[112,46,120]⟩)]
theorem O9:(pR vJ).eX.map aJ=xS.map aJ:=by kernel_rfl
theorem AA:jG Pb.eY=[⟨#[112]⟩]/\jG OG.eY=[]:=by
 have D:Pb.eY.flatMap aa.pre=Pb.eY:=by
  simp[Pb,dN,aa.pre_eq,aa.gy,aa.iD]
 have O:OG.eY.flatMap aa.pre=OG.eY:=by
  simp[OG,fw,aa.pre_eq,aa.gy,aa.iD]
 unfold jG;rw[D,O];exact⟨by kernel_rfl,by kernel_rfl⟩
theorem uC{l:List Int}(h:l.all (λc=>decide (c=0))=true):jF l:=λc hc=>by simpa using List.all_eq_true.1 h c hc
theorem MV:jF (jf vJ 19):=by
 have U:kF vJ 1 (0:Int).toNat=false:=GN (q:=OG) (by decide) rfl AA.2;have D:∀(e:ah) (sp:Sp),lJ vJ ⟨0,[(⟨#[121]⟩,⟨5,2⟩)]⟩ 1 [e]=false->(iU vJ ⟨0,[(⟨#[121]⟩,⟨5,2⟩)]⟩ 0 [e] 1).all (λc=>decide (c=0))=true->jF (lF vJ ⟨0,[(⟨#[121]⟩,⟨5,2⟩)]⟩ (dN sp ⟨#[112]⟩ [e]) 1):=λe sp h1 V =>
  p8 (E:=⟨0,[(⟨#[121]⟩,⟨5,2⟩)]⟩) (j:=1) (by kernel_rfl) h1 (.inr U) (by decide) (uC V) sp rfl
 rw[ze];refine(uC (by kernel_rfl)).append (.append ?_ (.append ?_ (.append ?_ (uC (by kernel_rfl)))))
 .show jF (fO vJ [Pb,OG] 0 (fC vJ))
  rw[fO,fO,fO,aP];refine .append ?_ (uC (by kernel_rfl));unfold nM;refine .cons (by kernel_rfl) (.append (uC (by kernel_rfl)) (nU λs O=>?_));have hi:inside vJ 0=⟨0,[(⟨#[121]⟩,⟨5,2⟩)]⟩:=by kernel_rfl
  rw[hi];have O:s∈[dN Sp.none ⟨#[112]⟩ [rU 3 (aZ ⟨#[121]⟩) (cO 1 2) Sp.none],dN Sp.none ⟨#[112]⟩ [aZ ⟨#[121]⟩]]:=O;rcases List.mem_cons.1 O with rfl|O
  .exact D _ _ (by kernel_rfl) (by kernel_rfl)
  .rw[List.mem_singleton.1 O]
   exact D _ _ (by kernel_rfl) (by kernel_rfl)
 .refine nU λs O=>?_
  have O:s∈[dN Sp.none ⟨#[113]⟩ [cO 3 2]]:=O;rw[List.mem_singleton.1 O];exact p8 (E:=outside) (j:=0) (by kernel_rfl) (by kernel_rfl) (.inl (by decide)) (by decide) (uC (by kernel_rfl)) _ rfl
 .exact uC (by kernel_rfl)
theorem Iy:eF vJ=19:=by
 have D:aV Pb.eY=6:=by
  show aV [dN Sp.none ⟨#[112]⟩ [rU 3 (aZ ⟨#[121]⟩) (cO 1 2) Sp.none],dN Sp.none ⟨#[112]⟩ [aZ ⟨#[121]⟩]]=6;simp only[dN,rU,aZ,cO,ny,jD,jM,gu,fq,nD]
 have O:aV OG.eY=3:=by
  show aV [fw Sp.none (cO 0 1) (aZ ⟨#[120]⟩)]=3;simp only[fw,aZ,cO,ny,jD,jM,gu,fq,nD]
 have U:aV UR=2:=by
  show aV [dN Sp.none ⟨#[113]⟩ [cO 3 2]]=2;simp only[dN,cO,ny,jD,jM,gu,fq,nD]
 have V:(cO 1 1).pre.length=1:=by rw[cO,nD,jM]
 show 0+0+1+0+1+(cO 1 1).pre.length+0+((1+1+aV Pb.eY)+((1+1+aV OG.eY)+0))+aV UR+aV []+(cO 1 1).pre.length=19;rw[D,O,U,V,gu]
theorem O8:eF (pR vJ)=20:=by
 have e:eF (pR vJ)=(jf (pR vJ) 0).length:=(mO _ _).symm;exact e.trans (by kernel_rfl)
theorem Rl:lc vJ=(0,0):=(Jp Iy (by decide) MV).1
theorem zg:rH vJ:=by
 refine⟨by rw[Iy];decide,⟨λd D=>?_,λq hq=>?_⟩,by rw[Rl]⟩
 .have D:d∈[(⟨bV,2,0⟩:bO)]:=D
  rw[List.mem_singleton.1 D];show bV.size<=4294967200
  decide
 .have hq:q∈[Pb,OG]:=hq
  rcases List.mem_cons.1 hq with rfl|hq
  .exact⟨by decide,λd D=>by rw[List.mem_singleton.1 D];decide⟩
  .rw[List.mem_singleton.1 hq]
   exact⟨by decide,λd D=>by rw[List.mem_singleton.1 D];decide⟩
theorem Kb:lI vJ=20:=by
 rw[qy zg.right,O8]
 rfl
theorem MW:tu vJ=[1,0]:=by
 have V:fU vJ 0=Pb:=rfl;have h1:fU vJ 1=OG:=rfl;have D:ow vJ Pb.eY=[1]:=by
  unfold ow;rw[AA.1]
  kernel_rfl
 have c1:ow vJ OG.eY=[]:=by
  unfold ow;rw[AA.2]
  rfl
 have b:∀out,lh vJ out 0=(!decide ((0:Int)∈out) && !([(1:Int)].any λx=>!decide (x∈out))):=λout=>by
  unfold lh;rw[V,D]
  rfl
 have b':∀out,lh vJ out 1=(!decide ((1:Int)∈out) && !(([]:List Int).any λx=>!decide (x∈out))):=λout=>by
  unfold lh;rw[h1,c1]
  rfl
 have s:∀out,oH vJ out=if lh vJ out 0=true then some 0 else if lh vJ out 1=true then some 1 else none:=λout=>by
  unfold oH;have hl:vJ.aA.length=2:=rfl;rw[hl];simp only[List.range,List.range.loop,List.find?_cons,List.find?_nil];cases lh vJ out 0<;>cases lh vJ out 1<;>rfl
 have O:oH vJ []=some 1:=by
  rw[s,b,b']
  decide
 have U:oH vJ [(1:Int)]=some 0:=by
  rw[s,b]
  decide
 unfold tu;have hl:vJ.aA.length=2:=rfl;rw[hl,oG,O];show oG vJ 1 [(1:Int)]=_;rw[oG,U]
 rfl
end Go.Proofs.YtepacjkacjabbaaGreatDoor
