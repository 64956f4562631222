import Derived.Test.YtepacjkacjabbaaGreatDoorYAQ
import Derived.Test.YtepacjkacjabbaaGreatDoorYAP
set_option linter.all false
set_option maxRecDepth 10000000
set_option maxHeartbeats 64000000
namespace Go.Proofs.YtepacjkacjabbaaGreatDoor
open Go Go.Maps Go.RowKit
theorem xq{F:Nat}{bs:Array Value}{τ:ByteArray->ByteArray}(hτ:∀s,s.size<=maxLen->(τ s).size<=maxLen){n0:Nat}{W0:World}(hT:Aj F bs τ n0 W0)(e:ah)(hr:mM n0 W0 e):e.pre.length<=1000000->EL F bs τ n0 W0 e:=by
 induction hr with
 |mk e k o v w n row cu O =>
  intro hl;have h1:=zz e.cu;have U:=qN e;exact PU F bs τ hτ n0 W0 hT e (.mk e k o v w n row cu) (by omega) λs D=>O s D (ai (Mm D) hl)
theorem PN(s:ByteArray)(w:World):Calls Tryz.prog 150 #[.string s] w λo w'=>o=.returned (.string s)/\w'=w:=by
 go_enter Tryz.func150,Tryz.ntmps150
 go_wp2_with fail
 go_ret
 exact⟨rfl,rfl⟩
theorem zw(n0:Nat)(W0:World):Aj 150 #[] id n0 W0:=⟨λargs W=>by simp[go_sem],λW _ _ s _=>PN s W⟩
def oP(F:Nat)(bs:Array Value)(τ:ByteArray->ByteArray)(n0:Nat)(W0:World)(sp:Sp)(l:List aa):Prop:=∀W,Below n0 W0 W->n0<=W.heap.size ->
 Calls Tryz.prog 151 #[.slice sp.dO l.length sp.df,.func (.func F) #[] bs] W λo w'=>∃(D:Sp) (l':List aa),o=.returned (.slice D.dO l'.length D.df)/\yY (tX τ) (tT τ) l l'/\j4 W.heap.size w' D l'/\Below W.heap.size W w'
inductive OO(F:Nat)(bs:Array Value)(s:aa):Array Value->Bool->Prop
 |th:OO F bs s #[.slice s.ts.dO s.gy.length s.ts.df,.func (.func F) #[] bs] true
 |el:OO F bs s #[.slice s.os.dO s.iD.length s.os.df,.func (.func F) #[] bs] false
theorem QH(s:aa):aa.mk s.bI s.aT s.es s.bf s.gT s.ts s.gy s.os s.iD=s:=by cases s;rfl
theorem PT(F:Nat)(bs:Array Value)(τ:ByteArray->ByteArray)(hτ:∀s,s.size<=maxLen->(τ s).size<=maxLen)(n0:Nat)(W0:World)(hT:Aj F bs τ n0 W0)(sp:Sp)(l:List aa)(hr:gq n0 W0 sp l)(cw:l.length<=1000000)(cS:∀s,s∈l->s.bf.length<=1000000)
  (da:∀s,s∈l->∀e,e∈s.bf->EL F bs τ n0 W0 e) (ih:∀s,s∈l->oP F bs τ n0 W0 s.ts s.gy/\oP F bs τ n0 W0 s.os s.iD):oP F bs τ n0 W0 sp l:=by
 intro w bh a6;have br:=ae ((hr.below bh).more a6);have de:=ae λ(i:Nat) (hi:i<l.length)=>cS _ (ak hi)
 have dn:=ae λ(i:Nat) (hi:i<l.length) (e:ah) (he:e∈(l[i]).bf) (W:World) (hW:Below w.heap.size w W)=>da _ (ak hi) e he W (bh.trans (hW.mono a6)) (ai a6 hW.size)
 have dl:=ae λ(i:Nat) (hi:i<l.length) (W:World) (hW:Below w.heap.size w W)=>(ih _ (ak hi)).1 W (bh.trans (hW.mono a6)) (ai a6 hW.size)
 have dd:=ae λ(i:Nat) (hi:i<l.length) (W:World) (hW:Below w.heap.size w W)=>(ih _ (ak hi)).2 W (bh.trans (hW.mono a6)) (ai a6 hW.size)
 have cm:=ae cw;have d3:=hT.1;have HT:=ae λ(W:World) (hW:Below w.heap.size w W)=>hT.2 W (bh.trans (hW.mono a6)) (ai a6 hW.size)
 have cR:=br.o.row.df;have cQ:=br.o.row.big;clear hr cS da ih bh cw hT;go_enter Tryz.func151,Tryz.ntmps151
 go_wp2_with fail
 refine(Il w sp l w.heap.size br.o.row cm.o).mono ?_;rintro o W1 ⟨⟨⟨sa,sc⟩,rfl,b9,_⟩,cd⟩;have cJ:Hid (Br (tX τ) (tT τ) w W1 l sp sa sc W1.heap.size W1.heap.size 0 l l):=ae ⟨cd,cd.size,af _,af _,λa ha=>by subst ha;exact(World.ownsRow.lt b9 _ rfl).2,b9,rfl,λi _ _ h=>absurd h (dX _),λi _ _ _=>rfl⟩;have d1:w.heap.size<=W1.heap.size:=cd.size;clear b9 cd cR cQ;generalize W1.heap.size=lo at *;go_wp2_with fail
 go_loopw[14] (λc8 wr=>∃k cur hi,k<=l.length/\c8=.int .i64 (k:Nat)/\Br (tX τ) (tT τ) w wr l sp sa sc lo hi k cur cur) (λc8 _=>l.length - (intOf c8).toNat)
 case atStart=>exact⟨0,l,_,aH _,rfl,cJ.o⟩
 case round =>
  obtain⟨k,cur,hi,hk,rfl,hx⟩:=hrel;clear cJ;by_cases V:k<l.length
  .obtain⟨g,hA,c7,dv,hc⟩:=hx.own.cell (λ_=>rfl) (j:=k) (by rw[hx.len];exact V)
   subst hA;rw[hx.todo k V (by rw[hx.len];exact V) (af _)]at hc;obtain⟨s,bC⟩:∃x,l[k]=x:=⟨_,rfl⟩;rw[bC]at hc;have cI:=ae bC;have bt:=ae (br.o.ok _ (ak V));rw[bC]at bt;have bk:=ae (de.o k V);have ct:=ae (dn.o k V);have cp:=ae (dl.o k V);have cl:=ae (dd.o k V);rw[bC]at bk ct cp cl;clear bC;have c0:wr.cell? ⟨g,k*6,none⟩=some (.int .u8 s.bI):=hc 0 _ rfl;have c1:wr.cell? ⟨g,k*6+1,none⟩=some (.string s.aT):=hc 1 _ rfl;have c2:wr.cell? ⟨g,k*6+2,none⟩=some (.slice s.es.dO s.bf.length s.es.df):=hc 2 _ rfl;have c3:wr.cell? ⟨g,k*6+3,none⟩=some (.int .i64 s.gT):=hc 3 _ rfl;have c4:wr.cell? ⟨g,k*6+4,none⟩=some (.slice s.ts.dO s.gy.length s.ts.df):=hc 4 _ rfl;have c5:wr.cell? ⟨g,k*6+5,none⟩=some (.slice s.os.dO s.iD.length s.os.df):=hc 5 _ rfl;have HX:=ae hx.raise;have bc:=(ag wr.heap.size wr).alloc (af _) (.cells s.r 43);have cL:=ae (hx.raise.on bc);have cb:=ae (gM wr (.cells s.r 43));have d5:wr.heap.size<(wr.alloc (.cells s.r 43)).heap.size:=by simp
   have d4:g<wr.heap.size:=dv;clear hc hx bc;go_upto_region 5 with fail
   clear c0 c2 c3 c4 c5 HX;generalize wr.alloc (.cells s.r 43)=W5 at *;generalize d2:wr.heap.size=bx at *;obtain⟨a0,a1,a2,a3,a4,a5⟩:=aR cb.o;obtain⟨nm1,cX⟩:∃x,tT τ s.bI s.aT=x:=⟨_,rfl⟩;have bm:=ae cX
   go_cut[26] (λdy wx=>dy=.bool (decide (s.bI=1\/s.bI=2))/\W5=wx)
   case first =>
    by_cases k1:s.bI=1
    .have g1:(s.bI == 1)=true:=by simp[k1]
     have HD:Hid (decide (s.bI=1\/s.bI=2)=true):=ae (aC (.inl k1));clear k1;go_wp2_with fail
     go_meet
     case rel=>exact⟨by rw[HD.o],rfl⟩
    .have g1:(s.bI == 1)=false:=by simp[k1]
     by_cases k2:s.bI=2
     .have g2:(s.bI == 2)=true:=by simp[k2]
      have HD:Hid (decide (s.bI=1\/s.bI=2)=true):=ae (aC (.inr k2));clear k1 k2;go_wp2_with fail
      go_meet
      case rel=>exact⟨by rw[HD.o],rfl⟩
     .have g2:(s.bI == 2)=false:=by simp[k2]
      have HD:Hid (decide (s.bI=1\/s.bI=2)=false):=ae (az (λh=>h.elim k1 k2));clear k1 k2;go_wp2_with fail
      go_meet
      case rel=>exact⟨by rw[HD.o],rfl⟩
   case rest =>
    obtain⟨cP,rfl⟩:=hcut;have bi:=ae cP;clear cP;have ap:Hid (Br (tX τ) (tT τ) w W5 l sp (some ⟨g,0,none⟩) sc lo bx k cur cur):=cL
    go_upto_if 26 with fail
    go_cut[34] (λ_ wx=>Br (tX τ) (tT τ) w wx l sp (some ⟨g,0,none⟩) sc lo bx k (cur.set k (.mk s.bI nm1 s.es s.bf s.gT s.ts s.gy s.os s.iD)) cur/\wx.heap[bx]?=some (.cells s.r 43))
    case first =>
     have a7:∀h,cur[k]'h=s:=λh=>by rw[ap.o.todo k V h (af _),cI.o]
     by_cases hb:s.bI=1\/s.bI=2
     .have HD:Hid (decide (s.bI=1\/s.bI=2)=true):=ae (aC hb)
      have b6:=bi.o;rw[HD.o]at b6;subst b6;obtain⟨g',hA',_,_,hc⟩:=ap.o.own.cell (λ_=>rfl) (j:=k) (by rw[ap.o.len];exact V);cases hA'
      have y1:=hc 1 _ rfl;have f1:=ap.o.own.frozen (k*6+1);have e1:τ s.aT=nm1:=by rw[<-bm.o];exact(if_pos hb).symm
      have cE:=ae (HT.o W5 ap.o.low s.aT (match bt.o with|.mk _ _ _ c _ _ _ _ _ _=>c));rw[e1]at cE;have cF:=ae (ap.o.put (r:=1) (v:=.string nm1) (x:=.mk s.bI nm1 s.es s.bf s.gT s.ts s.gy s.os s.iD) c7 ap.o.len V (by decide) (by rw[a7];rfl));have b8:bx≠g:=by omega
      clear hb bi HD a7 hc e1;go_wp2_with fail
      refine cE.o.mono ?_;rintro o w' ⟨rfl,rfl⟩;go_wp2_with fail
      go_meet
      case rel=>exact⟨cF.o,(aN _ _ _ _ b8).trans cb.o⟩
     .have HD:Hid (decide (s.bI=1\/s.bI=2)=false):=ae (az hb)
      have b6:=bi.o;rw[HD.o]at b6;subst b6;have dk:Hid (cur.set k (.mk s.bI nm1 s.es s.bf s.gT s.ts s.gy s.os s.iD)=cur):=ae (by
       have e1:s.aT=nm1:=by rw[<-bm.o];exact(if_neg hb).symm
       rw[<-e1,QH];have cW:k<cur.length:=by rw[ap.o.len];exact V
       have:=List.set_getElem_self cW;rw[a7 cW]at this;exact this)
      clear hb bi HD a7;go_wp2_with fail
      go_meet
      case rel=>exact⟨by rw[dk.o];exact ap.o,cb.o⟩
    case rest =>
     obtain⟨ch,b7⟩:=hcut;have cM:=ae ch;have cc:=ae b7;obtain⟨b0,b1,b2,b3,b4,b5⟩:=aR b7;have bj:=ae (RowOf.more (RowOf.below bt.o.xs.row ch.low) ch.low.size);clear ch b7 ap cL cb bi a0 a1 a2 a3 a4 a5;go_wp2_with fail
     refine(BC wc s.es s.bf wc.heap.size bj.o bk.out).mono ?_;clear bj;rintro o W7 ⟨⟨⟨ea,ec⟩,rfl,ar,_⟩,ce⟩;have ba:=ae (cM.o.on ce);have cD:=ae ((ce.block _ (dM cc.o).1).trans cc.o);have cg:=(dM cc.o).1;have b8:bx≠g:=by omega
     obtain⟨g',hA',_,_,hc⟩:=ba.o.own.cell (λ_=>rfl) (j:=k) (by rw[fe,ba.o.len];exact V);cases hA'
     have y2:=hc 2 _ rfl;have f2:=ba.o.own.frozen (k*6+2);have cY:(W7.setCell ⟨g,k*6+2,none⟩ (.slice ea s.bf.length ec)).heap.size=W7.heap.size:=by simp
     have cN:Hid (Br (tX τ) (tT τ) w (W7.setCell ⟨g,k*6+2,none⟩ (.slice ea s.bf.length ec)) l sp (some ⟨g,0,none⟩) sc lo bx k (cur.set k (.mk s.bI nm1 ⟨ea,ec⟩ s.bf s.gT s.ts s.gy s.os s.iD)) cur):=ae (by
      have h:=ba.o.put (r:=2) (v:=.slice ea s.bf.length ec) (x:=(.mk s.bI nm1 ⟨ea,ec⟩ s.bf s.gT s.ts s.gy s.os s.iD)) c7 (by rw[fe];exact ba.o.len) V (by decide) (by simp[aa.cells,aa.bI,aa.aT,aa.es,aa.bf,aa.gT,aa.ts,aa.gy,aa.os,aa.iD,Sp.val])
      rwa [List.set_set]at h)
     have c6:Hid (OE (tX τ) (W7.setCell ⟨g,k*6+2,none⟩ (.slice ea s.bf.length ec)) bx s ea ec W7.heap.size 0 s.bf):=ae ⟨(aN _ _ _ _ b8).trans cD.o,aI cg ce.size,by rw[cY];exact af _,λa ha=>by subst ha;have h1:=World.ownsRow.lt ar _ rfl;exact⟨aI cg h1.1,h1.2⟩,
      (ar.less (show bx+1<=wc.heap.size from cg)).same λa ha=>by subst ha;exact aN _ _ _ _ (by have h1:=World.ownsRow.lt ar _ rfl;show a.block≠g;omega),rfl,λi _ _ h=>absurd h (dX _),λi _ _ _=>rfl⟩
     obtain⟨e0,e1,e2,e3,e4,e5⟩:=aR c6.o.ebox;clear hc ar ce cY;go_upto_region 9 with fail
     generalize W7.heap.size=lo2 at *;generalize W7.setCell ⟨g,k*6+2,none⟩ (.slice ea s.bf.length ec)=W8 at *;clear y2 f2 e0 e1 e2 e3 e4 e5 ba cD cM cc cg b0 b1 b2 b3 b4 b5;go_loopw[45] (λcA wx=>∃k2 cur2,k2<=s.bf.length/\cA=.int .i64 (k2:Nat)/\Br (tX τ) (tT τ) w wx l sp (some ⟨g,0,none⟩) sc lo bx k (cur.set k (.mk s.bI nm1 ⟨ea,ec⟩ s.bf s.gT s.ts s.gy s.os s.iD)) cur/\OE (tX τ) wx bx s ea ec lo2 k2 cur2) (λcA _=>s.bf.length - (intOf cA).toNat)
     case atStart=>exact⟨0,s.bf,aH _,rfl,cN.o,c6.o⟩
     case round =>
      obtain⟨k2,cur2,cV,rfl,ca,a8⟩:=hrel;clear cN c6;by_cases al:k2<s.bf.length
      .obtain⟨be,oe,eA,bd,hce⟩:=bt.o.xs.row.row (by omega)
       obtain⟨e,cf⟩:∃x,s.bf[k2]=x:=⟨_,rfl⟩;have ad:=hce k2 al;rw[cf]at ad;have dc:=ae cf;have cy:=ae (ct.out e (by rw[<-cf];exact ak al));have ao:=ca.low;have x0:wr.cell? ⟨be,oe+k2*6,none⟩=some (.int .u8 e.bI):=(ao.cell (p:=⟨be,_,none⟩) bd).trans (ad 0 _ rfl);have x1:wr.cell? ⟨be,oe+k2*6+1,none⟩=some (.int .u8 e.op):=(ao.cell (p:=⟨be,_,none⟩) bd).trans (ad 1 _ rfl);have x2:wr.cell? ⟨be,oe+k2*6+2,none⟩=some (.int .u32 e.bv):=(ao.cell (p:=⟨be,_,none⟩) bd).trans (ad 2 _ rfl);have x3:wr.cell? ⟨be,oe+k2*6+3,none⟩=some (.int .i64 e.aS):=(ao.cell (p:=⟨be,_,none⟩) bd).trans (ad 3 _ rfl);have x4:wr.cell? ⟨be,oe+k2*6+4,none⟩=some (.string e.aT):=(ao.cell (p:=⟨be,_,none⟩) bd).trans (ad 4 _ rfl);have x5:wr.cell? ⟨be,oe+k2*6+5,none⟩=some (.slice e.sp.dO e.cu.length e.sp.df):=(ao.cell (p:=⟨be,_,none⟩) bd).trans (ad 5 _ rfl);have bc:=(ag wr.heap.size wr).alloc (af _) (.cells e.r 30);have cq:=ae (ca.on bc);have cj:=ae (a8.on bc);have ci:=ae (gM wr (.cells e.r 30));obtain⟨ga,dq,du,_,dt⟩:=a8.own.cell (λ_=>rfl) (j:=k2) (by rw[a8.len];exact al);subst dq;clear cf hce ad ao bc dt ca a8;go_upto_region 11 with fail
       generalize wr.alloc (.cells e.r 30)=dp at *;have a7:∀W,Br (tX τ) (tT τ) w W l sp (some ⟨g,0,none⟩) sc lo bx k (cur.set k (.mk s.bI nm1 ⟨some ⟨ga,0,none⟩,ec⟩ s.bf s.gT s.ts s.gy s.os s.iD)) cur->W.cell? ⟨g,k*6+2,none⟩=some (.slice (some ⟨ga,0,none⟩) s.bf.length ec):=λW h=>by
        obtain⟨g',hA',_,_,hc⟩:=h.own.cell (λ_=>rfl) (j:=k) (by rw[fe,h.len];exact V);cases hA'
        exact hc 2 _ (by rw[fM];rfl)
       have aq:=ae a7;obtain⟨a0,a1,a2,a3,a4,a5⟩:=aR ci.o;have bw:=ae (cq.o.on (ag _ _).drew);have ck:=ae (cj.o.on (ag _ _).drew);have d6:=aq.o _ bw.o;have b8:bx≠g:=by omega
       clear x0 x1 x2 x3 x4 x5 cq cj ci a7;go_region_with(go_at_call 149;refine(cy.o dp.drew bw.o.low).mono ?_;rintro o W6 ⟨e1,rfl,U,O,hb⟩;have cr:=ae (bw.o.on hb);have aE:=ae (ck.o.on hb);have dj:=ae U;have dg:=ae (O.less ck.o.lo2W);have d7:=aq.o _ cr.o;obtain⟨g',hA',_,_,hc⟩:=aE.o.own.cell (λ_=>rfl) (j:=k2) (by rw[aE.o.len];exact al);cases hA';have z0:=hc 0 _ rfl;rw[bS]at z0;have z1:=hc 1 _ rfl;have z2:=hc 2 _ rfl;have z3:=hc 3 _ rfl;have z4:=hc 4 _ rfl;have z5:=hc 5 _ rfl;have fz:=λj=>aE.o.own.frozen j;have f0:=fz (k2*6);have f1:=fz (k2*6+1);have f2:=fz (k2*6+2);have f3:=fz (k2*6+3);have f4:=fz (k2*6+4);have f5:=fz (k2*6+5);clear U O hb hc fz)
       all_goals
        have hw:wrap64 ((k2:Int)+1)=(k2:Int)+1:=IntWalk.wrap64_in _ ⟨by omega,by have:=bk.out;omega⟩;have dr:bx<=ga:=Nat.le_of_succ_le du;have aw:s.bf.length - ((k2:Int)+1).toNat<s.bf.length - (k2:Int).toNat:=by clear hw;omega
        go_wp2_with fail
        have db:=ae eA;clear eA;rw[<-db.o];go_roundw
        case rel=>exact⟨k2+1,cur2.set k2 e1,al,by first|rfl|(rw[hw];rfl)|go_num,cr.o.keep (xz (ag bx W6) dr _ _ _ _ _ _ _),aE.o.put al (by rw[dc.o];exact dj.o) dg.o⟩
        case measure=>first|exact aw|(rw[hw];exact aw)|(simp only[intOf];exact aw)|(simp only[intOf,hw];exact aw)|(simp[intOf];omega)
      .obtain rfl:k2=s.bf.length:=Nat.le_antisymm cV (Nat.le_of_not_lt al)
       have a9:Hid (∀W,Below w.heap.size w W->∀args b,OO F bs s args b->Calls Tryz.prog 151 args W λo w'=>∃(cC:Sp) (l':List aa),o=.returned (.slice cC.dO l'.length cC.df)/\yY (tX τ) (tT τ) (if b=true then s.gy else s.iD) l'/\j4 W.heap.size w' cC l'/\Below W.heap.size W w'):=ae λW hW args b h=>by
        cases h with
        |th=>exact cp.out W hW
        |el=>exact cl.out W hW
       have aq:Hid (∀W,Br (tX τ) (tT τ) w W l sp (some ⟨g,0,none⟩) sc lo bx k (cur.set k (.mk s.bI nm1 ⟨ea,ec⟩ s.bf s.gT s.ts s.gy s.os s.iD)) cur->W.cell? ⟨g,k*6+4,none⟩=some (.slice s.ts.dO s.gy.length s.ts.df)/\W.cell? ⟨g,k*6+5,none⟩=some (.slice s.os.dO s.iD.length s.os.df)):=ae λW h=>by
        obtain⟨g',hA',_,_,hc⟩:=h.own.cell (λ_=>rfl) (j:=k) (by rw[fe,h.len];exact V);cases hA'
        exact⟨hc 4 _ (by rw[fM];rfl),hc 5 _ (by rw[fM];rfl)⟩
       have D:=ae (ca.on (ag _ _).drew);have ab:=ae (a8.on (ag _ _).drew);obtain⟨_,_,_,_,a4,a5⟩:=aR a8.ebox;have b8:bx≠g:=by omega
       have M1:Hid (0=0):=ae rfl;clear ca a8 cV al;go_upto_region 13 with fail
       go_region_with(first
        |(clear M1;go_at_call 151;refine(a9.o _ D.o.low _ true (by with_reducible exact .th)).mono ?_;rintro o WT ⟨tsp,tl,rfl,U,O,hb⟩;have an:=ae (D.o.on hb);have am:=ae (ab.o.on hb);have cH:=ae U;have bo:=ae (O.less (ai D.o.hhi D.o.hiW));clear D ab U O hb;have D:=an;have ab:=am;clear an am;have w5:=(aR ab.o.ebox).2.2.2.2.2;have f5:=D.o.own.frozen (k*6+5))
        |(clear M1;go_at_call 151;refine(a9.o _ D.o.low _ false (by with_reducible exact .el)).mono ?_;rintro o WE ⟨osp,ol,rfl,U,O,hb⟩;have an:=ae (D.o.on hb);have am:=ae (ab.o.on hb);have cG:=ae U;have bl:=ae (O.less (ai D.o.hhi D.o.hiW));clear D ab U O hb;have D:=an;have ab:=am;clear an am;have w4:=(aR ab.o.ebox).2.2.2.2.1;have w5:=(aR ab.o.ebox).2.2.2.2.2;have q4:=(aq.o _ D.o).1;have q5:=(aq.o _ D.o).2;have f4:=D.o.own.frozen (k*6+4);have f5:=D.o.own.frozen (k*6+5))
        |(go_at_call 151;refine(a9.o _ D.o.low _ true (by with_reducible exact .th)).mono ?_;rintro o WT ⟨tsp,tl,rfl,U,O,hb⟩;have cn:=ae (bl.o.on' hb);clear bl;have bl:=cn;clear cn;have an:=ae (D.o.on hb);have am:=ae (ab.o.on hb);have cH:=ae U;have bo:=ae (O.less (ai D.o.hhi D.o.hiW));clear D ab U O hb;have D:=an;have ab:=am;clear an am;have w4:=(aR ab.o.ebox).2.2.2.2.1;have w5:=(aR ab.o.ebox).2.2.2.2.2;have q4:=(aq.o _ D.o).1;have q5:=(aq.o _ D.o).2;have f4:=D.o.own.frozen (k*6+4);have f5:=D.o.own.frozen (k*6+5))
        |(go_at_call 151;refine(a9.o _ D.o.low _ false (by with_reducible exact .el)).mono ?_;rintro o WE ⟨osp,ol,rfl,U,O,hb⟩;have co:=ae (bo.o.on' hb);clear bo;have bo:=co;clear co;have an:=ae (D.o.on hb);have am:=ae (ab.o.on hb);have cG:=ae U;have bl:=ae (O.less (ai D.o.hhi D.o.hiW));clear D ab U O hb;have D:=an;have ab:=am;clear an am;have q4:=(aq.o _ D.o).1;have q5:=(aq.o _ D.o).2;have f4:=D.o.own.frozen (k*6+4);have f5:=D.o.own.frozen (k*6+5))
        |fail)
       all_goals
        obtain⟨cv,hi',cx⟩:=D.o.fin ab.o bo.o bl.o (by simpa using cH.o) (by simpa using cG.o) bm.o V cI.o c7 (λk s hs=>by unfold tT;split;exact hτ s hs;exact hs) bt.o;have hw:wrap64 ((k:Int)+1)=(k:Int)+1:=IntWalk.wrap64_in _ ⟨by omega,by have:=cm.o;omega⟩;have aw:l.length - ((k:Int)+1).toNat<l.length - (k:Int).toNat:=by clear hw;omega
        have HF:=ae cx;clear cx;go_wp2_with fail
        go_roundw
        case rel=>first|exact⟨k+1,cv,hi',V,by first|rfl|(rw[hw];rfl)|go_num,HF.o⟩|((repeat apply Exists.intro);exact⟨⟨k+1,cv,hi',V,by first|rfl|(rw[hw];rfl)|go_num,HF.o⟩,rfl⟩)
        case measure=>first|exact aw|(rw[hw];exact aw)|(simp only[intOf];exact aw)|(simp only[intOf,hw];exact aw)|(simp[intOf];omega)
  .obtain rfl:k=l.length:=Nat.le_antisymm hk (Nat.le_of_not_lt V)
   have HX:=ae hx;clear hx hk V;go_wp2_with fail
   go_ret
   refine⟨⟨sa,sc⟩,cur,by rw[HX.o.len];rfl,yY.of HX.o.len λi h1 h2=>(HX.o.done i h1 h2 h1).1,⟨HX.o.own.low (λ_=>rfl) (by rw[HX.o.len];exact br.o.row.few) (af _),λx hm=>?_⟩,HX.o.low⟩;obtain⟨i,cT,rfl⟩:=gm hm;have cU:i<l.length:=by rw[<-HX.o.len];exact cT
   exact nk.less ((HX.o.done i cU cT cU).2.raise HX.o.hiW) HX.o.hlo
end Go.Proofs.YtepacjkacjabbaaGreatDoor
