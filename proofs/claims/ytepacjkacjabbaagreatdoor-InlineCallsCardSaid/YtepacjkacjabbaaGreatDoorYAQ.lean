import Derived.Test.YtepacjkacjabbaaGreatDoorYAM
import Derived.Test.YtepacjkacjabbaaGreatDoorYAN
import Derived.Test.YtepacjkacjabbaaGreatDoorYAL
set_option linter.all false
set_option maxRecDepth 10000000
set_option maxHeartbeats 64000000
namespace Go.Proofs.YtepacjkacjabbaaGreatDoor
open Go Go.Maps Go.RowKit
theorem Ke(a b c d:Int)(s:ByteArray)(x:Value):(Tryz.prog.info? 30).map (·.size)=some (#[Value.int .u8 a,.int .u8 b,.int .u32 c,.int .i64 d,.string s,x]:Array Value).size:=by kernel_rfl
def Aj(F:Nat)(bs:Array Value)(τ:ByteArray->ByteArray)(n0:Nat)(W0:World):Prop:=(∀(args:Array Value) (W:World),Sem.run Tryz.prog (callFunc F args) W=.ok (.enter F args) W)/\∀W,Below n0 W0 W->n0<=W.heap.size->∀s:ByteArray,s.size<=maxLen ->
 Calls Tryz.prog F (#[.string s]++bs) W λo w'=>o=.returned (.string (τ s))/\w'=W
def EL(F:Nat)(bs:Array Value)(τ:ByteArray->ByteArray)(n0:Nat)(W0:World)(e:ah):Prop:=∀W,Below n0 W0 W->n0<=W.heap.size ->
 Calls Tryz.prog 149 #[.agg #[.int .u8 e.bI,.int .u8 e.op,.int .u32 e.bv,.int .i64 e.aS,.string e.aT,.slice e.sp.dO e.cu.length e.sp.df],.func (.func F) #[] bs] W λo w'=>∃D:ah,o=.returned (.agg #[.int .u8 D.bI,.int .u8 D.op,.int .u32 D.bv,.int .i64 D.aS,.string D.aT,.slice D.sp.dO D.cu.length D.sp.df])/\En (tX τ) e D/\fV W.heap.size w' D/\Below W.heap.size W w'
theorem PU(F:Nat)(bs:Array Value)(τ:ByteArray->ByteArray)(hτ:∀s,s.size<=maxLen->(τ s).size<=maxLen)(n0:Nat)(W0:World)(hT:Aj F bs τ n0 W0)(e:ah)(b7:mM n0 W0 e)(bc:e.cu.length<=1000000)(ih:∀s,s∈e.cu->EL F bs τ n0 W0 s):EL F bs τ n0 W0 e:=by
 intro w a6 an;have hr:mM w.heap.size w e:=(b7.stays a6).more an;have b1:=ae hr;have ca:=ae λ(i:Nat) (hi:i<e.cu.length) (W:World) (hW:Below w.heap.size w W)=>ih _ (ak hi) W (a6.trans (hW.mono an)) (ai an hW.size)
 have HT:=ae λ(W:World) (hW:Below w.heap.size w W)=>hT.2 W (a6.trans (hW.mono an)) (ai an hW.size)
 have a8:=ae bc;have ck:=hT.1;obtain⟨_,_,_,_,ci⟩:=(match hr with|.mk _ a b c d e _ _=>⟨a,b,c,d,e⟩:_/\_/\_/\_/\_);have b6:=hr.row.df;have b5:=hr.row.big;clear b7 a6 ih bc hr hT;go_enter Tryz.func149,Tryz.ntmps149
 have V:=ae (λ(W:World) (sa:Option Addr) (sc lo:Nat) (cur:List ah) (h:OJ (tX τ) w W e sa sc lo e.cu.length cur)=>h.fin b1.o (λk s hs=>by unfold tX;split;exact hτ s hs;exact hs));obtain⟨aq,be⟩:∃s,tX τ e.bI e.aT=s:=⟨_,rfl⟩;have bk:=ae be;clear be;go_upto_region 1 with fail
 go_cut[14] (λcj wx=>cj=.bool (decide (e.bI=2\/e.bI=3))/\((w.alloc (.cells e.r 30)).alloc (.cells #[.int .u8 0,.int .u8 0,.int .u32 0,.int .i64 0,.string ⟨#[]⟩,.slice none 0 0] 30))=wx)
 case first =>
  by_cases k2:e.bI=2
  .have g1:(e.bI == 2)=true:=by simp[k2]
   have g2:(e.bI == 3)=false:=by simp[k2]
   have HD:Hid (decide (e.bI=2\/e.bI=3)=true):=ae (aC (.inl k2));clear k2;go_wp2_with fail
   go_meet
   case rel=>exact⟨by rw[HD.o],rfl⟩
  .have g1:(e.bI == 2)=false:=by simp[k2]
   by_cases k3:e.bI=3
   .have g2:(e.bI == 3)=true:=by simp[k3]
    have HD:Hid (decide (e.bI=2\/e.bI=3)=true):=ae (aC (.inr k3));clear k2 k3;go_wp2_with fail
    go_meet
    case rel=>exact⟨by rw[HD.o],rfl⟩
   .have g2:(e.bI == 3)=false:=by simp[k3]
    have HD:Hid (decide (e.bI=2\/e.bI=3)=false):=ae (az (λh=>h.elim k2 k3));clear k2 k3;go_wp2_with fail
    go_meet
    case rel=>exact⟨by rw[HD.o],rfl⟩
 case rest =>
  obtain⟨b3,ce⟩:=hcut;subst ce;have ar:=ae b3;clear b3
  go_upto_if 14 with fail
  go_cut[18] (λ_ wx=>((w.alloc (.cells #[.int .u8 e.bI,.int .u8 e.op,.int .u32 e.bv,.int .i64 e.aS,.string aq,.slice e.sp.dO e.cu.length e.sp.df] 30)).alloc (.cells #[.int .u8 0,.int .u8 0,.int .u32 0,.int .i64 0,.string ⟨#[]⟩,.slice none 0 0] 30))=wx)
  case first =>
   have aE:Below w.heap.size w ((w.alloc (.cells e.r 30)).alloc (.cells #[.int .u8 0,.int .u8 0,.int .u32 0,.int .i64 0,.string ⟨#[]⟩,.slice none 0 0] 30)):=((ag _ _).alloc (af _) _).alloc (by simp) _;have b0:=ae (HT.o _ aE e.aT ci);clear aE;by_cases hk:e.bI=2\/e.bI=3
   .have HD:Hid (decide (e.bI=2\/e.bI=3)=true):=ae (aC hk)
    have al:=ar.o;rw[HD.o]at al;subst al;have e1:τ e.aT=aq:=by rw[<-bk.o];exact(if_pos hk).symm
    rw[e1]at b0;clear hk e1 ar;go_wp2_with fail
    refine b0.o.mono ?_;rintro o w' ⟨rfl,rfl⟩;go_wp2_with fail
    go_meet
    case rel=>rfl
   .have HD:Hid (decide (e.bI=2\/e.bI=3)=false):=ae (az hk)
    have al:=ar.o;rw[HD.o]at al;subst al;have e1:e.aT=aq:=by rw[<-bk.o];exact(if_neg hk).symm
    have E1:=ae e1;clear hk e1 ar;go_wp2_with fail
    go_meet
    case rel=>rw[<-E1.o]
  case rest =>
   subst hcut;obtain⟨br,b9,cl,aw⟩:=pX w (.cells #[.int .u8 e.bI,.int .u8 e.op,.int .u32 e.bv,.int .i64 e.aS,.string aq,.slice e.sp.dO e.cu.length e.sp.df] 30) (.cells #[.int .u8 0,.int .u8 0,.int .u32 0,.int .i64 0,.string ⟨#[]⟩,.slice none 0 0] 30);generalize (w.alloc (.cells #[.int .u8 e.bI,.int .u8 e.op,.int .u32 e.bv,.int .i64 e.aS,.string aq,.slice e.sp.dO e.cu.length e.sp.df] 30)).alloc (.cells #[.int .u8 0,.int .u8 0,.int .u32 0,.int .i64 0,.string ⟨#[]⟩,.slice none 0 0] 30)=W2 at *;obtain⟨x0,x1,x2,x3,x4,x5⟩:=aR br;have bl:=ae br;have bo:=ae b9;have bj:=ae aw;have a9:=ae (RowOf.more (RowOf.below b1.o.row aw) aw.size);clear br b9 aw x0 x1 x2 x3 x4 b6 b5;go_wp2_with fail
   refine(BC W2 e.sp e.cu W2.heap.size a9.o a8.o).mono ?_;clear x5 a9;rintro o W3 ⟨⟨⟨sa,sc⟩,rfl,ao,_⟩,am⟩;have ap:=(am.block _ (dM bl.o).1).trans bl.o;have bC:=(am.block _ (dM bo.o).1).trans bo.o;have cg:=(dM ap).1;have ba:=bj.o.trans (am.mono bj.o.size);have x5:W3.cell? ⟨w.heap.size,5,none⟩=some (.slice e.sp.dO e.cu.length e.sp.df):=(aR ap).2.2.2.2.2;have f5:W3.frozen? ⟨w.heap.size,5,none⟩=false:=by simp[World.frozen?,ap]
   have b8:OJ (tX τ) w (W3.setCell ⟨w.heap.size,5,none⟩ (.slice sa e.cu.length sc)) e sa sc W3.heap.size 0 e.cu:=by
    refine⟨ba.setCell (p:=⟨w.heap.size,5,none⟩) (af _) _,by have:=am.size;omega,by simp,λa ha=>?_,?_,(aN _ _ _ _ (by simp)).trans bC,(ao.less (by omega)).kept λg _ _ hg _=>aN _ _ _ _ (by show g≠w.heap.size;omega),rfl,λi _ _ h=>absurd h (dX _),λi _ _ _=>rfl⟩
    .subst ha
     exact(World.ownsRow.lt ao _ rfl).2
    .rw[World.setCell,cK,if_pos rfl,ap,bk.o]
     rfl
   have b2:=ae b8;clear ap bC cg ba b8 ao am bl bo bj;go_upto_region 5 with fail
   generalize W3.heap.size=lo at *;generalize W3.setCell ⟨w.heap.size,5,none⟩ (.slice sa e.cu.length sc)=W4 at *;clear x5 f5;go_loopw[27] (λbt wr=>∃k cur,k<=e.cu.length/\bt=.int .i64 (k:Nat)/\OJ (tX τ) w wr e sa sc lo k cur) (λbt _=>e.cu.length - (intOf bt).toNat)
   case atStart=>exact⟨0,e.cu,aH _,rfl,b2.o⟩
   case round =>
    obtain⟨k,cur,hk,rfl,hx⟩:=hrel;clear b2;by_cases D:k<e.cu.length
    .as_aux_lemma =>
     obtain⟨g,hA,cf,_,hc⟩:=hx.own.cell (λ_=>rfl) (j:=k) (by rw[hx.len];exact D);subst hA;rw[hx.todo k D (by rw[hx.len];exact D) (af _)]at hc;obtain⟨x,a7⟩:∃x,e.cu[k]=x:=⟨_,rfl⟩;rw[a7]at hc;have cd:=ae a7;have U:=ae (ca.o k D);rw[a7]at U;clear a7;have c0:wr.cell? ⟨g,k*6,none⟩=some (.int .u8 x.bI):=hc 0 _ rfl;have c1:wr.cell? ⟨g,k*6+1,none⟩=some (.int .u8 x.op):=hc 1 _ rfl;have c2:wr.cell? ⟨g,k*6+2,none⟩=some (.int .u32 x.bv):=hc 2 _ rfl;have c3:wr.cell? ⟨g,k*6+3,none⟩=some (.int .i64 x.aS):=hc 3 _ rfl;have c4:wr.cell? ⟨g,k*6+4,none⟩=some (.string x.aT):=hc 4 _ rfl;have c5:wr.cell? ⟨g,k*6+5,none⟩=some (.slice x.sp.dO x.cu.length x.sp.df):=hc 5 _ rfl;have HX:=ae hx;have b4:=(ag wr.heap.size wr).alloc (af _) (.cells x.r 30);have bm:=ae (hx.on b4);have bw:=ae (gM wr (.cells x.r 30));clear hc hx;go_upto_region 7 with fail
     generalize wr.alloc (.cells x.r 30)=W5 at *;have x5:W5.cell? ⟨w.heap.size,5,none⟩=some (.slice (some ⟨g,0,none⟩) e.cu.length sc):=(aR bm.o.box).2.2.2.2.2;obtain⟨a0,a1,a2,a3,a4,a5⟩:=aR bw.o;have ab:=ae (bm.o.on (ag _ _).drew);clear c0 c1 c2 c3 c4 c5 HX bm bw b4;go_region_with(go_at_call 149;refine(U.o W5.drew ab.o.low).mono ?_;rintro o W6 ⟨e1,rfl,bi,bd,hb⟩;have ad:=ae (ab.o.on hb);have cc:=ae bi;have cb:=ae (bd.less ab.o.loW);have cm:=(aR ad.o.box).2.2.2.2.2;obtain⟨g',hA',_,_,hc⟩:=ad.o.own.cell (λ_=>rfl) (j:=k) (by rw[ad.o.len];exact D);cases hA';have y0:=hc 0 _ rfl;rw[bS]at y0;have y1:=hc 1 _ rfl;have y2:=hc 2 _ rfl;have y3:=hc 3 _ rfl;have y4:=hc 4 _ rfl;have y5:=hc 5 _ rfl;have O:=λj=>ad.o.own.frozen j;have f0:=O (k*6);have f1:=O (k*6+1);have f2:=O (k*6+2);have f3:=O (k*6+3);have f4:=O (k*6+4);have f5:=O (k*6+5);clear bi bd hb hc O)
     all_goals
      go_wp2_with fail
      have hw:wrap64 ((k:Int)+1)=(k:Int)+1:=IntWalk.wrap64_in _ ⟨by omega,by have:=a8.o;omega⟩;rw[hw];clear hw;have bh:=ad.o.put D (by rw[cd.o];exact cc.o) cb.o cf;have ch:e.cu.length - ((k:Int)+1).toNat<e.cu.length - (k:Int).toNat:=by clear bh;omega
      exact⟨⟨k+1,cur.set k e1,D,rfl,bh⟩,ch⟩
    .as_aux_lemma =>
     obtain rfl:k=e.cu.length:=by omega
     clear D hk;have HX:=ae hx;obtain⟨x0,x1,x2,x3,x4,x5⟩:=aR hx.box;obtain⟨z0,z1,z2,z3,z4,z5⟩:=aR hx.res;have O:∀j,wr.frozen? ⟨w.heap.size+1,j,none⟩=false:=λj=>by simp[World.frozen?,hx.res]
     have f0:=O 0;have f1:=O 1;have f2:=O 2;have f3:=O 3;have f4:=O 4;have f5:=O 5;clear hx O;go_wp2_with fail
     exact aW (aL rfl _ _ (w.heap.size+1) 30 _ (0,0) _ rfl (RZ HX.o.res _ _ _ _ _ _) Tryz.underlying30 rfl (Ke _ _ _ _ _ _)) rfl ⟨UJ (tX τ) e sa sc cur,by have hl:(UJ (tX τ) e sa sc cur).cu.length=e.cu.length:=HX.o.len;rw[hl];rfl,(V.o wr sa sc lo cur HX.o).1,(V.o wr sa sc lo cur HX.o).2.1,(V.o wr sa sc lo cur HX.o).2.2⟩
structure CP(seen:List Nat)(n:Nat)(f:Int->Option Int):Prop where
 yes:∀i:Nat,i∈seen->∃c:Int,f i=some c/\1<=c/\c<=n
 no:∀i:Nat,i∉seen->f i=none
theorem CP.again{seen:List Nat}{n:Nat}{f:Int->Option Int}(h:CP seen n f){x:Nat}{c:Int}(V:0<=c)(hc:c<=n)(U:x∈seen):CP seen (n+1) (λm=>if m=(x:Int) then some (c+1) else f m):=by
 refine⟨λi hi=>?_,λi hi=>?_⟩
 .by_cases e:(i:Int)=x
  .exact⟨c+1,by simp[e],by omega,by omega⟩
  .obtain⟨D,h1,O,h3⟩:=h.yes i hi
   exact⟨D,by simp[e,h1],O,by omega⟩
 .have e:¬(i:Int)=x:=λe=>hi (by rw[show i=x by omega];exact U)
  simp[e,h.no i hi]
theorem CP.first{seen:List Nat}{n:Nat}{f:Int->Option Int}(h:CP seen n f){x:Nat}{c:Int}(V:0<=c)(hc:c<=n):CP (x::seen) (n+1) (λm=>if m=(x:Int) then some (c+1) else f m):=by
 refine⟨λi hi=>?_,λi hi=>?_⟩
 .by_cases e:(i:Int)=x
  .exact⟨c+1,by simp[e],by omega,by omega⟩
  .obtain⟨D,h1,U,h3⟩:=h.yes i (by
    rcases List.mem_cons.1 hi with O|hi
    .exact absurd (by rw[O]) e
    .exact hi)
   exact⟨D,by simp[e,h1],U,by omega⟩
 .have e:¬(i:Int)=x:=λe=>hi (by rw[show i=x by omega];exact aD ..)
  simp[e,h.no i (λh=>hi (au _ h))]
theorem TQ{x:Nat}(h:x<=1000000000):(Lit.int .i64 (x:Int)).wf=true:=by
 have h1:IntKind.i64.min=-9223372036854775808:=by decide
 have D:IntKind.i64.max=9223372036854775807:=by decide
 show(decide (IntKind.i64.min<=(x:Int)) && decide ((x:Int)<=IntKind.i64.max))=true;rw[h1,D,bg,aU,aU];omega
theorem qQ.lookN{K:mq}{pm:Option Nat}{E:Env}{n:Int}{over:Bool}{W:World}(h:qQ K pm E n over W){s:ByteArray}(D:s.size<=maxLen) :
  (Instr.lookup 119 (.map (some K.mp)) (.string s) true).run Tryz.prog W=.ok (.tuple #[.int .i64 ((look (eG K.p) s).getD 0),.bool (look (eG K.p) s).isSome]) W:=by
 obtain⟨k,hm⟩:=h.aA;have:=hm.look_ok xH Tryz.underlying119 (zx D);rw[kR]at this;exact this
theorem Lb{n₀:Nat}{W:World}{s:Sp}{l:List aa}(h:gq n₀ W s l):∀t∈l.flatMap aa.pre,t.aT.size<=maxLen:=by
 intro t ht;obtain⟨y,D,ht⟩:=List.mem_flatMap.1 ht;have:=CK (h.ok y D) t ht;cases this;assumption
structure OM(p:aj)(q:Nat)(from_ tgt:Nat)(gk:Nat)(v:Value)(w wr:World)(seen todo:List Nat)(n:Nat)(f:Int->Option Int):Prop where
 row:qY (q+1) wr v todo
 map:iZ uh 3 wr q n (mg f)
 seenF:CP seen n f
 below:Below q w wr
 eq:kF p from_ tgt=kP p tgt gk seen todo
 fuel:1+todo.length+Jl p seen<=gk
 few:n+gk<=vE p
 ok:∀x∈todo,x<p.aA.length
theorem Ng{K:mq}{pm:Option Nat}{E:Env}{n:Int}{over:Bool}(w:World)(hk:qQ K pm E n over w)(hH:eF K.p<=20000)(i:Nat)(hi:i<K.p.aA.length)(al:Nat)(d6:al<=1000000000) :
  Calls Tryz.prog 277 #[.pointer (some ⟨K.q,0,none⟩),.int .i64 i,.int .i64 al] w λo w'=>o=.returned (.bool (kF K.p i al))/\Below w.heap.size w w':=by
 have d2:=@run_makeMap Tryz.prog;have cF:=ae (Kl hH);have cI:=ae (yu hH);have a5:=jc w (.map #[] 0);have bm:Below w.heap.size w ((w.alloc (.map #[] 0)).alloc (.cells #[.int .i64 i] 3)):=a5.alloc a5.size _;have c4:qY (w.heap.size+1) ((w.alloc (.map #[] 0)).alloc (.cells #[.int .i64 i] 3)) (.slice (some ⟨w.heap.size+1,0,none⟩) 1 1) [i]:=by
  have:=qY.first (q:=w.heap.size+1) (W:=w.alloc (.map #[] 0)) i (by simp)
  rwa [di]at this
 have cw:iZ uh 3 ((w.alloc (.map #[] 0)).alloc (.cells #[.int .i64 i] 3)) w.heap.size 0 (mg λ_=>none):=
  ((iZ.made uh 3 w).below (B:=w.heap.size+1) ((ag _ _).alloc (by simp) _) (by omega)).congr λl _=>by unfold mg;split<;>rfl
 have aw:OM K.p w.heap.size i al (vE K.p) (.slice (some ⟨w.heap.size+1,0,none⟩) 1 1) w ((w.alloc (.map #[] 0)).alloc (.cells #[.int .i64 i] 3)) [] [i] 0 (λ_=>none):=
  ⟨c4,cw,⟨λi h=>absurd h (by simp),λ_ _=>rfl⟩,bm,rfl,by rw[Po];simp,by omega,λx hx=>by simp at hx;omega⟩
 have ci:=ae aw;have HK:=ae hk;have HH:=ae hH;clear a5 bm c4 cw aw hk hH hi;go_enter Tryz.func277,Tryz.ntmps277
 go_wp2_with fail
 go_loopg [8] (vE K.p) (λgk v wr=>∃seen D n f,OM K.p w.heap.size i al gk v w wr seen D n f)
 case atStart=>exact⟨_,_,_,_,ci.o⟩
 case round =>
  obtain⟨seen,D,n,f,aw⟩:=hrel;have hq:=aw.row;have U:=ae aw;clear aw ci;cases D with
  |nil =>
   obtain⟨ao,df,rfl,-⟩:=hq.ex;have O:kF K.p i al=false:=by rw[U.o.eq,KW]
   have HF:=ae O;simp only[bK];clear O hq;go_wp2_with fail
   go_ret
   exact⟨by rw[HF.o];rfl,U.o.below⟩
  |cons x D =>
   obtain⟨g,off,df,rfl,_,_,b3,b6⟩:=hq.front;obtain⟨ao,cN⟩:∃ao,(if df=0 then some (⟨g,off,none⟩:Addr) else some ⟨g,off+1,none⟩)=ao:=⟨_,rfl⟩;rw[cN]at b6;have cf:=ae b6;have cS:∃m,gk=m+1:=⟨gk - 1,by have:=U.o.fuel;simp at this;omega⟩;obtain⟨m,rfl⟩:=cS;have dr:decide (0<D.length+1)=true:=by simp
   have a1:=U.o.ok x (aD ..);have d4:=cI.o;have dt:=cF.o;have du:=U.o.few;have cR:=U.o.fuel;simp only[aF]at cR ⊢;clear b6 hq;by_cases hx:x=al
   .subst hx
    have O:kF K.p i x=true:=by rw[U.o.eq,KV]
    have HF:=ae O;clear O;go_wp2_with fail
    go_ret
    exact⟨by rw[HF.o];rfl,U.o.below⟩
   .have hne:((x:Int) == (al:Int))=false:=by simp;omega
    have HX:=ae hx;have cC:(Lit.int .i64 (x:Int)).wf=true:=TQ (by omega);have be:=Tp cC;have bh:=U.o.map.look GM Tryz.underlying185 be;obtain⟨c,hc⟩:∃c:Int,(f x).getD 0=c:=⟨_,rfl⟩;have cp:(mg f (.int .i64 (x:Int))).getD uh.zero=c:=hc;rw[cp]at bh;have cP:0<=c/\c<=n/\(1<=c↔x∈seen):=by
     by_cases hs:x∈seen
     .obtain⟨c',h1,h2,h3⟩:=U.o.seenF.yes x hs
      rw[h1]at hc;simp at hc;subst hc;exact⟨by omega,h3,by simp[hs,h2]⟩
     .rw[U.o.seenF.no x hs]at hc;simp at hc;subst hc
      exact⟨by omega,by omega,by simp[hs]⟩
    obtain⟨bo,br,bt⟩:=cP;obtain⟨w8,ad,V,ab⟩:=U.o.map.store GM Tryz.underlying185 (by unfold maxLen;omega) be (c+1);have bi:=V.look GM Tryz.underlying185 be;have c0:(Bb (mg f) (.int .i64 (x:Int)) (c+1) (.int .i64 (x:Int))).getD uh.zero=c+1:=by
     rw[uY];simp[mg]
    rw[c0]at bi;rw[uY]at V
    replace ad:(Instr.mapUpdate 185 (.map (some w.heap.size)) (.int .i64 (x:Int)) (.int .i64 (c+1))).run Tryz.prog wr=.ok () w8:=ad
    replace bh:(Instr.lookup 185 (.map (some w.heap.size)) (.int .i64 (x:Int)) false).run Tryz.prog wr=.ok (.int .i64 c) wr:=bh
    replace bi:(Instr.lookup 185 (.map (some w.heap.size)) (.int .i64 (x:Int)) false).run Tryz.prog w8=.ok (.int .i64 (c+1)) w8:=bi
    have c5:=cf.o.turned ab;have ck:Below w.heap.size w w8:=U.o.below.grown ab.grown U.o.below.size (λq hq=>by cases hq;exact af _);have ba:=ae V;have cg:=ae c5;have a9:=ae ck;have cb:=ae bt;have HC:=ae hc;clear be hc cp V ab c5 ck bt c0 hx cC cf;by_cases hs:x∈seen
    .have ct:decide (1<c+1)=true:=aC (by have:=cb.o.2 hs;omega)
     have a3:=ae hs;clear hs;go_wp2_with(refine kI rfl _ _ _ 185 rfl rfl rfl rfl ad ?_)
     go_roundg m
     case measure=>omega
     case rel=>exact⟨seen,D,n+1,_,cg.o,ba.o,U.o.seenF.again bo br a3.o,a9.o,by rw[U.o.eq,IR _ _ _ _ _ _ HX.o a3.o],by omega,by omega,λy hy=>U.o.ok y (au _ hy)⟩
    .have b3:c=0:=by
      have h1:=cb.o;by_cases h2:1<=c
      .exact absurd (h1.1 h2) hs
      .omega
     subst b3;have a3:=ae hs;have an:=HK.o.new a9.o;have cj:=an.c13;have hq:=an.prog.aA _ (ak a1);obtain⟨b,cD,eA,dq,a6⟩:=an.prog.prow.row (by omega);have cW:w8.cell? ⟨b,cD+x*3+2,none⟩=some (.slice K.p.aA[x].bs.dO K.p.aA[x].eY.length K.p.aA[x].bs.df):=a6 x a1 2 _ rfl;rw[eA]at cj;have dg:(0:Int)<=(x:Int):=by omega
     have dj:(x:Int)<(K.p.aA.length:Int):=by omega
     have cV:K.n₀<=w8.heap.size:=by have:=an.lt;have:=an.q;have:=an.n0;omega
     have am:=hq.eY.more cV;have cM:=HH.o;have hL:=M9 cM (ak a1);have cX:=FI K.p x a1;have c3:=I4 K.p x a1;have O:=Fe (K.p.aA[x].eY.flatMap aa.pre);have cT:=rX (K.p.aA[x].eY.flatMap aa.pre) 0 (Int.le_refl 0) hL;have b2:=ER w8 _ _ am hL (by omega);have cy:=CY K.p.aA[x].eY (λs=>s.size<=maxLen) (Lb am);simp only[Sp.val]at b2;have cQ:=CX K.p.aA[x].eY;have d3:(jG K.p.aA[x].eY).length<=20000:=by omega
     have cE:=ae b2;have ce:=ae c3;generalize jG K.p.aA[x].eY=L at *;generalize K.p.aA[x]=pq at *;have cH:=ae cy;have ct:decide ((1:Int)<0+1)=false:=by decide
     clear cy hq a6 cX c3 O cT cQ hL b2 am an hs;go_wp2_with(first|(refine kI rfl _ _ _ 185 rfl rfl rfl rfl ad ?_)|(go_at_call 52;refine cE.o.mono ?_;rintro o9 w9 ⟨v9,rfl,ap,cm⟩;obtain⟨A9,c9,rfl⟩:=oN ap;have cd:=ae ap;have aE:=ae cm;clear ap cm)|fail)
     clear ad bh bi ct b3 cW cj;have bk:Below w.heap.size w w9:=a9.o.trans (aE.o.mono a9.o.size);have c6:=cg.o.new aE.o;have bj:=ae bk;have cJ:=ae c6;have de:=ba.o.lt;have d5:=aE.o.size;clear bk c6;go_loopw[8,47] (λv8 b9 wx=>∃k:Nat,k<=L.length/\b9=.int .i64 k/\qY (w.heap.size+1) wx v8 (D++qx K.p (L.take k))/\Below (w.heap.size+1) w9 wx/\rJ (w.heap.size+1) w9 wx) (λ_ b9 _=>L.length - (intOf b9).toNat)
     case atStart=>exact⟨0,aH _,rfl,by simpa[qx]using cJ.o,ag _ _,λ_ _ _ h _=>h⟩
     case round =>
      obtain⟨k,hk,rfl,a8,co,cv⟩:=hrel;have ar:=ae co;have b1:=ae cv;have bc:=ae a8;clear co cv;by_cases b5:k<L.length
      .have cr:=(yF (uT cd.o (w':=wr) (λg hg=>by
        obtain⟨h1,cs,h2⟩:=kM cd.o g hg;exact(b1.o g _ (by omega) h2 (by intro cs fr h;cases h)).trans h2.symm)))
       obtain⟨A',c',e1,bw⟩:=cr;cases e1
       obtain⟨b7,dk,rfl,cq⟩:=bw (by omega);have d1:=cq k b5;have b8:=Jv K.p (L.take k) L[k];have cA:L.take (k+1)=L.take k++[L[k]]:=aG b5;rw[<-cA]at b8;have hmx:=cH.o _ (ak b5);have dc:(D++qx K.p (L.take k)).length<=100000:=by
        have h1:(qx K.p (L.take k)).length<=(L.take k).length:=List.length_filterMap_le _ _;have h2:(L.take k).length<=k:=List.length_take_le _ _;rw[ay];omega
       have cn:Below w.heap.size w wr:=bj.o.trans (ar.o.mono (ma _));have b4:=HK.o.new cn;have aq:=b4.lookN hmx;have dp:=b4.c23;have a4:=ae b8;generalize L[k]=s at *;have dv:(0:Int)<=(k:Int):=by omega
       have dy:(k:Int)<(L.length:Int):=by omega
       have cY:w.heap.size+1<=wr.heap.size:=by have:=ar.o.size;omega
       clear cq bw b8 cA cn b4;cases hlp:look (eG K.p) s with
       |none =>
        rw[hlp]at aq a4;simp only[Option.getD_none,Option.isSome_none]at aq;clear a8;go_wp2_with fail
        go_roundw
        case rel=>exact⟨k+1,by omega,by go_num,by rw[a4.o,aP];exact bc.o,ar.o,b1.o⟩
        case measure=>simp[intOf];omega
       |some kx =>
        rw[hlp]at aq a4;simp only[iq,Option.isSome_some]at aq;obtain⟨e1,e2,e3⟩:=yx hlp;obtain⟨y,rfl⟩:∃y:Nat,kx=y:=⟨kx.toNat,e3.symm⟩;simp only[gD]at a4;clear hlp e1 e2 e3;have c7:qY (w.heap.size+1) (wr.alloc (.cells #[.int .i64 (y:Int)] 3)) _ _:=bc.o.new ((ag _ _).alloc (af _) _);obtain⟨dl,da,rfl,-⟩:=a8.ex;have cL:=ae c7;have bd:=cell_one_new wr (.int .i64 (y:Int)) 3 0 _ rfl;have c8:w.heap.size+1<=(wr.alloc (.cells #[.int .i64 (y:Int)] 3)).heap.size:=by simp;omega
        have ca:=ae ((ag wr.heap.size wr).alloc (af _) (.cells #[.int .i64 (y:Int)] 3));clear a8 c7;go_wp2_with(first|(at_builtin;refine Ck rfl _ _ rfl (w.heap.size+1) _ _ y rfl cL.o (by omega) c8 ⟨wr.heap.size,0,none⟩ 1 rfl bd ?_;intro v8 d7 a7 bl b0;obtain⟨dn,db,rfl,-⟩:=id a7.ex;have ch:=ae a7;have bC:=ae bl;have cc:=ae b0;clear a7 bl b0)|fail)
        go_roundw
        case rel=>exact⟨k+1,by omega,by go_num,by
         have e:(D++qx K.p (L.take k)++[y]).length=D.length+((qx K.p (L.take k)).length+1):=by simp
         have h9:=ch.out;rw[e]at h9;rw[a4.o,<-aY];exact h9,ar.o.trans ((ca.o.mono cY).trans bC.out),b1.o.trans ((rJ.of_new ca.o).trans cc.out)⟩
        case measure=>simp[intOf];omega
      .obtain rfl:k=L.length:=by omega
       have dd:=Lf K.p seen x a3.o a1;obtain⟨es,cl,cU⟩:=ba.o.obj;have cx:iZ uh 3 wr w.heap.size (n+1) _:=ba.o.of_block (((ar.o.block w.heap.size (by omega)).trans (aE.o.block w.heap.size (by omega))));have cG:=ae cx;clear cx cU a8;rw[bW,<-ce.o]at bc;go_wp2_with fail
       go_roundg m
       case measure=>omega
       case rel=>exact⟨x::seen,D++lC K.p x,n+1,_,bc.o,cG.o,U.o.seenF.first bo br,bj.o.trans (ar.o.mono (ma _)),by rw[U.o.eq,Nf _ _ _ _ _ _ HX.o a3.o],by rw[ay];omega,by omega,λy hy=>by
        rcases List.mem_append.1 hy with hy|hy
        .exact U.o.ok y (au _ hy)
        .rw[ce.o]at hy;exact Oe _ _ y hy⟩
structure kG(W:World)(mb n:Nat)(l:List ByteArray)(f:ByteArray->Option Int):Prop where
 map:iZ uh 9 W mb n (og f)
 has:∀s,(f s).isSome=lK l s
 few:∀s c,f s=some c->0<=c/\c<=n
theorem kG.of_block{W W':World}{mb n:Nat}{l:List ByteArray}{f:ByteArray->Option Int}(h:kG W mb n l f)(hb:W'.heap[mb]?=W.heap[mb]?):kG W' mb n l f:=⟨h.map.of_block hb,h.has,h.few⟩
theorem kG.new{W W':World}{mb n:Nat}{l:List ByteArray}{f:ByteArray->Option Int}(h:kG W mb n l f)(hb:Below W.heap.size W W'):kG W' mb n l f:=h.of_block (hb.block _ h.map.lt)
theorem kG.fE{K:mq}{W W':World}{mb n:Nat}{l:List ByteArray}{f:ByteArray->Option Int}(h:kG W mb n l f)(hk:gY K W W')(O:K.B<=mb):kG W' mb n l f:=by
 obtain⟨es,U,D⟩:=h.map.obj;exact h.of_block ((hk.same _ _ O D rfl).trans D.symm)
theorem kG.made(W:World):kG (W.alloc (.map #[] 0)) W.heap.size 0 [] (λ_=>none):=
 ⟨(iZ.made uh 9 W).congr λl _=>by cases l<;>rfl,λ_=>rfl,λ_ _ h=>by cases h⟩
theorem kG.look{W:World}{mb n:Nat}{l:List ByteArray}{f:ByteArray->Option Int}(h:kG W mb n l f){s:ByteArray}(D:s.size<=maxLen) :
  (Instr.lookup 119 (.map (some mb)) (.string s) true).run Tryz.prog W=.ok (.tuple #[.int .i64 ((f s).getD 0),.bool (lK l s)]) W:=by
 have:=h.map.look_ok xH Tryz.underlying119 (zx D);rw[kR,h.has]at this;exact this
theorem kG.look1{W:World}{mb n:Nat}{l:List ByteArray}{f:ByteArray->Option Int}(h:kG W mb n l f){s:ByteArray}(D:s.size<=maxLen) :
  (Instr.lookup 119 (.map (some mb)) (.string s) false).run Tryz.prog W=.ok (.int .i64 ((f s).getD 0)) W:=by
 have:=h.map.look xH Tryz.underlying119 (zx D);rw[kR]at this;exact this
theorem M7(l:List ByteArray)(a s:ByteArray):lK (l++[a]) s=(lK l s || decide (a=s)):=by
 unfold lK;simp
theorem kG.store{W:World}{mb n:Nat}{l:List ByteArray}{f:ByteArray->Option Int}(h:kG W mb n l f){s:ByteArray}(U:s.size<=maxLen)(V:n<=1000000) :
  ∃w',(Instr.mapUpdate 119 (.map (some mb)) (.string s) (.int .i64 ((f s).getD 0+1))).run Tryz.prog W=.ok () w'/\kG w' mb (n+1) (l++[s]) (λt=>if t=s then some ((f s).getD 0+1) else f t)/\W.mapTurned w' mb:=by
 obtain⟨w',h1,D,O⟩:=h.map.store xH Tryz.underlying119 (by unfold maxLen;omega) (zx U) ((f s).getD 0+1);rw[uZ]at D;refine⟨w',h1,⟨D,λt=>?_,λt c hc=>?_⟩,O⟩
 .rw[M7]
  by_cases e:t=s
  .subst e;simp
  .simp[e,h.has,Ne.symm e]
 .have hb:0<=(f s).getD 0/\(f s).getD 0<=n:=by
   cases hf:f s with
   |none=>simp
   |some c=>simpa using h.few s c hf
  by_cases e:t=s
  .simp[e]at hc;omega
  .simp[e]at hc
   have:=h.few t c hc;omega
theorem kG.gT{W:World}{mb n:Nat}{l:List ByteArray}{f:ByteArray->Option Int}(h:kG W mb n l f)(s:ByteArray):0<=(f s).getD 0/\(f s).getD 0<=n:=by
 cases hf:f s with
 |none=>simp
 |some c=>simpa using h.few s c hf
theorem Ip(p:aj)(l:List ByteArray)(a:Bool)(d:bO):tQ p l a d=if(lK l d.aT || !kH p d.aT.data.toList)=true then 321 else if ik d.aS=false then 322 else if(if a=true then decide (1<=d.size/\d.size<=16) else decide (d.size=0))=false then 323 else 0:=by
 unfold tQ;cases lK l d.aT<;>cases kH p d.aT.data.toList<;>simp
theorem Iq{K:mq}{J Jx:List (Int × Int)->World->Prop}(hJ:jK 246 K.B J)(bh:jK 246 K.B Jx)(hT:sV K J Jx){pm:Option Nat}{E:Env}{cs:List Int}(w:World)(a5:pW K J Jx pm E cs w)(a9:cs.length<1000000)(hmx:MxAt w)
  {mb n:Nat}{l:List ByteArray}{f:ByteArray->Option Int}(hm:kG w mb n l f) (d:bO) (hd:Gb d) (hs:d.aT.size<=4294967200) (am:Bool) :
  Calls Tryz.prog 224 #[.pointer (some ⟨K.q,0,none⟩),d.val,.map (some mb),.bool am] w λo w'=>o=.returned (.tuple #[])/\Told K J Jx pm E (cs++[tQ K.p l am d]) w w':=by
 obtain⟨over,hk,-⟩:=a5.ex;have ba:K.n₀<=w.heap.size:=by have:=hk.lt;have:=hk.q;have:=hk.n0;omega
 have bl:0<w.heap.size:=by have:=hk.lt;omega
 have al:=jc w (.cells #[.string d.aT,.int .i64 d.aS,.int .i64 d.size] 50);have be:=gM w (.cells #[.string d.aT,.int .i64 d.aS,.int .i64 d.size] 50);have a1:=Ip K.p l am d;obtain⟨de,ar⟩:∃de,tQ K.p l am d=de:=⟨_,rfl⟩;rw[ar]at a1 ⊢;have ab:=ae a1;have O:Hid (∀(c:Int) (X:World),Below (w.alloc (.cells #[.string d.aT,.int .i64 d.aS,.int .i64 d.size] 50)).heap.size (w.alloc (.cells #[.string d.aT,.int .i64 d.aS,.int .i64 d.size] 50)) X->Calls Tryz.prog 228 #[.pointer (some ⟨K.q,0,none⟩),.int .i64 c] X λo w'=>o=.returned (.tuple #[])/\Told K J Jx pm E (cs++[c]) w w'):=ae λc X hX=>by
  have a8:Below w.heap.size w X:=al.trans (hX.mono al.size);refine(hT pm E cs X c (a5.new hJ bh a8) a9).mono ?_;rintro o w' ⟨rfl,ht⟩;exact⟨rfl,ht.after (.of_below a8 ba)⟩
 have a7:=DD _ (hk.new al) d.aT hs (hmx.below al bl);have aE:=hm.new al;have a3:=aE.look hd.1;clear a1 ar a5 hk hm aE hmx al;simp only[bO.val];go_enter Tryz.func224,Tryz.ntmps224
 go_upto_region 1 with fail
 have an:=ae a7;have aw:=ae be;clear a7;generalize w.alloc (.cells #[.string d.aT,.int .i64 d.aS,.int .i64 d.size] 50)=W1 at *;obtain⟨c0,c1,c2⟩:=gL aw.o;generalize bm:d.aS=wd at *;generalize bk:d.size=sz at *;generalize bj:kH K.p d.aT.data.toList=nn at *;generalize bi:lK l d.aT=ha at *;obtain⟨so,a4⟩:∃so,(if am=true then decide (1<=sz/\sz<=16) else decide (sz=0))=so:=⟨_,rfl⟩;rw[a4]at ab;have ao:=ae a4;clear a4 bm bk bj bi;obtain⟨z0,bc⟩:∃z,(sz == 0)=z:=⟨_,rfl⟩;have a6:decide (sz=0)=z0:=by rw[<-bc];rfl
 rw[a6]at ao;have bd:=ae a6;clear a6
 go_upto_if 14 with fail
 go_cut[8] (λs8 wx=>s8=.bool so/\W1=wx)
 case first =>
  cases am with
  |false =>
   clear an a3 O;go_wp2_with fail
   go_meet
   case rel=>exact⟨congrArg Value.bool (by rw[<-ao.o];simp),rfl⟩
  |true =>
   clear an a3 O;by_cases h1:1<=sz
   .by_cases h2:sz<=16
    all_goals
     go_wp2_with fail
     go_meet
     case rel=>exact⟨congrArg Value.bool (by rw[<-ao.o];simp[h1,h2]),rfl⟩
   .go_wp2_with fail
    go_meet
    case rel=>exact⟨congrArg Value.bool (by rw[<-ao.o];simp;omega),rfl⟩
 case rest =>
  obtain⟨rfl,rfl⟩:=hcut;clear ao bd bc;have ap:=ae (λW=>jJ wd W);cases ha with
  |true =>
   have D:de=321:=by rw[ab.o];rfl
   have U:=ae D;clear D an;go_wp2_with(first|(go_at_call 228;refine(O.o _ _ (ag _ _)).mono ?_;rintro o9 w9 ⟨rfl,V⟩)|fail)
   go_returns
   exact⟨rfl,by rw[U.o];exact V⟩
  |false =>
   cases nn with
   |false =>
    have D:de=321:=by rw[ab.o];rfl
    have U:=ae D;clear D;go_wp2_with(first|(go_at_call 255;refine an.o.mono ?_;rintro o8 w8 ⟨rfl,aq⟩;have ad:=ae aq;clear aq)|(go_at_call 228;refine(O.o _ _ ad.o).mono ?_;rintro o9 w9 ⟨rfl,V⟩)|fail)
    go_returns
    exact⟨rfl,by rw[U.o];exact V⟩
   |true =>
    go_upto_region 8 with (first|(go_at_call 255;refine an.o.mono ?_;rintro o8 w8 ⟨rfl,aq⟩;have ad:=ae aq;clear aq)|fail)
    clear c0 c1 c2 a3;obtain⟨c0,c1,c2⟩:=gL ((ad.o.block _ (dM aw.o).1).trans aw.o);cases hwi:ik wd with
    |false =>
     rw[hwi]at ap ab;have D:de=322:=by rw[ab.o];rfl
     have U:=ae D;clear D hwi;go_wp2_with(first|(go_at_call 254;refine(ap.o _).mono ?_;rintro o7 w7 ⟨rfl,rfl⟩)|(go_at_call 228;refine(O.o _ _ ad.o).mono ?_;rintro o9 w9 ⟨rfl,V⟩)|fail)
     go_returns
     exact⟨rfl,by rw[U.o];exact V⟩
    |true =>
     rw[hwi]at ap ab;clear hwi;cases so with
     |false =>
      have D:de=323:=by rw[ab.o];rfl
      have U:=ae D;clear D;go_wp2_with(first|(go_at_call 254;refine(ap.o _).mono ?_;rintro o7 w7 ⟨rfl,rfl⟩)|(go_at_call 228;refine(O.o _ _ ad.o).mono ?_;rintro o9 w9 ⟨rfl,V⟩)|fail)
      go_returns
      exact⟨rfl,by rw[U.o];exact V⟩
     |true =>
      have D:de=0:=by rw[ab.o];rfl
      have U:=ae D;clear D;go_wp2_with(first|(go_at_call 254;refine(ap.o _).mono ?_;rintro o7 w7 ⟨rfl,rfl⟩)|(go_at_call 228;refine(O.o _ _ ad.o).mono ?_;rintro o9 w9 ⟨rfl,V⟩)|fail)
      go_returns
      exact⟨rfl,by rw[U.o];exact V⟩
theorem Pn{s:aa}(h:qJ s=true):(s.bI=1->s.bf.length=1)/\(s.bI=2->s.bf.length=2)/\(s.bI=3->s.bf.length=2):=by
 unfold qJ at h;refine⟨λe=>?_,λe=>?_,λe=>?_⟩<;>simp[e]at h<;>omega
theorem Ox{K:mq}{pm:Option Nat}{E:Env}{n:Int}{over:Bool}(w:World)(hk:qQ K pm E n over w)(hH:eF K.p<=20000)(hE:E.within<=1000000000){m:Nat}{s:aa}(hs:lV m w s)(hm:m<=w.heap.size)(hf:qJ s=true) :
  Calls Tryz.prog 264 #[.pointer (some ⟨K.q,0,none⟩),s.val] w λo w'=>o=.returned (.int .i64 (jh K.p E s))/\Below w.heap.size w w':=by
 have a5:=jc w (.cells s.r 43);have bC:=gM w (.cells s.r 43);have cg:(w.alloc (.cells s.r 43)).heap.size=w.heap.size+1:=by simp
 obtain⟨_,_⟩:=hs.kk;have bt:s.aT.size<=maxLen:=by cases hs;assumption
 have HF:=ae (zk _ (hk.new a5) s.aT bt);obtain⟨cc,cd,ce⟩:=Pn hf;have a1:=ae cc;have a3:=ae cd;have a4:=ae ce;have b2:=ae bC;have b5:=ae a5;have b7:=ae cg;have HK:=ae hk;have aq:=ae hs.xs;have c6:=hk.lt;clear a5 bC cg hk hs hf cc cd ce;obtain⟨xk,b0⟩:∃xk,xk=(dJ K.p E s.aT).bI:=⟨_,rfl⟩;obtain⟨xw,b1⟩:∃xw,xw=(dJ K.p E s.aT).aS:=⟨_,rfl⟩;rw[<-b0,<-b1]at HF;obtain⟨wr,bi⟩:∃wr,wr=jh K.p E s:=⟨_,rfl⟩;rw[<-bi];unfold jh at bi;rw[<-b0,<-b1]at bi;have ab:=ae bi;clear b0 b1 bi;simp only[aa.val,Sp.val];go_enter Tryz.func264,Tryz.ntmps264
 go_upto_region 1 with (fail)
 generalize w.alloc (.cells s.r 43)=W1 at *;obtain⟨c0,c1,c2,c3,c4,c5⟩:=aR b2.o;have c8:=b7.o;go_upto_region 2 with (first|(go_at_call 256;refine HF.o.mono ?_;rintro o2 w2 ⟨rfl,a6⟩)|fail)
 have b3:=ae (a6.alloc a6.size (.cells #[.int .u8 xk,.int .i64 xw] 264));have HX:=ae (gM w2 (.cells #[.int .u8 xk,.int .i64 xw] 264));have c7:W1.heap.size<=w2.heap.size:=a6.size;have cp:w2.heap.size<(w2.alloc (.cells #[.int .u8 xk,.int .i64 xw] 264)).heap.size:=by simp
 generalize w2.heap.size=b8 at *;generalize w2.alloc (.cells #[.int .u8 xk,.int .i64 xw] 264)=W3 at *;clear a6 c0 c1 c2 c3 c4 c5 HF;obtain⟨c0,c1,c2,c3,c4,c5⟩:=aR ((b3.o.block _ (by omega)).trans b2.o);obtain⟨d0,d1⟩:=xD HX.o;have O:=ae (b5.o.trans (b3.o.mono (by omega)));have br:=ae (O.o.mono hm);clear b7;rcases(show s.bI=1\/s.bI=2\/s.bI=3\/s.bI=7\/s.bI=8\/(s.bI≠1/\s.bI≠2/\s.bI≠3/\s.bI≠7/\s.bI≠8) by omega)with am|am|am|am|am|⟨h1,h2,h3,h7,h8⟩
 .have cf:=a1.o am
  rw[am]at c0 ab;clear am a1 a3 a4;by_cases hb:xk=0\/xk=1\/xk=4
  .have D:wr=321:=by rw[ab.o];simp[hb]
   have V:=ae D;clear D;rcases hb with rfl|rfl|rfl
   all_goals
    go_wp2_with fail
    go_ret
    exact⟨by rw[V.o];rfl,O.o⟩
  .have cr:(xk == 0)=false:=by simp;omega
   have cn:(xk == 1)=false:=by simp;omega
   have co:(xk == 4)=false:=by simp;omega
   have ck:=ae hb;clear hb;go_upto_region 6 with fail
   have ad:0<s.bf.length:=by omega
   obtain⟨b,off,eE,be,hce⟩:=(aq.o.row.below br.o).row (by omega);have U:=hce 0 ad;have ao:=aq.o.ok _ (ak ad);have ap:gB K.p E s.bf 0=fZ K.p E s.bf[0]:=by rw[gB,aX ad]
   have aE:=ae ap;generalize s.bf[0]=y at *;rw[eE]at c2;have HC:Hid (∀W,Below W3.heap.size W3 W->W.cell? ⟨b,off,none⟩=some (.int .u8 y.bI)/\W.cell? ⟨b,off+1,none⟩=some (.int .u8 y.op)/\W.cell? ⟨b,off+2,none⟩=some (.int .u32 y.bv)/\W.cell? ⟨b,off+3,none⟩=some (.int .i64 y.aS)/\W.cell? ⟨b,off+4,none⟩=some (.string y.aT)/\W.cell? ⟨b,off+5,none⟩=some (.slice y.sp.dO y.cu.length y.sp.df)/\W.cell? ⟨w.heap.size,2,none⟩=some (.slice (some ⟨b,off,none⟩) s.bf.length s.es.df)/\W.cell? ⟨b8,1,none⟩=some (.int .i64 xw)):=ae λW hW =>
    ⟨(hW.cell (p:=⟨b,_,none⟩) (by dsimp only;omega)).trans (U 0 _ rfl),(hW.cell (p:=⟨b,_,none⟩) (by dsimp only;omega)).trans (U 1 _ rfl),(hW.cell (p:=⟨b,_,none⟩) (by dsimp only;omega)).trans (U 2 _ rfl),(hW.cell (p:=⟨b,_,none⟩) (by dsimp only;omega)).trans (U 3 _ rfl),(hW.cell (p:=⟨b,_,none⟩) (by dsimp only;omega)).trans (U 4 _ rfl),(hW.cell (p:=⟨b,_,none⟩) (by dsimp only;omega)).trans (U 5 _ rfl),(hW.cell (p:=⟨w.heap.size,2,none⟩) (by dsimp only;omega)).trans c2,(hW.cell (p:=⟨b8,1,none⟩) (by dsimp only;omega)).trans d1⟩
   have HW:Hid (∀W,Below W3.heap.size W3 W->Calls Tryz.prog 230 #[.pointer (some ⟨K.q,0,none⟩),y.val] W λo w'=>o=.returned (.int .i64 (fZ K.p E y))/\Below W.heap.size W w'):=ae λW hW=>by
    have e:Below w.heap.size w W:=O.o.trans (hW.mono O.o.size);exact nH ao W (e.mono hm) (by have:=e.size;omega) (HK.o.new e)
   simp only[ah.val,Sp.val]at HW;obtain⟨v0,v1,v2,v3,v4,v5,v6,v7⟩:=HC.o W3.drew (ag _ _).drew;have a7:Below W3.heap.size W3 W3.drew:=(ag _ _).drew;have hj:(0:Int)<(s.bf.length:Int):=by omega
   clear U hce ao ap eE ad be;generalize fZ K.p E y=wy at *;cases hdf:iT wy xw
   all_goals
    have al:=hdf;rw[<-aE.o]at al;have an:=ae al;have a9:=ae (λW=>(hdf ▸ oz wy xw W:Calls Tryz.prog 229 #[.int .i64 wy,.int .i64 xw] W λo w'=>o=.returned (.bool _)/\W=w'));clear hdf al
    go_region_held3(λW=>W.cell? ⟨b,off,none⟩=some (.int .u8 y.bI)/\W.cell? ⟨b,off+1,none⟩=some (.int .u8 y.op)/\W.cell? ⟨b,off+2,none⟩=some (.int .u32 y.bv)/\W.cell? ⟨b,off+3,none⟩=some (.int .i64 y.aS)/\W.cell? ⟨b,off+4,none⟩=some (.string y.aT)/\W.cell? ⟨b,off+5,none⟩=some (.slice y.sp.dO y.cu.length y.sp.df)/\W.cell? ⟨w.heap.size,2,none⟩=some (.slice (some ⟨b,off,none⟩) s.bf.length s.es.df)/\W.cell? ⟨b8,1,none⟩=some (.int .i64 xw)/\Below W3.heap.size W3 W) (simp[*])
     (first
      |(go_at_call 230;refine(HW.o _ (by assumption)).mono ?_;rintro o8 w8 ⟨rfl,bc⟩;have bd:=Below.trans (by assumption:Below W3.heap.size W3 _) (bc.mono (Below.size (by assumption)));obtain⟨z0,z1,z2,z3,z4,z5,z6,z7⟩:=HC.o _ bd)
      |(go_at_call 229;refine(a9.o _).mono ?_;rintro o6 w6 ⟨rfl,rfl⟩)
      |fail)
    go_wp2_with fail
    go_ret
    exact⟨congrArg (λn=>Ending.returned (.int .i64 n)) (by rw[ab.o];simp[an.o,ck.o]),O.o.trans ((by assumption:Below W3.heap.size W3 _).mono O.o.size)⟩
 .have cf:=a3.o am
  rw[am]at c0 ab;clear am a1 a3 a4;by_cases hb:xk=4
  .subst hb
   go_upto_region 11 with fail
   have ad:1<s.bf.length:=by omega
   obtain⟨b,off,eE,be,hce⟩:=(aq.o.row.below br.o).row (by omega);have U:=hce 1 ad;have ao:=aq.o.ok _ (ak ad);have ap:gB K.p E s.bf 1=fZ K.p E s.bf[1]:=by rw[gB,aX ad]
   have aE:=ae ap;generalize s.bf[1]=y at *;rw[eE]at c2;have HC:Hid (∀W,Below W3.heap.size W3 W->W.cell? ⟨b,off+6,none⟩=some (.int .u8 y.bI)/\W.cell? ⟨b,off+7,none⟩=some (.int .u8 y.op)/\W.cell? ⟨b,off+8,none⟩=some (.int .u32 y.bv)/\W.cell? ⟨b,off+9,none⟩=some (.int .i64 y.aS)/\W.cell? ⟨b,off+10,none⟩=some (.string y.aT)/\W.cell? ⟨b,off+11,none⟩=some (.slice y.sp.dO y.cu.length y.sp.df)/\W.cell? ⟨w.heap.size,2,none⟩=some (.slice (some ⟨b,off,none⟩) s.bf.length s.es.df)/\W.cell? ⟨b8,1,none⟩=some (.int .i64 xw)):=ae λW hW =>
    ⟨(hW.cell (p:=⟨b,_,none⟩) (by dsimp only;omega)).trans (U 0 _ rfl),(hW.cell (p:=⟨b,_,none⟩) (by dsimp only;omega)).trans (U 1 _ rfl),(hW.cell (p:=⟨b,_,none⟩) (by dsimp only;omega)).trans (U 2 _ rfl),(hW.cell (p:=⟨b,_,none⟩) (by dsimp only;omega)).trans (U 3 _ rfl),(hW.cell (p:=⟨b,_,none⟩) (by dsimp only;omega)).trans (U 4 _ rfl),(hW.cell (p:=⟨b,_,none⟩) (by dsimp only;omega)).trans (U 5 _ rfl),(hW.cell (p:=⟨w.heap.size,2,none⟩) (by dsimp only;omega)).trans c2,(hW.cell (p:=⟨b8,1,none⟩) (by dsimp only;omega)).trans d1⟩
   have HW:Hid (∀W,Below W3.heap.size W3 W->Calls Tryz.prog 230 #[.pointer (some ⟨K.q,0,none⟩),y.val] W λo w'=>o=.returned (.int .i64 (fZ K.p E y))/\Below W.heap.size W w'):=ae λW hW=>by
    have e:Below w.heap.size w W:=O.o.trans (hW.mono O.o.size);exact nH ao W (e.mono hm) (by have:=e.size;omega) (HK.o.new e)
   simp only[ah.val,Sp.val]at HW;obtain⟨v0,v1,v2,v3,v4,v5,v6,v7⟩:=HC.o W3.drew (ag _ _).drew;have a7:Below W3.heap.size W3 W3.drew:=(ag _ _).drew;have hj:(1:Int)<(s.bf.length:Int):=by omega
   clear U hce ao ap eE ad be;generalize fZ K.p E y=wy at *;cases hdf:iT wy xw
   all_goals
    have al:=hdf;rw[<-aE.o]at al;have an:=ae al;have a9:=ae (λW=>(hdf ▸ oz wy xw W:Calls Tryz.prog 229 #[.int .i64 wy,.int .i64 xw] W λo w'=>o=.returned (.bool _)/\W=w'));clear hdf al
    go_region_held3(λW=>W.cell? ⟨b,off+6,none⟩=some (.int .u8 y.bI)/\W.cell? ⟨b,off+7,none⟩=some (.int .u8 y.op)/\W.cell? ⟨b,off+8,none⟩=some (.int .u32 y.bv)/\W.cell? ⟨b,off+9,none⟩=some (.int .i64 y.aS)/\W.cell? ⟨b,off+10,none⟩=some (.string y.aT)/\W.cell? ⟨b,off+11,none⟩=some (.slice y.sp.dO y.cu.length y.sp.df)/\W.cell? ⟨w.heap.size,2,none⟩=some (.slice (some ⟨b,off,none⟩) s.bf.length s.es.df)/\W.cell? ⟨b8,1,none⟩=some (.int .i64 xw)/\Below W3.heap.size W3 W) (simp[*])
     (first
      |(go_at_call 230;refine(HW.o _ (by assumption)).mono ?_;rintro o8 w8 ⟨rfl,bc⟩;have bd:=Below.trans (by assumption:Below W3.heap.size W3 _) (bc.mono (Below.size (by assumption)));obtain⟨z0,z1,z2,z3,z4,z5,z6,z7⟩:=HC.o _ bd)
      |(go_at_call 229;refine(a9.o _).mono ?_;rintro o6 w6 ⟨rfl,rfl⟩)
      |fail)
    go_wp2_with fail
    go_ret
    exact⟨congrArg (λn=>Ending.returned (.int .i64 n)) (by rw[ab.o];simp[an.o]),O.o.trans ((by assumption:Below W3.heap.size W3 _).mono O.o.size)⟩
  .have co:(xk == 4)=false:=by simp;omega
   have cw:(xk != 4)=true:=by simp;omega
   have D:wr=321:=by rw[ab.o];simp[hb]
   have V:=ae D;clear D hb;go_wp2_with fail
   go_ret
   exact⟨by rw[V.o];rfl,O.o⟩
 .have cf:=a4.o am
  rw[am]at c0 ab;clear am a1 a3 a4;have cm:=(HK.o.new O.o).c1;go_upto_region 14 with fail
  have ad:1<s.bf.length:=by omega
  obtain⟨b,off,eE,be,hce⟩:=(aq.o.row.below br.o).row (by omega);have U:=hce 1 ad;have ao:=aq.o.ok _ (ak ad);have ap:gB K.p E s.bf 1=fZ K.p E s.bf[1]:=by rw[gB,aX ad]
  have aE:=ae ap;generalize s.bf[1]=y at *;rw[eE]at c2;have HC:Hid (∀W,Below W3.heap.size W3 W->W.cell? ⟨b,off+6,none⟩=some (.int .u8 y.bI)/\W.cell? ⟨b,off+7,none⟩=some (.int .u8 y.op)/\W.cell? ⟨b,off+8,none⟩=some (.int .u32 y.bv)/\W.cell? ⟨b,off+9,none⟩=some (.int .i64 y.aS)/\W.cell? ⟨b,off+10,none⟩=some (.string y.aT)/\W.cell? ⟨b,off+11,none⟩=some (.slice y.sp.dO y.cu.length y.sp.df)/\W.cell? ⟨w.heap.size,2,none⟩=some (.slice (some ⟨b,off,none⟩) s.bf.length s.es.df)/\W.cell? ⟨K.q,1,none⟩=some (.int .i64 K.p.aS)):=ae λW hW =>
   ⟨(hW.cell (p:=⟨b,_,none⟩) (by dsimp only;omega)).trans (U 0 _ rfl),(hW.cell (p:=⟨b,_,none⟩) (by dsimp only;omega)).trans (U 1 _ rfl),(hW.cell (p:=⟨b,_,none⟩) (by dsimp only;omega)).trans (U 2 _ rfl),(hW.cell (p:=⟨b,_,none⟩) (by dsimp only;omega)).trans (U 3 _ rfl),(hW.cell (p:=⟨b,_,none⟩) (by dsimp only;omega)).trans (U 4 _ rfl),(hW.cell (p:=⟨b,_,none⟩) (by dsimp only;omega)).trans (U 5 _ rfl),(hW.cell (p:=⟨w.heap.size,2,none⟩) (by dsimp only;omega)).trans c2,(hW.cell (p:=⟨K.q,1,none⟩) (by dsimp only;omega)).trans cm⟩
  have HW:Hid (∀W,Below W3.heap.size W3 W->Calls Tryz.prog 230 #[.pointer (some ⟨K.q,0,none⟩),y.val] W λo w'=>o=.returned (.int .i64 (fZ K.p E y))/\Below W.heap.size W w'):=ae λW hW=>by
   have e:Below w.heap.size w W:=O.o.trans (hW.mono O.o.size);exact nH ao W (e.mono hm) (by have:=e.size;omega) (HK.o.new e)
  simp only[ah.val,Sp.val]at HW;obtain⟨v0,v1,v2,v3,v4,v5,v6,v7⟩:=HC.o W3.drew (ag _ _).drew;have a7:Below W3.heap.size W3 W3.drew:=(ag _ _).drew;have hj:(1:Int)<(s.bf.length:Int):=by omega
  clear U hce ao ap eE ad be;generalize fZ K.p E y=wy at *;cases hdf:iT wy K.p.aS
  all_goals
   have al:=hdf;rw[<-aE.o]at al;have an:=ae al;have a9:=ae (λW=>(hdf ▸ oz wy K.p.aS W:Calls Tryz.prog 229 #[.int .i64 wy,.int .i64 K.p.aS] W λo w'=>o=.returned (.bool _)/\W=w'));clear hdf al
   go_region_held3(λW=>W.cell? ⟨b,off+6,none⟩=some (.int .u8 y.bI)/\W.cell? ⟨b,off+7,none⟩=some (.int .u8 y.op)/\W.cell? ⟨b,off+8,none⟩=some (.int .u32 y.bv)/\W.cell? ⟨b,off+9,none⟩=some (.int .i64 y.aS)/\W.cell? ⟨b,off+10,none⟩=some (.string y.aT)/\W.cell? ⟨b,off+11,none⟩=some (.slice y.sp.dO y.cu.length y.sp.df)/\W.cell? ⟨w.heap.size,2,none⟩=some (.slice (some ⟨b,off,none⟩) s.bf.length s.es.df)/\W.cell? ⟨K.q,1,none⟩=some (.int .i64 K.p.aS)/\Below W3.heap.size W3 W) (simp[*])
    (first
     |(go_at_call 230;refine(HW.o _ (by assumption)).mono ?_;rintro o8 w8 ⟨rfl,bc⟩;have bd:=Below.trans (by assumption:Below W3.heap.size W3 _) (bc.mono (Below.size (by assumption)));obtain⟨z0,z1,z2,z3,z4,z5,z6,z7⟩:=HC.o _ bd)
     |(go_at_call 229;refine(a9.o _).mono ?_;rintro o6 w6 ⟨rfl,rfl⟩)
     |fail)
   go_wp2_with fail
   go_ret
   exact⟨congrArg (λn=>Ending.returned (.int .i64 n)) (by rw[ab.o];simp[an.o]),O.o.trans ((by assumption:Below W3.heap.size W3 _).mono O.o.size)⟩
 .rw[am]at c0 ab
  clear am a1 a3 a4;by_cases a5:s.gT<1
  .have D:wr=329:=by rw[ab.o];simp[a5]
   have V:=ae D;clear D;go_wp2_with fail
   go_ret
   exact⟨by rw[V.o];rfl,O.o⟩
  .by_cases a6:16<s.gT
   .have D:wr=329:=by rw[ab.o];simp[a6]
    have V:=ae D;clear D;go_wp2_with fail
    go_ret
    exact⟨by rw[V.o];rfl,O.o⟩
   .have D:wr=0:=by rw[ab.o];simp[a5];omega
    have V:=ae D;clear D;go_wp2_with fail
    go_ret
    exact⟨by rw[V.o];rfl,O.o⟩
 .rw[am]at c0 ab
  clear am a1 a3 a4;have bk:=HK.o.new O.o;have cq:=bk.c23;have bm:=bk.lookN bt;have a7:Below W3.heap.size W3 W3.drew:=(ag _ _).drew;have aw:=(bk.new a7).lookN bt;have b4:=ae a7;clear bk a7;cases hlp:look (eG K.p) s.aT with
  |none =>
   rw[hlp]at bm aw ab;simp only[Option.getD_none,Option.isSome_none]at bm aw;have D:wr=321:=by rw[ab.o];simp
   have V:=ae D;clear D;go_wp2_with fail
   go_region
   go_wp2_with fail
   go_ret
   exact⟨by rw[V.o];rfl,O.o.trans (b4.o.mono O.o.size)⟩
  |some kx =>
   rw[hlp]at bm aw ab;simp only[iq,Option.isSome_some]at bm aw;obtain⟨e1,e2,e3⟩:=yx hlp;obtain⟨i,rfl⟩:∃i:Nat,kx=i:=⟨kx.toNat,e3.symm⟩;simp only[gD]at e2 ab;have ci:=ae e2;have bh:=O.o.trans (b4.o.mono O.o.size);have b9:=O1 W3.drew (HK.o.new bh) i e2 (aq.o.below (bh.mono hm)) (by have:=bh.size;omega);have a8:=ae b9;have bj:=ae bh;clear hlp e1 e2 e3 b9 bh;simp only[Sp.val]at a8;cases hab:lJ K.p E i s.bf with
   |true =>
    rw[hab]at a8 ab;have D:wr=327:=by rw[ab.o];simp
    have V:=ae D;clear D hab;go_wp2_with fail
    go_region
    go_wp2_with(first|(go_at_call 276;refine a8.o.mono ?_;rintro o4 w4 ⟨rfl,ba⟩;have bo:=ae ba;clear ba)|fail)
    go_ret
    exact⟨by rw[V.o];rfl,bj.o.trans (bo.o.mono bj.o.size)⟩
   |false =>
    rw[hab]at a8 ab;clear hab;go_wp2_with fail
    go_region
    go_upto_region 25 with (first|(go_at_call 276;refine a8.o.mono ?_;rintro o4 w4 ⟨rfl,ba⟩;have bo:=ae ba;clear ba)|fail)
    have ar:=ae (bj.o.trans (bo.o.mono bj.o.size));have bl:=HK.o.new ar.o;have cl:=bl.c25;by_cases bw:0<=E.within
    .obtain⟨t,ht⟩:∃t:Nat,E.within=t:=⟨E.within.toNat,by omega⟩
     rw[ht]at cl ab;have ca:=Ng w4 bl hH i ci.o t (by omega);have b6:=ae ca;have cA:(0:Int)<=(t:Int):=by omega
     simp only[gD]at ab;clear ca ht bw bl;cases hlb:kF K.p i t
     all_goals
      rw[hlb]at b6;have cj:=ae hlb;clear hlb;go_wp2_with(first|(go_at_call 277;refine b6.o.mono ?_;rintro o5 w5 ⟨rfl,cb⟩;have ch:=ae cb;clear cb)|fail)
      go_ret
      exact⟨congrArg (λn=>Ending.returned (.int .i64 n)) (by rw[ab.o];simp[cj.o]),ar.o.trans (ch.o.mono ar.o.size)⟩
    .have D:wr=0:=by rw[ab.o];simp;omega
     have cC:decide (0<=E.within)=false:=az bw;have V:=ae D;clear D bw bl;go_wp2_with fail
     go_ret
     exact⟨by rw[V.o];rfl,ar.o⟩
 .have cn:(s.bI == 1)=false:=by simpa using h1
  have ct:(s.bI == 2)=false:=by simpa using h2
  have cv:(s.bI == 3)=false:=by simpa using h3
  have cx:(s.bI == 7)=false:=by simpa using h7
  have cy:(s.bI == 8)=false:=by simpa using h8
  have D:wr=0:=by rw[ab.o,if_neg h1,if_neg h2,if_neg h3,if_neg h7,if_neg h8]
  have V:=ae D;clear D h1 h2 h3 h7 h8;go_wp2_with fail
  go_ret
  exact⟨by rw[V.o];rfl,O.o⟩
def wW(K:mq)(J Jx:List (Int × Int)->World->Prop)(pm:Option Nat)(E:Env)(W0:World)(sp:Sp)(l:List aa):Prop :=
 ∀(cs:List Int) (d:Nat) (w:World),Below K.n₀ W0 w->pW K J Jx pm E cs w->cs.length+(eH K.p E l d).length<=1000000->d+(eH K.p E l d).length<=1000000 ->
  Calls Tryz.prog 232 #[.pointer (some ⟨K.q,0,none⟩),sp.val l.length,.int .i64 d] w λo w'=>o=.returned (.tuple #[])/\Told K J Jx pm E (cs++eH K.p E l d) w w'
theorem yJ(p:aj)(E:Env)(a b:List aa)(d:Nat):eH p E (a++b) d=eH p E a d++eH p E b d:=by
 rw[jC,jC,jC,bT]
theorem yg(p:aj)(E:Env)(wh:Int)(a b:List ah)(d:Nat):iU p E wh (a++b) d=iU p E wh a d++iU p E wh b d:=by
 rw[fJ,fJ,fJ,bT]
theorem Hg(p:aj)(E:Env)(l:List aa)(d k:Nat)(h:k<l.length):(eH p E l d).length=(eH p E (l.take k) d).length+(1+(iU p E 0 l[k].bf 1).length+(eH p E l[k].gy (d+1)).length+(eH p E l[k].iD (d+1)).length)+(eH p E (l.drop (k+1)) d).length:=by
 have D:l=(l.take k++[l[k]])++l.drop (k+1):=by rw[<-aG h,fA]
 conv=>lhs;rw[D]
 rw[yJ,yJ,ay,ay];have O:eH p E [l[k]] d=lF p E l[k] d:=by rw[jC];simp
 rw[O,iH];simp only[aF,ay];omega
theorem Gp(p:aj)(E:Env)(wh:Int)(l:List ah)(d k:Nat)(h:k<l.length):(iU p E wh l d).length=(iU p E wh (l.take k) d).length+(jv p E wh l[k] d).length+(iU p E wh (l.drop (k+1)) d).length:=by
 have D:l=(l.take k++[l[k]])++l.drop (k+1):=by rw[<-aG h,fA]
 conv=>lhs;rw[D]
 rw[yg,yg,ay,ay];have O:iU p E wh [l[k]] d=jv p E wh l[k] d:=by rw[fJ];simp
 rw[O]
theorem wN{K:mq}{J Jx:List (Int × Int)->World->Prop}(hJ:jK 246 K.B J)(bt:jK 246 K.B Jx)(hT:sV K J Jx)(hH:eF K.p<=20000){pm:Option Nat}{E:Env}(hE:E.within<=1000000000){W0:World}{sp:Sp}{l:List aa}
  (row:RowOf K.n₀ W0 sp 6 aa.cells l) (hR:∀s∈l,lV K.n₀ W0 s) (hQ:∀s∈l,wW K J Jx pm E W0 s.ts s.gy/\wW K J Jx pm E W0 s.os s.iD):wW K J Jx pm E W0 sp l:=by
 intro cs d w hb b3 ba hd;have da:d<=1000000:=by omega
 obtain⟨over,hk,-⟩:=b3.ex;have cW:K.n₀<=w.heap.size:=by have:=hk.lt;have:=hk.q;have:=hk.n0;omega
 have dj:K.q<w.heap.size:=hk.lt;have cC:=ae b3;have HB:=ae hb;have ca:=ae row;have HR:=ae hR;have HQ:=ae hQ;have bC:=ae ba;have HD:=ae hd;have dg:=row.few;clear b3 hb row hR hQ ba hd hk;simp only[Sp.val];go_enter Tryz.func232,Tryz.ntmps232
 go_wp2_with fail
 go_loopw[13] (λv wr=>∃k:Nat,k<=l.length/\v=.int .i64 k/\Told K J Jx pm E (cs++eH K.p E (l.take k) d) w wr) (λv _=>l.length - (intOf v).toNat)
 case atStart=>exact⟨0,aH _,rfl,by rw[iY,eH,aP];exact⟨cC.o,gY.refl _ _⟩⟩
 case round =>
  obtain⟨k,hk,rfl,cv⟩:=hrel;have V:=ae cv;clear cv;by_cases al:k<l.length
  .obtain⟨b,off,eA,_,D⟩:=(ca.o.below (HB.o.trans V.o.fE.low)).row (by omega)
   have O:l[k]∈l:=ak al;have be:l.take (k+1)=l.take k++[l[k]]:=aG al;have hsp:=Hg K.p E l d k al;have k0:wr.cell? ⟨b,off+k*6,none⟩=some (.int .u8 l[k].bI):=D k al 0 _ rfl;have k1:wr.cell? ⟨b,off+k*6+1,none⟩=some (.string l[k].aT):=D k al 1 _ rfl;have k2:wr.cell? ⟨b,off+k*6+2,none⟩=some (.slice l[k].es.dO l[k].bf.length l[k].es.df):=D k al 2 _ rfl;have k3:wr.cell? ⟨b,off+k*6+3,none⟩=some (.int .i64 l[k].gT):=D k al 3 _ rfl;have k4:wr.cell? ⟨b,off+k*6+4,none⟩=some (.slice l[k].ts.dO l[k].gy.length l[k].ts.df):=D k al 4 _ rfl;have k5:wr.cell? ⟨b,off+k*6+5,none⟩=some (.slice l[k].os.dO l[k].iD.length l[k].os.df):=D k al 5 _ rfl;have an:=ae (HR.o _ O);obtain⟨co,cn⟩:=HQ.o _ O;have c8:=ae co;have c7:=ae cn;have cG:=ae be;have cA:=ae hsp;generalize l[k]=s at *;obtain⟨cQ,cR⟩:=an.o.kk;have dk:=V.o.fE.size;have cl:=jc wr (.cells s.r 43);have cg:=gM wr (.cells s.r 43);have cp:(wr.alloc (.cells s.r 43)).heap.size=wr.heap.size+1:=by simp
   have dc:(0:Int)<=(k:Int):=by omega
   have dd:(k:Int)<(l.length:Int):=by omega
   have cP:=an.o.xs.row.few;have cM:=an.o.kS.row.few;have cJ:=an.o.ko.row.few;have HF:=ae λW=>Pm W s ⟨cQ,cR⟩ cP cM cJ
   clear D O be hsp co cn;rw[eA];clear eA;simp only[aa.val,Sp.val]at HF;go_upto_region 4 with fail
   have a1:=ae cl;have bh:=ae cg;have cb:=ae cp;generalize wr.alloc (.cells s.r 43)=W5 at *;clear cl cg cp k0 k1 k2 k3 k4 k5;obtain⟨c0,c1,c2,c3,c4,c5⟩:=aR bh.o
   go_upto_if 18 with (first|(go_at_call 263;refine(HF.o _).mono ?_;rintro o6 w6 ⟨rfl,bw⟩)|fail)
   obtain⟨c0,c1,c2,c3,c4,c5⟩:=aR ((bw.block _ (by have:=cb.o;omega)).trans bh.o);have aw:=ae bw;clear bw;generalize aE:qJ s=fB
   go_cut[8] (λs8 wx=>s8=.int .i64 (if fB=true then jh K.p E s else 325)/\Below W5.heap.size W5 wx)
   case first=>as_aux_lemma =>
    cases fB with
    |false =>
     clear aE;go_wp2_with fail
     go_meet
     case rel=>exact⟨by simp,aw.o⟩
    |true =>
     have cf:Hid (∀W,Below W5.heap.size W5 W->Calls Tryz.prog 264 #[.pointer (some ⟨K.q,0,none⟩),s.val] W λo w'=>o=.returned (.int .i64 (jh K.p E s))/\Below W.heap.size W w'):=ae λW hW=>by
      obtain⟨b4,bj,-⟩:=V.o.st.ex;have e:Below wr.heap.size wr W:=a1.o.trans (hW.mono a1.o.size);have es:=e.size;exact Ox W (bj.new e) hH hE (an.o.stays ((HB.o.trans V.o.fE.low).trans (e.mono (by omega)))) (by omega) aE
     simp only[aa.val,Sp.val]at cf;clear aE;go_wp2_with(first|(go_at_call 264;refine(cf.o _ aw.o).mono ?_;rintro o7 w7 ⟨rfl,ck⟩;have cw:=ae ck;clear ck)|fail)
     go_meet
     case rel=>exact⟨by simp,aw.o.trans (cw.o.mono aw.o.size)⟩
   case rest=>as_aux_lemma =>
    obtain⟨rfl,b0⟩:=hcut;have b5:=ae b0;have ar:pV K.p E s d=if(decide ((if fB=true then jh K.p E s else 325)=0) && decide (jd K.p 32 1000<(d:Int)))=true then 319 else(if fB=true then jh K.p E s else 325):=by
     unfold pV;rw[aE];cases fB with
     |false=>simp
     |true =>
      by_cases h1:jh K.p E s=0
      .by_cases h2:jd K.p 32 1000<(d:Int)<;>simp[h1,h2]
      .simp[h1]
    have a5:=ae ar;have bi:Hid (Below wr.heap.size wr wc):=ae (a1.o.trans (b0.mono a1.o.size));clear b0 ar c0 c1 c2 c3 c4 c5 HF aw;obtain⟨e0,b2⟩:∃e0,(if fB=true then jh K.p E s else 325)=e0:=⟨_,rfl⟩;rw[b2]at a5;rw[b2];obtain⟨b4,bj,-⟩:=V.o.st.ex;have a4:=ae (AU wc (bj.new bi.o) 32 1000);obtain⟨bk,hlim⟩:∃bk,jd K.p 32 1000=bk:=⟨_,rfl⟩;rw[hlim]at a4 a5;clear b2 bj hlim aE;go_upto_region 6 with fail
    go_cut[29] (λcS wx=>cS=.bool (decide (e0=0) && decide (bk<(d:Int)))/\wc=wx)
    case first=>as_aux_lemma =>
     by_cases he:e0=0
     .subst he
      go_wp2_with(first|(go_at_call 253;refine a4.o.mono ?_;rintro o7 w7 ⟨rfl,rfl⟩)|fail)
      go_meet
      case rel=>exact⟨by simp,rfl⟩
     .have hne:(e0 == 0)=false:=by simpa using he
      have c6:=ae (az he);clear he;go_wp2_with fail
      go_meet
      case rel=>exact⟨by rw[c6.o];rfl,rfl⟩
    case rest=>as_aux_lemma =>
     obtain⟨rfl,rfl⟩:=hcut;obtain⟨cH,a9⟩:∃b,(decide (e0=0) && decide (bk<(d:Int)))=b:=⟨_,rfl⟩;rw[a9];rw[a9]at a5;clear a9
     go_upto_if 29 with fail
     go_cut[8] (λs8 wx=>s8=.int .i64 (pV K.p E s d)/\wc=wx)
     case first=>as_aux_lemma =>
      cases cH
      all_goals
       go_wp2_with fail
       go_meet
       case rel=>exact⟨by rw[a5.o];simp,rfl⟩
     case rest=>as_aux_lemma =>
      obtain⟨rfl,rfl⟩:=hcut;obtain⟨wq,cN⟩:∃wq,wq=wr:=⟨_,rfl⟩;subst cN;obtain⟨se,ar⟩:∃se,pV K.p E s d=se:=⟨_,rfl⟩;rw[ar];obtain⟨ao,aq⟩:∃ao,cs++eH K.p E (l.take k) d=ao:=⟨_,rfl⟩;have de:ao.length=cs.length+(eH K.p E (l.take k) d).length:=by rw[<-aq,ay]
      have bc:=V.o.st.new hJ bt bi.o;have cm:=(V.o.fE.trans (.of_below bi.o (by have:=V.o.fE.size;omega)));rw[aq]at bc;have ba:=bC.o;have db:=HD.o;have cX:=cA.o;have cF:=ae (hT pm E ao wc se bc (by omega));have bl:wc.heap[wq.heap.size]?=some (.cells s.r 43):=
       (b5.o.block _ (by have:=cb.o;omega)).trans bh.o
      have b8:=ae bl;have a3:=ae cm;have b9:=ae aq;have bo:lF K.p E s d=se::(iU K.p E 0 s.bf 1++(eH K.p E s.gy (d+1)++eH K.p E s.iD (d+1))):=by rw[iH,ar]
      have cc:=ae bo;clear ar a5 a4 bc cm bl aq bo b5 bi a1 bh;have am:Hid (∀X,gY K wc X->X.heap[wq.heap.size]?=some (.cells s.r 43)):=
       ae λX hX=>hX.cells _ _ _ _ b8.o rfl (by omega)
      go_upto_region 9 with (first|(go_at_call 228;refine cF.o.mono ?_;rintro o9 w9 ⟨rfl,cr⟩;have cd:=ae cr;clear cr)|fail)
      obtain⟨c0,c1,c2,c3,c4,c5⟩:=aR (am.o _ cd.o.fE);go_wp2_with fail
      go_loopw[36] (λv wx=>∃j:Nat,j<=s.bf.length/\v=.int .i64 j/\Told K J Jx pm E (ao++se::iU K.p E 0 (s.bf.take j) 1) wc wx) (λv _=>s.bf.length - (intOf v).toNat)
      case atStart=>exact⟨0,aH _,rfl,by rw[iY,iU];exact cd.o⟩
      case round =>
       obtain⟨j,hj,rfl,ct⟩:=hrel;have a7:=ae ct;clear ct c0 c1 c2 c3 c4 c5;by_cases ad:j<s.bf.length
       .have cL:=Gp K.p E 0 s.bf 1 j ad
        have b1:=HB.o.trans (a3.o.low.trans a7.o.fE.low);obtain⟨b6,U,eA,_,D⟩:=(an.o.xs.row.below b1).row (by omega);have O:s.bf[j]∈s.bf:=ak ad;have be:s.bf.take (j+1)=s.bf.take j++[s.bf[j]]:=aG ad;have k0:wr.cell? ⟨b6,U+j*6,none⟩=some (.int .u8 s.bf[j].bI):=D j ad 0 _ rfl;have k1:wr.cell? ⟨b6,U+j*6+1,none⟩=some (.int .u8 s.bf[j].op):=D j ad 1 _ rfl;have k2:wr.cell? ⟨b6,U+j*6+2,none⟩=some (.int .u32 s.bf[j].bv):=D j ad 2 _ rfl;have k3:wr.cell? ⟨b6,U+j*6+3,none⟩=some (.int .i64 s.bf[j].aS):=D j ad 3 _ rfl;have k4:wr.cell? ⟨b6,U+j*6+4,none⟩=some (.string s.bf[j].aT):=D j ad 4 _ rfl;have k5:wr.cell? ⟨b6,U+j*6+5,none⟩=some (.slice s.bf[j].sp.dO s.bf[j].cu.length s.bf[j].sp.df):=D j ad 5 _ rfl;have ci:=zh hJ bt hT (pm:=pm) (E:=E) (wh:=0) (an.o.xs.ok _ O);have ce:=ae be;generalize s.bf[j]=x at *;have cY:=a7.o.fE.size;have ap:=jc wr (.cells x.r 30);have bm:=a7.o.st.new hJ bt ap;have cV:=a3.o.size;have hC:=ci _ 1 _ (b1.trans (ap.mono (by omega))) bm (by simp only[ay,aF];omega) (by omega);simp only[ah.val,Sp.val,Int.natCast_one]at hC;have cy:=ae hC;have b7:=ae ap;have cT:(0:Int)<=(j:Int):=by omega
        have cU:(j:Int)<(s.bf.length:Int):=by omega
        clear D O be ap bm hC ci b1 cL;rw[eA];clear eA;go_wp2_with fail
        refine cy.o.mono ?_;rintro o w2 ⟨rfl,bd⟩;have a6:=ae (bd.after (a7.o.fE.trans (.of_below b7.o (by omega))));clear bd k0 k1 k2 k3 k4 k5;go_wp2_with fail
        go_roundw
        case rel=>exact⟨j+1,by omega,by go_num,by
         rw[ce.o,yg];have e2:iU K.p E 0 [x] 1=jv K.p E 0 x 1:=by rw[fJ];simp
         rw[e2]
         simpa using a6.o⟩
        case measure=>simp[intOf];omega
       .obtain rfl:j=s.bf.length:=by omega
        have ht:=a7.o;rw[bW]at ht;have a8:=ae ht;obtain⟨c0,c1,c2,c3,c4,c5⟩:=aR (am.o _ ht.fE);have cj:=HB.o.trans (a3.o.low.trans ht.fE.low);have ch:=c8.o _ (d+1) _ cj ht.st (by simp only[ay,aF];omega) (by omega);have br:=ae ch;have ab:(((d+1:Nat)):Int)=(d:Int)+1:=by omega
        rw[ab]at br;simp only[Sp.val]at br;clear ch ab ht cj;have cE:Hid (∀X,Told K J Jx pm E ((ao++se::iU K.p E 0 s.bf 1)++eH K.p E s.gy (d+1)) wr X->Calls Tryz.prog 232 #[.pointer (some ⟨K.q,0,none⟩),.slice s.os.dO s.iD.length s.os.df,.int .i64 ((d:Int)+1)] X λo w'=>o=.returned (.tuple #[])/\Told K J Jx pm E (((ao++se::iU K.p E 0 s.bf 1)++eH K.p E s.gy (d+1))++eH K.p E s.iD (d+1)) X w'):=ae λX hX=>by
         have cI:=HB.o.trans (a3.o.low.trans (a8.o.fE.low.trans hX.fE.low));have:=c7.o _ (d+1) X cI hX.st (by simp only[ay,aF];omega) (by omega);have ab:(((d+1:Nat)):Int)=(d:Int)+1:=by omega
         rw[ab]at this;exact this
        go_wp2_with fail
        refine br.o.mono ?_;rintro o w2 ⟨rfl,bd⟩;have a6:=ae bd;clear bd c0 c1 c2 c3 c4 c5;obtain⟨c0,c1,c2,c3,c4,c5⟩:=aR (am.o _ (a8.o.fE.trans a6.o.fE));have cx:=ae (cE.o _ a6.o);go_wp2_with fail
        refine cx.o.mono ?_;rintro o w3 ⟨rfl,cq⟩;have cD:=ae (cq.after (a3.o.trans (a8.o.fE.trans a6.o.fE)));clear cq c0 c1 c2 c3 c4 c5;go_wp2_with fail
        go_roundw
        case rel=>exact⟨k+1,by omega,by go_num,by
         have h9:=cD.o;rw[<-b9.o]at h9;rw[cG.o,yJ];have e2:eH K.p E [s] d=lF K.p E s d:=by rw[jC];simp
         rw[e2,cc.o]
         simpa using h9⟩
        case measure=>simp[intOf];omega
  .obtain rfl:k=l.length:=by omega
   go_wp2_with fail
   go_returns
   have:=V.o;rw[bW]at this;exact⟨rfl,this⟩
theorem Jw{K:mq}{J Jx:List (Int × Int)->World->Prop}(hJ:jK 246 K.B J)(D:jK 246 K.B Jx)(hT:sV K J Jx)(hH:eF K.p<=20000){pm:Option Nat}{E:Env}(hE:E.within<=1000000000){W0:World}{s:aa}(h:lV K.n₀ W0 s) :
  wW K J Jx pm E W0 s.ts s.gy/\wW K J Jx pm E W0 s.os s.iD:=by
 induction h with
 |mk s k b n er ex tr th O el U V=>exact⟨wN hJ D hT hH hE tr th U,wN hJ D hT hH hE O el V⟩
theorem yI{K:mq}{J Jx:List (Int × Int)->World->Prop}(U:jK 246 K.B J)(D:jK 246 K.B Jx)(hT:sV K J Jx)(O:eF K.p<=20000){pm:Option Nat}{E:Env}(hE:E.within<=1000000000){W0:World}{sp:Sp}{l:List aa}(h:gq K.n₀ W0 sp l) :
  wW K J Jx pm E W0 sp l:=wN U D hT O hE h.row h.ok (λs V=>Jw U D hT O hE (h.ok s V))
end Go.Proofs.YtepacjkacjabbaaGreatDoor
