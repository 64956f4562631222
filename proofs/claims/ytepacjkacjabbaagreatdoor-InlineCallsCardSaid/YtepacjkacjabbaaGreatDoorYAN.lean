import Derived.Test.YtepacjkacjabbaaGreatDoorYAJ
import Derived.Test.YtepacjkacjabbaaGreatDoorYAI
set_option linter.all false
set_option maxRecDepth 10000000
set_option maxHeartbeats 64000000
namespace Go.Proofs.YtepacjkacjabbaaGreatDoor
open Go Go.Maps Go.RowKit
section
def UL:Value:=.func (.func 222) #[] #[]
theorem kI{P:Program}{ops:Array Oper}{Q:Exit->Act->World->Prop}{a:Act}{w w':World}{rest:List Oper}{o:Oper}(hg:o.guard=none)(m x v:Operand)(t:TypeId)(O:o.op=Op.mapUpdate t m x v){V U vv:Value}(hm:a.eval m=V)(hx:a.eval x=U)(hv:a.eval v=vv)
  (D:(Instr.mapUpdate t V U vv).run P w=.ok () w') (k:wpList P ops Q rest (a.put o.dst undef) w'):wpList P ops Q (o::rest) a w :=
 BU hg (by simp only[execOp,O,hm,hx,hv,Sem.run_bind,D];rfl) k
def listAt(p:aj):Nat->List bO
 |0=>p.fB
 |1=>p.ek
 |2=>p.gp
 |_=>p.fP
def Lr(p:aj):Nat->Sp
 |0=>p.is
 |1=>p.gs
 |2=>p.vs
 |_=>p.as
def lY(l:List bO)(c:Int):List (ByteArray × gV):=l.map λd=>(d.aT,⟨c,d.aS⟩)
def kU(p:aj)(j:Nat):List (ByteArray × gV):=(List.range j).flatMap λi=>lY (listAt p i) ((i:Int)+1)
theorem Ci(p:aj):kU p 4=lH p:=by
 simp[kU,List.range,List.range.loop,listAt,lY,lH]
theorem jT.listAt{n₀:Nat}{W:World}{p:aj}(h:jT n₀ W p)(j:Nat):q8 n₀ W (Lr p j) (listAt p j):=by
 match j with
 |0=>exact h.fB
 |1=>exact h.ek
 |2=>exact h.gp
 |n+3=>exact h.fP
structure kg(q mt mp:Nat)(cells:Array Value)(T:List (ByteArray × gV))(n:Nat)(T2:List (ByteArray × Int))(n2:Nat)(w wr:World):Prop where
 box:wr.heap[q]?=some (.cells cells 246 (0,0))
 things:iZ JO 9 wr mt n (og (look T))
 aA:iZ uh 9 wr mp n2 (og (look T2))
 below:Below w.heap.size w wr
 hq:w.heap.size<=q
 hmt:w.heap.size<=mt
 hmp:w.heap.size<=mp
 ne:mt≠mp
section
variable {q mt mp n n2:Nat}{cells:Array Value}{T:List (ByteArray × gV)}{T2:List (ByteArray × Int)}{w wr wr':World}
theorem kg.new(h:kg q mt mp cells T n T2 n2 w wr)(hb:Below wr.heap.size wr wr'):kg q mt mp cells T n T2 n2 w wr' :=
 ⟨(hb.block _ (dM h.box).1).trans h.box,h.things.below hb h.things.lt,h.aA.below hb h.aA.lt,h.below.trans (hb.mono h.below.size),h.hq,h.hmt,h.hmp,h.ne⟩
theorem kg.dup(h:kg q mt mp cells T n T2 n2 w wr){s:ByteArray}{x y:gV}(D:look T s=some y):kg q mt mp cells (T++[(s,x)]) n T2 n2 w wr:=by
 have e:look (T++[(s,x)])=look T:=by
  funext t
  rw[uf];cases ht:look T t with
  |some z=>rfl
  |none =>
   have:s≠t:=by rintro rfl;rw[D]at ht;cases ht
   simp[this]
 exact⟨h.box,by rw[e];exact h.things,h.aA,h.below,h.hq,h.hmt,h.hmp,h.ne⟩
theorem IW{α:Type}{T:List (ByteArray × α)}{s:ByteArray}{x:α}(D:look T s=none):Bb (og (look T)) (sM s) x=og (look (T++[(s,x)])):=by
 rw[uZ]
 congr 1
 funext t
 rw[uf];by_cases e:t=s
 .subst e;rw[if_pos rfl,D];simp
 .rw[if_neg e]
  cases look T t with
  |some y=>rfl
  |none=>simp[Ne.symm e]
theorem Aa{B b:Nat}(h:wr.mapTurned wr' b)(hB:B<=b):Below B wr wr':=by
 have D:=h.grown;exact⟨D.os,D.tape,D.output,D.size,λk hk=>by
  by_cases U:k<wr.heap.size
  .exact D.block k U (by simp;omega)
  .obtain⟨es,cl,ab,V,O,_⟩:=id h
   have:=(dM O).1;omega⟩
theorem kg.put(h:kg q mt mp cells T n T2 n2 w wr)(ht:wr.mapTurned wr' mt){s:ByteArray}{x:gV}(hs:look T s=none)(D:iZ JO 9 wr' mt (n+1) (Bb (og (look T)) (sM s) x)) :
  kg q mt mp cells (T++[(s,x)]) (n+1) T2 n2 w wr':=by
 have U:=ht.grown;obtain⟨es,cl,ab,V,O,_⟩:=id ht;have hq:q≠mt:=by
  intro e;have:=h.box;rw[e,O]at this;cases this
 exact⟨(U.block _ (dM h.box).1 (by simpa using hq)).trans h.box,by rw[<-IW hs];exact D,h.aA.of_block (U.block _ h.aA.lt (by simpa using h.ne.symm)),h.below.trans (Aa ht h.hmt),h.hq,h.hmt,h.hmp,h.ne⟩
theorem kg.dupP(h:kg q mt mp cells T n T2 n2 w wr){s:ByteArray}{x y:Int}(D:look T2 s=some y):kg q mt mp cells T n (T2++[(s,x)]) n2 w wr:=by
 have e:look (T2++[(s,x)])=look T2:=by
  funext t
  rw[uf];cases ht:look T2 t with
  |some z=>rfl
  |none =>
   have:s≠t:=by rintro rfl;rw[D]at ht;cases ht
   simp[this]
 exact⟨h.box,h.things,by rw[e];exact h.aA,h.below,h.hq,h.hmt,h.hmp,h.ne⟩
theorem kg.putP(h:kg q mt mp cells T n T2 n2 w wr)(ht:wr.mapTurned wr' mp){s:ByteArray}{x:Int}(hs:look T2 s=none)(D:iZ uh 9 wr' mp (n2+1) (Bb (og (look T2)) (sM s) x)) :
  kg q mt mp cells T n (T2++[(s,x)]) (n2+1) w wr':=by
 have U:=ht.grown;obtain⟨es,cl,ab,V,O,_⟩:=id ht;have hq:q≠mp:=by
  intro e;have:=h.box;rw[e,O]at this;cases this
 exact⟨(U.block _ (dM h.box).1 (by simpa using hq)).trans h.box,h.things.of_block (U.block _ h.things.lt (by simpa using h.ne)),by rw[<-IW hs];exact D,h.below.trans (Aa ht h.hmp),h.hq,h.hmt,h.hmp,h.ne⟩
end
theorem Cj(p:aj)(j:Nat):kU p (j+1)=kU p j++lY (listAt p j) ((j:Int)+1):=by
 unfold kU;rw[List.range_succ,bT];simp
theorem tq{α:Type}(f:α->ByteArray)(x:α):∀(l:List α) (n:Nat),numbered f (l++[x]) n=numbered f l n++[(f x,((n+l.length:Nat):Int))]
 |[],n=>by simp[numbered]
 |a::l,n=>by
  rw[dC,numbered,numbered,tq f x l (n+1),dC];have e:n+1+l.length=n+(a::l).length:=by simp;omega
  rw[e]
theorem kg.c22{q mt mp:Nat}{cells:Array Value}{T:List (ByteArray × gV)}{n:Nat}{T2:List (ByteArray × Int)}{n2:Nat}{w wr:World}(h:kg q mt mp cells T n T2 n2 w wr){i:Nat}{v:Value}(D:cells[i]?=some v):wr.cell? ⟨q,i,none⟩=some v:=by
 simp[World.cell?,h.box,D]
theorem kg.lookT{q mt mp:Nat}{cells:Array Value}{T:List (ByteArray × gV)}{n:Nat}{T2:List (ByteArray × Int)}{n2:Nat}{w wr:World}(h:kg q mt mp cells T n T2 n2 w wr){s:ByteArray}(D:s.size<=maxLen) :
  (Instr.lookup 244 (.map (some mt)) (.string s) true).run Tryz.prog wr=.ok (.tuple #[.agg #[.int .u8 ((look T s).getD ⟨0,0⟩).bI,.int .i64 ((look T s).getD ⟨0,0⟩).aS],.bool (look T s).isSome]) wr:=by
 have:=h.things.look_ok xH Tryz.underlying244 (zx D);rw[kR]at this;exact this
theorem kg.lookN{q mt mp:Nat}{cells:Array Value}{T:List (ByteArray × gV)}{n:Nat}{T2:List (ByteArray × Int)}{n2:Nat}{w wr:World}(h:kg q mt mp cells T n T2 n2 w wr){s:ByteArray}(D:s.size<=maxLen) :
  (Instr.lookup 119 (.map (some mp)) (.string s) true).run Tryz.prog wr=.ok (.tuple #[.int .i64 ((look T2 s).getD 0),.bool (look T2 s).isSome]) wr:=by
 have:=h.aA.look_ok xH Tryz.underlying119 (zx D);rw[kR]at this;exact this
theorem LA{n₀:Nat}{W:World}{p:aj}(h:jT n₀ W p){j:Nat}(V:j<=4):(kU p j).length<maxLen:=by
 have h1:=h.fB.row.few;have D:=h.ek.row.few;have O:=h.gp.row.few;have U:=h.fP.row.few;have e:(kU p j).length<=p.fB.length+p.ek.length+p.gp.length+p.fP.length:=by
  rcases(show j=0\/j=1\/j=2\/j=3\/j=4 by omega)with rfl|rfl|rfl|rfl|rfl<;>simp[kU,List.range,List.range.loop,listAt,lY] <;>omega
 unfold maxLen;omega
def TY(n₀ B:Nat)(p:aj)(w:World)(o:Ending)(w':World):Prop :=
 ∃q mt mp,o=.returned (.pointer (some ⟨q,0,none⟩))/\qQ ⟨q,p,n₀,B,UL,mt,mp⟩ none outside 0 false w'/\w.heap.size<=q/\w.heap.size<=mt/\w.heap.size<=mp/\Below w.heap.size w w'
theorem Ry(w:World)(p:aj)(n₀ B:Nat)(h:jT n₀ w p)(hn:n₀<=B)(hB:B<=w.heap.size):Calls Tryz.prog 203 #[p.val] w (TY n₀ B p w):=by
 have cx:=@run_makeMap Tryz.prog;have cf:=jc w (.cells p.r 35);have bk:=gM w (.cells p.r 35);have HP:=ae h;have br:=ae cf;have bw:=ae bk;clear h cf bk;simp only[aj.val,Sp.val];go_enter Tryz.func203,Tryz.ntmps203
 go_upto_region 1 with fail
 have b8:(w.alloc (.cells p.r 35)).heap.size=w.heap.size+1:=by simp
 generalize w.alloc (.cells p.r 35)=W1 at *;go_upto_region 2 with (first
  |(refine bH rfl 35 _ rfl w.heap.size rfl 35 _ (0,0) _ bw.o Tryz.underlying35 rfl (by kernel_rfl) ?_)
  |(refine wpList_build rfl 246 _ rfl (mq.cells ⟨0,p,0,0,UL,w.heap.size+1,w.heap.size+1+1⟩ none outside 0 false) (by kernel_rfl) ?_)
  |fail)
 generalize Value.agg p.r=vp;obtain⟨ck,a9⟩:∃ck,ck=mq.cells ⟨w.heap.size+1+1+1,p,n₀,B,UL,w.heap.size+1,w.heap.size+1+1⟩ none outside 0 false:=⟨_,rfl⟩;have bm:mq.cells ⟨0,p,0,0,UL,w.heap.size+1,w.heap.size+1+1⟩ none outside 0 false=ck:=by rw[a9];rfl
 rw[bm];have b4:ck[22]?=some (.map (some (w.heap.size+1))):=by rw[a9];rfl
 have cd:ck[23]?=some (.map (some (w.heap.size+1+1))):=by rw[a9];rfl
 have ch:=ae a9;have be:Below W1.heap.size W1 (((W1.alloc (.map #[] 0)).alloc (.map #[] 0)).alloc (.cells ck 246)):=(((ag _ _).alloc (af _) _).alloc (by simp) _).alloc (by simp;omega) _;have hG:kg (w.heap.size+1+1+1) (w.heap.size+1) (w.heap.size+1+1) ck [] 0 [] 0 W1 (((W1.alloc (.map #[] 0)).alloc (.map #[] 0)).alloc (.cells ck 246)):=by
  have m1:=iZ.made JO 9 W1;have m2:=iZ.made uh 9 (W1.alloc (.map #[] 0));rw[b8]at m1;rw[di,b8]at m2;have b3:=gM ((W1.alloc (.map #[] 0)).alloc (.map #[] 0)) (.cells ck 246);rw[di,di,b8]at b3;refine⟨b3,?_,?_,be,by omega,by omega,by omega,by omega⟩
  .refine(((m1.below ((ag _ _).alloc (af _) _) m1.lt).below ((ag _ _).alloc (af _) _) (by simp;omega))).congr λl _=>by cases l<;>rfl
  .exact(m2.below ((ag _ _).alloc (af _) _) m2.lt).congr λl _=>by cases l<;>rfl
 obtain⟨W2,ce⟩:∃W2,((W1.alloc (.map #[] 0)).alloc (.map #[] 0)).alloc (.cells ck 246)=W2:=⟨_,rfl⟩;rw[ce]at hG be ⊢;have HG:=ae hG;have ap:=(be.block w.heap.size (by omega)).trans bw.o;have c2:W2.cell? ⟨w.heap.size,2,none⟩=some (.slice p.is.dO p.fB.length p.is.df):=by simp[World.cell?,ap]
 have c3:W2.cell? ⟨w.heap.size,3,none⟩=some (.slice p.gs.dO p.ek.length p.gs.df):=by simp[World.cell?,ap]
 have c4:W2.cell? ⟨w.heap.size,4,none⟩=some (.slice p.vs.dO p.gp.length p.vs.df):=by simp[World.cell?,ap]
 have c5:W2.cell? ⟨w.heap.size,5,none⟩=some (.slice p.as.dO p.fP.length p.as.df):=by simp[World.cell?,ap]
 generalize Value.agg ck=c6;clear a9 bm be hG ce ap;have HN:Hid (n₀<=w.heap.size):=ae (by omega);have cb:Hid (n₀<=W1.heap.size):=ae (by omega);go_wp2_with fail
 go_loopw[28] (λv wr=>∃(j n:Nat),j<=4/\n<=(kU p j).length/\v=.int .i64 j/\kg (w.heap.size+1+1+1) (w.heap.size+1) (w.heap.size+1+1) ck (kU p j) n [] 0 W1 wr) (λv _=>4 - (intOf v).toNat)
 case atStart=>exact⟨0,0,by omega,aH _,rfl,HG.o⟩
 case round =>
  obtain⟨j,n,hj,co,rfl,hg⟩:=hrel;have bc:=ae hg;clear hg c2 c3 c4 c5;by_cases cr:j<4
  .have b6:=(HP.o.below (br.o.mono HN.o)).listAt j
   have hI:∀W,(Instr.index 262 (.agg #[.slice p.is.dO p.fB.length p.is.df,.slice p.gs.dO p.ek.length p.gs.df,.slice p.vs.dO p.gp.length p.vs.df,.slice p.as.dO p.fP.length p.as.df]) (.int .i64 (j:Int))).run Tryz.prog W=.ok (.slice (Lr p j).dO (listAt p j).length (Lr p j).df) W:=by
    intro W;rcases(show j=0\/j=1\/j=2\/j=3 by omega)with rfl|rfl|rfl|rfl<;>kernel_rfl
   have b9:=Cj p j;have cc:=ae b9;have b7:=LA HP.o (j:=j+1) (by omega);rw[b9]at b7;have ci:=ae b7;have ca:=ae b6;have cv:=b6.row.few;clear b9 b6 b7;generalize kU p j=T0 at *;generalize listAt p j=l at *;generalize Lr p j=sp at *;obtain⟨wo,rfl⟩:∃y:World,y=wr:=⟨_,rfl⟩;have cq:(0:Int)<=(j:Int):=by omega
   have ct:(j:Int)<4:=by omega
   go_wp2_with fail
   go_loopw[34] (λv wr=>∃(k m:Nat),k<=l.length/\m<=(T0++(lY l ((j:Int)+1)).take k).length/\v=.int .i64 k/\kg (w.heap.size+1+1+1) (w.heap.size+1) (w.heap.size+1+1) ck (T0++(lY l ((j:Int)+1)).take k) m [] 0 W1 wr) (λv _=>l.length - (intOf v).toNat)
   case atStart=>exact⟨0,n,aH _,by rw[iY,aP];exact co,rfl,by rw[iY,aP];exact bc.o⟩
   case round =>
    obtain⟨k,m,hk,hm,rfl,hg⟩:=hrel;have aq:=ae hg;clear hg;by_cases O:k<l.length
    .obtain⟨b2,al,eA,_,D⟩:=(ca.o.row.below (aq.o.below.mono cb.o)).row (by omega)
     have hok:=ca.o.ok _ (ak O);have k0:wr.cell? ⟨b2,al+k*3,none⟩=some (.string l[k].aT):=D k O 0 _ rfl;have k1:wr.cell? ⟨b2,al+k*3+1,none⟩=some (.int .i64 l[k].aS):=D k O 1 _ rfl;have k2:wr.cell? ⟨b2,al+k*3+2,none⟩=some (.int .i64 l[k].size):=D k O 2 _ rfl;have aE:(lY l ((j:Int)+1)).take (k+1)=(lY l ((j:Int)+1)).take k++[(l[k].aT,⟨(j:Int)+1,l[k].aS⟩)]:=by
      rw[aG (by simpa[lY]using O)];simp[lY]
     have ao:=ae aE;generalize l[k]=x at *;have bo:m<maxLen:=Nat.lt_of_le_of_lt hm (Nat.lt_of_le_of_lt (by simp only[ay,dW];omega) ci.o);have cj:=ae bo;clear bo;generalize hT:T0++(lY l ((j:Int)+1)).take k=T at *;have HT:=ae hT;have a7:=jc wr (.cells x.r 50);have an:=gM wr (.cells x.r 50);have V:=aq.o.new a7;have cm:(0:Int)<=(k:Int):=by omega
     have cn:(k:Int)<(l.length:Int):=by omega
     have cp:wr.heap.size<(wr.alloc (.cells x.r 50)).heap.size:=by simp
     clear D aE hT;rw[eA];clear eA;go_upto_region 8 with fail
     generalize wr.alloc (.cells x.r 50)=W5 at *;have a6:=ae V;have a5:=ae an;have b0:=V.c22 b4;have bh:=(V.new ((ag _ _).drew:Below _ _ W5.drew)).lookT hok.1;obtain⟨d0,d1,d2⟩:=gL an;have a8:=jc W5 (.cells #[.int .u8 0,.int .i64 0] 264);have b5:=V.new a8;have bj:=b5.c22 b4;have aw:=(b5.new ((ag _ _).drew:Below _ _ (W5.alloc (.cells #[.int .u8 0,.int .i64 0] 264)).drew)).lookT hok.1;obtain⟨e0,e1,e2⟩:=gL ((a8.block _ (dM an).1).trans an);clear a7 V an k0 k1 k2 a8 b5;cases hl:look T x.aT with
     |some y =>
      simp only[hl,iq,Option.isSome_some]at bh aw
      go_region
      all_goals
       have a4:Below W5.heap.size W5 (W5.alloc (.cells #[.int .u8 y.bI,.int .i64 y.aS] 264)).drew:=((ag _ _).alloc (af _) _).drew;have am:=ae ((a6.o.new a4).dup (x:=⟨(j:Int)+1,x.aS⟩) hl);clear a4 bh aw b0 bj hl;go_wp2_with fail
       go_roundw
       case rel=>exact⟨k+1,m,by omega,by rw[ao.o,<-aY,HT.o];simp;omega,by go_num,by rw[ao.o,<-aY,HT.o];exact am.o⟩
       case measure=>simp[intOf];omega
     |none =>
      simp only[hl,Option.getD_none,Option.isSome_none]at bh aw
      go_region
      all_goals
       have a4:Below W5.heap.size W5 (W5.alloc (.cells #[.int .u8 0,.int .i64 0] 264)).drew:=((ag _ _).alloc (af _) _).drew;have am:=ae (a6.o.new a4);have bt:=ae ((a4.block _ (dM a5.o).1).trans a5.o);clear a4 bh aw b0 bj d0 d1 d2 e0 e1 e2;go_upto_region 10 with fail
       generalize (W5.alloc (.cells #[.int .u8 0,.int .i64 0] 264)).drew=W6 at *;have ar:=am.o.new ((ag _ _).drew:Below _ _ W6.drew);have b0:=am.o.c22 b4;obtain⟨d0,d1,_⟩:=gL bt.o;obtain⟨w8,ad,ab,U⟩:=ar.things.store xH Tryz.underlying244 cj.o (zx hok.1) (⟨(j:Int)+1,x.aS⟩:gV);have ba:=ae (ar.put U hl ab)
       replace ad:(Instr.mapUpdate 244 (.map (some (w.heap.size+1))) (.string x.aT) (.agg #[.int .u8 ((j:Int)+1),.int .i64 x.aS])).run Tryz.prog W6.drew=.ok () w8:=ad
       clear ar ab U hl;have cy:IntKind.u8.wrap (j:Int)=(j:Int):=by rcases(show j=0\/j=1\/j=2\/j=3 by omega)with rfl|rfl|rfl|rfl<;>rfl
       have c0:IntKind.u8.wrap ((j:Int)+1)=(j:Int)+1:=by rcases(show j=0\/j=1\/j=2\/j=3 by omega)with rfl|rfl|rfl|rfl<;>rfl
       go_still_tail 12,(by kernel_rfl)
       change wpList _ _ _ _ _ W6.drew;go_wp2_with(refine kI rfl _ _ _ 244 rfl rfl rfl rfl ad ?_)
       go_roundw
       case rel=>exact⟨k+1,m+1,by omega,by rw[ao.o,<-aY,HT.o];simp;omega,by go_num,by rw[ao.o,<-aY,HT.o];exact ba.o⟩
       case measure=>simp[intOf];omega
    .obtain rfl:k=l.length:=by omega
     go_wp2_with fail
     go_roundw
     case rel=>exact⟨j+1,m,by omega,by
      rw[show l.length=(lY l ((j:Int)+1)).length by simp[lY],bW,<-cc.o]at hm;exact hm,by go_num,by
      have:=aq.o;rw[show l.length=(lY l ((j:Int)+1)).length by simp[lY],bW,<-cc.o]at this;exact this⟩
     case measure=>simp[intOf];omega
  .obtain rfl:j=4:=by omega
   rw[Ci]at bc;have bl:=(bc.o.below.block w.heap.size (by omega)).trans bw.o;have cl:wr.cell? ⟨w.heap.size,13,none⟩=some (.slice p.rs.dO p.aA.length p.rs.df):=by simp[World.cell?,bl]
   obtain⟨wo,rfl⟩:∃y:World,y=wr:=⟨_,rfl⟩;have cw:=HP.o.prow.few;clear bl;go_wp2_with fail
   go_loopw[67] (λv wr=>∃(k m:Nat),k<=p.aA.length/\m<=k/\v=.int .i64 k/\kg (w.heap.size+1+1+1) (w.heap.size+1) (w.heap.size+1+1) ck (lH p) n (numbered bG.aT (p.aA.take k) 0) m W1 wr) (λv _=>p.aA.length - (intOf v).toNat)
   case atStart=>exact⟨0,0,aH _,af _,rfl,bc.o⟩
   case round =>
    obtain⟨k,m,hk,hm,rfl,hg⟩:=hrel;have aq:=ae hg;clear hg cl;by_cases O:k<p.aA.length
    .obtain⟨b2,al,eA,_,D⟩:=((HP.o.below (br.o.mono HN.o)).prow.below (aq.o.below.mono cb.o)).row (by omega)
     have hok:=(HP.o.aA _ (ak O)).aT;have k0:wr.cell? ⟨b2,al+k*3,none⟩=some (.string p.aA[k].aT):=D k O 0 _ rfl;have k1:wr.cell? ⟨b2,al+k*3+1,none⟩=some (.slice p.aA[k].ps.dO p.aA[k].bC.length p.aA[k].ps.df):=D k O 1 _ rfl;have k2:wr.cell? ⟨b2,al+k*3+2,none⟩=some (.slice p.aA[k].bs.dO p.aA[k].eY.length p.aA[k].bs.df):=D k O 2 _ rfl;have aE:numbered bG.aT (p.aA.take (k+1)) 0=numbered bG.aT (p.aA.take k) 0++[(p.aA[k].aT,((k:Nat):Int))]:=by
      rw[aG O,tq];simp[Nat.min_eq_left (dI O)]
     have ao:=ae aE;generalize p.aA[k]=x at *;generalize hT:numbered bG.aT (p.aA.take k) 0=T at *;have a7:=jc wr (.cells x.r 54);have an:=gM wr (.cells x.r 54);have V:=aq.o.new a7;have cm:(0:Int)<=(k:Int):=by omega
     have cn:(k:Int)<(p.aA.length:Int):=by omega
     clear D aE hT;rw[eA];clear eA;go_upto_region 16 with fail
     generalize wr.alloc (.cells x.r 54)=W5 at *;have a6:=ae V;have a5:=ae an;have b1:=V.c22 cd;have bi:=(V.new ((ag _ _).drew:Below _ _ W5.drew)).lookN hok;have a1:=V.lookN hok;obtain⟨d0,d1,d2⟩:=gL an;have bd:Hid (∀nq,Below W5.heap.size W5 (W5.drewN nq)):=ae λnq=>⟨rfl,rfl,rfl,af _,λ_ _=>rfl⟩
     have a3:∀nq,(Instr.lookup 119 (.map (some (w.heap.size+1+1))) (.string x.aT) true).run Tryz.prog (W5.drewN nq)=.ok (.tuple #[.int .i64 ((look T x.aT).getD 0),.bool (look T x.aT).isSome]) (W5.drewN nq):=λnq=>(V.new (bd.o nq)).lookN hok
     clear a7 V an k0 k1 k2;cases hl:look T x.aT with
     |some y =>
      simp only[hl,iq,Option.isSome_some]at bi a1 a3
      go_quiet (fail)
      have am:=ae ((a6.o.new (bd.o nq)).dupP (x:=((k:Nat):Int)) hl);clear bi a1 a3 b1 hl;go_wp2_with fail
      go_roundw
      case rel=>exact⟨k+1,m,by omega,by omega,by go_num,by rw[ao.o];exact am.o⟩
      case measure=>simp[intOf];omega
     |none =>
      simp only[hl,Option.getD_none,Option.isSome_none]at bi a1 a3
      go_quiet (fail)
      have am:=ae (a6.o.new (bd.o nq));have bt:=ae (((bd.o nq).block _ (dM a5.o).1).trans a5.o);clear bi a1 a3 b1 d0 d1 d2;go_upto_region 18 with fail
      generalize W5.drewN nq=W6 at *;have ar:=am.o.new ((ag _ _).drew:Below _ _ W6.drew);have b1:=am.o.c22 cd;obtain⟨d0,_,_⟩:=gL bt.o;obtain⟨w8,ad,ab,U⟩:=ar.aA.store xH Tryz.underlying119 (by unfold maxLen;omega) (zx hok) ((k:Nat):Int);have ba:=ae (ar.putP U hl ab)
      replace ad:(Instr.mapUpdate 119 (.map (some (w.heap.size+1+1))) (.string x.aT) (.int .i64 (k:Int))).run Tryz.prog W6.drew=.ok () w8:=ad
      clear ar ab U hl
      go_still_tail 7,(by kernel_rfl)
      change wpList _ _ _ _ _ W6.drew;go_wp2_with(refine kI rfl _ _ _ 119 rfl rfl rfl rfl ad ?_)
      go_roundw
      case rel=>first|exact⟨k+1,m+1,by omega,by omega,by go_num,by rw[ao.o];exact ba.o⟩|((repeat apply Exists.intro);exact⟨⟨k+1,m+1,by omega,by omega,by go_num,by rw[ao.o];exact ba.o⟩,rfl⟩)
      case measure=>simp[intOf];omega
    .obtain rfl:k=p.aA.length:=by omega
     go_wp2_with fail
     go_ret
     have hG:=aq.o;rw[bW]at hG;have cg:Below w.heap.size w wr:=br.o.trans (hG.below.mono (by omega));refine⟨_,_,_,rfl,⟨by rw[<-ch.o];exact hG.box,rfl,⟨_,hG.things⟩,⟨_,hG.aA⟩,HP.o.below (cg.mono HN.o),hn,?_,?_,?_⟩,?_,?_,?_,cg⟩
     all_goals first|omega|(dsimp only;omega)
end
theorem O1{K:mq}{pm:Option Nat}{E:Env}{n:Int}{over:Bool}(w:World)(hk:qQ K pm E n over w)(i:Nat)(hi:i<K.p.aA.length){m:Nat}{s:Sp}{l:List ah}(hl:H8 m w s l)(hm:m<=w.heap.size) :
  Calls Tryz.prog 276 #[.pointer (some ⟨K.q,0,none⟩),.int .i64 i,s.val l.length] w λo w'=>o=.returned (.bool (lJ K.p E i l))/\Below w.heap.size w w':=by
 have hq:=hk.prog.aA _ (ak hi);have b4:=hk.prog.prow.few;obtain⟨b,off,eA,_,D⟩:=hk.prog.prow.row (by omega);have bj:w.cell? ⟨b,off+i*3+1,none⟩=some (.slice K.p.aA[i].ps.dO K.p.aA[i].bC.length K.p.aA[i].ps.df):=D i hi 1 _ rfl;have a7:lJ K.p E i l=if K.p.aA[i].bC.length≠l.length then true else oW K.p E K.p.aA[i].bC l:=by
  unfold lJ;rw[aX hi]
 have a5:=hk.c13;rw[eA]at a5;have bi:K.n₀<=w.heap.size:=by have:=hk.lt;have:=hk.q;have:=hk.n0;omega
 have aw:=ae a7;have HQ:=ae hq.bC;generalize K.p.aA[i]=pq at *;have b5:=HQ.o.row.few;have b3:=hl.row.few;have bo:(0:Int)<=(i:Int):=by omega
 have br:(i:Int)<(K.p.aA.length:Int):=by omega
 have HK:=ae hk;have HL:=ae hl;clear hk hq D a7 hl eA;simp only[Sp.val];by_cases hne:pq.bC.length=l.length
 .have g1:((pq.bC.length:Int) == (l.length:Int))=true:=by simp[hne]
  have g2:((pq.bC.length:Int) != (l.length:Int))=false:=by simp[hne]
  have al:=ae hne;clear hne;go_enter Tryz.func276,Tryz.ntmps276
  go_wp2_with fail
  go_loopw[26] (λv wr=>∃k:Nat,k<=l.length/\v=.int .i64 k/\oW K.p E pq.bC l=oW K.p E (pq.bC.drop k) (l.drop k)/\Below w.heap.size w wr) (λv _=>l.length - (intOf v).toNat)
  case atStart=>exact⟨0,aH _,rfl,rfl,ag _ _⟩
  case round =>
   obtain⟨k,hk,rfl,a8,hb⟩:=hrel;have ap:=ae a8;have ad:=ae hb;clear a8 hb a5 bj;by_cases an:k<l.length
   .obtain⟨b2,ao,eA,_,D⟩:=(HQ.o.row.below (ad.o.mono bi)).row (by have:=al.o;omega)
    obtain⟨V,oe,eE,bm,hce⟩:=(HL.o.row.below (ad.o.mono hm)).row (by omega);have hx:k<pq.bC.length:=by have:=al.o;omega
    have k0:wr.cell? ⟨b2,ao+k*3,none⟩=some (.string pq.bC[k].aT):=D k hx 0 _ rfl;have k1:wr.cell? ⟨b2,ao+k*3+1,none⟩=some (.int .i64 pq.bC[k].aS):=D k hx 1 _ rfl;have k2:wr.cell? ⟨b2,ao+k*3+2,none⟩=some (.int .i64 pq.bC[k].size):=D k hx 2 _ rfl;have O:=hce k an;have a9:=HL.o.ok _ (ak an);have aE:oW K.p E (pq.bC.drop k) (l.drop k)=(iT (fZ K.p E l[k]) pq.bC[k].aS || oW K.p E (pq.bC.drop (k+1)) (l.drop (k+1))):=by
     rw[dR hx,dR an];rfl
    have aq:=ae aE;generalize pq.bC[k]=x at *;generalize l[k]=y at *;have am:=jc wr (.cells x.r 50);have a6:=gM wr (.cells x.r 50);have ar:=ad.o.size;have bk:(wr.alloc (.cells x.r 50)).heap.size=wr.heap.size+1:=by simp
    have bt:(0:Int)<=(k:Int):=by omega
    have bw:(k:Int)<(l.length:Int):=by omega
    have b0:(k:Int)<(pq.bC.length:Int):=by omega
    clear D hce aE hx;rw[eA,eE];clear eA eE;go_upto_region 7 with fail
    generalize wr.alloc (.cells x.r 50)=U at *;have HC:Hid (∀W,Below U.heap.size U W->W.cell? ⟨V,oe+k*6,none⟩=some (.int .u8 y.bI)/\W.cell? ⟨V,oe+k*6+1,none⟩=some (.int .u8 y.op)/\W.cell? ⟨V,oe+k*6+2,none⟩=some (.int .u32 y.bv)/\W.cell? ⟨V,oe+k*6+3,none⟩=some (.int .i64 y.aS)/\W.cell? ⟨V,oe+k*6+4,none⟩=some (.string y.aT)/\W.cell? ⟨V,oe+k*6+5,none⟩=some (.slice y.sp.dO y.cu.length y.sp.df)/\W.cell? ⟨wr.heap.size,1,none⟩=some (.int .i64 x.aS)):=ae λW hW=>by
     have e:=am.trans (hW.mono am.size);exact⟨(e.cell (p:=⟨V,_,none⟩) (by dsimp only;omega)).trans (O 0 _ rfl),(e.cell (p:=⟨V,_,none⟩) (by dsimp only;omega)).trans (O 1 _ rfl),(e.cell (p:=⟨V,_,none⟩) (by dsimp only;omega)).trans (O 2 _ rfl),(e.cell (p:=⟨V,_,none⟩) (by dsimp only;omega)).trans (O 3 _ rfl),(e.cell (p:=⟨V,_,none⟩) (by dsimp only;omega)).trans (O 4 _ rfl),(e.cell (p:=⟨V,_,none⟩) (by dsimp only;omega)).trans (O 5 _ rfl),(gL ((hW.block _ (by omega)).trans a6)).2.1⟩
    have HW:Hid (∀W,Below U.heap.size U W->Calls Tryz.prog 230 #[.pointer (some ⟨K.q,0,none⟩),y.val] W λo w'=>o=.returned (.int .i64 (fZ K.p E y))/\Below W.heap.size W w'):=ae λW hW=>by
     have e:Below w.heap.size w W:=ad.o.trans ((am.trans (hW.mono am.size)).mono ar);exact nH a9 W (e.mono hm) (by have:=e.size;omega) (HK.o.new e)
    simp only[ah.val,Sp.val]at HW;have a3:Below w.heap.size w U:=ad.o.trans (am.mono ar);have a1:=ae a3;obtain⟨v0,v1,v2,v3,v4,v5,v6⟩:=HC.o U.drew (ag _ _).drew;have bl:Below U.heap.size U U.drew:=(ag _ _).drew;have a4:w.heap.size<=U.heap.size:=a3.size;clear O a9 am a6 k0 k1 k2 a3 bk;generalize fZ K.p E y=wy at *;cases hdf:iT wy x.aS
    all_goals
     rw[hdf]at aq;have ba:=ae (λW=>(hdf ▸ oz wy x.aS W:Calls Tryz.prog 229 #[.int .i64 wy,.int .i64 x.aS] W λo w'=>o=.returned (.bool _)/\W=w'));clear hdf
     go_region_held3(λW=>W.cell? ⟨V,oe+k*6,none⟩=some (.int .u8 y.bI)/\W.cell? ⟨V,oe+k*6+1,none⟩=some (.int .u8 y.op)/\W.cell? ⟨V,oe+k*6+2,none⟩=some (.int .u32 y.bv)/\W.cell? ⟨V,oe+k*6+3,none⟩=some (.int .i64 y.aS)/\W.cell? ⟨V,oe+k*6+4,none⟩=some (.string y.aT)/\W.cell? ⟨V,oe+k*6+5,none⟩=some (.slice y.sp.dO y.cu.length y.sp.df)/\W.cell? ⟨wr.heap.size,1,none⟩=some (.int .i64 x.aS)/\Below U.heap.size U W) (simp[*])
      (first
       |(go_at_call 230;refine(HW.o _ (by assumption)).mono ?_;rintro o8 w8 ⟨rfl,bd⟩;have bh:=Below.trans (by assumption:Below U.heap.size U _) (bd.mono (Below.size (by assumption)));obtain⟨z0,z1,z2,z3,z4,z5,z6⟩:=HC.o _ bh)
       |(go_at_call 229;refine(ba.o _).mono ?_;rintro o6 w6 ⟨rfl,rfl⟩)
       |fail)
    .go_wp2_with fail
     go_roundw
     case rel=>first|exact⟨k+1,by omega,by go_num,ap.o.trans (aq.o.trans (Bool.false_or _)),a1.o.trans ((by assumption:Below U.heap.size U _).mono a4)⟩|((repeat apply Exists.intro);exact⟨⟨k+1,by omega,by go_num,ap.o.trans (aq.o.trans (Bool.false_or _)),a1.o.trans ((by assumption:Below U.heap.size U _).mono a4)⟩,rfl⟩)
     case measure=>simp[intOf];omega
    .go_wp2_with fail
     go_ret
     exact⟨by rw[aw.o,if_neg (by have:=al.o;omega),ap.o,aq.o];simp,a1.o.trans ((by assumption:Below U.heap.size U _).mono a4)⟩
   .obtain rfl:k=l.length:=by omega
    have ab:lJ K.p E i l=false:=by
     rw[aw.o,if_neg (by have:=al.o;omega),ap.o,fD,List.drop_eq_nil_of_le (by have:=al.o;omega)];rfl
    have b1:decide (l.length<pq.bC.length)=false:=az (by have:=al.o;omega);have bc:=ae ab;clear ab;go_wp2_with fail
    go_ret
    exact⟨by rw[bc.o];rfl,ad.o⟩
 .have g1:((pq.bC.length:Int) == (l.length:Int))=false:=by simp;omega
  have g2:((pq.bC.length:Int) != (l.length:Int))=true:=by simp;omega
  have ab:lJ K.p E i l=true:=by rw[aw.o,if_pos hne]
  rw[ab];clear hne ab;go_enter Tryz.func276,Tryz.ntmps276
  go_wp2_with fail
  go_ret
  exact⟨rfl,ag _ _⟩
def Fb(k D:Int)(ne:Bool)(V O U:Int):Bool :=
 if k=1 then(decide (D=0) && decide (V=0) && decide (O=0) && decide (U=1))
 else if k=2 then(decide (D=0) && decide (V=0) && decide (O=0) && decide (U=2))
 else if k=3 then(ne && decide (D=0) && decide (V=0) && decide (O=0) && decide (U=2))
 else if k=4 then(ne && decide (D=0) && decide (V=0) && decide (O=0) && decide (U=0))
 else if k=5 then(ne && decide (D=0) && decide (V=0) && decide (O=0) && decide (U=0))
 else if k=6 then(ne && decide (D=0) && decide (U=1))
 else if k=7 then(ne && decide (O=0) && decide (U=1))
 else if k=8 then(decide (D=0) && decide (V=0) && decide (O=0))
 else false
theorem Ph(s:aa):qJ s=Fb s.bI s.gT s.aT.toList.isEmpty s.gy.length s.iD.length s.bf.length:=by
 unfold qJ Fb;rw[EX];by_cases D:s.bI=4
 .simp only[D];apply Bool.eq_iff_iff.2;simp[and_assoc]
 by_cases O:s.bI=5
 .simp only[O];apply Bool.eq_iff_iff.2;simp[and_assoc]
 simp only[D,O,or_self,if_false]
 repeat' split
 all_goals first|rfl|(apply Bool.eq_iff_iff.2;simp[and_assoc];done)|(apply Bool.eq_iff_iff.2;simp[and_assoc];intros;omega)
theorem Pm(w:World)(s:aa)(kk:0<=s.bI/\s.bI<=255)(hl:s.bf.length<=4398046511104)(ao:s.gy.length<=4398046511104)(ap:s.iD.length<=4398046511104):Calls Tryz.prog 263 #[s.val] w λo w'=>o=.returned (.bool (qJ s))/\Below w.heap.size w w':=by
 rw[Ph];simp only[aa.val,Sp.val];generalize s.bf.length=O at *;generalize s.gy.length=tn at *;generalize s.iD.length=en at *;have aq:(0:Int)<=(O:Int):=by omega
 have ar:(0:Int)<=(tn:Int):=by omega
 have an:(0:Int)<=(en:Int):=by omega
 generalize s.aT=nm at *;generalize s.es=es at *;generalize s.ts=ts at *;generalize s.os=os at *;generalize s.bI=k at *;generalize s.gT=bd at *;have hsh:Fb k bd nm.toList.isEmpty tn en O=Fb k bd nm.toList.isEmpty tn en O:=rfl
 conv at hsh=>rhs;unfold Fb
 generalize Fb k bd nm.toList.isEmpty tn en O=am at *;have V:=ae hsh;clear hsh;have ab:=jc w (.cells #[.int .u8 k,.string nm,.slice es.dO O es.df,.int .i64 bd,.slice ts.dO tn ts.df,.slice os.dO en os.df] 43);have hB:=gM w (.cells #[.int .u8 k,.string nm,.slice es.dO O es.df,.int .i64 bd,.slice ts.dO tn ts.df,.slice os.dO en os.df] 43);have U:=ae ab;have HB:=ae hB;clear ab hB;go_enter Tryz.func263,Tryz.ntmps263
 go_upto_region 1 with (fail)
 generalize w.alloc (.cells #[.int .u8 k,.string nm,.slice es.dO O es.df,.int .i64 bd,.slice ts.dO tn ts.df,.slice os.dO en os.df] 43)=W2 at *;obtain⟨c0,c1,c2,c3,c4,c5⟩:=aR HB.o
 go_quiet (fail)
 rcases(show k=1\/k=8\/k=2\/k=3\/k=4\/k=5\/k=6\/k=7\/(k≠1/\k≠8/\k≠2/\k≠3/\k≠4/\k≠5/\k≠6/\k≠7) by omega)with D|D|D|D|D|D|D|D|D
 case inr.inr.inr.inr.inr.inr.inr.inr =>
  obtain⟨h1,h8,h2,h3,h4,h5,h6,h7⟩:=D;have g1:(k == 1)=false:=by simpa using h1
  have g2:(k == 2)=false:=by simpa using h2
  have g3:(k == 3)=false:=by simpa using h3
  have g4:(k == 4)=false:=by simpa using h4
  have g5:(k == 5)=false:=by simpa using h5
  have g6:(k == 6)=false:=by simpa using h6
  have g7:(k == 7)=false:=by simpa using h7
  have g8:(k == 8)=false:=by simpa using h8
  have ad:am=false:=by rw[V.o];simp[*]
  clear h1 h2 h3 h4 h5 h6 h7 h8;subst ad
  go_wp2
  go_ret
  exact⟨rfl,jl U.o _⟩
 case inr.inl =>
  subst D;have al:((O:Int) == (O:Int))=true:=by simp
  go_wp2
  go_quiet (fail)
  go_wp2
  all_goals(go_ret;exact⟨oh (by rw[V.o];simp_all<;>(apply Bool.eq_iff_iff.2;simp only[fT,aU];try omega)),jl U.o _⟩)
 all_goals
  subst D
  go_wp2
  all_goals(go_ret;exact⟨oh (by rw[V.o];simp_all<;>(apply Bool.eq_iff_iff.2;simp only[fT,aU];try omega)),jl U.o _⟩)
end Go.Proofs.YtepacjkacjabbaaGreatDoor
