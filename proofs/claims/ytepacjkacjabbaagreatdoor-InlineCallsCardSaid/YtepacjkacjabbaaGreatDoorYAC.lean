import Derived.Test.YtepacjkacjabbaaGreatDoorYAB
import Derived.Test.YtepacjkacjabbaaGreatDoorYAA
import Derived.RangeFuncNested
import Derived.Shelf.Abstract
import Derived.OwnWalkIn
import Derived.TacticsInMore
import Derived.LoopNIn
import Derived.LoopIn
import Derived.StillTail
import Derived.Test.YtepacjkacjabbaaGreatDoorRows
import Derived.ProofKit
import Derived.OpenShut
set_option linter.all false
namespace Go.Proofs.YtepacjkacjabbaaGreatDoor
open Go Go.RowKit
abbrev ah.r(e:ah):Array Value:=#[.int .u8 e.bI,.int .u8 e.op,.int .u32 e.bv,.int .i64 e.aS,.string e.aT,.slice e.sp.dO e.cu.length e.sp.df]
abbrev Co(e f:ah):Array Value:=#[.int .u8 e.bI,.int .u8 e.op,.int .u32 e.bv,.int .i64 e.aS,.string e.aT,.slice e.sp.dO e.cu.length e.sp.df,.int .u8 f.bI,.int .u8 f.op,.int .u32 f.bv,.int .i64 f.aS,.string f.aT,.slice f.sp.dO f.cu.length f.sp.df]
abbrev aa.r(s:aa):Array Value:=#[.int .u8 s.bI,.string s.aT,.slice s.es.dO s.bf.length s.es.df,.int .i64 s.gT,.slice s.ts.dO s.gy.length s.ts.df,.slice s.os.dO s.iD.length s.os.df]
abbrev dH.r(i:dH):Array Value:=#[.int .i64 i.block,.int .u8 i.bv.bI,.int .u8 i.bv.op,.int .u32 i.bv.bv,.int .i64 i.bv.aS,.string i.bv.aT,.slice i.bv.sp.dO i.bv.cu.length i.bv.sp.df]
abbrev bG.r(x:bG):Array Value:=#[.string x.aT,.slice x.ps.dO x.bC.length x.ps.df,.slice x.bs.dO x.eY.length x.bs.df]
abbrev bO.r(x:bO):Array Value:=#[.string x.aT,.int .i64 x.aS,.int .i64 x.size]
abbrev aj.r(p:aj):Array Value:=#[.int .i64 p.iF,.int .i64 p.aS,.slice p.is.dO p.fB.length p.is.df,.slice p.gs.dO p.ek.length p.gs.df,.slice p.vs.dO p.gp.length p.vs.df,.slice p.as.dO p.fP.length p.as.df,.int .u8 p.eD.bI,.int .u8 p.eD.op,.int .u32 p.eD.bv,.int .i64 p.eD.aS,.string p.eD.aT,.slice p.eD.sp.dO p.eD.cu.length p.eD.sp.df,.slice p.ns.dO p.eQ.length p.ns.df,.slice p.rs.dO p.aA.length p.rs.df,.slice p.ws.dO p.eX.length p.ws.df,.slice p.cs.dO p.eB.length p.cs.df,.int .u8 p.d9.bI,.int .u8 p.d9.op,.int .u32 p.d9.bv,.int .i64 p.d9.aS,.string p.d9.aT,.slice p.d9.sp.dO p.d9.cu.length p.d9.sp.df]
section
def mask(q:Nat)(W:World):World:=W.putObj q (.cells #[] 0)
section
variable {q:Nat}{W W':World}
theorem gI:(mask q W).heap.size=W.heap.size:=by simp[mask,World.putObj]
theorem gz{k:Nat}(h:k≠q):(mask q W).heap[k]?=W.heap[k]? := by
 simp only[mask,World.putObj];rw[Array.getElem?_setIfInBounds,if_neg (λe=>h e.symm)]
theorem mE:(mask q W).heap[q]?=if q<W.heap.size then some (.cells #[] 0) else none:=by
 simp only[mask,World.putObj];rw[Array.getElem?_setIfInBounds,if_pos rfl]
theorem tZ{A B:World}(h1:A.os=B.os)(D:A.tape=B.tape)(O:A.output=B.output)(U:A.drawn=B.drawn)(V:∀k:Nat,A.heap[k]?=B.heap[k]?):A=B:=by
 obtain⟨h,_,_,_,_⟩:=A;obtain⟨h',_,_,_,_⟩:=B;simp only at h1 D O U V;have:h=h':=by
  apply Array.ext_getElem?
  exact V
 subst this h1 D O U
 rfl
theorem l6(i:Nat)(v:Value):mask q (W.setCell ⟨q,i,none⟩ v)=mask q W:=by
 refine tZ rfl rfl rfl rfl λk=>?_
 by_cases h:k=q
 .subst h
  rw[mE,mE];simp
 .rw[gz h,gz h]
  exact aN _ _ _ _ h
theorem Fz{a:Addr}{u:Value}(h:(mask q W).cell? a=some u):W.cell? a=some u:=by
 by_cases e:a.block=q
 .simp only[World.cell?,e,mE]at h
  split at h
  .next D =>
   split at D
   .cases D
    split at h
    .cases h
    .simp at h
   .cases D
  .cases h
 .rw[aM (w:=mask q W) (gz e).symm];exact h
theorem GR:Below q W (mask q W):=⟨rfl,rfl,rfl,by rw[gI];exact af _,λk hk=>gz (by omega)⟩
theorem bn{B:Nat}(hq:q<W.heap.size)(h:Below B W W'):Below B (mask q W) (mask q W'):=by
 refine⟨h.os,h.tape,h.output,by rw[gI,gI];exact h.size,λk hk=>?_⟩;by_cases e:k=q
 .subst e
  rw[mE,mE,if_pos hq,if_pos (aI hq h.size)]
 .rw[gz e,gz e];exact h.block k hk
theorem nG{B:Nat}(D:B<=q)(h:Below B (mask q W) (mask q W')):Below B W W':=by
 refine⟨h.os,h.tape,h.output,by have:=h.size;rw[gI,gI]at this;exact this,λk hk=>?_⟩;have:=h.block k hk;rw[gz (by omega),gz (by omega)]at this;exact this
theorem RowOf.unmask{α:Type}{n k:Nat}{s:Sp}{enc:α->List Value}{l:List α}(h:RowOf n (mask q W) s k enc l):RowOf n W s k enc l :=
 ⟨h.df,h.big,h.few,λO=>by
  obtain⟨b,off,e,D,hc⟩:=h.row O;exact⟨b,off,e,D,λj U r u V=>Fz (hc j U r u V)⟩⟩
end
end
section
structure dD(T:TypeId->Bool)(B:Nat)(W W':World):Prop where
 size:W.heap.size<=W'.heap.size
 same:∀(k:Nat) (o:Obj),B<=k->W.heap[k]?=some o->o.isCells=false->W'.heap[k]?=some o
 cells:∀(k:Nat) (cs:Array Value) (t:TypeId) (fr:Nat × Nat),W.heap[k]?=some (.cells cs t fr)->T t=true->W'.heap[k]?=some (.cells cs t fr)
section
variable {T:TypeId->Bool}{B C:Nat}{X Y Z:World}
theorem dD.refl(T:TypeId->Bool)(B:Nat)(W:World):dD T B W W:=⟨af _,λ_ _ _ h _=>h,λ_ _ _ _ h _=>h⟩
theorem dD.trans(h:dD T B X Y)(k:dD T B Y Z):dD T B X Z :=
 ⟨ai h.size k.size,λi o D hi O=>k.same i o D (h.same i o D hi O) O,λi cs t fr hi ht=>k.cells i cs t fr (h.cells i cs t fr hi ht) ht⟩
theorem dD.up(h:dD T B X Y)(D:B<=C):dD T C X Y:=⟨h.size,λk o hk=>h.same k o (by omega),h.cells⟩
theorem dD.put{l:Nat}{W:World}{D:Obj}(o:Obj)(h:l<B)(hl:W.heap[l]?=some D)(hc:D.isCells=false):dD T B W (W.putObj l o):=
 ⟨by simp,λk O hk h1 _=>(dE (by omega)).trans h1,λk cs t fr h1 _=>(dE (λe=>by
  subst e;rw[hl]at h1;cases h1
  cases hc)).trans h1⟩
theorem dD.of_below(h:Below X.heap.size X Y):dD T B X Y :=
 ⟨h.size,λk _ _ hk _=>(h.block k (dM hk).1).trans hk,λk _ _ _ hk _=>(h.block k (dM hk).1).trans hk⟩
theorem dD.set{a:Addr}{cs:Array Value}{t:TypeId}{fr:Nat × Nat}{W:World}(hb:W.heap[a.block]?=some (.cells cs t fr))(ht:T t=false)(v:Value):dD T B W (W.setCell a v):=
 ⟨by simp,λk o _ hk V=>(aN _ _ _ k (λe=>by subst e;rw[hb]at hk;cases hk;cases V)).trans hk,
  λk O t' U hk D=>(aN _ _ _ k (λe=>by subst e;rw[hb]at hk;cases hk;rw[ht]at D;cases D)).trans hk⟩
end
def SV{α:Type}(F:Fence)(n:Nat)(P:Program)(g:Nat)(lb:Array Value)(O:α->Array Value)(T:TypeId->Bool)(n₀:Nat)(S Sp:List α->Prop)(N:Nat)(w:World):Prop :=
 ∀(l:Nat) (J Jx:List α->World->Prop) (W:World),Below w.heap.size w W->OwnFrom W.heap.size J->OwnFrom W.heap.size Jx ->
  (∀pre x D,J pre D->pre.length<N->Sp (pre++[x])->YieldAt F (n - 1) P l (O x) D λe W' =>
   (e=.returned (.bool true)/\J (pre++[x]) W'/\dD T W.heap.size D W'/\Below n₀ D W')\/(e=.returned (.bool false)/\Jx (pre++[x]) W'/\dD T W.heap.size D W')) ->
  J [] W ->
  CallsIn F n P g (#[.func (.yield l) #[] #[]]++lb) W λe W'=>(∃v,e=.returned v)/\((∃U,S U/\J U W')\/(∃pre,Sp pre/\Jx pre W'))
def Rx{α:Type}(T:TypeId->Bool)(B n₀:Nat)(I:List α->World->Prop)(O:Code->List α->World->Prop)(D:List α)(W:World):Exit->Act->World->Prop
 |.normal,_,W'=>dD T B W W'/\Below n₀ W W'/\I D W'
 |.ret,_,W'=>dD T B W W'/\O .ret D W'
 |.exit id,_,W'=>dD T B W W'/\O (.exit id) D W'
 |.goto t,_,W'=>dD T B W W'/\O (.goto t) D W'
 |_,_,_=>False
theorem jk{n₀ l:Nat}(W:World)(o:Obj)(h:n₀<=l):Below n₀ W (W.putObj l o):=
 ⟨rfl,rfl,rfl,by simp,λk hk=>dE (by omega)⟩
variable {F:Fence}{n:Nat}{P:Program}{w:World}
theorem jS{α:Type}{g:Operand}{ps:Array Tmp}{assign body:Code}{Q:Exit->Act->World->Prop}{a:Act}{w:World}
  (b5:F.round=none) (h1:F.depth.isSome=true->1<=n) {gf:Nat}{lb:Array Value}(hg:a.eval g=.func (.func gf) #[] lb) (bi:F.fn gf) (eg:∀args w,(callFunc gf args).run P w=.ok (.enter gf args) w)
  {ar:α->Array Value}{T:TypeId->Bool}{n₀:Nat}{S Sp:List α->Prop}{N:Nat}{w0:World}(be:SV F (n - 1) P gf lb ar T n₀ S Sp N w0) (b7:n₀<=w.heap.size) (ba:Below w0.heap.size w0 w) (b4:∀x,(ar x).size=ps.size)
  (I:List α->World->Prop) (Ix:Code->List α->World->Prop) (hI:OwnFrom w.heap.size I) (a1:∀c,OwnFrom w.heap.size (Ix c)) (h0:I [] w) (Ax:α->Act->World->Prop) (bh:∀x a',OwnFrom w.heap.size (λ(_:Unit) W=>Ax x a' W))
  (a4:∀(l:Nat) (pre:List α) (x:α) (W:World) (K:Act->World->Prop),I pre W->(∀a' W',dD T w.heap.size W W'->Below n₀ W W'->I pre W'->Ax x a' W'->K a' W') ->
   assign.wpIn (F.inRound l) (n - 1 - 1) P (Exit.then K (λ_ _ _=>False)) { tmps:=(ps.zip (ar x)).foldl (λt (p,v)=>t.setIfInBounds p v) a.tmps,defers:=[] } W)
  (a7:∀(l:Nat) (pre:List α) (x:α) (a':Act) (W:World),w.heap.size<=l->I pre W->Ax x a' W->pre.length<N->Sp (pre++[x])->body.wpIn (F.inRound l) (n - 1 - 1) P (Rx T w.heap.size n₀ I Ix (pre++[x]) W) a' W)
  (a8:∀(D:Nat) (xs:List α) (W:World),w.heap.size<=D->S xs->I xs W->W.heap[D]?=some (.deferred (some []))->Q .normal { a with defers:={ target:=.collected D,args:=#[] }::a.defers } W)
  (aE:∀(D:Nat) (c:Code) (pre:List α) (W:World),w.heap.size<=D->Sp pre->Ix c pre W->W.heap[D]?=some (.deferred (some []))->c.wpIn F n P Q { a with defers:={ target:=.collected D,args:=#[] }::a.defers } W) :
  (Code.rangeFunc g ps assign body).wpIn F n P Q a w:=by
 refine wpIn_rangeFunc ?_;intro fn hfn;rw[b5];obtain⟨U,O⟩:∃U:LoopState->Option Code->Loop,U=λst pe=>{ state:=st,pending:=pe,fn,tmps:=a.tmps,params:=ps,assign,body,defers:=w.heap.size }:=⟨_,rfl⟩
 obtain⟨W1,aw⟩:∃W1,(w.alloc (.deferred (some []))).alloc (.loop (U .ready none))=W1:=⟨_,rfl⟩;have bl:W1.heap[w.heap.size+1]?=some (.loop (U .ready none)):=by
  rw[<-aw];have:=gM (w.alloc (.deferred (some []))) (.loop (U .ready none));rwa [di]at this
 have bk:W1.heap[w.heap.size]?=some (.deferred (some [])):=by
  rw[<-aw];exact(eZ _ _ _ (by simp)).trans (gM w _)
 have bj:I [] W1:=by rw[<-aw];exact hI.alloc _ (hI.alloc _ h0)
 have b6:W1.heap.size=w.heap.size+2:=by rw[<-aw];simp
 have b0:Below w.heap.size w W1:=by rw[<-aw];exact((ag _ w).alloc (af _) _).alloc (by simp) _
 have br:Below w0.heap.size w0 W1:=ba.trans (b0.mono ba.size);refine⟨w.heap.size+1,[{ target:=.collected w.heap.size,args:=#[] }],W1,{ target:=.fn (.func gf) lb,args:=#[.func (.yield (w.heap.size+1)) #[] #[]] },W1,gf,
  #[.func (.yield (w.heap.size+1)) #[] #[]]++lb,W1,?_,?_,?_,?_,h1,?_⟩
 .rw[<-aw,O];exact run_enterLoop_outer _ _ _ _ _
 .simp only[resolve,hg]
  simp[go_sem]
 .intro f' bc;simp[Target.leads]at bc;subst bc;exact bi
 .simp[invoke,go_sem,eg]
 .have a6:∀{A:World}{row:Option Nat},(∀r,row=some r->W1.heap.size<=r/\∃o:Obj,A.heap[r]?=some o/\o.isCells=false)->(∀r,row=some r->w.heap.size<=r/\∃o:Obj,A.heap[r]?=some o/\o.isCells=false):=
   λhr r e=>⟨by have:=(hr r e).1;omega,(hr r e).2⟩
  have am:∀{A B:World}{row:Option Nat}{k:Nat}{o:Obj},k<W1.heap.size->A.heap[k]?=some o->A.grownBy B row->(∀r,row=some r->W1.heap.size<=r/\∃o:Obj,A.heap[r]?=some o/\o.isCells=false)->B.heap[k]?=some o :=
   λ{A B row k o} hk h al hr=>(al.block k (dM h).1 (λe=>by have:=(hr k e.symm).1;omega)).trans h
  refine(be (w.heap.size+1)
   (λpre W=>I pre W/\W.heap[w.heap.size+1]?=some (.loop (U .ready none))/\W.heap[w.heap.size]?=some (.deferred (some [])))
   (λpre W=>∃c,Ix c pre W/\W.heap[w.heap.size+1]?=some (.loop (U .done (some c)))/\W.heap[w.heap.size]?=some (.deferred (some [])))
   W1 br
   (λs A B row hs al hr=>⟨hI s A B row hs.1 al (a6 hr),am (by omega) hs.2.1 al hr,am (by omega) hs.2.2 al hr⟩)
   (λs A B row hs al hr=>by
    obtain⟨c,hc,hl,hk⟩:=hs;exact⟨c,a1 c s A B row hc al (a6 hr),am (by omega) hl al hr,am (by omega) hk al hr⟩)
   ?_ ⟨bj,bl,bk⟩).mono ?_
  .rintro pre x W ⟨hi,hl,hk⟩ bd hsp
   have hy:=run_yield (P:=P) (args:=ar x) hl (by rw[O];exact b4 x);rw[O]at hy;refine⟨fn,_,assign,body,hy,roundIn_of_wpIn hfn (a4 _ pre x W _ hi ?_)⟩;clear hy;intro a' Wa a9 bw b1 bo
   replace hl:=a9.same _ _ (by omega) hl rfl
   replace hk:=a9.same _ _ (af _) hk rfl
   replace hlt:w.heap.size+1<Wa.heap.size:=(dM hl).1
   clear hi;refine⟨_,run_beginRound hl (by rw[O]),?_⟩;have b3:(Wa.putObj (w.heap.size+1) (.loop { U .ready none with state:=.busy })).heap[w.heap.size+1]?=some (.loop { U .ready none with state:=.busy }):=World.putObj_heap_same hlt;have b2:(Wa.putObj (w.heap.size+1) (.loop { U .ready none with state:=.busy })).heap[w.heap.size]?=some (.deferred (some [])):=(dE (by omega)).trans hk;refine wpIn_mono (a7 _ pre x a' _ (by omega) (hI.putObj _ b1 (by omega) hl rfl) ((bh x a').putObj (s:=()) _ bo (by omega) hl rfl) bd hsp) ?_;have a5:∀(ab:Option Code) (W3:World),dD T w.heap.size (Wa.putObj (w.heap.size+1) (.loop { U .ready none with state:=.busy })) W3 ->
     ∃W4,(Instr.endRound (w.heap.size+1) ab).run P W3=.ok (.bool ab.isNone) W4/\W4=W3.putObj (w.heap.size+1) (.loop (U (if ab.isNone then .ready else .done) ab)) /\
     W3.heap[w.heap.size+1]?=some (.loop { U .ready none with state:=.busy }) /\
     W4.heap[w.heap.size+1]?=some (.loop (U (if ab.isNone then .ready else .done) ab))/\W4.heap[w.heap.size]?=some (.deferred (some []))/\dD T W1.heap.size W W4:=λab W3 ad=>by
    have V:=ad.same _ _ (by omega) b3 rfl;have hr:=run_endRound (P:=P) ab V;rw[O]at hr;refine⟨_,hr,by rw[O],by rw[O]at V;rw[O];exact V,?_,(dE (by omega)).trans (ad.same _ _ (af _) b2 rfl),?_⟩
    .rw[O];exact World.putObj_heap_same (dM V).1
    .exact((a9.up (by omega)).trans (dD.put _ (by omega) hl rfl)).trans ((ad.up (by omega)).trans (dD.put _ (by omega) V rfl))
   rintro e a3 W3 hp;cases e with
   |normal =>
    obtain⟨ad,bt,an⟩:=hp;obtain⟨W4,hr,rfl,V,aq,ao,ap⟩:=a5 none W3 ad;exact⟨_,_,hr,.inl ⟨rfl,⟨hI.putObj _ an (by omega) V rfl,aq,ao⟩,ap,(bw.trans ((jk Wa _ (by omega)).trans bt)).trans (jk W3 _ (by omega))⟩⟩
   |ret =>
    obtain⟨ad,an⟩:=hp;obtain⟨W4,hr,rfl,V,aq,ao,ap⟩:=a5 (some .ret) W3 ad;exact⟨_,_,hr,.inr ⟨rfl,⟨.ret,(a1 _).putObj _ an (by omega) V rfl,aq,ao⟩,ap⟩⟩
   |exit id =>
    obtain⟨ad,an⟩:=hp;obtain⟨W4,hr,rfl,V,aq,ao,ap⟩:=a5 (some (.exit id)) W3 ad;exact⟨_,_,hr,.inr ⟨rfl,⟨.exit id,(a1 _).putObj _ an (by omega) V rfl,aq,ao⟩,ap⟩⟩
   |goto t =>
    obtain⟨ad,an⟩:=hp;obtain⟨W4,hr,rfl,V,aq,ao,ap⟩:=a5 (some (.goto t)) W3 ad;exact⟨_,_,hr,.inr ⟨rfl,⟨.goto t,(a1 _).putObj _ an (by omega) V rfl,aq,ao⟩,ap⟩⟩
   |panic ch=>exact hp.elim
   |outgrown=>exact hp.elim
  .rintro e W2 ⟨⟨v,rfl⟩,(⟨xs,hS,hi,hl,hk⟩|⟨pre,bm,c,hi,hl,hk⟩)⟩
   .exact⟨none,_,by have:=run_endLoop (P:=P) hl (by rw[O];simp);rw[O]at this;exact this,
     a8 w.heap.size xs _ (af _) hS (hI.putObj _ hi (by omega) hl rfl) ((dE (by omega)).trans hk)⟩
   .exact⟨some c,_,by have:=run_endLoop (P:=P) hl (by rw[O];simp);rw[O]at this;exact this,
     aE w.heap.size c pre _ (af _) bm ((a1 c).putObj _ hi (by omega) hl rfl) ((dE (by omega)).trans hk)⟩
def iw(B:Nat):List Deferred->World->Prop
 |[],_=>True
 |d::ds,W=>∃D,d={ target:=.collected D,args:=#[] }/\B<=D/\W.heap[D]?=some (.deferred (some []))/\(∀O∈ds,O.target≠.collected D)/\iw B ds W
theorem iw.fE{B:Nat}{W W':World}(h:∀D,B<=D->W.heap[D]?=some (.deferred (some []))->W'.heap[D]?=some (.deferred (some []))):∀{ds:List Deferred},iw B ds W->iw B ds W'
 |[],_=>trivial
 |_::_,⟨D,e,O,U,V,hr⟩=>⟨D,e,O,h D O U,V,iw.fE h hr⟩
theorem iw.keepsIn{B:Nat}{W W':World}:∀{ds:List Deferred},(∀d∈ds,∀D,d.target=.collected D->B<=D->W.heap[D]?=some (.deferred (some []))->W'.heap[D]?=some (.deferred (some [])))->iw B ds W->iw B ds W'
 |[],_,_=>trivial
 |d::_,h,⟨D,e,U,hD,hn,hr⟩=>⟨D,e,U,h d (by simp) D (by rw[e]) U hD,hn,iw.keepsIn (λV O=>h V (by simp[O])) hr⟩
theorem iw.lt{B:Nat}{W:World}:∀{ds:List Deferred},iw B ds W->∀U∈ds,∃D,U.target=.collected D/\D<W.heap.size
 |_::_,⟨D,e,_,V,_,hr⟩,U,O=>by
  rcases List.mem_cons.1 O with rfl|O
  .exact⟨D,by rw[e],(dM V).1⟩
  .exact iw.lt hr U O
theorem iw.put{B l:Nat}{W:World}(o:Obj):∀{ds:List Deferred},iw B ds W->(∀O∈ds,O.target≠.collected l)->iw B ds (W.putObj l o)
 |[],_,_=>trivial
 |_::_,⟨D,e,hB,hD,hn,hr⟩,hl=>⟨D,e,hB,(dE (λV=>hl { target:=.collected D,args:=#[] } (by simp[e]) (by rw[V]))).trans hD,hn,iw.put o hr (λO U=>hl O (by simp[U]))⟩
theorem l5{F:Fence}{n:Nat}{P:Program}{fn:Func}{tmps:Array Value}{R:Ending->World->Prop}{B:Nat}(K:World->Prop)
  (V:∀W l o o',K W->B<=l->W.heap[l]?=some o->o.isCells=false->K (W.putObj l o')) (O:∀W,K W->LeavesInM F n P fn tmps R [] .returning W) :
  ∀(ds:List Deferred) (W:World),iw B ds W->K W->LeavesInM F n P fn tmps R ds .returning W
 |[],W,_,h=>O W h
 |d::ds,W,⟨D,e,hB,U,hn,hr⟩,h=>by
  subst e;exact⟨by simp,.inl ⟨D,W.putObj D (.deferred none),rfl,run_takeDeferred U,l5 K V O ds _ (hr.put _ hn) (V W D _ _ h hB U rfl)⟩⟩
end
def ik(n:Int):Bool:=decide (1<=n/\n<=16)
def iT(a b:Int):Bool:=ik a && ik b && decide (a≠b)
def ug(n:Int):Int:=if ik n then 2 ^ n.toNat - 1 else 0
def xN(n:Int):Int:=if ik n then 0 else 220
def uR(op:Int):Bool:=decide (1<=op/\op<=16)
def sS(op:Int):Bool:=decide (3<=op/\op<=16)
def mF(op:Int):Bool:=decide (13<=op/\op<=16)
def l8(op w:Int):Int:=if uR op=true then(if ik w=true then(if mF op=true then 1 else w) else 0) else 0
structure gV where
 bI:Int
 aS:Int
deriving DecidableEq
def look{α:Type}(T:List (ByteArray × α))(s:ByteArray):Option α:=(T.find? λx=>decide (x.1=s)).map (·.2)
def lH(p:aj):List (ByteArray × gV):=
 p.fB.map (λd=>(d.aT,⟨1,d.aS⟩))++p.ek.map (λd=>(d.aT,⟨2,d.aS⟩))++p.gp.map (λd=>(d.aT,⟨3,d.aS⟩))++p.fP.map (λd=>(d.aT,⟨4,d.aS⟩))
def nC(q:bG):List (ByteArray × gV):=q.bC.map (λd=>(d.aT,⟨5,d.aS⟩))
def numbered{α:Type}(f:α->ByteArray):List α->Nat->List (ByteArray × Int)
 |[],_=>[]
 |x::l,n=>(f x,(n:Int))::numbered f l (n+1)
def eG(p:aj):List (ByteArray × Int):=numbered bG.aT p.aA 0
structure Env where
 within:Int
 bC:List (ByteArray × gV)
def outside:Env:=⟨-1,[]⟩
def inside(p:aj)(i:Nat):Env:=⟨i,match p.aA[i]? with|some q=>nC q|none=>[]⟩
def dJ(p:aj)(E:Env)(s:ByteArray):gV :=
 match look E.bC s with
 |some x=>x
 |none=>(look (lH p) s).getD ⟨0,0⟩
def iW(p:aj)(E:Env)(k op wd:Int)(D:ByteArray)(s0 O:Int):Int :=
 if k=1\/k=8 then wd
 else if k=2\/k=3 then(if(dJ p E D).bI≠0/\((dJ p E D).bI=4↔k=3) then(dJ p E D).aS else 0)
 else if k=4 then p.aS
 else if k=5\/k=6 then l8 op s0
 else if k=7 then O
 else 0
def Db(n:Int):Int:=if ik n=true then n else 0
mutual
def fZ(p:aj)(E:Env):ah->Int
 |.mk k op _ wd D _ cu=>Db (iW p E k op wd D ((yN p E cu).getD 0 0) ((yN p E cu).getD 1 0))
def yN(p:aj)(E:Env):List ah->List Int
 |[]=>[]
 |e::l=>fZ p E e::yN p E l
end
theorem F9(p:aj)(E:Env):∀l:List ah,yN p E l=l.map (fZ p E)
 |[]=>by rw[yN];rfl
 |e::l=>by rw[yN,F9 p E l];rfl
def gB(p:aj)(E:Env)(l:List ah)(i:Nat):Int:=match l[i]? with|some e=>fZ p E e|none=>0
theorem F8(p:aj)(E:Env)(l:List ah)(i:Nat):(yN p E l).getD i 0=gB p E l i:=by
 rw[F9,gB,List.getD_eq_getElem?_getD,iK];cases l[i]? <;>rfl
theorem jR(p:aj)(E:Env)(e:ah):fZ p E e=Db (iW p E e.bI e.op e.aS e.aT (gB p E e.cu 0) (gB p E e.cu 1)):=by
 cases e
 rw[fZ,F8,F8]
 rfl
def pO(e:ah):Bool :=
 if e.bI=1 then decide (e.op=0/\e.aT=ByteArray.empty/\e.cu.length=0)
 else if e.bI=2 then decide (e.op=0/\e.bv=0/\e.aS=0/\e.cu.length=0)
 else if e.bI=3 then decide (e.op=0/\e.bv=0/\e.aS=0/\e.cu.length=1)
 else if e.bI=4 then decide (e.op=0/\e.bv=0/\e.aS=0/\e.aT=ByteArray.empty/\e.cu.length=1)
 else if e.bI=5 then decide (uR e.op=true/\sS e.op=false/\e.bv=0/\e.aS=0/\e.aT=ByteArray.empty/\e.cu.length=1)
 else if e.bI=6 then decide (sS e.op=true/\e.bv=0/\e.aS=0/\e.aT=ByteArray.empty/\e.cu.length=2)
 else if e.bI=7 then decide (e.op=0/\e.bv=0/\e.aS=0/\e.aT=ByteArray.empty/\e.cu.length=3)
 else if e.bI=8 then decide (e.op=0/\e.bv=0/\e.aT=ByteArray.empty/\e.cu.length=1)
 else false
def iI(p:aj)(E:Env)(e:ah):Bool :=
 if e.bI=1 then(!ik e.aS) || decide (e.bv>ug e.aS)
 else if e.bI=8 then !ik e.aS
 else if e.bI=6/\e.cu.length=2 then iT (gB p E e.cu 0) (gB p E e.cu 1)
 else if e.bI=7/\e.cu.length=3 then iT (gB p E e.cu 1) (gB p E e.cu 2)
 else false
def iM(e:ah):Bool:=decide (e.bI=2\/e.bI=3)
def jd(p:aj)(O D:Int):Int:=if p.aA.length>0 then O else D
def pU(p:aj)(E:Env)(wh:Int)(e:ah)(d:Nat):Int :=
 if pO e=false then 325
 else if iM e=true/\((dJ p E e.aT).bI=0\/¬((dJ p E e.aT).bI=4↔e.bI=3)) then 321
 else if(wh=1/\(e.bI=4\/iM e=true/\(dJ p E e.aT).bI≠1))\/(wh=2/\iM e=true/\((dJ p E e.aT).bI=3\/(dJ p E e.aT).bI=4)) then 326
 else if iI p E e=true then 322
 else if(d:Int)>jd p 32 1000 then 319
 else 0
mutual
def jv(p:aj)(E:Env)(wh:Int):ah->Nat->List Int
 |.mk k op v wd D sp cu,d=>pU p E wh (.mk k op v wd D sp cu) d::iU p E wh cu (d+1)
def iU(p:aj)(E:Env)(wh:Int):List ah->Nat->List Int
 |[],_=>[]
 |e::l,d=>jv p E wh e d++iU p E wh l d
end
theorem jY(p:aj)(E:Env)(wh:Int)(e:ah)(d:Nat):jv p E wh e d=pU p E wh e d::iU p E wh e.cu (d+1):=by
 cases e;rw[jv];rfl
theorem fJ(p:aj)(E:Env)(wh:Int):∀(l:List ah) (d:Nat),iU p E wh l d=l.flatMap (λe=>jv p E wh e d)
 |[],_=>by rw[iU];rfl
 |e::l,d=>by rw[iU,fJ p E wh l d];rfl
def qJ(s:aa):Bool :=
 if s.bI=1 then decide (s.gT=0/\s.gy.length=0/\s.iD.length=0/\s.bf.length=1)
 else if s.bI=2 then decide (s.gT=0/\s.gy.length=0/\s.iD.length=0/\s.bf.length=2)
 else if s.bI=3 then decide (s.aT=ByteArray.empty/\s.gT=0/\s.gy.length=0/\s.iD.length=0/\s.bf.length=2)
 else if s.bI=4\/s.bI=5 then decide (s.aT=ByteArray.empty/\s.gT=0/\s.gy.length=0/\s.iD.length=0/\s.bf.length=0)
 else if s.bI=6 then decide (s.aT=ByteArray.empty/\s.gT=0/\s.bf.length=1)
 else if s.bI=7 then decide (s.aT=ByteArray.empty/\s.iD.length=0/\s.bf.length=1)
 else if s.bI=8 then decide (s.gT=0/\s.gy.length=0/\s.iD.length=0)
 else false
def lK(l:List ByteArray)(s:ByteArray):Bool:=l.any λx=>decide (x=s)
def qP(l:List ByteArray)(s:ByteArray):List ByteArray:=if lK l s=true then l else l++[s]
def jG(l:List aa):List ByteArray:=(l.flatMap aa.pre).foldl (λout s=>if s.bI=8 then qP out s.aT else out) []
def lC(p:aj)(i:Nat):List Nat:=match p.aA[i]? with
 |some q=>(jG q.eY).filterMap λs=>(look (eG p) s).map Int.toNat
 |none=>[]
def kP(p:aj)(to:Nat):Nat->List Nat->List Nat->Bool
 |0,_,_=>false
 |_+1,_,[]=>false
 |n+1,seen,i::todo=>if i=to then true else if i∈seen then kP p to n seen todo else kP p to n (i::seen) (todo++lC p i)
def vE(p:aj):Nat:=2+((List.range p.aA.length).map λi=>(lC p i).length).sum
def kF(p:aj)(D to:Nat):Bool:=kP p to (vE p) [] [D]
def oW(p:aj)(E:Env):List bO->List ah->Bool
 |d::ds,e::es=>iT (fZ p E e) d.aS || oW p E ds es
 |_,_=>false
def lJ(p:aj)(E:Env)(i:Nat)(l:List ah):Bool:=match p.aA[i]? with
 |some q=>if q.bC.length≠l.length then true else oW p E q.bC l
 |none=>false
def jh(p:aj)(E:Env)(s:aa):Int :=
 if s.bI=1 then
  (if(dJ p E s.aT).bI=0\/(dJ p E s.aT).bI=1\/(dJ p E s.aT).bI=4 then 321
  else if iT (gB p E s.bf 0) (dJ p E s.aT).aS=true then 322 else 0)
 else if s.bI=2 then
  (if(dJ p E s.aT).bI≠4 then 321
  else if iT (gB p E s.bf 1) (dJ p E s.aT).aS=true then 322 else 0)
 else if s.bI=3 then(if iT (gB p E s.bf 1) p.aS=true then 322 else 0)
 else if s.bI=7 then(if s.gT<1\/s.gT>16 then 329 else 0)
 else if s.bI=8 then
  (match look (eG p) s.aT with
  |none=>321
  |some i=>if lJ p E i.toNat s.bf=true then 327
   else if E.within≥0/\kF p i.toNat E.within.toNat=true then 328 else 0)
 else 0
def pV(p:aj)(E:Env)(s:aa)(d:Nat):Int :=
 if qJ s=true then(if jh p E s=0 then(if(d:Int)>jd p 32 1000 then 319 else 0) else jh p E s) else 325
mutual
def lF(p:aj)(E:Env):aa->Nat->List Int
 |.mk k D es ex b ts th os el,d=>pV p E (.mk k D es ex b ts th os el) d::(iU p E 0 ex 1++(eH p E th (d+1)++eH p E el (d+1)))
def eH(p:aj)(E:Env):List aa->Nat->List Int
 |[],_=>[]
 |s::l,d=>lF p E s d++eH p E l d
end
theorem iH(p:aj)(E:Env)(s:aa)(d:Nat):lF p E s d=pV p E s d::(iU p E 0 s.bf 1++(eH p E s.gy (d+1)++eH p E s.iD (d+1))):=by
 cases s;rw[lF];rfl
theorem jC(p:aj)(E:Env):∀(l:List aa) (d:Nat),eH p E l d=l.flatMap (λs=>lF p E s d)
 |[],_=>by rw[eH];rfl
 |s::l,d=>by rw[eH,jC p E l d];rfl
def words:List String:=["device", "width", "input", "ghost", "var", "array", "require", "init", "proc", "work", "recover", "invariant", "flush", "barrier", "write", "if", "else", "while", "bound", "call", "disk"]
def lower(c:UInt8):Bool:=decide (97<=c.toNat/\c.toNat<=122)
def wC(c:UInt8):Bool:=lower c || decide (48<=c.toNat/\c.toNat<=57) || decide (c.toNat=95)
def kE(s:List UInt8):Bool :=
 decide (s.length<=16) && (match s with|c::_=>lower c|[]=>false) && s.all wC && words.all (λw=>decide (w.toUTF8.data.toList≠s))
def vU:List UInt8->Option (List UInt8 × List UInt8)
 |[]=>none
 |c::l=>if c.toNat=46 then some ([],l) else(vU l).map λx=>(c::x.1,x.2)
def kH(p:aj)(s:List UInt8):Bool:=match vU s with
 |some (a,b)=>if p.aA.length=0 then kE a && kE b else kE s
 |none=>kE s
def tQ(p:aj)(before:List ByteArray)(D:Bool)(d:bO):Int :=
 if lK before d.aT=true\/kH p d.aT.data.toList=false then 321
 else if ik d.aS=false then 322
 else if(if D=true then decide (1<=d.size/\d.size<=16) else decide (d.size=0))=false then 323
 else 0
def gH(p:aj)(D:Bool):List bO->List ByteArray->List Int
 |[],_=>[]
 |d::l,before=>tQ p before D d::gH p D l (before++[d.aT])
def xP(p:aj)(before:List ByteArray)(q:bG):Int :=
 if lK before q.aT=true\/kH p q.aT.data.toList=false then 321
 else if q.bC.length>8 then 327
 else 0
def eO(p:aj):List ByteArray:=(lH p).map (·.1)
def nM(p:aj)(before:List ByteArray)(i:Nat)(q:bG):List Int :=
 xP p before q::(gH p false q.bC (eO p)++eH p (inside p i) q.eY 1)
def fO(p:aj):List bG->Nat->List ByteArray->List Int
 |[],_,_=>[]
 |q::l,i,before=>nM p before i q++fO p l (i+1) (before++[q.aT])
def xL(p:aj)(before:List Int)(x:dH):Int :=
 if x.block<0\/x.block≥p.iF\/x.block∈before then 324
 else if iT (fZ p outside x.bv) p.aS=true then 322
 else 0
def jA(p:aj):List dH->List Int->List Int
 |[],_=>[]
 |x::l,before=>(xL p before x::jv p outside 1 x.bv 1)++jA p l (before++[x.block])
def kZ(p:aj)(size:Int):Int :=
 if p.iF<1\/p.iF>8\/ik p.aS=false then 320
 else if p.fB.length>16\/p.ek.length>16\/(p.gp.length:Int)>jd p 16 256\/p.fP.length>16\/p.aA.length>16\/size>jd p 2000 20000 then 5
 else 0
def pF(p:aj):List ByteArray:=p.fB.map bO.aT
def names2(p:aj):List ByteArray:=pF p++p.ek.map bO.aT
def qo(p:aj):List ByteArray:=names2 p++p.gp.map bO.aT
def fC(p:aj):List ByteArray:=qo p++p.fP.map bO.aT
def jf(p:aj)(size:Int):List Int :=
 kZ p size::(gH p false p.fB []++(gH p false p.ek (pF p)++(gH p false p.gp (names2 p)++(gH p true p.fP (qo p) ++
  (jv p outside 1 p.eD 1++(jA p p.eQ []++(fO p p.aA 0 (fC p)++(eH p outside p.eX 1++(eH p outside p.eB 1++jv p outside 2 p.d9 1)))))))))
def lD:List Int->Nat->List (Int × Int)
 |[],_=>[]
 |c::l,n=>if c=0 then lD l (n+1) else((n:Int),c)::lD l (n+1)
theorem zK:∀(a b:List Int) (n:Nat),lD (a++b) n=lD a n++lD b (n+a.length)
 |[],b,n=>by simp[lD]
 |c::a,b,n=>by
  rw[dC,lD,lD,zK a b (n+1)];have e:n+1+a.length=n+(c::a).length:=by simp;omega
  rw[e]
  split<;>simp
theorem uV(a:List Int)(c:Int):lD (a++[c]) 0=lD a 0++(if c=0 then[] else[((a.length:Int),c)]):=by
 rw[zK];simp only[lD,fI]
theorem FT:∀(a:List Int) (n:Nat),lD a n=[]↔∀c∈a,c=0
 |[],n=>by simp[lD]
 |c::a,n=>by
  rw[lD];by_cases h:c=0
  .rw[if_pos h,FT a (n+1)];simp[h]
  .rw[if_neg h];simp[h]
theorem FR:∀(a:List Int) (n:Nat),(lD a n).length<=a.length
 |[],n=>by simp[lD]
 |c::a,n=>by
  rw[lD];have:=FR a (n+1)
  split<;>simp<;>omega
section
section
variable {P:Program}{md:Region.Mode}{ops:Array Oper}{Q:Exit->Act->World->Prop}
def BR(ops:Array Oper)(listed:Array Bool):List Nat:=(List.range ops.size).filter λi=>!listed.getD i true
theorem Oo{listed:Array Bool}{i:Nat}(h:i∈BR ops listed):(BR ops (listed.setIfInBounds i true)).length<(BR ops listed).length:=by
 have e:BR ops (listed.setIfInBounds i true)=(BR ops listed).filter λj=>decide (j≠i):=by
  unfold BR;rw[List.filter_filter];refine List.filter_congr λj _=>?_
  by_cases O:j=i
  .subst O
   have U:j<listed.size:=by
    have V:=(List.mem_filter.1 h).2;rcases Nat.lt_or_ge j listed.size with D|D
    .exact D
    .simp[Array.getD,Nat.not_lt.2 D]at V
   simp[Array.getD,U]
  .have:(listed.setIfInBounds i true).getD j true=listed.getD j true:=by
    rw[Array.getD_eq_getD_getElem?,Array.getD_eq_getD_getElem?,Array.getElem?_setIfInBounds_ne (Ne.symm O)]
   rw[this];simp[O]
 rw[e];exact List.length_filter_lt_length_iff_exists.2 ⟨i,h,by simp⟩
theorem DX{listed:Array Bool}{i:Nat}(h:i∈Region.ready md ops listed):i∈BR ops listed:=by
 unfold Region.ready at h;obtain⟨h1,D⟩:=List.mem_filter.1 h;rw[bg]at D;exact List.mem_filter.2 ⟨h1,D.1⟩
theorem Ga(I:Array Bool->Act->World->Prop)(U:∀listed a w i,I listed a w->i∈Region.ready md ops listed->wpOp P ops Q i (I (listed.setIfInBounds i true)) a w)
  (D:∀listed a w,I listed a w->Region.ready md ops listed=[]->Q .normal a w) :
  ∀(O:Nat) (listed:Array Bool) (a:Act) (w:World),(BR ops listed).length<=O->I listed a w->wpAny P md ops Q O listed a w
 |0,listed,a,w,hf,hI=>by
  have hr:Region.ready md ops listed=[]:=by
   refine List.eq_nil_iff_forall_not_mem.2 λi hi=>?_
   have h1:=DX hi;have h2:=gX (Nat.le_zero.1 hf);rw[h2]at h1;cases h1
  exact⟨hr,D _ _ _ hI hr⟩
 |O+1,listed,a,w,hf,hI=>⟨λhr=>D _ _ _ hI hr,λi hi=>wpOp_mono (λa' w' V=>Ga I U D O _ a' w' (by have:=Oo (DX hi);omega) V) (U listed a w i hI hi)⟩
theorem xV{id:Nat}{a:Act}{w:World}(hm:P.follows .mixedOrders=true)(I:Array Bool->Act->World->Prop)
  (O:∀listed a w i,I listed a w->i∈Region.ready .any ops listed->wpOp P ops Q i (I (listed.setIfInBounds i true)) a w)
  (D:∀listed a w,I listed a w->Region.ready .any ops listed=[]->Q .normal a w) (U:I (Array.replicate ops.size false) a w.drew):(Code.region id ops true).wp P Q a w:=by
 refine wp_region_any hm (Ga I O D _ _ _ _ ?_ U);refine ai (List.length_filter_le _ _) ?_;simp
theorem eval_put_same{a:Act}{d:Nat}{v:Value}(h:d<a.tmps.size):(a.put (some d) v).eval (.tmp d)=v:=by
 simp[Act.put,Act.eval,h]
theorem cB{a:Act}{d j:Nat}{v:Value}(h:d≠j):(a.put (some d) v).eval (.tmp j)=a.eval (.tmp j):=by
 simp[Act.put,Act.eval,Array.getElem?_setIfInBounds_ne h]
theorem size_put{a:Act}{d:Option Nat}{v:Value}:(a.put d v).tmps.size=a.tmps.size:=by
 cases d<;>simp[Act.put]
end
end
section
section
variable {n:Nat}{P:Program}{ops:Array Oper}{md:Region.Mode}{w:World}
theorem EG{o:Oper}{a:Act}{K:Act->Prop}{O:Act->World->Prop}{Q':Exit->Act->World->Prop}(h:∀a,K a->O a w)(D:o.still P a w K):o.wpIn Fence.wide n P a w O Q':=by
 unfold Oper.still at D;refine⟨λ_ _=>trivial,?_⟩;rw[show Fence.wide.round=none from rfl,Oper.semAt_none];generalize (execOp a.eval o).run P w=r at *;cases r with
 |ok m w' =>
  cases m<;>simp only[Oper.stillUpon]at D<;>simp only[Oper.uponIn]
  case enter f args =>
   obtain⟨rfl,v,hc,V⟩:=D;exact⟨λh=>(by cases h),callsIn_wide.2 (hc.mono λe ab ⟨he,hw⟩=>by subst he;subst hw;exact h _ V)⟩
  all_goals(obtain⟨rfl,U⟩:=D;exact h _ U)
 |halt x w'=>simp only[Oper.stillUpon]at D
theorem Ee{i:Nat}{a:Act}{K:Act->Prop}{V:Act->World->Prop}{Q':Exit->Act->World->Prop}(h:∀a,K a->V a w)(D:stOp P ops w i K a):wpOpIn Fence.wide n P ops Q' i V a w:=by
 unfold stOp at D;unfold wpOpIn
 split
 .rename_i O;simp only[O]at D;exact h _ D
 .rename_i o O
  simp only[O]at D
  split
  .rename_i U;simp only[U,if_true]at D;exact EG h D
  .rename_i U;simp only[U]at D;exact⟨λ_ _=>trivial,h _ D⟩
theorem vG{m g:Nat}{L:Array Bool->Act->Prop}{Q':Exit->Act->World->Prop}(hL:∀listed a,L listed a->wpAnyIn Fence.wide n P md ops Q' g listed a w) :
  ∀(f:Nat) (listed:Array Bool) (a:Act),wpAnyL P md ops w m L f listed a->wpAnyIn Fence.wide n P md ops Q' (f+g) listed a w
 |0,listed,a,h=>by rw[fI];exact hL _ _ h
 |f+1,listed,a,h=>by
  rw[show f+1+g=(f+g)+1 by omega];exact⟨λO=>absurd O h.1,λi hi=>Ee (λa' D=>vG hL f _ a' D) (h.2 i hi).2⟩
theorem wR{Q':Exit->Act->World->Prop}:∀(l:List Oper) (k:Nat) (listed:Array Bool) (a:Act) (w:World),(∀j,l[j]?=ops[k+j]?) ->
  Region.seqB md ops l.length k listed=true->wpListIn Fence.wide n P ops Q' l a w->wpAnyIn Fence.wide n P md ops Q' l.length listed a w
 |[],_,_,_,_,_,D,h=>⟨by simpa[Region.seqB]using D,h⟩
 |o::l,k,listed,a,w,hl,D,h=>by
  have V:ops[k]?=some o:=by simpa using(hl 0).symm
  simp only[aF,Region.seqB,bg,aU]at D;refine⟨λh1=>(by rw[D.1]at h1;cases h1),λi hi=>?_⟩;rw[D.1]at hi;have O:i=k:=by simpa using hi
  subst O;have hw:wpOpIn Fence.wide n P ops Q' i (wpListIn Fence.wide n P ops Q' l) a w:=by unfold wpOpIn;simp only[V];exact h
  exact wpOpIn_mono (λa' w' U=>wR l (i+1) _ a' w' (λj=>by have:=hl (j+1);simpa[Nat.add_assoc,Nat.add_comm 1 j]using this) D.2 U) hw
theorem vB{id:Nat}{Q:Exit->Act->World->Prop}{a:Act}{w:World}{l:List Oper}(k:Nat)(hm:P.follows .mixedOrders=true)(hB:Region.lexTailB .any l.toArray k=true)
  (h:wpStill P l.toArray w.drew (λa'=>wpListIn Fence.wide n P l.toArray Q (l.drop k) a' w.drew) (l.take k) a):(Code.region id l.toArray true).wpIn Fence.wide n P Q a w:=by
 simp only[Region.lexTailB,bg,aU]at hB;obtain⟨⟨⟨⟨V,hn⟩,hs⟩,hc⟩,U⟩:=hB;have al:k<l.length:=by simpa using hn
 have D:(l.take k).length=k:=by simp;omega
 have O:(l.drop k).length=l.toArray.size - k:=by simp
 have ab:HeadInv .any l.toArray k (Array.replicate l.toArray.size false):=
  ⟨by simp,λj oj _ hl=>(by rw[getD_replicate_false]at hl;cases hl),λt _ ht=>getD_in (by simpa using ht) (getD_replicate_false _ _)⟩
 have H:=wpAnyL_lex (md:=.any) (g:=l.toArray.size - k) V hs hc hn (l.take k) 0 _ a (λj hj=>by
  have ad:j<k:=by rw[D]at hj;exact hj
  simp[ad]) (by simpa using D) ab (by rw[D];exact U) h
 refine wpIn_region_any hm ?_;have:=vG (n:=n) (Q':=Q) (g:=l.toArray.size - k) (λlisted a' hL=>by
  have:=wR (n:=n) (md:=.any) (Q':=Q) (l.drop k) k listed a' w.drew (λj=>by simp[List.getElem?_drop]) (by rw[O];exact hL.1) hL.2
  rwa [O]at this) _ _ _ H
 rw[D,show k+(l.toArray.size - k)=l.toArray.size by omega]at this;exact this
end
end
section
section
variable {f t:ByteArray}
end
end
section
open Go.WideShapes Go.ChangeShapes
section
variable {H:Type}{enc:TypeId × Value->H}{P:Program}
theorem post_below{f:Func}{s:ChangeSpec}{D am O al:Bool}{W W':World}{args:Array Value}{v:Value}{ds gs:List (DataW H)}{bf pa pv:List MemPlace}
  (hW:DataW.Whole enc P f.params.toList s.vars D W args.toList ds gs bf)
  (ad:∀(b:Nat) (sp:Nat->Bool) (hd:Bool),DataW.TrodAll enc P W' b sp hd f.resultTypes.toList (v.resultList f.resultTypes.size) (s.fn H (ds++gs)).results [])
  (hargs:∀sp:Nat->Bool,(∀x∈bf,sp x.block=true)->DataW.TrodAll enc P W' 0 sp true f.params.toList args.toList (s.fn H (ds++gs)).args pa)
  (U:∀sp:Nat->Bool,(∀x∈bf,sp x.block=true)->DataW.TrodVars enc P W' sp s.vars (s.fn H (ds++gs)).vars pv)
  (V:bf=pa++pv) (hb:Below W.heap.size W W')
  (hok:∀(j:Nat) (t:TypeId) (r:Value),f.resultTypes[j]?=some t->(v.resultList f.resultTypes.size)[j]?=some r->Value.okWide P W' .any 0 t r) :
  s.post enc P f D am O al W args v W':=by
 have ao:∀x∈bf,x.block<W.heap.size:=λx hx=>hW.lt x hx
 have ab:∀x∈bf,(λb=>decide (b<W.heap.size)) x.block=true:=λx hx=>by simpa using ao x hx
 refine⟨ds,gs,bf,[],pa,pv,hW,ad _ _ _,hargs _ ab,U _ ab,World.keptBut_mono (λx hx=>⟨hx,?_⟩) (hb.frame (·∈bf)),λ_=>?_⟩
 .rw[V,dF]at hx
  exact Or.inr hx
 .obtain⟨_,_,_,_,_,hz,hn⟩:=hW
  refine⟨hok,_,_,([]++pa)++pv,⟨[]++pa,pv,trodAll_append (hargs _ (λ_ _=>rfl)) (ad _ _ _),U _ (λ_ _=>rfl),rfl,?_,?_⟩,?_⟩
  .intro b off hx
   have an:MemPlace.cell b off∈bf:=by rw[V];simpa using hx
   rw[hb.frozen (ao _ an)];exact hz b off an
  .intro ha
   have:=hn ha;rw[V]at this
   simpa using this
  .intro x hx _
   rw[V]
   simpa using hx
end
end
end Go.Proofs.YtepacjkacjabbaaGreatDoor
