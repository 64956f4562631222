import Derived.Test.YtepacjkacjabbaaGreatDoorYAH
import Derived.Test.YtepacjkacjabbaaGreatDoorYAF
import Derived.BigQuiet
import Derived.StillTailTactics
import Derived.Deep.CutBlock
import Derived.Laws.EntriesVeiled
import Derived.Test.YtepacjkacjabbaaGreatDoorYAG
set_option linter.all false
set_option maxRecDepth 10000000
set_option maxHeartbeats 64000000
namespace Go.Proofs.YtepacjkacjabbaaGreatDoor
open Go Go.Maps Go.RowKit
section
attribute [local go_sem] Oper.semAt_some
def kX(n:Nat)(b:Int):Int:=if b+n<=20000 then b+n else max (b+1) 20001
theorem mH(e:ah):0<e.pre.length:=by rw[ah.pre_eq];simp
theorem nX(w:World)(e:ah)(b:Int)(h:mM w.heap.size w e)(hb:0<=b/\b<=4611686018427387904) :
  Calls Tryz.prog 86 #[e.val,.int .i64 b] w λo w'=>o=.returned (.int .i64 (kX e.pre.length b))/\Below w.heap.size w w':=by
 refine(callsIn_wide (n:=5)).1 ?_;have hE:=E5 e;simp only[ah.val,Sp.val,ah.cells]at hE ⊢;have HE:=ae hE;clear hE;refine callsIn_of_wp_marks Tryz.func86 rfl trivial ?_ rfl;simp only[Tryz.ntmps86,List.size_toArray,aF,bK,Nat.reduceAdd,Nat.reduceSub,Array.replicate_succ,Array.replicate_zero,List.push_toArray,List.append_toArray,gJ,dC]
 gi_wp2
 refine wpIn_wide.2 (wp_scope_straight (wpIn_wide (n:=5).1 ?_));refine wpIn_seq (wpIn_label ?_)
 gi_wp2_with (refine⟨trivial,?_⟩;gi_at_call 87;refine(callsIn_wide.2 (HE.o _)).mono ?_;rintro o4 w4 ⟨rfl,rfl⟩)
 have ad:Below w.heap.size w (((w.alloc (.cells e.r 30)).alloc (.cells #[.int .i64 b] 3)).alloc (.cells e.r 30)):=(((ag _ w).alloc (af _) _).alloc (by simp) _).alloc (by simp;omega) _;have ab:=gM ((w.alloc (.cells e.r 30)).alloc (.cells #[.int .i64 b] 3)) (.cells e.r 30);have an:Boxed (((w.alloc (.cells e.r 30)).alloc (.cells #[.int .i64 b] 3)).alloc (.cells e.r 30)) (w.heap.size+1) 3 (.int .i64 b):=by
  have:=(Boxed.new (w.alloc (.cells e.r 30)) 3 (.int .i64 b)).alloc (.cells e.r 30)
  rwa [di]at this
 have aq:w.heap.size+3<=(((w.alloc (.cells e.r 30)).alloc (.cells #[.int .i64 b] 3)).alloc (.cells e.r 30)).heap.size:=by simp
 simp only[di]at ab;generalize ((w.alloc (.cells e.r 30)).alloc (.cells #[.int .i64 b] 3)).alloc (.cells e.r 30)=w3 at *;refine jS (T:=TT) rfl (λh=>by cases h) (gf:=152) (lb:=#[.pointer (some ⟨w.heap.size+1+1,0,none⟩)]) rfl trivial (enters_of Tryz.func152 (by kernel_rfl) rfl)
  (M4 h _ w3 (w.heap.size+1+1) ad (by omega) ab) (by omega) (ag _ _) (λ_=>rfl)
  (λpre W'=>(Boxed W' (w.heap.size+1) 3 (.int .i64 (b+(pre.length:Int)))/\(pre.length=0\/b+(pre.length:Int)<=20000))/\Below w.heap.size w W'/\w3.heap.size<=W'.heap.size)
  (λc pre W'=>c=.exit 0/\Boxed W' (w.heap.size+1) 3 (.int .i64 (b+(pre.length:Int)))/\20000<b+(pre.length:Int)/\0<pre.length/\(pre.length=1\/b+(pre.length:Int)=20001)/\Below w.heap.size w W'/\w3.heap.size<=W'.heap.size)
  ?hI ?hIx ⟨⟨by simpa using an,.inl rfl⟩,ad,af _⟩
  (λ_ a' _=>∃v7,a'={ tmps:=#[.agg e.r,.int .i64 b,.pointer (some ⟨w.heap.size,0,none⟩),.pointer (some ⟨w.heap.size+1,0,none⟩),.int .i64 0,.agg e.r,.func (.func 152) #[] #[.pointer (some ⟨w.heap.size+1+1,0,none⟩)],v7,undef,undef,undef,undef,undef],defers:=[] })
  ?hAx ?assign ?eY ?done ?stop
 case hI =>
  rintro s X' Y rw⟨⟨h1,h2⟩,D,h5⟩ V hr;exact⟨⟨h1.kept V (λe'=>by have:=(hr _ e'.symm).1;omega),h2⟩,D.grown V (by omega) (λq hq=>by have:=(hr q hq).1;omega),ai h5 V.size⟩
 case hIx =>
  rintro c s X' Y rw⟨hc,h1,h2,h0,h3,D,h5⟩ V hr;exact⟨hc,h1.kept V (λe'=>by have:=(hr _ e'.symm).1;omega),h2,h0,h3,D.grown V (by omega) (λq hq=>by have:=(hr q hq).1;omega),ai h5 V.size⟩
 case hAx =>
  rintro y a' _ X' Y rw h _ _;exact h
 case assign =>
  rintro l2 pre y O K hi hK
  gi_wp2
  exact hK _ _ (dD.refl _ _ _) (ag _ _) hi ⟨y.val,by simp⟩
 case eY =>
  rintro l2 pre y a' O _ ⟨⟨h1,h2⟩,D,h5⟩ ⟨v7,rfl⟩ _ _;have hc:=h1.cell;have hf:=h1.frozen;have ar:wrap64 (b+(pre.length:Int)+1)=b+(pre.length:Int)+1:=IntWalk.wrap64_in _ (by omega);have hk:dD TT w3.heap.size O (O.setCell ⟨w.heap.size+1,0,none⟩ (.int .i64 (b+(pre.length:Int)+1))):=dD.set (a:=⟨w.heap.size+1,0,none⟩) h1 rfl _;have U:Below w.heap.size O (O.setCell ⟨w.heap.size+1,0,none⟩ (.int .i64 (b+(pre.length:Int)+1))):=(ag _ O).setCell (p:=⟨w.heap.size+1,0,none⟩) (by simp) _;have am:Boxed (O.setCell ⟨w.heap.size+1,0,none⟩ (.int .i64 (b+(pre.length:Int)+1))) (w.heap.size+1) 3 (.int .i64 (b+(((pre++[y]).length:Nat):Int))):=by
   rw[show b+(((pre++[y]).length:Nat):Int)=b+(pre.length:Int)+1 by simp;omega];exact h1.set _
  have al:(pre++[y]).length=pre.length+1:=by simp
  by_cases ao:20000<b+(pre.length:Int)+1
  .have x1:20000<b+(((pre++[y]).length:Nat):Int):=by omega
   have x2:0<(pre++[y]).length:=by omega
   have x3:(pre++[y]).length=1\/b+(((pre++[y]).length:Nat):Int)=20001:=by omega
   have X:=ae (And.intro x1 (And.intro x2 x3));clear x1 x2 x3 al
   gi_wp2
   exact⟨hk,rfl,am,X.o.1,X.o.2.1,X.o.2.2,D.trans U,ai h5 hk.size⟩
  .have x1:b+(((pre++[y]).length:Nat):Int)<=20000:=by omega
   have X:=ae x1;clear x1 al
   gi_wp2
   exact⟨hk,U,⟨am,.inr X.o⟩,D.trans U,ai h5 hk.size⟩
 case done =>
  rintro Dq ys Wd hD rfl ⟨⟨h1,h2⟩,D,_⟩ hK;have hc:=h1.cell;have hp:=mH e
  gi_wp2
  refine⟨by simp,.inl ⟨_,_,rfl,run_takeDeferred hK,?_⟩⟩;have e1:kX e.pre.length b=b+(e.pre.length:Int):=by unfold kX;rw[if_pos (by omega)]
  exact⟨_,results_tmp rfl _ _ _,by rw[e1];rfl,D.trans (jk _ _ (by omega))⟩
 case stop =>
  rintro Dq c pre Wd hD hp ⟨rfl,h1,h2,h0,h3,D,_⟩ hK;have hc:=h1.cell;have ap:=hp.length_le
  gi_wp2
  refine⟨by simp,.inl ⟨_,_,rfl,run_takeDeferred hK,?_⟩⟩;have e1:kX e.pre.length b=b+(pre.length:Int):=by unfold kX;rw[if_neg (by omega)];omega
  exact⟨_,results_tmp rfl _ _ _,by rw[e1];rfl,D.trans (jk _ _ (by omega))⟩
end
section
attribute [local go_sem] Oper.semAt_some
def OV(K:mq)(l:Nat)(J Jx:List (Int × Int)->World->Prop):Prop :=
 ∀pre (x:Int × Int) D,J pre D->pre.length<1000000->YieldAt Fence.wide 0 Tryz.prog l #[.agg #[.int .i64 x.1,.int .i64 x.2]] D λe W' =>
  (e=.returned (.bool true)/\J (pre++[x]) W'/\dD TK K.B D W'/\Below K.n₀ D W')\/(e=.returned (.bool false)/\Jx (pre++[x]) W'/\dD TK K.B D W'/\Below K.n₀ D W')
theorem NY{K:mq}{pm:Option Nat}{E:Env}{n n':Int}{over:Bool}{W:World}(h:W.heap[K.q]?=some (.cells (K.cells pm E n over) 246 (0,0))) :
  (W.setCell ⟨K.q,26,none⟩ (.int .i64 n')).heap[K.q]?=some (.cells (K.cells pm E n' over) 246 (0,0)):=by
 simp[World.setCell,cK,h,mq.cells]
theorem QA{K:mq}{pm:Option Nat}{E:Env}{n:Int}{over over':Bool}{W:World}(h:W.heap[K.q]?=some (.cells (K.cells pm E n over) 246 (0,0))) :
  (W.setCell ⟨K.q,29,none⟩ (.bool over')).heap[K.q]?=some (.cells (K.cells pm E n over') 246 (0,0)):=by
 simp[World.setCell,cK,h,mq.cells]
theorem sZ.keep{J Jx:List (Int × Int)->World->Prop}{cs:List Int}{over:Bool}{W W':World}(h:sZ J Jx cs over W)(h1:∀l,J l W->J l W')(D:∀l,Jx l W->Jx l W'):sZ J Jx cs over W':=by
 rcases h with ⟨e,h⟩|⟨e,l,a,b,h⟩
 .exact .inl ⟨e,h1 _ h⟩
 .exact .inr ⟨e,l,a,b,D _ h⟩
theorem Ea{K:mq}{J Jx:List (Int × Int)->World->Prop}(V:jK 246 K.B J)(U:jK 246 K.B Jx){pm:Option Nat}{E:Env}{cs:List Int}{c:Int}{n:Int}{over:Bool}{W D:World}
  (hk:gY K W D) (h:qQ K pm E n over D) (hs:sZ J Jx (cs++[c]) over D):Told K J Jx pm E (cs++[c]) W (D.setCell ⟨K.q,26,none⟩ (.int .i64 ((cs.length:Int)+1))):=by
 have hn:K.n₀<=K.q:=by have:=h.q;have:=h.n0;omega
 have O:gY K D (D.setCell ⟨K.q,26,none⟩ (.int .i64 ((cs.length:Int)+1))):=.set h.box hn _;refine⟨⟨over,?_,hs.keep (λl hl=>V.cell _ hl h.q h.box) (λl hl=>U.cell _ hl h.q h.box)⟩,hk.trans O⟩;have e:((cs++[c]).length:Int)=(cs.length:Int)+1:=by simp
 rw[e];exact h.stays O (NY h.box)
theorem sZ.quiet{J Jx:List (Int × Int)->World->Prop}{cs:List Int}{c:Int}{over:Bool}{W:World}(h:sZ J Jx cs over W)(hc:c=0\/over=true):sZ J Jx (cs++[c]) over W:=by
 rcases h with ⟨e,h⟩|⟨e,l,a,b,h⟩
 .rcases hc with hc|hc
  .exact .inl ⟨e,by rw[uV,if_pos hc,aP];exact h⟩
  .rw[hc]at e;cases e
 .exact .inr ⟨e,l,a,by rw[uV];exact b.trans (List.prefix_append _ _),h⟩
theorem Om(K:mq)(l:Nat)(hy:K.yv=.func (.yield l) #[] #[])(J Jx:List (Int × Int)->World->Prop)(hJ:jK 246 K.B J)(al:jK 246 K.B Jx)
  (hY:OV K l J Jx):sV K J Jx:=by
 intro pm E cs W c a6 a9;obtain⟨over,hk,hs⟩:=a6.ex;have HY:=ae hY;clear hY a6;have ao:=hk.c26;have a1:=hk.c28;have a3:=hk.c29;have ap:=hk.frozen 26;have a4:=hk.frozen 29;rw[hy]at a1;have am:∀nq,Below W.heap.size W (W.drewN nq):=λnq=>⟨rfl,rfl,rfl,af _,λ_ _=>rfl⟩
 have hn:K.n₀<=W.heap.size:=by have:=hk.lt;have:=hk.q;have:=hk.n0;omega
 have HQ:Hid (∀nq,(c=0\/over=true)->Told K J Jx pm E (cs++[c]) W ((W.drewN nq).setCell ⟨K.q,26,none⟩ (.int .i64 ((cs.length:Int)+1)))):=
  ae λnq hc=>Ea hJ al (.of_below (am nq) hn) (hk.new (am nq)) ((hs.quiet hc).keep (λl hl=>hJ.new hl (am nq)) (λl hl=>al.new hl (am nq)))
 have HK:=ae hk;have HS:=ae hs;clear hk hs am hn;by_cases hc:c=0
 .subst hc
  clear hy;go_enter Tryz.func228,Tryz.ntmps228
  go_wp2
  go_quiet (fail)
  go_wp2
  go_returns
  exact⟨rfl,HQ.o nq (by simp)⟩
 .have h0:(c == 0)=false:=by simpa using hc
  have h1:(c != 0)=true:=by simpa using hc
  cases over with
  |true =>
   clear hy;go_enter Tryz.func228,Tryz.ntmps228
   go_wp2
   go_quiet (fail)
   go_wp2
   go_returns
   exact⟨rfl,HQ.o nq (by simp)⟩
  |false =>
   have hn:K.n₀<=W.heap.size:=by have:=HK.o.lt;have:=HK.o.q;have:=HK.o.n0;omega
   have aq:Below W.heap.size W W.drew:=(ag _ _).drew;have a5:J (lD cs 0) W.drew:=by
    rcases HS.o with ⟨_,h⟩|⟨e,_⟩
    .exact hJ.new h aq
    .cases e
   obtain⟨fn,tmps,assign,eY,a8,hR⟩:=HY.o (lD cs 0) ((cs.length:Int),c) W.drew a5 (by have:=FR cs 0;omega);have HC:=ae hc;have aw:=ae aq;clear hy HQ hc a5 aq;refine(callsIn_wide (n:=1)).1 ?_;refine callsIn_of_wp_marks Tryz.func228 rfl trivial ?_ rfl;simp only[Tryz.ntmps228,List.size_toArray,aF,bK,Nat.reduceAdd,Nat.reduceSub,Array.replicate_succ,Array.replicate_zero,List.push_toArray,List.append_toArray,gJ,dC]
   gi_wp2
   refine vB 20 (by kernel_rfl) (by kernel_rfl) ?_;simp only[List.take_succ_cons,iY,List.drop_succ_cons,List.drop_zero]
   repeat still_step
   refine wpStill_nil ?_;clear ao a1 a3 ap a4
   gi_wp2
   refine hR.mono ?_;clear hR a8;have hq:gY K W W.drew:=.of_below aw.o hn;have V:=(aw.o.block _ HK.o.lt).trans HK.o.box;rintro o3 W3 (⟨rfl,ad,O,an⟩|⟨rfl,ad,O,an⟩)
   .have U:gY K W W3:=hq.trans (.of_keeps O an)
    have D:=HK.o.stays U (O.cells _ _ _ _ V rfl);have ao:=D.c26;have ap:=D.frozen 26;have HE:=ae (Ea hJ al U D (.inl ⟨rfl,by rw[uV,if_neg HC.o];exact ad⟩:sZ J Jx (cs++[c]) false W3));clear U D ad O an V hq
    gi_wp2
    exact⟨_,results_none rfl _ _ _,rfl,HE.o⟩
   .have U:gY K W W3:=hq.trans (.of_keeps O an)
    have D:=HK.o.stays U (O.cells _ _ _ _ V rfl);have a4:=D.frozen 29;have a3:=D.c29;have a7:K.n₀<=K.q:=by have:=D.q;have:=D.n0;omega
    have ar:gY K W (W3.setCell ⟨K.q,29,none⟩ (.bool true)):=U.trans (.set D.box a7 _);have ab:=HK.o.stays ar (QA (over':=true) D.box);have ao:=ab.c26;have ap:=ab.frozen 26;have HE:=ae (Ea hJ al ar ab (.inr ⟨rfl,_,by simp,by rw[uV,if_neg HC.o];exact List.prefix_refl _,al.cell _ ad D.q D.box⟩:sZ J Jx (cs++[c]) true _));clear U D ad O an V hq ar ab
    gi_wp2
    exact⟨_,results_none rfl _ _ _,rfl,HE.o⟩
end
theorem uf{α:Type}(T:List (ByteArray × α))(a:ByteArray)(x:α)(s:ByteArray):look (T++[(a,x)]) s=match look T s with|some y=>some y|none=>if a=s then some x else none:=by
 unfold look;rw[List.find?_append];cases h:T.find? (λx=>decide (x.1=s))with
 |some y=>simp
 |none =>
  by_cases e:a=s
  .simp[e]
  .simp[e]
theorem RY{K:mq}{pm pm':Option Nat}{E E':Env}{n:Int}{over:Bool}{W:World}(h:W.heap[K.q]?=some (.cells (K.cells pm E n over) 246 (0,0))) :
  ((W.setCell ⟨K.q,25,none⟩ (.int .i64 E'.within)).setCell ⟨K.q,24,none⟩ (.map pm')).heap[K.q]?=some (.cells (K.cells pm' E' n over) 246 (0,0)):=by
 simp[World.setCell,cK,h,mq.cells]
structure yQ(K:mq)(J Jx:List (Int × Int)->World->Prop)(E:Env)(cs:List Int)(w w':World):Prop where
 st:∃pm,pW K J Jx pm E cs w'/\∀m,pm=some m->w.heap.size<=m
 fE:gY K w w'
def cleared(K:mq)(i:Int)(w:World):World:=((w.alloc (.map #[] 0)).setCell ⟨K.q,25,none⟩ (.int .i64 i)).setCell ⟨K.q,24,none⟩ (.map (some w.heap.size))
structure QZ(K:mq)(J Jx:List (Int × Int)->World->Prop)(i:Int)(cs:List Int)(w:World):Prop where
 st:pW K J Jx (some w.heap.size) ⟨i,[]⟩ cs (cleared K i w)
 fE:gY K w (cleared K i w)
 map:iZ JO 9 (cleared K i w) w.heap.size 0 (λ_=>none)
theorem BB{K:mq}{J Jx:List (Int × Int)->World->Prop}(hJ:jK 246 K.B J)(ab:jK 246 K.B Jx){pm:Option Nat}{E:Env}{cs:List Int}{w:World}(am:pW K J Jx pm E cs w)(i:Int):QZ K J Jx i cs w:=by
 obtain⟨over,hk,hs⟩:=am.ex;have U:=jc w (.map #[] 0);have O:=hk.new U;have hn:K.n₀<=K.q:=by have:=hk.q;have:=hk.n0;omega
 have an:=hk.lt;have V:=hk.q;have k1:gY K w (w.alloc (.map #[] 0)):=.of_below U (by omega);have k2:gY K (w.alloc (.map #[] 0)) ((w.alloc (.map #[] 0)).setCell ⟨K.q,25,none⟩ (.int .i64 i)):=.set O.box hn _;have D:((w.alloc (.map #[] 0)).setCell ⟨K.q,25,none⟩ (.int .i64 i)).heap[K.q]?=some (.cells (K.cells pm ⟨i,E.bC⟩ cs.length over) 246 (0,0)):=by
  simp[World.setCell,cK,O.box,mq.cells]
 have k3:=gY.set (i:=24) D hn (.map (some w.heap.size));have kk:=(k1.trans k2).trans k3;have al:=RY (E':=⟨i,[]⟩) (pm':=some w.heap.size) O.box;have ad:=iZ.made JO 9 w;obtain⟨es,cl,ho⟩:=ad.obj;have hm:iZ JO 9 (cleared K i w) w.heap.size 0 (λ_=>none):=ad.of_block (((k2.trans k3).same _ _ (by omega) ho rfl).trans ho.symm);refine⟨⟨over,⟨al,⟨by omega,0,hm.congr λl _=>?_⟩,rG hk.things hk.mt kk.same,rG hk.aA hk.mp kk.same,hk.prog.below kk.low,hk.n0,hk.q,hk.mt,hk.mp⟩,?_⟩,kk,hm⟩
 .show none=og (look []) l
  cases l<;>rfl
 .refine hs.keep (λl h=>?_) (λl h=>?_)
  .exact hJ.cell _ (hJ.cell _ (hJ.new h U) V O.box) V D
  .exact ab.cell _ (ab.cell _ (ab.new h U) V O.box) V D
theorem Ni{K:mq}{J Jx:List (Int × Int)->World->Prop}(hJ:jK 246 K.B J)(ab:jK 246 K.B Jx){pm:Option Nat}{E:Env}{cs:List Int}(w:World)(O:pW K J Jx pm E cs w) :
  Calls Tryz.prog 262 #[.pointer (some ⟨K.q,0,none⟩),.int .i64 (-1)] w λo w'=>o=.returned (.tuple #[])/\yQ K J Jx outside cs w w':=by
 obtain⟨over,hk,hs⟩:=O.ex;have ao:=@run_makeMap Tryz.prog;have V:=jc w (.map #[] 0);have D:=hk.new V;have al:=D.c25;have an:=D.frozen 25;have ad:=D.c24;have am:=D.frozen 24;have hC:=BB hJ ab O (-1);have U:Hid (yQ K J Jx outside cs w (cleared K (-1) w)):=ae ⟨⟨_,hC.st,λm e=>by cases e;exact af _⟩,hC.fE⟩;clear O hk hs hC V D;unfold cleared at U;go_enter Tryz.func262,Tryz.ntmps262
 go_wp2_with fail
 go_returns
 exact⟨rfl,U.o⟩
theorem gL{W:World}{b:Nat}{t:TypeId}{fr:Nat × Nat}{D O U:Value}(h:W.heap[b]?=some (.cells #[D,O,U] t fr)) :
  W.cell? ⟨b,0,none⟩=some D/\W.cell? ⟨b,1,none⟩=some O/\W.cell? ⟨b,2,none⟩=some U:=by
 simp[World.cell?,h]
structure Entering(K:mq)(J Jx:List (Int × Int)->World->Prop)(m:Nat)(i:Int)(T:List (ByteArray × gV))(n:Nat)(cs:List Int)(w wr:World):Prop where
 st:pW K J Jx (some m) ⟨i,T⟩ cs wr
 fE:gY K w wr
 map:iZ JO 9 wr m n (og (look T))
theorem Entering.new{K:mq}{J Jx:List (Int × Int)->World->Prop}(O:jK 246 K.B J)(D:jK 246 K.B Jx){m:Nat}{i:Int}{T:List (ByteArray × gV)}{n:Nat}{cs:List Int}{w wr wr':World}(h:Entering K J Jx m i T n cs w wr)(hb:Below wr.heap.size wr wr')(U:K.n₀<=w.heap.size) :
  Entering K J Jx m i T n cs w wr':=⟨h.st.new O D hb,h.fE.trans (.of_below hb (ai U h.fE.size)),h.map.below hb h.map.lt⟩
theorem Entering.dup{K:mq}{J Jx:List (Int × Int)->World->Prop}{m:Nat}{i:Int}{T:List (ByteArray × gV)}{n:Nat}{cs:List Int}{w wr:World}(h:Entering K J Jx m i T n cs w wr){s:ByteArray}{x y:gV}(U:look T s=some y):Entering K J Jx m i (T++[(s,x)]) n cs w wr:=by
 have e:look (T++[(s,x)])=look T:=by
  funext t
  rw[uf];cases ht:look T t with
  |some z=>rfl
  |none =>
   have:s≠t:=by rintro rfl;rw[U]at ht;cases ht
   simp[this]
 obtain⟨over,hk,D⟩:=h.st.ex;refine⟨⟨over,⟨hk.box,?_,hk.things,hk.aA,hk.prog,hk.n0,hk.q,hk.mt,hk.mp⟩,D⟩,h.fE,by rw[e];exact h.map⟩;obtain⟨h1,n',O⟩:=hk.bC;exact⟨h1,n',by show iZ _ _ _ _ _ (og (look (T++[(s,x)])));rw[e];exact O⟩
theorem Entering.put{K:mq}{J Jx:List (Int × Int)->World->Prop}(hJ:jK 246 K.B J)(an:jK 246 K.B Jx){m:Nat}{i:Int}{T:List (ByteArray × gV)}{n:Nat}{cs:List Int}{w wr wr':World}(h:Entering K J Jx m i T n cs w wr)(hm:w.heap.size<=m)(a5:K.mt<w.heap.size)(a4:K.mp<w.heap.size)(hn:K.n₀<=w.heap.size)(hB:K.B<=w.heap.size)
  (ht:wr.mapTurned wr' m) {s:ByteArray}{x:gV}(hs:look T s=none) (am:iZ JO 9 wr' m (n+1) (Bb (og (look T)) (sM s) x)):Entering K J Jx m i (T++[(s,x)]) (n+1) cs w wr':=by
 obtain⟨over,hk,ar⟩:=h.st.ex;have V:=ht.grown;have D:∀k,k≠m->k<wr.heap.size->wr'.heap[k]?=wr.heap[k]? := λk ab al=>V.block k al (by simpa using ab)
 obtain⟨es,cl,a3,a1,ao,_⟩:=id ht;have aq:K.q≠m:=by
  intro e;have:=hk.box;rw[e,ao]at this;cases this
 have ad:∀(k:Nat) (o:Obj),w.heap[k]?=some o->k<wr.heap.size:=λk o ho=>by have:=(dM ho).1;have:=h.fE.size;omega
 have ap:gY K w wr':=by
  refine⟨ai h.fE.size V.size,λk o hB ho hc=>?_,λk cs t fr ho aw hq=>?_,?_⟩
  .have al:=(dM ho).1
   exact(D k (by omega) (ad k _ ho)).trans (h.fE.same k o hB ho hc)
  .have al:=(dM ho).1
   exact(D k (by omega) (ad k _ ho)).trans (h.fE.cells k cs t fr ho aw hq)
  .refine⟨V.os.trans h.fE.low.os,V.tape.trans h.fE.low.tape,V.output.trans h.fE.low.output,ai h.fE.size V.size,λk ab=>?_⟩
   exact(D k (by omega) (by have:=h.fE.size;omega)).trans (h.fE.low.block k ab)
 have U:iZ JO 9 wr' m (n+1) (og (look (T++[(s,x)]))):=by
  refine am.congr λl _=>?_
  rw[uZ]
  congr 1
  funext t
  rw[uf];by_cases e:t=s
  .subst e;rw[if_pos rfl,hs];simp
  .rw[if_neg e]
   cases look T t with
   |some y=>rfl
   |none=>simp[Ne.symm e]
 refine⟨⟨over,⟨(D _ aq hk.lt).trans hk.box,⟨by omega,_,U⟩,?_,?_,hk.prog.below ⟨V.os,V.tape,V.output,V.size,λk ab=>D k (by omega) (by have:=h.fE.size;omega)⟩,hk.n0,hk.q,hk.mt,hk.mp⟩,?_⟩,ap,U⟩
 .obtain⟨n',O⟩:=hk.things
  exact⟨n',O.of_block (D _ (by omega) O.lt)⟩
 .obtain⟨n',O⟩:=hk.aA
  exact⟨n',O.of_block (D _ (by omega) O.lt)⟩
 .exact ar.keep (λl hl=>hJ.turned hl (by omega) ht) (λl hl=>an.turned hl (by omega) ht)
theorem EY{K:mq}{J Jx:List (Int × Int)->World->Prop}(hJ:jK 246 K.B J)(ao:jK 246 K.B Jx){pm:Option Nat}{E:Env}{cs:List Int}(w:World)(bo:pW K J Jx pm E cs w)(i:Nat)(hi:i<K.p.aA.length) :
  Calls Tryz.prog 262 #[.pointer (some ⟨K.q,0,none⟩),.int .i64 i] w λo w'=>o=.returned (.tuple #[])/\yQ K J Jx (inside K.p i) cs w w':=by
 obtain⟨over,hk,hs⟩:=bo.ex;have cr:=@run_makeMap Tryz.prog;have b1:=jc w (.map #[] 0);have a4:=hk.new b1;have aw:=a4.c24;have cd:=a4.c25;have ce:=a4.frozen 24;have cf:=a4.frozen 25;have hC:=BB hJ ao bo i;have hq:=hk.prog.aA _ (ak hi);have ct:=hk.prog.prow.few;obtain⟨b,off,eA,ch,D⟩:=hk.prog.prow.row (by omega);have b6:w.cell? ⟨b,off+i*3+1,none⟩=some (.slice K.p.aA[i].ps.dO K.p.aA[i].bC.length K.p.aA[i].ps.df):=D i hi 1 _ rfl;have bi:(cleared K i w).cell? ⟨b,off+i*3+1,none⟩=some (.slice K.p.aA[i].ps.dO K.p.aA[i].bC.length K.p.aA[i].ps.df):=(hC.fE.low.cell (p:=⟨b,_,none⟩) ch).trans b6;have b4:inside K.p i=⟨i,nC K.p.aA[i]⟩:=by unfold inside;rw[aX hi]
 obtain⟨ci,b5,-⟩:=hC.st.ex;have bk:=b5.c13;rw[eA]at bk;have U:K.n₀<=w.heap.size:=by have:=hk.lt;have:=hk.q;have:=hk.n0;omega
 have a9:K.B<=w.heap.size:=by have:=hk.lt;have:=hk.q;omega
 have ad:K.mt<w.heap.size:=by obtain⟨_,h⟩:=hk.things;exact h.lt
 have ab:K.mp<w.heap.size:=by obtain⟨_,h⟩:=hk.aA;exact h.lt
 have b0:Entering K J Jx w.heap.size i [] 0 cs w (cleared K i w):=⟨hC.st,hC.fE,hC.map.congr λl _=>by cases l<;>rfl⟩;have cb:=ae b4;have b9:=ae b0;have HN:=ae (And.intro U (And.intro a9 (And.intro ad ab)));have HQ:=ae hq.bC;generalize K.p.aA[i]=V at *;have cv:=HQ.o.row.few;have cm:(0:Int)<=(i:Int):=by omega
 have cn:(i:Int)<(K.p.aA.length:Int):=by omega
 have co:decide ((i:Int)<0)=false:=az (by omega);clear bo hk hs hC b1 a4 hq D b6 b4 b5 b0 eA U a9 ad ab;obtain⟨W1,aE⟩:∃W1,cleared K i w=W1:=⟨_,rfl⟩;rw[aE]at bk bi;have cc:=ae aE;unfold cleared at aE;go_enter Tryz.func262,Tryz.ntmps262
 go_upto_region 1 with fail
 clear aE aw cd ce cf;go_wp2_with fail
 go_loopw[28] (λv wr=>∃(k n:Nat),k<=V.bC.length/\n<=k/\v=.int .i64 k/\Entering K J Jx w.heap.size i ((nC V).take k) n cs w wr) (λv _=>V.bC.length - (intOf v).toNat)
 case atStart=>exact⟨0,0,aH _,af _,rfl,by rw[<-cc.o];exact b9.o⟩
 case round =>
  obtain⟨k,n,hk,hn,rfl,be⟩:=hrel;obtain⟨U,a9,ad,ab⟩:=HN.o;have ar:=ae be;clear be bk bi;by_cases O:k<V.bC.length
  .have bh:=ar.o.fE.low
   obtain⟨b2,a7,eA,_,D⟩:=(HQ.o.row.below bh).row (by omega);have hok:=HQ.o.ok _ (ak O);have k0:wr.cell? ⟨b2,a7+k*3,none⟩=some (.string V.bC[k].aT):=D k O 0 _ rfl;have k1:wr.cell? ⟨b2,a7+k*3+1,none⟩=some (.int .i64 V.bC[k].aS):=D k O 1 _ rfl;have k2:wr.cell? ⟨b2,a7+k*3+2,none⟩=some (.int .i64 V.bC[k].size):=D k O 2 _ rfl;have b7:(nC V).take (k+1)=(nC V).take k++[(V.bC[k].aT,⟨5,V.bC[k].aS⟩)]:=by
    rw[aG (by simpa[nC]using O)];simp[nC]
   have bw:=ae b7;generalize V.bC[k]=x at *;have b3:=jc wr (.cells x.r 50);have a1:=gM wr (.cells x.r 50);have bl:=ar.o.new hJ ao b3 U;have cp:(0:Int)<=(k:Int):=by omega
   have cq:(k:Int)<(V.bC.length:Int):=by omega
   have cl:wr.heap.size<(wr.alloc (.cells x.r 50)).heap.size:=by simp
   clear D b7 bh;rw[eA];clear eA;go_upto_region 5 with fail
   generalize wr.alloc (.cells x.r 50)=W5 at *;have bt:=ae bl;have br:=ae a1;obtain⟨cj,a5,-⟩:=bl.st.ex;have aw:=a5.c24;have ba:=a5.lookP hok.1;obtain⟨d0,d1,d2⟩:=gL a1;have cg:Below W5.heap.size W5 W5.drew:=(ag _ _).drew;have am:=(a5.new cg).lookP hok.1;have a3:=jc W5 (.cells #[.int .u8 0,.int .i64 0] 264);have aq:=a5.new a3;have bc:=aq.c24;have an:=(aq.new ((ag _ _).drew:Below _ _ (W5.alloc (.cells #[.int .u8 0,.int .i64 0] 264)).drew)).lookP hok.1;obtain⟨e0,e1,e2⟩:=gL ((a3.block _ (dM a1).1).trans a1);clear b3 bl a1 k0 k1 k2 a5 a3 aq;cases hl:look ((nC V).take k) x.aT with
   |some y =>
    simp only[hl,iq,Option.isSome_some]at ba am an
    go_region
    all_goals
     have ap:Below W5.heap.size W5 (W5.alloc (.cells #[.int .u8 y.bI,.int .i64 y.aS] 264)).drew:=((ag _ _).alloc (af _) _).drew;have a8:=ae ((bt.o.new hJ ao ap U).dup (x:=⟨5,x.aS⟩) hl);clear ap ba am an aw bc hl;go_wp2_with fail
     go_roundw
     case rel=>exact⟨k+1,n,by omega,by omega,by go_num,by rw[bw.o];exact a8.o⟩
     case measure=>simp[intOf];omega
   |none =>
    simp only[hl,Option.getD_none,Option.isSome_none]at ba am an
    go_region
    all_goals
     have ap:Below W5.heap.size W5 (W5.alloc (.cells #[.int .u8 0,.int .i64 0] 264)).drew:=((ag _ _).alloc (af _) _).drew;have a8:=ae (bt.o.new hJ ao ap U);have b8:=ae ((ap.block _ (dM br.o).1).trans br.o);clear ap ba am an aw bc d0 d1 d2 e0 e1 e2;go_upto_region 7 with fail
     generalize (W5.alloc (.cells #[.int .u8 0,.int .i64 0] 264)).drew=W6 at *;have bd:Below W6.heap.size W6 W6.drew:=(ag _ _).drew;have bm:=a8.o.new hJ ao bd U;obtain⟨ck,aq,-⟩:=a8.o.st.ex;have aw:=aq.c24;obtain⟨d0,d1,_⟩:=gL b8.o;obtain⟨w8,bj,a6,al⟩:=bm.map.store xH Tryz.underlying244 (by unfold maxLen;omega) (zx hok.1) (⟨5,x.aS⟩:gV);have ca:=ae (bm.put hJ ao (af _) ad ab U a9 al hl a6)
     replace bj:(Instr.mapUpdate 244 (.map (some w.heap.size)) (.string x.aT) (.agg #[.int .u8 5,.int .i64 x.aS])).run Tryz.prog W6.drew=.ok () w8:=bj
     clear bm aq a6 al hl bd
     go_still_tail 9,(by kernel_rfl)
     change wpList _ _ _ _ _ W6.drew;go_wp2_with fail
     go_roundw
     case rel=>exact⟨k+1,n+1,by omega,by omega,by go_num,by rw[bw.o];exact ca.o⟩
     case measure=>simp[intOf];omega
  .obtain rfl:k=V.bC.length:=by omega
   go_wp2_with fail
   go_returns
   have:=ar.o;rw[show V.bC.length=(nC V).length by simp[nC],bW]at this;rw[cb.o];exact⟨rfl,⟨_,this.st,λm e=>by cases e;exact af _⟩,this.fE⟩
section
def uw(ops:Array Oper)(a0:Act)(L:Nat->Bool)(a:Act):Prop:=∀t:Nat,(∀j,oL ops j=some t->L j=false)->a.eval (.tmp t)=a0.eval (.tmp t)
def P8(ops:Array Oper)(t D:Nat):Bool:=ops.toList.zipIdx.all λx=>match x.1.dst with|some d=>!(Nat.beq d t) || Nat.beq x.2 D|none=>true
theorem P9{ops:Array Oper}{t U j:Nat}(h:P8 ops t U=true)(D:oL ops j=some t):j=U:=by
 unfold P8 at h;rw[fK]at h;unfold oL at D;cases ho:ops[j]? with
 |none=>rw[ho]at D;cases D
 |some o =>
  rw[ho]at D;have hm:(o,j)∈ops.toList.zipIdx:=by
   rw[List.mem_zipIdx_iff_getElem?]
   simpa using ho
  have:=h _ hm;have O:o.dst=some t:=D;rw[O]at this
  simpa using this
theorem uw.at{ops:Array Oper}{a0:Act}{L:Nat->Bool}{a:Act}(h:uw ops a0 L a){t:Nat}(D:Nat)(O:P8 ops t D=true)(hL:L D=false):a.tmps[t]?.getD undef=a0.tmps[t]?.getD undef:=by
 have:=h t λj U=>by rw[P9 O U];exact hL
 simpa[Act.eval]using this
theorem rA{L:Nat->Bool}{k j:Nat}(h:pI L k j=false):L j=false:=by
 by_cases e:j=k
 .subst e;rw[bU]at h;cases h
 .rwa [av e]at h
theorem uw.put{ops:Array Oper}{a0:Act}{L:Nat->Bool}{a:Act}{k:Nat}{d0:Option Nat}(h:uw ops a0 L a)(hk:oL ops k=d0)(v:Value):uw ops a0 (pI L k) (a.put d0 v):=λt ht=>by
 cases d0 with
 |none=>exact h t λj D=>rA (ht j D)
 |some d =>
  have hne:d≠t:=λe=>by
   subst e;have:=ht k hk;rw[bU]at this;cases this
  rw[cB hne];exact h t λj D=>rA (ht j D)
section
variable {P:Program}{Q:Exit->Act->World->Prop}{ops:Array Oper}{keep:Nat->Bool}{a0:Act}{S:(Nat->Bool)->World->Prop}{R:Nat->World->World->Prop}
def SF(ops:Array Oper)(a0:Act)(S:(Nat->Bool)->World->Prop)(L:Nat->Bool)(a:Act)(w:World):Prop:=uw ops a0 L a/\S L w
theorem lQ{id n sz:Nat}{w0:World}(hm:P.follows .mixedOrders=true)(D:jH ops n sz keep=true)(O:a0.tmps.size=sz)
  (S:(Nat->Bool)->World->Prop) (R:Nat->World->World->Prop) (U:S (λ_=>false) w0.drew) (h:dP P Q ops keep a0 (SF ops a0 S) R 0 [] ops.toList):(Code.region id ops true).wp P Q a0 w0 :=
 nI hm D O (SF ops a0 S) R ⟨λ_ _=>rfl,U⟩ h
variable {k:Nat}{Ps:BZ}{o:Oper}{rest:List Oper}
theorem StepsF.exact{c:Value}{d:Nat}(hg:o.guard=none)(V:o.dst=some d)(hk:oL ops k=o.dst)(U:∀L w,S L w->S (pI L k) w)(O:∀w,R k w w)
  (h:∀(L:Nat->Bool) (a:Act) (w:World),JR ops keep a0 (SF ops a0 S) Ps k o L a w->(execOp a.eval o).run P w=.ok (.value c) w)
  (t:dP P Q ops keep a0 (SF ops a0 S) R (k+1) ((k,o.dst,AB c)::Ps) rest):dP P Q ops keep a0 (SF ops a0 S) R k Ps (o::rest):=
 dP.exact hg V (λL _ w D=>⟨D.1.put hk c,U L w D.2⟩) O h t
theorem dP.exactB{S:(Nat->Bool)->Act->World->Prop}{c:Value}{d:Nat}(V:o.guard=none)(U:o.dst=some d)
  (h:∀(L:Nat->Bool) (a:Act) (w:World),JR ops keep a0 S Ps k o L a w->(execOp a.eval o).run P w=.ok (.value c) w) (O:∀L a w,S L a w->S (pI L k) (a.put o.dst c) w) (D:∀w,R k w w)
  (t:dP P Q ops keep a0 S R (k+1) ((k,o.dst,AB c)::Ps) rest):dP P Q ops keep a0 S R k Ps (o::rest):=dP.exact V U O D h t
theorem StepsF.any(D:PV)(hg:o.guard=none)(hk:oL ops k=o.dst)(O:vD R k D)
  (h:∀(L:Nat->Bool) (a:Act) (w:World),JR ops keep a0 (SF ops a0 S) Ps k o L a w->o.wp P a w (wU S R k o.dst D L a w) Q)
  (t:dP P Q ops keep a0 (SF ops a0 S) R (k+1) ((k,o.dst,D)::Ps) rest):dP P Q ops keep a0 (SF ops a0 S) R k Ps (o::rest):=
 dP.any D hg O (λL a w U=>Oper.wp_mono (λa' w' ⟨v,h1,V,h3,h4,h5⟩=>⟨v,h1,V,h3,by rw[h1];exact⟨U.world.1.put hk v,h4⟩,h5⟩) (h L a w U)) t
end
end
end Go.Proofs.YtepacjkacjabbaaGreatDoor
