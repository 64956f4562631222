import Derived.Test.YtepacjkacjabbaaGreatDoorYAI
import Derived.Test.YtepacjkacjabbaaGreatDoorYAJ
import Derived.Deep.DeepCutAuto
set_option linter.all false
set_option maxRecDepth 10000000
set_option maxHeartbeats 64000000
namespace Go.Proofs.YtepacjkacjabbaaGreatDoor
open Go Go.Maps Go.RowKit
def SK(K:mq)(J Jx:List (Int × Int)->World->Prop)(pm:Option Nat)(E:Env)(wh:Int)(W0:World)(e:ah):Prop :=
 ∀(cs:List Int) (d:Nat) (w:World),Below K.n₀ W0 w->pW K J Jx pm E cs w->cs.length+(jv K.p E wh e d).length<=1000000->d+(jv K.p E wh e d).length<=1000000 ->
  Calls Tryz.prog 225 #[.pointer (some ⟨K.q,0,none⟩),e.val,.int .u8 wh,.int .i64 d] w λo w'=>o=.returned (.tuple #[])/\Told K J Jx pm E (cs++jv K.p E wh e d) w w'
def codeF(V O wB:Bool)(D ek wh:Int)(U:Bool):Int :=
 if V=false then 325
 else if(O && (decide (D=0) || (decide (D=4) != decide (ek=3))))=true then 321
 else if((decide (wh=1) && (decide (ek=4) || (O && !decide (D=1)))) || (decide (wh=2) && O && (decide (D=3) || decide (D=4))))=true then 326
 else if wB=true then 322
 else if U=true then 319
 else 0
theorem codeF_eq(p:aj)(E:Env)(wh:Int)(e:ah)(d:Nat):pU p E wh e d=codeF (pO e) (iM e) (iI p E e) (dJ p E e.aT).bI e.bI wh (decide (jd p 32 1000<(d:Int))):=by
 unfold pU codeF;have h1:(iM e=true/\((dJ p E e.aT).bI=0\/¬((dJ p E e.aT).bI=4↔e.bI=3)))↔((iM e && (decide ((dJ p E e.aT).bI=0) || (decide ((dJ p E e.aT).bI=4) != decide (e.bI=3))))=true):=by
  by_cases a:(dJ p E e.aT).bI=4<;>by_cases b:e.bI=3<;>simp[a,b]
 have D:((wh=1/\(e.bI=4\/iM e=true/\(dJ p E e.aT).bI≠1))\/(wh=2/\iM e=true/\((dJ p E e.aT).bI=3\/(dJ p E e.aT).bI=4))) ↔
   (((decide (wh=1) && (decide (e.bI=4) || (iM e && !decide ((dJ p E e.aT).bI=1)))) || (decide (wh=2) && iM e && (decide ((dJ p E e.aT).bI=3) || decide ((dJ p E e.aT).bI=4))))=true):=by
  simp[and_assoc]
 simp only[h1,D,gt_iff_lt,aU]
theorem xD{W:World}{b:Nat}{t:TypeId}{fr:Nat × Nat}{D O:Value}(h:W.heap[b]?=some (.cells #[D,O] t fr)):W.cell? ⟨b,0,none⟩=some D/\W.cell? ⟨b,1,none⟩=some O:=by
 simp[World.cell?,h]
theorem Told.after{K:mq}{J Jx:List (Int × Int)->World->Prop}{pm:Option Nat}{E:Env}{cs:List Int}{w D w2:World}(h:Told K J Jx pm E cs D w2)(hb:gY K w D):Told K J Jx pm E cs w w2:=⟨h.st,hb.trans h.fE⟩
theorem zh{K:mq}{J Jx:List (Int × Int)->World->Prop}(hJ:jK 246 K.B J)(cC:jK 246 K.B Jx)(hT:sV K J Jx){pm:Option Nat}{E:Env}{wh:Int}{W0:World}{e:ah}(h:mM K.n₀ W0 e) :
  SK K J Jx pm E wh W0 e:=by
 induction h with
 |mk e kk oo vv wd nm row cu ih =>
  intro cs d w hb cx cl cE;have hd:d<=1000000:=by omega
  have cP:=ae cE;clear cE;obtain⟨over,hk,hs⟩:=cx.ex;have eh:=hk.lt;have ej:K.n₀<=K.B:=hk.n0;have eb:K.B<=K.q:=hk.q;have cp:=jc w (.cells #[.int .u8 e.bI,.int .u8 e.op,.int .u32 e.bv,.int .i64 e.aS,.string e.aT,.slice e.sp.dO e.cu.length e.sp.df] 30);have cA:=gM w (.cells #[.int .u8 e.bI,.int .u8 e.op,.int .u32 e.bv,.int .i64 e.aS,.string e.aT,.slice e.sp.dO e.cu.length e.sp.df] 30);have cG:(w.alloc (.cells #[.int .u8 e.bI,.int .u8 e.op,.int .u32 e.bv,.int .i64 e.aS,.string e.aT,.slice e.sp.dO e.cu.length e.sp.df] 30)).heap.size=w.heap.size+1:=by simp
  have HF:=ae (zk _ (hk.new cp) e.aT nm);have co:=ae cA;have ao:=ae cp;have cR:=ae cG;have HK:=ae hk;have cg:=ae cx;have HB:=ae hb;have cf:=ae ih;have aw:=ae cu;have a7:=ae row;have bj:=ae cl;clear cp cA cG hk cx hs hb ih cu row cl;simp only[ah.val,Sp.val];go_enter Tryz.func225,Tryz.ntmps225
  go_upto_region 1 with (fail)
  generalize w.alloc (.cells #[.int .u8 e.bI,.int .u8 e.op,.int .u32 e.bv,.int .i64 e.aS,.string e.aT,.slice e.sp.dO e.cu.length e.sp.df] 30)=W1 at *;obtain⟨c0,c1,c2,c3,c4,c5⟩:=aR co.o;have en:=cR.o;obtain⟨xk,c7⟩:∃xk,xk=(dJ K.p E e.aT).bI:=⟨_,rfl⟩;obtain⟨xw,cL⟩:∃xw,xw=(dJ K.p E e.aT).aS:=⟨_,rfl⟩;rw[<-c7,<-cL]at HF;have cV:=ae c7;clear c7 cL;go_upto_region 2 with (first|(go_at_call 256;refine HF.o.mono ?_;rintro o2 w2 ⟨rfl,ch⟩)|fail)
  have a4:=ae (ch.alloc ch.size (.cells #[.int .u8 xk,.int .i64 xw] 264));have HX:=ae (gM w2 (.cells #[.int .u8 xk,.int .i64 xw] 264));have ei:W1.heap.size<=w2.heap.size:=ch.size;have dT:w2.heap.size<(w2.alloc (.cells #[.int .u8 xk,.int .i64 xw] 264)).heap.size:=by simp
  generalize w2.heap.size=b8 at *;generalize w2.alloc (.cells #[.int .u8 xk,.int .i64 xw] 264)=W3 at *;clear ch c0 c1 c2 c3 c4 c5 HF;obtain⟨c0,c1,c2,c3,c4,c5⟩:=aR ((a4.o.block _ (by omega)).trans co.o);generalize (Value.agg #[.int .u8 e.bI,.int .u8 e.op,.int .u32 e.bv,.int .i64 e.aS,.string e.aT,.slice e.sp.dO e.cu.length e.sp.df])=v1;generalize bc:e.bI=ek at *
  go_cut[9] (λs9 wx=>s9=.bool (iM e)/\W3=wx)
  case first=>as_aux_lemma =>
   go_wp2_with fail
   all_goals
    go_meet
    case rel=>exact⟨congrArg Value.bool (by first|(simp[iM, *];done)|(apply Bool.eq_iff_iff.2;simp[iM, *];try omega)),rfl⟩
  case rest=>as_aux_lemma =>
   obtain⟨rfl,rfl⟩:=hcut;obtain⟨nB,cF⟩:∃nB,iM e=nB:=⟨_,rfl⟩;rw[cF]
   go_upto_block 0 with (fail)
   go_cut[10] (λdj wx=>dj=.bool (iI K.p E e)/\Below W3.heap.size W3 wx)
   case first=>as_aux_lemma =>
    rcases(show ek=6\/ek=7\/ek=1\/ek=8\/(ek≠1/\ek≠8/\ek≠6/\ek≠7) by omega)with U|U|U|U|U
    .by_cases cb:e.cu.length=2
     .have ab:iI K.p E e=iT (gB K.p E e.cu 0) (gB K.p E e.cu 1):=by unfold iI;rw[bc,U,cb];rfl
      have aE:=a7.o.below (HB.o.trans ((ao.o.trans (a4.o.mono (by omega))).mono (by omega)));obtain⟨b,off,eA,db,D⟩:=aE.row (by omega);have bt:gB K.p E e.cu 0=fZ K.p E (e.cu[0]'(by omega)):=by rw[gB,aX (by omega)]
      have bd:gB K.p E e.cu 1=fZ K.p E (e.cu[1]'(by omega)):=by rw[gB,aX (by omega)]
      have bo:=aw.o _ (ak (by omega:0<e.cu.length));have br:=aw.o _ (ak (by omega:1<e.cu.length));obtain⟨s0,cc⟩:∃s,s=e.cu[0]'(by omega):=⟨_,rfl⟩;obtain⟨s1,cd⟩:∃s,s=e.cu[1]'(by omega):=⟨_,rfl⟩;have ap:=D 0 (by omega);have aq:=D 1 (by omega);rw[<-cc]at bt bo ap;rw[<-cd]at bd br aq;rw[eA]at c5;have HC:Hid (∀W,Below W3.heap.size W3 W->W.cell? ⟨b,off,none⟩=some (.int .u8 s0.bI)/\W.cell? ⟨b,off+1,none⟩=some (.int .u8 s0.op)/\W.cell? ⟨b,off+2,none⟩=some (.int .u32 s0.bv)/\W.cell? ⟨b,off+3,none⟩=some (.int .i64 s0.aS)/\W.cell? ⟨b,off+4,none⟩=some (.string s0.aT)/\W.cell? ⟨b,off+5,none⟩=some (.slice s0.sp.dO s0.cu.length s0.sp.df)/\W.cell? ⟨b,off+6,none⟩=some (.int .u8 s1.bI)/\W.cell? ⟨b,off+7,none⟩=some (.int .u8 s1.op)/\W.cell? ⟨b,off+8,none⟩=some (.int .u32 s1.bv)/\W.cell? ⟨b,off+9,none⟩=some (.int .i64 s1.aS)/\W.cell? ⟨b,off+10,none⟩=some (.string s1.aT)/\W.cell? ⟨b,off+11,none⟩=some (.slice s1.sp.dO s1.cu.length s1.sp.df)/\W.cell? ⟨w.heap.size,5,none⟩=some (.slice (some ⟨b,off,none⟩) e.cu.length e.sp.df)):=ae λW hW =>
       ⟨(hW.cell (p:=⟨b,_,none⟩) (by simp only;omega)).trans (ap 0 _ rfl),(hW.cell (p:=⟨b,_,none⟩) (by simp only;omega)).trans (ap 1 _ rfl),(hW.cell (p:=⟨b,_,none⟩) (by simp only;omega)).trans (ap 2 _ rfl),(hW.cell (p:=⟨b,_,none⟩) (by simp only;omega)).trans (ap 3 _ rfl),(hW.cell (p:=⟨b,_,none⟩) (by simp only;omega)).trans (ap 4 _ rfl),(hW.cell (p:=⟨b,_,none⟩) (by simp only;omega)).trans (ap 5 _ rfl),
        (hW.cell (p:=⟨b,_,none⟩) (by simp only;omega)).trans (aq 0 _ rfl),(hW.cell (p:=⟨b,_,none⟩) (by simp only;omega)).trans (aq 1 _ rfl),(hW.cell (p:=⟨b,_,none⟩) (by simp only;omega)).trans (aq 2 _ rfl),(hW.cell (p:=⟨b,_,none⟩) (by simp only;omega)).trans (aq 3 _ rfl),(hW.cell (p:=⟨b,_,none⟩) (by simp only;omega)).trans (aq 4 _ rfl),(hW.cell (p:=⟨b,_,none⟩) (by simp only;omega)).trans (aq 5 _ rfl),
        (hW.cell (p:=⟨w.heap.size,5,none⟩) (by simp only;omega)).trans c5⟩
      have bk:Hid (∀W,Below W3.heap.size W3 W->Calls Tryz.prog 230 #[.pointer (some ⟨K.q,0,none⟩),s0.val] W λo w'=>o=.returned (.int .i64 (fZ K.p E s0))/\Below W.heap.size W w'):=ae λW hW =>
       nH bo W (HB.o.trans (((ao.o.trans (a4.o.mono (by omega))).mono (by omega)).trans (hW.mono (by omega)))) (by have:=hW.size;omega) (HK.o.new ((ao.o.trans (a4.o.mono (by omega))).trans (hW.mono (by omega))))
      have bl:Hid (∀W,Below W3.heap.size W3 W->Calls Tryz.prog 230 #[.pointer (some ⟨K.q,0,none⟩),s1.val] W λo w'=>o=.returned (.int .i64 (fZ K.p E s1))/\Below W.heap.size W w'):=ae λW hW =>
       nH br W (HB.o.trans (((ao.o.trans (a4.o.mono (by omega))).mono (by omega)).trans (hW.mono (by omega)))) (by have:=hW.size;omega) (HK.o.new ((ao.o.trans (a4.o.mono (by omega))).trans (hW.mono (by omega))))
      obtain⟨dk,dn,dp,dq,v24,dr,dt,v27,v28,du,dv,dy,d1⟩:=HC.o W3.drew (ag _ _).drew;have da:Below W3.heap.size W3 W3.drew:=(ag _ _).drew;have a1:=ae (ab.trans (by rw[bt,bd]));have cw:((e.cu.length:Int) == 2)=true:=by rw[cb];rfl
      have dc:(0:Int)<(e.cu.length:Int):=by omega
      have dd:(1:Int)<(e.cu.length:Int):=by omega
      clear ab aE D bt bd bo br ap aq cc cd eA;simp only[ah.val,Sp.val]at bk bl;subst U;go_wp2_with fail
      go_region_held3(λW=>W.cell? ⟨b,off,none⟩=some (.int .u8 s0.bI)/\W.cell? ⟨b,off+1,none⟩=some (.int .u8 s0.op)/\W.cell? ⟨b,off+2,none⟩=some (.int .u32 s0.bv)/\W.cell? ⟨b,off+3,none⟩=some (.int .i64 s0.aS)/\W.cell? ⟨b,off+4,none⟩=some (.string s0.aT)/\W.cell? ⟨b,off+5,none⟩=some (.slice s0.sp.dO s0.cu.length s0.sp.df)/\W.cell? ⟨b,off+6,none⟩=some (.int .u8 s1.bI)/\W.cell? ⟨b,off+7,none⟩=some (.int .u8 s1.op)/\W.cell? ⟨b,off+8,none⟩=some (.int .u32 s1.bv)/\W.cell? ⟨b,off+9,none⟩=some (.int .i64 s1.aS)/\W.cell? ⟨b,off+10,none⟩=some (.string s1.aT)/\W.cell? ⟨b,off+11,none⟩=some (.slice s1.sp.dO s1.cu.length s1.sp.df)/\W.cell? ⟨w.heap.size,5,none⟩=some (.slice (some ⟨b,off,none⟩) e.cu.length e.sp.df)/\Below W3.heap.size W3 W) (simp[*])
       (first
        |(go_at_call 230;refine(bk.o _ (by assumption)).mono ?_;clear bk;rintro o8 w8 ⟨rfl,cr⟩;have ct:=Below.trans (by assumption:Below W3.heap.size W3 _) (cr.mono (Below.size (by assumption)));obtain⟨z0,z1,z2,z3,z4,z5,z6,z7,z8,z9,d5,d6,d7⟩:=HC.o _ ct)
        |(go_at_call 230;refine(bl.o _ (by assumption)).mono ?_;clear bl;rintro o7 w7 ⟨rfl,cq⟩;have b9:=Below.trans (by assumption:Below W3.heap.size W3 _) (cq.mono (Below.size (by assumption)));obtain⟨x0,x1,x2,x3,x4,x5,x6,x7,x8,x9,d2,d3,d4⟩:=HC.o _ b9)
        |(go_at_call 229;refine(oz _ _ _).mono ?_;rintro o6 w6 ⟨rfl,rfl⟩)
        |fail)
      go_wp2_with fail
      go_meet
      case rel=>exact⟨congrArg Value.bool a1.o.symm,by assumption⟩
     .have ab:iI K.p E e=false:=by unfold iI;rw[bc,U,if_neg (by omega),if_neg (by omega)];rw[if_neg (by omega),if_neg (by omega)]
      have a1:=ae ab;have cw:((e.cu.length:Int) == 2)=false:=by simp;omega
      clear ab;subst U;go_wp2_with fail
      go_meet
      case rel=>exact⟨congrArg Value.bool a1.o.symm,ag _ _⟩
    .by_cases cb:e.cu.length=3
     .have ab:iI K.p E e=iT (gB K.p E e.cu 1) (gB K.p E e.cu 2):=by unfold iI;rw[bc,U,cb];rfl
      have aE:=a7.o.below (HB.o.trans ((ao.o.trans (a4.o.mono (by omega))).mono (by omega)));obtain⟨b,off,eA,db,D⟩:=aE.row (by omega);have bt:gB K.p E e.cu 1=fZ K.p E (e.cu[1]'(by omega)):=by rw[gB,aX (by omega)]
      have bd:gB K.p E e.cu 2=fZ K.p E (e.cu[2]'(by omega)):=by rw[gB,aX (by omega)]
      have bo:=aw.o _ (ak (by omega:1<e.cu.length));have br:=aw.o _ (ak (by omega:2<e.cu.length));obtain⟨s1,cc⟩:∃s,s=e.cu[1]'(by omega):=⟨_,rfl⟩;obtain⟨s2,cd⟩:∃s,s=e.cu[2]'(by omega):=⟨_,rfl⟩;have ap:=D 1 (by omega);have aq:=D 2 (by omega);rw[<-cc]at bt bo ap;rw[<-cd]at bd br aq;rw[eA]at c5;have HC:Hid (∀W,Below W3.heap.size W3 W->W.cell? ⟨b,off+6,none⟩=some (.int .u8 s1.bI)/\W.cell? ⟨b,off+7,none⟩=some (.int .u8 s1.op)/\W.cell? ⟨b,off+8,none⟩=some (.int .u32 s1.bv)/\W.cell? ⟨b,off+9,none⟩=some (.int .i64 s1.aS)/\W.cell? ⟨b,off+10,none⟩=some (.string s1.aT)/\W.cell? ⟨b,off+11,none⟩=some (.slice s1.sp.dO s1.cu.length s1.sp.df)/\W.cell? ⟨b,off+12,none⟩=some (.int .u8 s2.bI)/\W.cell? ⟨b,off+13,none⟩=some (.int .u8 s2.op)/\W.cell? ⟨b,off+14,none⟩=some (.int .u32 s2.bv)/\W.cell? ⟨b,off+15,none⟩=some (.int .i64 s2.aS)/\W.cell? ⟨b,off+16,none⟩=some (.string s2.aT)/\W.cell? ⟨b,off+17,none⟩=some (.slice s2.sp.dO s2.cu.length s2.sp.df)/\W.cell? ⟨w.heap.size,5,none⟩=some (.slice (some ⟨b,off,none⟩) e.cu.length e.sp.df)):=ae λW hW =>
       ⟨(hW.cell (p:=⟨b,_,none⟩) (by simp only;omega)).trans (ap 0 _ rfl),(hW.cell (p:=⟨b,_,none⟩) (by simp only;omega)).trans (ap 1 _ rfl),(hW.cell (p:=⟨b,_,none⟩) (by simp only;omega)).trans (ap 2 _ rfl),(hW.cell (p:=⟨b,_,none⟩) (by simp only;omega)).trans (ap 3 _ rfl),(hW.cell (p:=⟨b,_,none⟩) (by simp only;omega)).trans (ap 4 _ rfl),(hW.cell (p:=⟨b,_,none⟩) (by simp only;omega)).trans (ap 5 _ rfl),
        (hW.cell (p:=⟨b,_,none⟩) (by simp only;omega)).trans (aq 0 _ rfl),(hW.cell (p:=⟨b,_,none⟩) (by simp only;omega)).trans (aq 1 _ rfl),(hW.cell (p:=⟨b,_,none⟩) (by simp only;omega)).trans (aq 2 _ rfl),(hW.cell (p:=⟨b,_,none⟩) (by simp only;omega)).trans (aq 3 _ rfl),(hW.cell (p:=⟨b,_,none⟩) (by simp only;omega)).trans (aq 4 _ rfl),(hW.cell (p:=⟨b,_,none⟩) (by simp only;omega)).trans (aq 5 _ rfl),
        (hW.cell (p:=⟨w.heap.size,5,none⟩) (by simp only;omega)).trans c5⟩
      have bk:Hid (∀W,Below W3.heap.size W3 W->Calls Tryz.prog 230 #[.pointer (some ⟨K.q,0,none⟩),s1.val] W λo w'=>o=.returned (.int .i64 (fZ K.p E s1))/\Below W.heap.size W w'):=ae λW hW =>
       nH bo W (HB.o.trans (((ao.o.trans (a4.o.mono (by omega))).mono (by omega)).trans (hW.mono (by omega)))) (by have:=hW.size;omega) (HK.o.new ((ao.o.trans (a4.o.mono (by omega))).trans (hW.mono (by omega))))
      have bl:Hid (∀W,Below W3.heap.size W3 W->Calls Tryz.prog 230 #[.pointer (some ⟨K.q,0,none⟩),s2.val] W λo w'=>o=.returned (.int .i64 (fZ K.p E s2))/\Below W.heap.size W w'):=ae λW hW =>
       nH br W (HB.o.trans (((ao.o.trans (a4.o.mono (by omega))).mono (by omega)).trans (hW.mono (by omega)))) (by have:=hW.size;omega) (HK.o.new ((ao.o.trans (a4.o.mono (by omega))).trans (hW.mono (by omega))))
      obtain⟨dk,dn,dp,dq,v24,dr,dt,v27,v28,du,dv,dy,d1⟩:=HC.o W3.drew (ag _ _).drew;have da:Below W3.heap.size W3 W3.drew:=(ag _ _).drew;have a1:=ae (ab.trans (by rw[bt,bd]));have cw:((e.cu.length:Int) == 3)=true:=by rw[cb];rfl
      have dc:(1:Int)<(e.cu.length:Int):=by omega
      have dd:(2:Int)<(e.cu.length:Int):=by omega
      clear ab aE D bt bd bo br ap aq cc cd eA;simp only[ah.val,Sp.val]at bk bl;subst U;go_wp2_with fail
      go_region_held3(λW=>W.cell? ⟨b,off+6,none⟩=some (.int .u8 s1.bI)/\W.cell? ⟨b,off+7,none⟩=some (.int .u8 s1.op)/\W.cell? ⟨b,off+8,none⟩=some (.int .u32 s1.bv)/\W.cell? ⟨b,off+9,none⟩=some (.int .i64 s1.aS)/\W.cell? ⟨b,off+10,none⟩=some (.string s1.aT)/\W.cell? ⟨b,off+11,none⟩=some (.slice s1.sp.dO s1.cu.length s1.sp.df)/\W.cell? ⟨b,off+12,none⟩=some (.int .u8 s2.bI)/\W.cell? ⟨b,off+13,none⟩=some (.int .u8 s2.op)/\W.cell? ⟨b,off+14,none⟩=some (.int .u32 s2.bv)/\W.cell? ⟨b,off+15,none⟩=some (.int .i64 s2.aS)/\W.cell? ⟨b,off+16,none⟩=some (.string s2.aT)/\W.cell? ⟨b,off+17,none⟩=some (.slice s2.sp.dO s2.cu.length s2.sp.df)/\W.cell? ⟨w.heap.size,5,none⟩=some (.slice (some ⟨b,off,none⟩) e.cu.length e.sp.df)/\Below W3.heap.size W3 W) (simp[*])
       (first
        |(go_at_call 230;refine(bk.o _ (by assumption)).mono ?_;clear bk;rintro o8 w8 ⟨rfl,cr⟩;have ct:=Below.trans (by assumption:Below W3.heap.size W3 _) (cr.mono (Below.size (by assumption)));obtain⟨z0,z1,z2,z3,z4,z5,z6,z7,z8,z9,d5,d6,d7⟩:=HC.o _ ct)
        |(go_at_call 230;refine(bl.o _ (by assumption)).mono ?_;clear bl;rintro o7 w7 ⟨rfl,cq⟩;have b9:=Below.trans (by assumption:Below W3.heap.size W3 _) (cq.mono (Below.size (by assumption)));obtain⟨x0,x1,x2,x3,x4,x5,x6,x7,x8,x9,d2,d3,d4⟩:=HC.o _ b9)
        |(go_at_call 229;refine(oz _ _ _).mono ?_;rintro o6 w6 ⟨rfl,rfl⟩)
        |fail)
      go_wp2_with fail
      go_meet
      case rel=>exact⟨congrArg Value.bool a1.o.symm,by assumption⟩
     .have ab:iI K.p E e=false:=by unfold iI;rw[bc,U,if_neg (by omega),if_neg (by omega)];rw[if_neg (by omega),if_neg (by omega)]
      have a1:=ae ab;have cw:((e.cu.length:Int) == 3)=false:=by simp;omega
      clear ab;subst U;go_wp2_with fail
      go_meet
      case rel=>exact⟨congrArg Value.bool a1.o.symm,ag _ _⟩
    .have ab:iI K.p E e=((!ik e.aS) || decide (ug e.aS<e.bv)):=by unfold iI;rw[bc,U];rfl
     subst U;have HM:=ae (IZ e.aS W3);cases hw:ik e.aS with
     |false =>
      have e2:xN e.aS=220:=by simp[xN,hw]
      have a1:=ae (ab.trans (by rw[hw];rfl:_=true));rw[e2]at HM;generalize ug e.aS=mw at *;clear ab e2;go_wp2_with(first|(go_at_call 257;refine HM.o.mono ?_;rintro o6 w6 ⟨rfl,rfl⟩)|fail)
      go_meet
      case rel=>exact⟨congrArg Value.bool a1.o.symm,ag _ _⟩
     |true =>
      have e2:xN e.aS=0:=by simp[xN,hw]
      have a1:=ae (ab.trans (by rw[hw];rfl:_=decide (ug e.aS<e.bv)));rw[e2]at HM;generalize ug e.aS=mw at *;clear ab e2;go_wp2_with(first|(go_at_call 257;refine HM.o.mono ?_;rintro o6 w6 ⟨rfl,rfl⟩)|fail)
      all_goals
       go_meet
       case rel=>exact⟨congrArg Value.bool (by rw[a1.o]),ag _ _⟩
    .have ab:iI K.p E e=!ik e.aS:=by unfold iI;rw[bc,U];rfl
     have a1:=ae ab;clear ab;subst U;go_wp2_with(first|(go_at_call 254;refine(jJ _ _).mono ?_;rintro o6 w6 ⟨rfl,rfl⟩)|fail)
     all_goals
      go_meet
      case rel=>exact⟨congrArg Value.bool (by rw[a1.o]),ag _ _⟩
    .obtain⟨h1,h8,h6,h7⟩:=U
     have ab:iI K.p E e=false:=by unfold iI;rw[bc,if_neg (by omega),if_neg (by omega),if_neg (by omega),if_neg (by omega)]
     have a1:=ae ab;have g1:(ek == 1)=false:=by simpa using h1
     have g6:(ek == 6)=false:=by simpa using h6
     have g7:(ek == 7)=false:=by simpa using h7
     have g8:(ek == 8)=false:=by simpa using h8
     clear ab h1 h8 h6 h7;go_wp2_with fail
     go_meet
     case rel=>exact⟨congrArg Value.bool a1.o.symm,ag _ _⟩
   case rest=>as_aux_lemma =>
    obtain⟨rfl,ba⟩:=hcut;have cv:=codeF_eq K.p E wh e d;rw[<-cV.o,bc,cF]at cv;generalize iI K.p E e=wB at *;have ck:Below w.heap.size w wc:=ao.o.trans ((a4.o.trans (ba.mono (by omega))).mono (by omega));have bC:=(ba.block _ (by omega)).trans ((a4.o.block _ (by omega)).trans co.o);have cJ:=(ba.block _ (by omega)).trans HX.o;have b0:=ae (N8 wc e oo (by rw[bc];omega) a7.o.few);simp only[ah.val,Sp.val]at b0;rw[bc]at b0;have bi:=ae ck;have a5:=ae bC;have b6:=ae cJ;have a9:=ae cv;have ar:=ae (λ(W:World) (hW:Below w.heap.size w W)=>AU W (HK.o.new hW) 32 1000);have V:Hid (∀(W:World) (c:Int),Below w.heap.size w W->W.heap[w.heap.size]?=some (.cells #[.int .u8 ek,.int .u8 e.op,.int .u32 e.bv,.int .i64 e.aS,.string e.aT,.slice e.sp.dO e.cu.length e.sp.df] 30 (0,0))->Calls Tryz.prog 228 #[.pointer (some ⟨K.q,0,none⟩),.int .i64 c] W λo W'=>o=.returned (.tuple #[])/\Told K J Jx pm E (cs++[c]) w W'/\W'.heap[w.heap.size]?=some (.cells #[.int .u8 ek,.int .u8 e.op,.int .u32 e.bv,.int .i64 e.aS,.string e.aT,.slice e.sp.dO e.cu.length e.sp.df] 30 (0,0))):=ae λW c hW ci =>
     (hT pm E cs W c (cg.o.new hJ cC hW) (by have:=bj.o;rw[jY]at this;simp at this;omega)).mono λo W' ⟨h1,h2⟩=>⟨h1,h2.after (.of_below hW (by omega)),h2.fE.cells _ _ _ _ ci rfl (by omega)⟩
    generalize jd K.p 32 1000=dg at *;clear cv ck bC cJ c0 c1 c2 c3 c4 c5 ba;obtain⟨c0,c1,c2,c3,c4,c5⟩:=aR a5.o
    go_upto_block 1 with (fail)
    go_cut[2,9,10] (λs2 _ _ wx=>s2=.int .u8 wh/\Told K J Jx pm E (cs++[pU K.p E wh e d]) w wx/\wx.heap[w.heap.size]?=some (.cells #[.int .u8 ek,.int .u8 e.op,.int .u32 e.bv,.int .i64 e.aS,.string e.aT,.slice e.sp.dO e.cu.length e.sp.df] 30 (0,0)))
    case first=>as_aux_lemma =>
     obtain⟨sB,bd⟩:∃sB,pO e=sB:=⟨_,rfl⟩;rw[bd]at b0 a9;clear bd;cases sB
     case false =>
      have am:Hid (∀W,Told K J Jx pm E (cs++[325]) w W->Told K J Jx pm E (cs++[pU K.p E wh e d]) w W):=ae λW h=>by rw[a9.o];simp[codeF, *]
      go_wp2_with(first|(go_at_call 258;refine b0.o.mono ?_;rintro o5 w5 ⟨rfl,bh⟩;have a3:=ae (bi.o.trans (bh.mono bi.o.size));obtain⟨_,_⟩:=xD ((bh.block _ (dM b6.o).1).trans b6.o);have ad:=ae ((bh.block _ (dM a5.o).1).trans a5.o);obtain⟨_,_,_,_,_,_⟩:=aR ad.o;clear bh c0 c1 c2 c3 c4 c5)|(go_at_call 228;refine(V.o _ _ a3.o ad.o).mono ?_;rintro o6 w6 ⟨rfl,an,O⟩;have a6:=ae an;have al:=ae O;clear an O)|fail)
      go_meet
      case rel=>exact⟨rfl,am.o _ a6.o,al.o⟩
     case true =>
      go_upto_region 16 with (first|(go_at_call 258;refine b0.o.mono ?_;rintro o5 w5 ⟨rfl,bh⟩;have a3:=ae (bi.o.trans (bh.mono bi.o.size));obtain⟨x0,_⟩:=xD ((bh.block _ (dM b6.o).1).trans b6.o);have ad:=ae ((bh.block _ (dM a5.o).1).trans a5.o);obtain⟨k0,_,_,_,_,_⟩:=aR ad.o;clear bh c0 c1 c2 c3 c4 c5)|fail)
      go_cut[2,9,107] (λs2 s9 cM wx=>s2=.int .u8 wh/\s9=.bool nB/\cM=.bool (nB && (decide (xk=0) || (decide (xk=4) != decide (ek=3))))/\w5=wx)
      case first=>as_aux_lemma =>
       clear a9 V ar cf aw a7 bj HB cg HK;cases nB
       .go_wp2_with fail
        go_meet
        case rel=>exact⟨rfl,rfl,congrArg Value.bool (by simp),rfl⟩
       .by_cases cj:xk=0
        .subst cj
         go_wp2_with fail
         go_meet
         case rel=>exact⟨rfl,rfl,congrArg Value.bool (by simp),rfl⟩
        .have g0:(xk == 0)=false:=by simpa using cj
         obtain⟨b4,ba⟩:∃b,(xk == 4)=b:=⟨_,rfl⟩;obtain⟨b3,b5⟩:∃b,(ek == 3)=b:=⟨_,rfl⟩;have h4:decide (xk=4)=b4:=by rw[<-ba];rfl
         have h3:decide (ek=3)=b3:=by rw[<-b5];rfl
         have H0:=ae (az cj);have H4:=ae h4;have H3:=ae h3;clear cj h4 h3;cases b4<;>cases b3
         all_goals
          go_wp2_with fail
          go_meet
          case rel=>exact⟨rfl,rfl,congrArg Value.bool (by rw[H0.o,H4.o,H3.o];rfl),rfl⟩
      case rest=>as_aux_lemma =>
       obtain⟨rfl,rfl,rfl,rfl⟩:=hcut;obtain⟨cW,be⟩:∃b,(nB && (decide (xk=0) || (decide (xk=4) != decide (ek=3))))=b:=⟨_,rfl⟩;rw[be];cases cW with
       |true =>
        have am:Hid (∀W,Told K J Jx pm E (cs++[321]) w W->Told K J Jx pm E (cs++[pU K.p E wh e d]) w W):=ae λW h=>by rw[a9.o];simp[codeF, *]
        clear be;go_wp2_with(first|(go_at_call 253;refine(ar.o _ a3.o).mono ?_;rintro o7 w7 ⟨rfl,rfl⟩)|(go_at_call 228;refine(V.o _ _ a3.o ad.o).mono ?_;rintro o6 w6 ⟨rfl,an,O⟩;have a6:=ae an;have al:=ae O;clear an O)|fail)
        go_meet
        case rel=>exact⟨rfl,am.o _ a6.o,al.o⟩
       |false =>
        go_upto_region 18 with fail
        go_cut[2,9,125] (λs2 s9 ce wx=>s2=.int .u8 wh/\s9=.bool nB/\ce=.bool (decide (wh=1) && (decide (ek=4) || (nB && !decide (xk=1))))/\w5=wx)
        case first=>as_aux_lemma =>
         clear a9 V ar cf aw a7 bj HB cg HK be;obtain⟨b1,c6⟩:∃b,(wh == 1)=b:=⟨_,rfl⟩;obtain⟨b4,ba⟩:∃b,(ek == 4)=b:=⟨_,rfl⟩;obtain⟨b3,b5⟩:∃b,(xk == 1)=b:=⟨_,rfl⟩;have cD:(xk != 1)=!b3:=by rw[<-b5];rfl
         have H1:=ae (show decide (wh=1)=b1 by rw[<-c6];rfl);have H4:=ae (show decide (ek=4)=b4 by rw[<-ba];rfl);have H3:=ae (show decide (xk=1)=b3 by rw[<-b5];rfl);cases b1
         case false =>
          go_wp2_with fail
          go_meet
          case rel=>exact⟨rfl,rfl,congrArg Value.bool (by rw[H1.o];rfl),rfl⟩
         case true =>
          cases b4
          case true =>
           go_wp2_with fail
           go_meet
           case rel=>exact⟨by first|rfl|(have:=dB H1.o;rw[this]),rfl,congrArg Value.bool (by rw[H1.o,H4.o];rfl),rfl⟩
          case false =>
           cases nB<;>cases b3
           all_goals
            simp only[Bool.not_true,Bool.not_false]at cD;go_wp2_with fail
            go_meet
            case rel=>exact⟨by first|rfl|(have:=dB H1.o;rw[this]),rfl,congrArg Value.bool (by rw[H1.o,H4.o];first|rfl|(rw[H3.o];rfl)),rfl⟩
        case rest=>as_aux_lemma =>
         obtain⟨rfl,rfl,rfl,rfl⟩:=hcut;obtain⟨cX,bm⟩:∃b,(decide (wh=1) && (decide (ek=4) || (nB && !decide (xk=1))))=b:=⟨_,rfl⟩;rw[bm];cases cX with
         |true =>
          have am:Hid (∀W,Told K J Jx pm E (cs++[326]) w W->Told K J Jx pm E (cs++[pU K.p E wh e d]) w W):=ae λW h=>by rw[a9.o];simp[codeF, *]
          clear be bm;go_wp2_with(first|(go_at_call 253;refine(ar.o _ a3.o).mono ?_;rintro o7 w7 ⟨rfl,rfl⟩)|(go_at_call 228;refine(V.o _ _ a3.o ad.o).mono ?_;rintro o6 w6 ⟨rfl,an,O⟩;have a6:=ae an;have al:=ae O;clear an O)|fail)
          go_meet
          case rel=>exact⟨rfl,am.o _ a6.o,al.o⟩
         |false =>
          go_upto_region 19 with fail
          go_cut[2,9,125] (λs2 s9 ce wx=>s2=.int .u8 wh/\s9=.bool nB/\ce=.bool (decide (wh=2) && nB && (decide (xk=3) || decide (xk=4)))/\w5=wx)
          case first=>as_aux_lemma =>
           clear a9 V ar cf aw a7 bj HB cg HK be bm;obtain⟨b1,c6⟩:∃b,(wh == 2)=b:=⟨_,rfl⟩;obtain⟨b4,ba⟩:∃b,(xk == 4)=b:=⟨_,rfl⟩;obtain⟨b3,b5⟩:∃b,(xk == 3)=b:=⟨_,rfl⟩;have H1:=ae (show decide (wh=2)=b1 by rw[<-c6];rfl);have H4:=ae (show decide (xk=4)=b4 by rw[<-ba];rfl);have H3:=ae (show decide (xk=3)=b3 by rw[<-b5];rfl);cases b1
           case false =>
            go_wp2_with fail
            go_meet
            case rel=>exact⟨rfl,rfl,congrArg Value.bool (by rw[H1.o];rfl),rfl⟩
           case true =>
            cases nB
            case false =>
             go_wp2_with fail
             go_meet
             case rel=>exact⟨by first|rfl|(have:=dB H1.o;rw[this]),rfl,congrArg Value.bool (by rw[H1.o];rfl),rfl⟩
            case true =>
             cases b3<;>cases b4
             all_goals
              go_wp2_with fail
              go_meet
              case rel=>exact⟨by first|rfl|(have:=dB H1.o;rw[this]),rfl,congrArg Value.bool (by rw[H1.o,H3.o,H4.o];rfl),rfl⟩
          case rest=>as_aux_lemma =>
           obtain⟨rfl,rfl,rfl,rfl⟩:=hcut;obtain⟨cY,b7⟩:∃b,(decide (wh=2) && nB && (decide (xk=3) || decide (xk=4)))=b:=⟨_,rfl⟩;rw[b7];cases cY with
           |true =>
            have am:Hid (∀W,Told K J Jx pm E (cs++[326]) w W->Told K J Jx pm E (cs++[pU K.p E wh e d]) w W):=ae λW h=>by rw[a9.o];simp[codeF, *]
            clear be bm b7;go_wp2_with(first|(go_at_call 253;refine(ar.o _ a3.o).mono ?_;rintro o7 w7 ⟨rfl,rfl⟩)|(go_at_call 228;refine(V.o _ _ a3.o ad.o).mono ?_;rintro o6 w6 ⟨rfl,an,O⟩;have a6:=ae an;have al:=ae O;clear an O)|fail)
            go_meet
            case rel=>exact⟨rfl,am.o _ a6.o,al.o⟩
           |false =>
            cases wB with
            |true =>
             have am:Hid (∀W,Told K J Jx pm E (cs++[322]) w W->Told K J Jx pm E (cs++[pU K.p E wh e d]) w W):=ae λW h=>by rw[a9.o];simp[codeF, *]
             clear be bm b7;go_wp2_with(first|(go_at_call 253;refine(ar.o _ a3.o).mono ?_;rintro o7 w7 ⟨rfl,rfl⟩)|(go_at_call 228;refine(V.o _ _ a3.o ad.o).mono ?_;rintro o6 w6 ⟨rfl,an,O⟩;have a6:=ae an;have al:=ae O;clear an O)|fail)
             go_meet
             case rel=>exact⟨rfl,am.o _ a6.o,al.o⟩
            |false =>
             obtain⟨dl,ee⟩:∃b,decide (dg<(d:Int))=b:=⟨_,rfl⟩;cases dl with
             |true =>
              have am:Hid (∀W,Told K J Jx pm E (cs++[319]) w W->Told K J Jx pm E (cs++[pU K.p E wh e d]) w W):=ae λW h=>by rw[a9.o];simp[codeF, *]
              clear be bm b7;go_wp2_with(first|(go_at_call 253;refine(ar.o _ a3.o).mono ?_;rintro o7 w7 ⟨rfl,rfl⟩)|(go_at_call 228;refine(V.o _ _ a3.o ad.o).mono ?_;rintro o6 w6 ⟨rfl,an,O⟩;have a6:=ae an;have al:=ae O;clear an O)|fail)
              go_meet
              case rel=>exact⟨rfl,am.o _ a6.o,al.o⟩
             |false =>
              have am:Hid (∀W,Told K J Jx pm E (cs++[0]) w W->Told K J Jx pm E (cs++[pU K.p E wh e d]) w W):=ae λW h=>by rw[a9.o];simp[codeF, *]
              clear be bm b7;go_wp2_with(first|(go_at_call 253;refine(ar.o _ a3.o).mono ?_;rintro o7 w7 ⟨rfl,rfl⟩)|(go_at_call 228;refine(V.o _ _ a3.o ad.o).mono ?_;rintro o6 w6 ⟨rfl,an,O⟩;have a6:=ae an;have al:=ae O;clear an O)|fail)
              go_meet
              case rel=>exact⟨rfl,am.o _ a6.o,al.o⟩
    case rest=>as_aux_lemma =>
     obtain⟨rfl,ht,ci⟩:=hcut;obtain⟨k0,k1,k2,k3,k4,k5⟩:=aR ci;have cS:=ae ht;have d8:=a7.o.few;clear a9 b0 V ar bi a5 b6 ci ht c0 c1 c2 c3 c4 c5;go_wp2_with fail
     go_loopw[172] (λi wr=>∃k:Nat,k<=e.cu.length/\i=.int .i64 k/\Told K J Jx pm E (cs++pU K.p E wh e d::iU K.p E wh (e.cu.take k) (d+1)) w wr) (λi _=>e.cu.length - (intOf i).toNat)
     case atStart=>exact⟨0,aH _,rfl,by rw[iY,iU];exact cS.o⟩
     case round =>
      obtain⟨k,hk,rfl,cI⟩:=hrel;have b2:=ae cI;clear cI k0 k1 k2 k3 k4 k5;by_cases a8:k<e.cu.length
      .obtain⟨b,off,eA,_,D⟩:=(a7.o.below (HB.o.trans b2.o.fE.low)).row (by omega)
       have cm:e.cu[k]∈e.cu:=ak a8;have cy:e.cu.take (k+1)=e.cu.take k++[e.cu[k]]:=aG a8;have k0:wr.cell? ⟨b,off+k*6,none⟩=some (.int .u8 e.cu[k].bI):=D k a8 0 _ rfl;have k1:wr.cell? ⟨b,off+k*6+1,none⟩=some (.int .u8 e.cu[k].op):=D k a8 1 _ rfl;have k2:wr.cell? ⟨b,off+k*6+2,none⟩=some (.int .u32 e.cu[k].bv):=D k a8 2 _ rfl;have k3:wr.cell? ⟨b,off+k*6+3,none⟩=some (.int .i64 e.cu[k].aS):=D k a8 3 _ rfl;have k4:wr.cell? ⟨b,off+k*6+4,none⟩=some (.string e.cu[k].aT):=D k a8 4 _ rfl;have k5:wr.cell? ⟨b,off+k*6+5,none⟩=some (.slice e.cu[k].sp.dO e.cu[k].cu.length e.cu[k].sp.df):=D k a8 5 _ rfl;have cQ:=ae (cf.o _ cm);have de:(jv K.p E wh e d).length=1+(iU K.p E wh (e.cu.take k) (d+1)).length+(jv K.p E wh e.cu[k] (d+1)).length+(iU K.p E wh (e.cu.drop (k+1)) (d+1)).length:=by
        have e1:e.cu=(e.cu.take k++[e.cu[k]])++e.cu.drop (k+1):=by rw[<-cy,fA]
        rw[jY]
        conv=>lhs;rw[e1]
        simp only[fJ,bT,ay,aF,bA,dV,aP];omega
       have cU:=ae cy;generalize e.cu[k]=x at *;have bw:=jc wr (.cells #[.int .u8 x.bI,.int .u8 x.op,.int .u32 x.bv,.int .i64 x.aS,.string x.aT,.slice x.sp.dO x.cu.length x.sp.df] 30);have em:=b2.o.fE.size;have cn:=b2.o.st.new hJ cC bw;have hC:=cQ.o _ (d+1) _ ((HB.o.trans b2.o.fE.low).trans (bw.mono (by omega))) cn (by have:=bj.o;simp only[ay,aF];omega) (by have:=cP.o;omega);simp only[ah.val,Sp.val]at hC;have ca:(((d+1:Nat)):Int)=(d:Int)+1:=by omega
       rw[ca]at hC;have cN:=ae hC;have c8:=ae bw;have ef:(0:Int)<=(k:Int):=by omega
       have eg:(k:Int)<(e.cu.length:Int):=by omega
       clear D cm cy de bw cn hC ca;rw[eA];clear eA;go_wp2_with fail
       refine cN.o.mono ?_;rintro o w2 ⟨rfl,cH⟩;have cT:=ae (cH.after (b2.o.fE.trans (.of_below c8.o (by omega))));clear cH k0 k1 k2 k3 k4 k5;go_wp2_with fail
       go_roundw
       case rel=>exact⟨k+1,by omega,by go_num,by
        rw[cU.o,fJ,bT,<-fJ]
        simpa using cT.o⟩
       case measure=>simp[intOf];omega
      .obtain rfl:k=e.cu.length:=by omega
       go_wp2_with fail
       go_returns
       have:=b2.o;rw[bW,<-jY]at this;exact⟨rfl,this⟩
end Go.Proofs.YtepacjkacjabbaaGreatDoor
