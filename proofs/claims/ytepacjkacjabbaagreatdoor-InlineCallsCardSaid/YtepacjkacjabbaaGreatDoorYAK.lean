import Derived.Test.YtepacjkacjabbaaGreatDoorYAH
import Derived.Test.YtepacjkacjabbaaGreatDoorYAF
import Derived.Test.YtepacjkacjabbaaGreatDoorYAD
import Derived.Deep.CutBlock
set_option linter.all false
set_option maxRecDepth 10000000
set_option maxHeartbeats 64000000
namespace Go.Proofs.YtepacjkacjabbaaGreatDoor
open Go Go.Maps Go.RowKit
section
attribute [local go_sem] Oper.semAt_some
theorem Bj(sp:Sp)(n:Nat)(w:World) :
  Calls Tryz.prog 109 #[sp.val n] w λo w'=>o=.returned (.func (.func 169) #[] #[.pointer (some ⟨w.heap.size,0,none⟩)])/\w'=w.alloc (.cells #[sp.val n] 33):=by
 simp only[Sp.val];go_enter Tryz.func109,Tryz.ntmps109
 go_wp2
 go_ret
 exact⟨rfl,rfl⟩
def MI(n₀:Nat)(W0:World)(sp:Sp)(l:List aa):Prop :=
 ∀(n:Nat) (w:World) (D:Nat),Below n₀ W0 w->n₀<=w.heap.size->w.heap[D]?=some (.cells #[sp.val l.length] 33 (0,0)) ->
  SV Fence.wide n Tryz.prog 169 #[.pointer (some ⟨D,0,none⟩)] (λx:aa=>#[x.val]) TT n₀ (λys=>ys=l.flatMap aa.pre) (λpre=>pre <+: l.flatMap aa.pre) (l.flatMap aa.pre).length w
theorem KE(a c:Sp)(n m:Nat)(W:World):(Instr.index 207 (.agg #[.slice a.dO n a.df,.slice c.dO m c.df]) (.int .i64 0)).run Tryz.prog W=.ok (.slice a.dO n a.df) W:=by
 kernel_rfl
theorem KF(a c:Sp)(n m:Nat)(W:World):(Instr.index 207 (.agg #[.slice a.dO n a.df,.slice c.dO m c.df]) (.int .i64 1)).run Tryz.prog W=.ok (.slice c.dO m c.df) W:=by
 kernel_rfl
def part(s:aa)(i:Nat):List aa:=if i=0 then s.gy else s.iD
def mP(s:aa)(i:Nat):List aa:=if i=0 then[] else if i=1 then s.gy.flatMap aa.pre else s.gy.flatMap aa.pre++s.iD.flatMap aa.pre
theorem Dc(s:aa)(i:Nat)(h:i<2):mP s (i+1)=mP s i++(part s i).flatMap aa.pre:=by
 match i,h with
 |0,_=>simp[mP,part]
 |1,_=>simp[mP,part]
theorem yK{n₀:Nat}{W0:World}{sp:Sp}{O:List aa}(row:RowOf n₀ W0 sp 6 aa.cells O)(hQ:∀s∈O,MI n₀ W0 s.ts s.gy/\MI n₀ W0 s.os s.iD):MI n₀ W0 sp O:=by
 intro n w Bs c7 cA br l J Jx W hW hJ ba hY h0;have HQ:=ae hQ;clear hQ;simp only[Sp.val]at br;have HY:Hid (∀pre x W1,J pre W1->pre.length<(O.flatMap aa.pre).length->pre++[x] <+: O.flatMap aa.pre->YieldAt Fence.wide (n - 1) Tryz.prog l #[x.val] W1 λo W' =>
  (o=.returned (.bool true)/\J (pre++[x]) W'/\dD TT W.heap.size W1 W'/\Below n₀ W1 W')\/(o=.returned (.bool false)/\Jx (pre++[x]) W'/\dD TT W.heap.size W1 W')):=ae hY
 clear hY;have b4:W.heap[Bs]?=some (.cells #[.slice sp.dO O.length sp.df] 33 (0,0)):=(hW.block Bs (dM br).1).trans br;have cq:=(dM b4).1;have ci:=(eZ W (.cells #[.func (.yield l) #[] #[]] 58) Bs cq).trans b4;have c3:=gM W (.cells #[.func (.yield l) #[] #[]] 58);have cm:Below n₀ W0 (W.alloc (.cells #[.func (.yield l) #[] #[]] 58)):=(c7.trans (hW.mono cA)).alloc (by have:=hW.size;omega) _;have cw:W.heap.size<(W.alloc (.cells #[.func (.yield l) #[] #[]] 58)).heap.size:=by simp
 have cL:=hW.size;have c0:=one_cell ci;have cg:=ae c3;have cc:=ae (hJ.alloc (.cells #[.func (.yield l) #[] #[]] 58) h0);have cJ:O.length<=9223372036854775807:=by
  have h1:=row.df;have h2:=row.big;simp only[maxLen]at h2;omega
 clear ci c3 b4 br cq;refine callsIn_of_wp_marks Tryz.func169 rfl trivial ?_ rfl;simp only[Tryz.ntmps169,List.size_toArray,aF,bK,Nat.reduceAdd,Nat.reduceSub,Array.replicate_succ,Array.replicate_zero,List.push_toArray,List.append_toArray,gJ,dC]
 gi_wp2
 refine wpIn_loop (λa wr=>∃(j:Nat) (u4 u6 u7 u11 u12 u13 u14 u15 u16 u17 u18 u19 u20 u21 u22 u23 u24 u25 u26 u27 u29 u30 u31 u32 u33 bl:Value) (ds:List Deferred),a={ tmps:=#[.func (.yield l) #[] #[],.pointer (some ⟨Bs,0,none⟩),.pointer (some ⟨W.heap.size,0,none⟩),undef,u4,undef,u6,u7,.slice sp.dO O.length sp.df,.int .i64 O.length,.int .i64 j,u11,u12,u13,u14,u15,u16,u17,u18,u19,u20,u21,u22,u23,u24,u25,u26,u27,undef,u29,u30,u31,u32,u33,bl],defers:=ds } /\
   j<=O.length/\J ((O.take j).flatMap aa.pre) wr/\Below n₀ W0 wr/\W.heap.size<wr.heap.size/\wr.heap[W.heap.size]?=some (.cells #[.func (.yield l) #[] #[]] 58 (0,0))/\iw W.heap.size ds wr)
   (λa _=>O.length - (intOf (a.tmps.getD 10 undef)).toNat) ?atStart ?round
 case atStart=>exact⟨0,_,_,_,_,_,_,_,_,_,_,_,_,_,_,_,_,_,_,_,_,_,_,_,_,_,_,[],rfl,aH _,by simpa using cc.o,cm,cw,cg.o,trivial⟩
 case round =>
  rintro a wr ⟨j,u4,u6,u7,u11,u12,u13,u14,u15,u16,u17,u18,u19,u20,u21,u22,u23,u24,u25,u26,u27,u29,u30,u31,u32,u33,bl,ds,rfl,hj,ck,cp,cx,ca,cv⟩;have cd:=ae ck;have c5:=ae ca;have ce:=ae cv;have d0:=one_cell ca;clear ck ca cv cc cg c0;by_cases a1:j<O.length
  .obtain⟨b,off,eA,_,al⟩:=(row.below cp).row (by omega)
   have cy:O.take (j+1)=O.take j++[O[j]]:=aG a1;have k0:wr.cell? ⟨b,off+j*6,none⟩=some (.int .u8 O[j].bI):=al j a1 0 _ rfl;have k1:wr.cell? ⟨b,off+j*6+1,none⟩=some (.string O[j].aT):=al j a1 1 _ rfl;have k2:wr.cell? ⟨b,off+j*6+2,none⟩=some (.slice O[j].es.dO O[j].bf.length O[j].es.df):=al j a1 2 _ rfl;have k3:wr.cell? ⟨b,off+j*6+3,none⟩=some (.int .i64 O[j].gT):=al j a1 3 _ rfl;have k4:wr.cell? ⟨b,off+j*6+4,none⟩=some (.slice O[j].ts.dO O[j].gy.length O[j].ts.df):=al j a1 4 _ rfl;have k5:wr.cell? ⟨b,off+j*6+5,none⟩=some (.slice O[j].os.dO O[j].iD.length O[j].os.df):=al j a1 5 _ rfl;have a8:=ae cy;have cf:=ae (HQ.o _ (ak a1));generalize O[j]=s at *;have cG:(0:Int)<=(j:Int):=by omega
   have cI:(j:Int)+1<=9223372036854775807:=by omega
   have cH:(j:Int)<(O.length:Int):=by omega
   clear al cy;rw[eA];clear eA;have ab:=jc wr (.cells s.r 43);obtain⟨fn,tmps,assign,eY,hy,hR⟩:=HY.o ((O.take j).flatMap aa.pre) s (wr.alloc (.cells s.r 43)) (hJ.alloc _ cd.o) (by
    have h1:O.take (j+1) <+: O:=List.take_prefix _ _;obtain⟨r,hr⟩:=h1
    conv=>rhs;rw[<-hr,a8.o]
    simp only[bT,ay,bA,aa.pre_eq s,aF];omega) (by
    obtain⟨r,hr⟩:O.take (j+1) <+: O:=List.take_prefix _ _;refine⟨s.gy.flatMap aa.pre++s.iD.flatMap aa.pre++r.flatMap aa.pre,?_⟩
    conv=>rhs;rw[<-hr,a8.o]
    simp[bT,aa.pre_eq s,aY])
   dsimp only[aa.val,Sp.val]at hy
   gi_wp2
   refine⟨λh=>by(cases h),hR.mono ?_⟩;have b9:=gM wr (.cells s.r 43);have bC:=(ab.block W.heap.size cx).trans c5.o;have bt:iw W.heap.size ds (wr.alloc (.cells s.r 43)):=ce.o.fE (λD _ U=>(ab.block D (dM U).1).trans U);have bd:=cp.trans (ab.mono (by omega));have cM:=ab.size;have hE:=λ(cE:Sp) (n':Nat) (w':World)=>Bj cE n' w'
   simp only[Sp.val]at hE;have HE:=ae hE;clear hR hy k0 k1 k2 k3 k4 k5 d0 hE;generalize wr.alloc (.cells s.r 43)=wa at *;rintro o3 W3 (⟨rfl,aE,aw,co⟩|⟨rfl,aE,aw⟩)
   .have cl:=aw.cells _ _ _ _ b9 rfl
    have ch:=ae (aw.cells _ _ _ _ bC rfl);have bo:=ae (bt.fE (λD hB U=>aw.same D _ hB U rfl));have cn:=bd.trans co;have cF:=aw.size;have bm:=ae aE;obtain⟨q0,q1,q2,q3,q4,q5⟩:=aR cl;clear cl aE b9 bC bt aw co bd
    gi_wp2
    refine wpIn_loop (λa V=>∃(i:Nat) (u6 u7 u24 u25 u26 u27 u29 u30 u31 u32 u33:Value) (an:List Deferred),a={ tmps:=#[.func (.yield l) #[] #[],.pointer (some ⟨Bs,0,none⟩),.pointer (some ⟨W.heap.size,0,none⟩),undef,.pointer (some ⟨wr.heap.size,0,none⟩),undef,u6,u7,.slice (some ⟨b,off,none⟩) O.length sp.df,.int .i64 O.length,.int .i64 j,.bool true,.pointer (some ⟨b,off+j*6,none⟩),.agg s.r,.func (.yield l) #[] #[],.agg s.r,.bool true,.bool false,.pointer (some ⟨wr.heap.size,4,none⟩),.slice s.ts.dO s.gy.length s.ts.df,.pointer (some ⟨wr.heap.size,5,none⟩),.slice s.os.dO s.iD.length s.os.df,.agg #[.slice s.ts.dO s.gy.length s.ts.df,.slice s.os.dO s.iD.length s.os.df],.int .i64 i,u24,u25,u26,u27,undef,u29,u30,u31,u32,u33,bl],defers:=an } /\
      i<=2/\J ((O.take j).flatMap aa.pre++[s]++mP s i) V/\Below n₀ W0 V/\W.heap.size<V.heap.size/\V.heap[W.heap.size]?=some (.cells #[.func (.yield l) #[] #[]] 58 (0,0))/\iw W.heap.size an V)
      (λa _=>2 - (intOf (a.tmps.getD 23 undef)).toNat) ?atStart ?round
    case atStart=>exact⟨0,_,_,_,_,_,_,_,_,_,_,_,ds,rfl,by omega,by simpa[mP]using bm.o,cn,by omega,ch.o,bo.o⟩
    case round =>
     rintro a V ⟨i,u6,u7,u24,u25,u26,u27,u29,u30,u31,u32,u33,an,rfl,hi,cj,b7,bk,c4,ct⟩;have bw:=ae cj;have b1:=ae c4;have b0:=ae ct;clear cj c4 ct bm ch bo q0 q1 q2 q3 q4 q5;rcases(show i=0\/i=1\/i=2 by omega)with rfl|rfl|rfl
     .have c8:=KE s.ts s.os s.gy.length s.iD.length
      gi_wp2_with (refine⟨trivial,λh=>(by cases h),?_⟩;gi_at_call 109;refine(callsIn_wide.2 (HE.o s.ts s.gy.length _)).mono ?_;rintro o4 w4 ⟨rfl,rfl⟩)
      have ao:=jc V (.cells #[.slice s.ts.dO s.gy.length s.ts.df] 33);have b3:=gM V (.cells #[.slice s.ts.dO s.gy.length s.ts.df] 33);have b5:J ((O.take j).flatMap aa.pre++[s]++mP s 0) (V.alloc (.cells #[.slice s.ts.dO s.gy.length s.ts.df] 33)):=hJ.alloc _ bw.o;generalize V.alloc (.cells #[.slice s.ts.dO s.gy.length s.ts.df] 33)=w5 at *;have cC:=ao.size;have be:Below n₀ W0 w5:=b7.trans (ao.mono (by omega));have b6:=(ao.block W.heap.size bk).trans b1.o;have bc:iw W.heap.size an w5:=b0.o.fE (λD _ U=>(ao.block D (dM U).1).trans U);have ar:Hid (∀d∈an,∀D,d.target=.collected D->D<w5.heap.size):=ae λd hd D U=>by
       obtain⟨D',e',bi⟩:=bc.lt d hd;rw[U]at e';cases e'
       exact bi
      have aq:∃r,O.flatMap aa.pre=((O.take j).flatMap aa.pre++[s]++mP s 0)++(s.gy.flatMap aa.pre++r):=by
       obtain⟨r,hr⟩:O.take (j+1) <+: O:=List.take_prefix _ _;refine⟨s.iD.flatMap aa.pre++r.flatMap aa.pre,?_⟩
       conv=>lhs;rw[<-hr,a8.o]
       simp only[bT,bA,dV,aa.pre_eq s,mP];simp[aY]
      have cD:(s.gy.flatMap aa.pre).length+((O.take j).flatMap aa.pre++[s]++mP s 0).length<=(O.flatMap aa.pre).length:=by
       obtain⟨r,hr⟩:=aq;rw[hr];simp only[ay];omega
      have a3:∀pre,pre <+: s.gy.flatMap aa.pre->((O.take j).flatMap aa.pre++[s]++mP s 0)++pre <+: O.flatMap aa.pre:=by
       intro pre bj;obtain⟨r,hr⟩:=aq;obtain⟨r1,b8⟩:=bj;exact⟨r1++r,by rw[hr,<-b8];simp[aY]⟩
      clear aq;refine jS (T:=TT) rfl (λh=>by cases h) (gf:=169) (lb:=#[.pointer (some ⟨V.heap.size,0,none⟩)]) rfl trivial (enters_of Tryz.func169 (by kernel_rfl) rfl)
       (cf.o.1 (n - 1) w5 V.heap.size be (by omega) b3) (by omega) (ag _ _) (λ_=>rfl)
       (λpre W'=>(J (((O.take j).flatMap aa.pre++[s]++mP s 0)++pre) W'/\W'.heap[W.heap.size]?=some (.cells #[.func (.yield l) #[] #[]] 58 (0,0))/\iw W.heap.size an W')/\Below n₀ W0 W'/\w5.heap.size<=W'.heap.size)
       (λc pre W'=>c=.ret/\Jx (((O.take j).flatMap aa.pre++[s]++mP s 0)++pre) W'/\iw W.heap.size an W')
       ?hI ?hIx ⟨⟨by simpa using b5,b6,bc⟩,be,af _⟩
       (λy a' W'=>∃ad,W'.heap[ad]?=some (.cells y.cells.toArray 43 (0,0))/\a'={ tmps:=#[.func (.yield l) #[] #[],.pointer (some ⟨Bs,0,none⟩),.pointer (some ⟨W.heap.size,0,none⟩),undef,.pointer (some ⟨wr.heap.size,0,none⟩),undef,.slice s.ts.dO s.gy.length s.ts.df,.pointer (some ⟨ad,0,none⟩),.slice (some ⟨b,off,none⟩) O.length sp.df,.int .i64 O.length,.int .i64 j,.bool true,.pointer (some ⟨b,off+j*6,none⟩),.agg s.r,.func (.yield l) #[] #[],.agg s.r,.bool true,.bool false,.pointer (some ⟨wr.heap.size,4,none⟩),.slice s.ts.dO s.gy.length s.ts.df,.pointer (some ⟨wr.heap.size,5,none⟩),.slice s.os.dO s.iD.length s.os.df,.agg #[.slice s.ts.dO s.gy.length s.ts.df,.slice s.os.dO s.iD.length s.os.df],.int .i64 0,.bool true,.slice s.ts.dO s.gy.length s.ts.df,.slice s.ts.dO s.gy.length s.ts.df,.func (.func 169) #[] #[.pointer (some ⟨V.heap.size,0,none⟩)],y.val,u29,u30,u31,u32,u33,bl],defers:=[] })
       ?hAx ?assign ?eY ?done ?stop
      case hI =>
       rintro s' X Y rw⟨⟨h1,h2,h3⟩,h4,h5⟩ hg hr;refine⟨⟨FN hJ (by omega) _ X Y rw h1 hg hr,(hg.block W.heap.size (by omega) (λe'=>by have:=(hr _ e'.symm).1;omega)).trans h2,h3.keepsIn (λd hd D U _ hX=>(hg.block D (dM hX).1 (λe'=>?_)).trans hX)⟩,h4.grown hg (by omega) (λq hq=>by have:=(hr q hq).1;omega),ai h5 hg.size⟩;have h6:=(hr _ e'.symm).1;have h7:=ar.o d hd D U;omega
      case hIx =>
       rintro c s' X Y rw⟨hc,h1,h3⟩ hg hr;refine⟨hc,FN ba (by omega) _ X Y rw h1 hg hr,h3.keepsIn (λd hd D U _ hX=>(hg.block D (dM hX).1 (λe'=>?_)).trans hX)⟩;have h6:=(hr _ e'.symm).1;have h7:=ar.o d hd D U;omega
      case hAx =>
       rintro y a' _ X Y rw⟨ad,h1,h2⟩ hg hr;refine⟨ad,(hg.block ad (dM h1).1 (λe'=>?_)).trans h1,h2⟩;obtain⟨_,o',ho,hc⟩:=hr ad e'.symm;rw[h1]at ho;cases ho
       cases hc
      case assign =>
       rintro l2 pre y Wc K ⟨⟨h1,h2,h3⟩,h4,h5⟩ hK;have H1:=ae h1;have H2:=ae h2;have H3:=ae h3;clear h1 h2 h3;simp only[aa.val,Sp.val]at hK ⊢
       gi_wp2
       have ab:=jc Wc (.cells #[.int .u8 y.bI,.string y.aT,.slice y.es.dO y.bf.length y.es.df,.int .i64 y.gT,.slice y.ts.dO y.gy.length y.ts.df,.slice y.os.dO y.iD.length y.os.df] 43);exact hK _ _ (dD.of_below ab) (ab.mono (by omega)) ⟨⟨hJ.alloc _ H1.o,(ab.block W.heap.size (by omega)).trans H2.o,H3.o.fE (λD _ U=>(ab.block D (dM U).1).trans U)⟩,h4.trans (ab.mono (by omega)),by have:=ab.size;omega⟩ ⟨_,gM _ _,rfl⟩
      case eY =>
       rintro l2 pre y a' Wc _ ⟨⟨h1,h2,h3⟩,h4,h5⟩ ⟨ad,hby,rfl⟩ cr hsp;simp only[aa.cells,Sp.val]at hby
       have d0:=one_cell h2;obtain⟨q0,q1,q2,q3,q4,q5⟩:=aR hby
       obtain⟨c6,cb,a9,b2,hy,hR⟩:=HY.o _ y Wc h1 (by rw[ay];omega) (by rw[aY];exact a3 _ hsp)
       dsimp only[aa.val,Sp.val]at hy
       have H2:=ae h2;have H3:=ae h3;clear h1 h2 h3 hby
       simp only[aa.val,Sp.val]
       gi_wp2
       refine⟨λh=>by(cases h),(DZ _ _ hR).mono ?_⟩;clear hR hy;rintro o6 W6 (⟨rfl,ap,am,bh⟩|⟨rfl,ap,am⟩)
       .have a4:=ae ap
        clear ap
        gi_wp2
        exact⟨am.up (by omega),bh,⟨by rw[<-aY];exact a4.o,am.cells _ _ _ _ H2.o rfl,H3.o.fE (λD hB U=>am.same D _ hB U rfl)⟩,h4.trans bh,ai h5 am.size⟩
       .have a4:=ae ap
        clear ap
        gi_wp2
        exact⟨am.up (by omega),rfl,by rw[<-aY];exact a4.o,H3.o.fE (λD hB U=>am.same D _ hB U rfl)⟩
      case done =>
       rintro Dq ys Wd U rfl ⟨⟨h1,h2,h3⟩,h4,h5⟩ hK;have H1:=ae h1;have H2:=ae h2;have H3:=ae h3;have a5:=ae hK;clear h1 h2 h3 hK
       gi_wp2
       refine⟨⟨1,_,_,_,_,_,_,_,_,_,_,_,{ target:=.collected Dq,args:=#[] }::an,rfl,by omega,?_,h4,by omega,H2.o,Dq,rfl,by omega,a5.o,λd' a6 e'=>by have:=ar.o d' a6 Dq e';omega,H3.o⟩,by simp[intOf]⟩;rw[Dc s 0 (by omega),<-aY];exact H1.o
      case stop =>
       rintro Dq c pre Wd U hp ⟨rfl,h1,h3⟩ hK;have H1:=ae h1;have H3:=ae h3;have a5:=ae hK;clear h1 h3 hK
       gi_wp2
       refine l5 (B:=W.heap.size) (λW'=>Jx (((O.take j).flatMap aa.pre++[s]++mP s 0)++pre) W') (λW' l' o' a7 h hB hl hc=>ba.putObj a7 h hB hl hc) (λW' h=>⟨_,results_none rfl _ _ _,⟨_,rfl⟩,.inr ⟨_,a3 pre hp,h⟩⟩) _ Wd ⟨Dq,rfl,by omega,a5.o,λd' a6 e'=>by have:=ar.o d' a6 Dq e';omega,H3.o⟩ H1.o
     .have c8:=KF s.ts s.os s.gy.length s.iD.length
      gi_wp2_with (refine⟨trivial,λh=>(by cases h),?_⟩;gi_at_call 109;refine(callsIn_wide.2 (HE.o s.os s.iD.length _)).mono ?_;rintro o4 w4 ⟨rfl,rfl⟩)
      have ao:=jc V (.cells #[.slice s.os.dO s.iD.length s.os.df] 33);have b3:=gM V (.cells #[.slice s.os.dO s.iD.length s.os.df] 33);have b5:J ((O.take j).flatMap aa.pre++[s]++mP s 1) (V.alloc (.cells #[.slice s.os.dO s.iD.length s.os.df] 33)):=hJ.alloc _ bw.o;generalize V.alloc (.cells #[.slice s.os.dO s.iD.length s.os.df] 33)=w5 at *;have cC:=ao.size;have be:Below n₀ W0 w5:=b7.trans (ao.mono (by omega));have b6:=(ao.block W.heap.size bk).trans b1.o;have bc:iw W.heap.size an w5:=b0.o.fE (λD _ U=>(ao.block D (dM U).1).trans U);have ar:Hid (∀d∈an,∀D,d.target=.collected D->D<w5.heap.size):=ae λd hd D U=>by
       obtain⟨D',e',bi⟩:=bc.lt d hd;rw[U]at e';cases e'
       exact bi
      have aq:∃r,O.flatMap aa.pre=((O.take j).flatMap aa.pre++[s]++mP s 1)++(s.iD.flatMap aa.pre++r):=by
       obtain⟨r,hr⟩:O.take (j+1) <+: O:=List.take_prefix _ _;refine⟨r.flatMap aa.pre,?_⟩
       conv=>lhs;rw[<-hr,a8.o]
       simp only[bT,bA,dV,aa.pre_eq s,mP];simp[aY]
      have cD:(s.iD.flatMap aa.pre).length+((O.take j).flatMap aa.pre++[s]++mP s 1).length<=(O.flatMap aa.pre).length:=by
       obtain⟨r,hr⟩:=aq;rw[hr];simp only[ay];omega
      have a3:∀pre,pre <+: s.iD.flatMap aa.pre->((O.take j).flatMap aa.pre++[s]++mP s 1)++pre <+: O.flatMap aa.pre:=by
       intro pre bj;obtain⟨r,hr⟩:=aq;obtain⟨r1,b8⟩:=bj;exact⟨r1++r,by rw[hr,<-b8];simp[aY]⟩
      clear aq;refine jS (T:=TT) rfl (λh=>by cases h) (gf:=169) (lb:=#[.pointer (some ⟨V.heap.size,0,none⟩)]) rfl trivial (enters_of Tryz.func169 (by kernel_rfl) rfl)
       (cf.o.2 (n - 1) w5 V.heap.size be (by omega) b3) (by omega) (ag _ _) (λ_=>rfl)
       (λpre W'=>(J (((O.take j).flatMap aa.pre++[s]++mP s 1)++pre) W'/\W'.heap[W.heap.size]?=some (.cells #[.func (.yield l) #[] #[]] 58 (0,0))/\iw W.heap.size an W')/\Below n₀ W0 W'/\w5.heap.size<=W'.heap.size)
       (λc pre W'=>c=.ret/\Jx (((O.take j).flatMap aa.pre++[s]++mP s 1)++pre) W'/\iw W.heap.size an W')
       ?hI ?hIx ⟨⟨by simpa using b5,b6,bc⟩,be,af _⟩
       (λy a' W'=>∃ad,W'.heap[ad]?=some (.cells y.cells.toArray 43 (0,0))/\a'={ tmps:=#[.func (.yield l) #[] #[],.pointer (some ⟨Bs,0,none⟩),.pointer (some ⟨W.heap.size,0,none⟩),undef,.pointer (some ⟨wr.heap.size,0,none⟩),undef,.slice s.os.dO s.iD.length s.os.df,.pointer (some ⟨ad,0,none⟩),.slice (some ⟨b,off,none⟩) O.length sp.df,.int .i64 O.length,.int .i64 j,.bool true,.pointer (some ⟨b,off+j*6,none⟩),.agg s.r,.func (.yield l) #[] #[],.agg s.r,.bool true,.bool false,.pointer (some ⟨wr.heap.size,4,none⟩),.slice s.ts.dO s.gy.length s.ts.df,.pointer (some ⟨wr.heap.size,5,none⟩),.slice s.os.dO s.iD.length s.os.df,.agg #[.slice s.ts.dO s.gy.length s.ts.df,.slice s.os.dO s.iD.length s.os.df],.int .i64 1,.bool true,.slice s.os.dO s.iD.length s.os.df,.slice s.os.dO s.iD.length s.os.df,.func (.func 169) #[] #[.pointer (some ⟨V.heap.size,0,none⟩)],y.val,u29,u30,u31,u32,u33,bl],defers:=[] })
       ?hAx ?assign ?eY ?done ?stop
      case hI =>
       rintro s' X Y rw⟨⟨h1,h2,h3⟩,h4,h5⟩ hg hr;refine⟨⟨FN hJ (by omega) _ X Y rw h1 hg hr,(hg.block W.heap.size (by omega) (λe'=>by have:=(hr _ e'.symm).1;omega)).trans h2,h3.keepsIn (λd hd D U _ hX=>(hg.block D (dM hX).1 (λe'=>?_)).trans hX)⟩,h4.grown hg (by omega) (λq hq=>by have:=(hr q hq).1;omega),ai h5 hg.size⟩;have h6:=(hr _ e'.symm).1;have h7:=ar.o d hd D U;omega
      case hIx =>
       rintro c s' X Y rw⟨hc,h1,h3⟩ hg hr;refine⟨hc,FN ba (by omega) _ X Y rw h1 hg hr,h3.keepsIn (λd hd D U _ hX=>(hg.block D (dM hX).1 (λe'=>?_)).trans hX)⟩;have h6:=(hr _ e'.symm).1;have h7:=ar.o d hd D U;omega
      case hAx =>
       rintro y a' _ X Y rw⟨ad,h1,h2⟩ hg hr;refine⟨ad,(hg.block ad (dM h1).1 (λe'=>?_)).trans h1,h2⟩;obtain⟨_,o',ho,hc⟩:=hr ad e'.symm;rw[h1]at ho;cases ho
       cases hc
      case assign =>
       rintro l2 pre y Wc K ⟨⟨h1,h2,h3⟩,h4,h5⟩ hK;have H1:=ae h1;have H2:=ae h2;have H3:=ae h3;clear h1 h2 h3;simp only[aa.val,Sp.val]at hK ⊢
       gi_wp2
       have ab:=jc Wc (.cells #[.int .u8 y.bI,.string y.aT,.slice y.es.dO y.bf.length y.es.df,.int .i64 y.gT,.slice y.ts.dO y.gy.length y.ts.df,.slice y.os.dO y.iD.length y.os.df] 43);exact hK _ _ (dD.of_below ab) (ab.mono (by omega)) ⟨⟨hJ.alloc _ H1.o,(ab.block W.heap.size (by omega)).trans H2.o,H3.o.fE (λD _ U=>(ab.block D (dM U).1).trans U)⟩,h4.trans (ab.mono (by omega)),by have:=ab.size;omega⟩ ⟨_,gM _ _,rfl⟩
      case eY =>
       rintro l2 pre y a' Wc _ ⟨⟨h1,h2,h3⟩,h4,h5⟩ ⟨ad,hby,rfl⟩ cr hsp;simp only[aa.cells,Sp.val]at hby
       have d0:=one_cell h2;obtain⟨q0,q1,q2,q3,q4,q5⟩:=aR hby
       obtain⟨c6,cb,a9,b2,hy,hR⟩:=HY.o _ y Wc h1 (by rw[ay];omega) (by rw[aY];exact a3 _ hsp)
       dsimp only[aa.val,Sp.val]at hy
       have H2:=ae h2;have H3:=ae h3;clear h1 h2 h3 hby
       simp only[aa.val,Sp.val]
       gi_wp2
       refine⟨λh=>by(cases h),(DZ _ _ hR).mono ?_⟩;clear hR hy;rintro o6 W6 (⟨rfl,ap,am,bh⟩|⟨rfl,ap,am⟩)
       .have a4:=ae ap
        clear ap
        gi_wp2
        exact⟨am.up (by omega),bh,⟨by rw[<-aY];exact a4.o,am.cells _ _ _ _ H2.o rfl,H3.o.fE (λD hB U=>am.same D _ hB U rfl)⟩,h4.trans bh,ai h5 am.size⟩
       .have a4:=ae ap
        clear ap
        gi_wp2
        exact⟨am.up (by omega),rfl,by rw[<-aY];exact a4.o,H3.o.fE (λD hB U=>am.same D _ hB U rfl)⟩
      case done =>
       rintro Dq ys Wd U rfl ⟨⟨h1,h2,h3⟩,h4,h5⟩ hK;have H1:=ae h1;have H2:=ae h2;have H3:=ae h3;have a5:=ae hK;clear h1 h2 h3 hK
       gi_wp2
       refine⟨⟨2,_,_,_,_,_,_,_,_,_,_,_,{ target:=.collected Dq,args:=#[] }::an,rfl,by omega,?_,h4,by omega,H2.o,Dq,rfl,by omega,a5.o,λd' a6 e'=>by have:=ar.o d' a6 Dq e';omega,H3.o⟩,by simp[intOf]⟩;rw[Dc s 1 (by omega),<-aY];exact H1.o
      case stop =>
       rintro Dq c pre Wd U hp ⟨rfl,h1,h3⟩ hK;have H1:=ae h1;have H3:=ae h3;have a5:=ae hK;clear h1 h3 hK
       gi_wp2
       refine l5 (B:=W.heap.size) (λW'=>Jx (((O.take j).flatMap aa.pre++[s]++mP s 1)++pre) W') (λW' l' o' a7 h hB hl hc=>ba.putObj a7 h hB hl hc) (λW' h=>⟨_,results_none rfl _ _ _,⟨_,rfl⟩,.inr ⟨_,a3 pre hp,h⟩⟩) _ Wd ⟨Dq,rfl,by omega,a5.o,λd' a6 e'=>by have:=ar.o d' a6 Dq e';omega,H3.o⟩ H1.o
     .gi_wp2
      refine⟨⟨j+1,_,_,_,_,_,_,_,_,_,_,_,_,_,_,_,_,_,_,_,_,_,_,_,_,_,_,an,rfl,by omega,?_,b7,bk,b1.o,b0.o⟩,by simp[intOf];omega⟩;rw[a8.o,bT];have:=bw.o
      simpa[mP,aa.pre_eq s,aY]using this
   .have bm:=ae aE
    have bo:=ae (bt.fE (λD hB U=>aw.same D _ hB U rfl));clear aE b9 bC bt aw bd
    gi_wp2
    refine l5 (B:=W.heap.size) (λW'=>Jx ((O.take j).flatMap aa.pre++[s]) W') (λW' l' o' a7 h hB hl hc=>ba.putObj a7 h hB hl hc) (λW' h=>⟨_,results_none rfl _ _ _,⟨_,rfl⟩,.inr ⟨_,?_,h⟩⟩) ds W3 bo.o bm.o;obtain⟨r,hr⟩:O.take (j+1) <+: O:=List.take_prefix _ _;refine⟨s.gy.flatMap aa.pre++s.iD.flatMap aa.pre++r.flatMap aa.pre,?_⟩
    conv=>rhs;rw[<-hr,a8.o]
    simp[bT,aa.pre_eq s,aY]
  .obtain rfl:j=O.length:=by omega
   gi_wp2
   refine l5 (B:=W.heap.size) (λW'=>J (O.flatMap aa.pre) W') (λW' l' o' a7 h hB hl hc=>hJ.putObj a7 h hB hl hc) (λW' h=>⟨_,results_none rfl _ _ _,⟨_,rfl⟩,.inl ⟨_,rfl,h⟩⟩) ds wr ce.o ?_;have:=cd.o;rw[bW]at this;exact this
theorem Lx{n₀:Nat}{W0:World}{s:aa}(h:lV n₀ W0 s):MI n₀ W0 s.ts s.gy/\MI n₀ W0 s.os s.iD:=by
 induction h with
 |mk s k b n er ex V th D el O U=>exact⟨yK V (λt ht=>O t ht),yK D (λt ht=>U t ht)⟩
theorem F4{n₀:Nat}{W0:World}{sp:Sp}{l:List aa}(h:gq n₀ W0 sp l):MI n₀ W0 sp l:=yK h.row (λs D=>Lx (h.ok s D))
end
section
section
variable {P:Program}{ops:Array Oper}{Q:Exit->Act->World->Prop}{a:Act}{w:World}{rest:List Oper}{o:Oper}
theorem Bd(w:World)(g off:Nat)(ty:TypeId)(cs:Array Value)(d:TypeDesc)(hc:∀(j:Nat) (v:Value),cs.toList[j]?=some v->w.cell? ⟨g,off+j,none⟩=some v)
  (V:P.underlying ty=some d) (hd:(match d with|.struct _|.array _ _=>true|_=>false)=true) (hi:(P.info? ty).map (·.size)=some cs.size) :
  (loadVar ty ⟨g,off,none⟩).run P w=.ok (.agg cs) w:=by
 have hl:(loadCells ⟨g,off,none⟩ cs.toList.length).run P w=.ok cs.toList.toArray w :=
  run_loadCells_list (P:=P) w ⟨g,off,none⟩ cs.toList (λj v hv=>by
   have D:(⟨g,off,none⟩:Addr).add j=⟨g,off+j,none⟩:=by unfold Addr.add;split<;>simp_all
   rw[D];exact hc j v hv)
 cases hq:P.info? ty with
 |none=>simp[hq]at hi
 |some i =>
  have U:i.size=cs.size:=by simpa[hq]using hi
  have O:(isAgg ty).run P w=.ok true w:=by
   unfold isAgg;rw[Sem.run_bind,run_underlying V w];cases d<;>simp_all
  simp only[Array.length_toList,Array.toArray_toList]at hl;simp[loadVar,Sem.run_bind,O,sizeOf,typeInfo,hq,U,hl]
theorem uu(D:o.guard=none)(ty:TypeId)(x:Operand)(V:o.op=.load ty x)(g off:Nat)(hx:a.eval x=.pointer (some ⟨g,off,none⟩))(cs:Array Value)(d:TypeDesc)
  (hc:∀(j:Nat) (v:Value),cs.toList[j]?=some v->w.cell? ⟨g,off+j,none⟩=some v)
  (hu:P.underlying ty=some d) (U:(match d with|.struct _|.array _ _=>true|_=>false)=true) (hi:(P.info? ty).map (·.size)=some cs.size)
  (h:wpList P ops Q rest (a.put o.dst (.agg cs)) w):wpList P ops Q (o::rest) a w :=
 wpList_plain D λK O=>by
  unfold Oper.wp execOp;simp only[V,hx,Instr.loadAt,Instr.sureAddr,Sem.run_bind,Sem.run_pure,Result.andThen_ok,Bd w g off ty cs d hc hu U hi];exact O _ _ h
end
def aj.arr(p:aj):Array Value:=p.cells.toArray
theorem dZ(p:aj):(Tryz.prog.info? 35).map (·.size)=some p.arr.size:=by kernel_rfl
theorem Ct(p:aj):p.val=.agg p.arr:=rfl
theorem qQ.prog_part{K:mq}{pm:Option Nat}{E:Env}{n:Int}{over:Bool}{W:World}(h:qQ K pm E n over W):∀(j:Nat) (v:Value),K.p.arr.toList[j]?=some v->W.cell? ⟨K.q,0+j,none⟩=some v:=by
 intro j v D;refine h.cell (0+j) v ?_;have O:j<22:=(List.getElem?_eq_some_iff.1 D).1;rw[fI];have e:(K.cells pm E n over)[j]?=K.p.arr.toList[j]? := by
  rcases(show j=0\/j=1\/j=2\/j=3\/j=4\/j=5\/j=6\/j=7\/j=8\/j=9\/j=10\/j=11\/j=12\/j=13\/j=14\/j=15\/j=16\/j=17\/j=18\/j=19\/j=20\/j=21 by omega)with rfl|rfl|rfl|rfl|rfl|rfl|rfl|rfl|rfl|rfl|rfl|rfl|rfl|rfl|rfl|rfl|rfl|rfl|rfl|rfl|rfl|rfl<;>rfl
 rw[e];exact D
end
section
open Go.Lib
def MxAt(W:World):Prop:=∃m,W.cell? ⟨0,0,none⟩=some (.int .i64 m)
theorem MxAt.below{B:Nat}{W W':World}(h:MxAt W)(hb:Below B W W')(D:0<B):MxAt W':=by
 obtain⟨m,hm⟩:=h;exact⟨m,(hb.cell (p:=⟨0,0,none⟩) D).trans hm⟩
def Ll:ByteArray:=⟨#[97,98,99,100,101,102,103,104,105,106,107,108,109,110,111,112,113,114,115,116,117,118,119,120,121,122,48,49,50,51,52,53,54,55,56,57,95]⟩
theorem N9:Ll.data.toList=Bg:=by decide
def Bc:ByteArray:=⟨#[32,100,101,118,105,99,101,32,119,105,100,116,104,32,105,110,112,117,116,32,103,104,111,115,116,32,118,97,114,32,97,114,114,97,121,32,114,101,113,117,105,114,101,32,105,110,105,116,32,112,114,111,99,32,119,111,114,107,32,114,101,99,111,118,101,114,32,105,110,118,97,114,105,97,110,116,32,102,108,117,115,104,32,98,97,114,114,105,101,114,32,119,114,105,116,101,32,105,102,32,101,108,115,101,32,119,104,105,108,101,32,98,111,117,110,100,32,99,97,108,108,32,100,105,115,107,32]⟩
theorem Hd:Bc.data.toList=zt Ed:=by decide
theorem zq(t:ByteArray):t.toList.isEmpty=t.data.toList.isEmpty:=by rw[ByteArray.toList_eq]
theorem TJ(s:ByteArray):(({ data:=#[32] }:ByteArray)++s++{ data:=#[32] }).data.toList=32::(s.data.toList++[32]):=by simp
theorem KI(w:World)(s:ByteArray)(hs:s.size<=4294967200)(hmx:MxAt w) :
  Calls Tryz.prog 272 #[.string s] w λo w'=>o=.returned (.bool (kE s.data.toList))/\Below w.heap.size w w':=by
 obtain⟨m,hm⟩:=hmx;have hT:=Any.strings_Trim_laid Tryz.lays160 (by kernel_rfl) s Ll w (by omega) (by decide) (ascii_of_all (by decide));have hC:=Tryz.strings_Contains Bc ({ data:=#[32] }++s++{ data:=#[32] }) m w (by decide) hm;rw[Hd,TJ]at hC;rw[N9]at hT;have O:=zq s;have V:s.size=s.data.toList.length:=by simp
 have hG:=KH s.data.toList;unfold Gw at hG;rw[<-hG];clear hG hm;obtain⟨tr,a1⟩:∃tr,Lib.trimS s.data.toList Bg=tr:=⟨_,rfl⟩;rw[a1]at hT ⊢;obtain⟨ct,an⟩:∃ct,Lib.contains (zt Ed) (32::(s.data.toList++[32]))=ct:=⟨_,rfl⟩;rw[an]at hC ⊢;have HC:=ae hC;have HT:=ae hT;unfold Bc at HC;unfold Ll at HT;clear hC hT a1 an;cases hL:s.data.toList with
 |nil =>
  rw[hL]at O V;have aq:s.toList.isEmpty=true:=O;clear O HC HT hL;go_enter Tryz.func272,Tryz.ntmps272
  go_wp2_with fail
  go_ret
  exact⟨by simp,ag _ _⟩
 |cons c r =>
  rw[hL]at O V;have aq:s.toList.isEmpty=false:=O;have h0:0<s.size:=by rw[V];simp
  have am:s[0]'h0=c:=by
   show s.data[0]=c;rw[<-Array.getElem_toList];simp only[hL,List.getElem_cons_zero]
  have ad:=ae V;clear O V hL;by_cases al:s.size<=16
  .have ao:decide ((16:Int)<(s.size:Int))=false:=az (by omega)
   have U:decide ((c::r).length<=16)=true:=aC (by rw[<-ad.o];exact al);rw[U];have a5:(s[0]'h0).toNat=c.toNat:=by rw[am]
   obtain⟨k,hk⟩:∃k,c.toNat=k:=⟨_,rfl⟩;have ar:lower c=decide (97<=k/\k<=122):=by unfold lower;rw[hk]
   rw[hk]at a5
   dsimp only
   rw[ar];clear ar hk am;by_cases a8:k<97
   .have ap:decide ((k:Int)<97)=true:=aC (by omega)
    have D:decide (97<=k/\k<=122)=false:=az (by omega);rw[D];clear D HC HT;go_enter Tryz.func272,Tryz.ntmps272
    go_wp2_with fail
    go_ret
    exact⟨by simp,ag _ _⟩
   .have ap:decide ((k:Int)<97)=false:=az (by omega)
    by_cases a6:122<k
    .have ab:decide ((122:Int)<(k:Int))=true:=aC (by omega)
     have D:decide (97<=k/\k<=122)=false:=az (by omega);rw[D];clear D HC HT;go_enter Tryz.func272,Tryz.ntmps272
     go_wp2_with fail
     go_ret
     exact⟨by simp,ag _ _⟩
    .have ab:decide ((122:Int)<(k:Int))=false:=az (by omega)
     have D:decide (97<=k/\k<=122)=true:=aC (by omega);rw[D];clear D;cases ct with
     |true =>
      clear HT;go_enter Tryz.func272,Tryz.ntmps272
      go_wp2_with(first|(go_at_call 279;refine HC.o.mono ?_;rintro o2 w2 ⟨rfl,rfl⟩)|fail)
      go_ret
      exact⟨by simp,ag _ _⟩
     |false =>
      have aw:=zq ⟨tr.toArray⟩;cases htt:tr.isEmpty
      all_goals
       have a7:(ByteArray.mk tr.toArray).toList.isEmpty=_:=aw.trans htt;have a3:=ae htt;clear aw htt;go_enter Tryz.func272,Tryz.ntmps272
       go_wp2_with(first|(go_at_call 279;refine HC.o.mono ?_;rintro o2 w2 ⟨rfl,rfl⟩)|(go_at_call 280;refine HT.o.mono ?_;rintro o3 w3 ⟨rfl,a4⟩)|fail)
       go_ret
       exact⟨by have h:=a3.o;cases tr<;>simp at h ⊢,a4⟩
  .have ao:decide ((16:Int)<(s.size:Int))=true:=aC (by omega)
   have U:decide ((c::r).length<=16)=false:=az (by rw[<-ad.o];exact al);rw[U];clear HC HT;go_enter Tryz.func272,Tryz.ntmps272
   go_wp2_with fail
   go_ret
   exact⟨by simp,ag _ _⟩
theorem O5(s D:List UInt8):(Lib.cut s D).1.length<=s.length/\(Lib.cut s D).2.1.length<=s.length:=by
 unfold Lib.cut
 split
 .simp;omega
 .simp
theorem DD{K:mq}{pm:Option Nat}{E:Env}{n:Int}{over:Bool}(w:World)(hk:qQ K pm E n over w)(s:ByteArray)(hs:s.size<=4294967200)(hmx:MxAt w) :
  Calls Tryz.prog 255 #[.pointer (some ⟨K.q,0,none⟩),.string s] w λo w'=>o=.returned (.bool (kH K.p s.data.toList))/\Below w.heap.size w w':=by
 have ad:=hmx;obtain⟨m,hm⟩:=hmx;have hC:=Tryz.strings_Cut s ⟨#[46]⟩ m w (by omega) hm;have an:(⟨#[46]⟩:ByteArray).data.toList=[46]:=rfl;rw[an]at hC;have ap:=EW s.data.toList;obtain⟨a7,a8⟩:=O5 s.data.toList [46];have a9:s.data.toList.length=s.size:=by simp
 have aq:kH K.p s.data.toList=if(Lib.cut s.data.toList [46]).2.2=true then(if K.p.aA.length=0 then kE (Lib.cut s.data.toList [46]).1 && kE (Lib.cut s.data.toList [46]).2.1 else kE s.data.toList) else kE s.data.toList:=by
  unfold kH;rw[ap]
  split
  .rename_i h;split at h
   .rename_i h2;rw[if_pos h2];cases h;rfl
   .cases h
  .rename_i h;split at h
   .cases h
   .rename_i h2;rw[if_neg h2]
 rw[aq];clear ap aq hm an;generalize (Lib.cut s.data.toList [46]).1=a at *;generalize (Lib.cut s.data.toList [46]).2.1=b at *;generalize (Lib.cut s.data.toList [46]).2.2=two at *;have a6:=hk.new (W':=w) (ag _ _);have V:Hid (∀(t:ByteArray) (W:World),t.size<=s.size->Below w.heap.size w W->Calls Tryz.prog 272 #[.string t] W λo w'=>o=.returned (.bool (kE t.data.toList))/\Below W.heap.size W w'):=ae λt W ht hW =>
  KI W t (by omega) (ad.below hW (by have:=hk.lt;have:=hk.q;have:=hk.n0;omega))
 have ha:(⟨a.toArray⟩:ByteArray).size<=s.size:=by show a.toArray.size<=_;simp;omega
 have hb:(⟨b.toArray⟩:ByteArray).size<=s.size:=by show b.toArray.size<=_;simp;omega
 have HA:=ae ha;have HB:=ae hb;have HC:=ae hC;have HK:=ae hk;clear hk a6 ha hb a7 a8 a9 hC hs ad;have a4:(⟨a.toArray⟩:ByteArray).data.toList=a:=by simp
 have a5:(⟨b.toArray⟩:ByteArray).data.toList=b:=by simp
 generalize (⟨a.toArray⟩:ByteArray)=ab at *;generalize (⟨b.toArray⟩:ByteArray)=bb at *;subst a4 a5;have ao:∀n,Below w.heap.size w (w.drewN n):=λn=>⟨rfl,rfl,rfl,af _,λ_ _=>rfl⟩
 have D:=ae ao;clear ao;have aw:=HK.o.c13;cases two with
 |false =>
  go_enter Tryz.func255,Tryz.ntmps255
  go_wp2_with(first|(go_at_call 19;refine HC.o.mono ?_;rintro o2 w2 ⟨rfl,nq,rfl⟩)|(go_at_call 272;refine(V.o s _ (af _) (D.o nq)).mono ?_;rintro o3 w3 ⟨rfl,O⟩)|fail)
  go_ret
  exact⟨rfl,(D.o nq).trans (O.mono (af _))⟩
 |true =>
  by_cases hp:K.p.aA.length=0
  .have hz:((K.p.aA.length:Int) == 0)=true:=beq_iff_eq.2 (by omega)
   rw[if_pos rfl,if_pos hp];clear hp;cases hia:kE ab.data.toList with
   |true =>
    have al:=ae hia;clear hia;go_enter Tryz.func255,Tryz.ntmps255
    go_upto_region 3 with (first|(go_at_call 19;refine HC.o.mono ?_;rintro o2 w2 ⟨rfl,nq,rfl⟩)|fail)
    have U:=ae (V.o ab _ HA.o (D.o nq));rw[al.o]at U;clear aw;go_wp2_with(first|(go_at_call 272;refine U.o.mono ?_;clear U;rintro o3 w3 ⟨rfl,O⟩;have am:=ae O;have ar:=ae (V.o bb w3 HB.o ((D.o nq).trans (O.mono (af _))));clear O)|(go_at_call 272;refine ar.o.mono ?_;rintro o4 w4 ⟨rfl,a3⟩)|fail)
    go_ret
    have h3:w.heap.size<=w3.heap.size:=am.o.size;have a1:Below w.heap.size w w3:=(D.o nq).trans am.o;exact⟨by rw[Bool.true_and];rfl,a1.trans (a3.mono h3)⟩
   |false =>
    have al:=ae hia;clear hia;go_enter Tryz.func255,Tryz.ntmps255
    go_upto_region 3 with (first|(go_at_call 19;refine HC.o.mono ?_;rintro o2 w2 ⟨rfl,nq,rfl⟩)|fail)
    have U:=ae (V.o ab _ HA.o (D.o nq));rw[al.o]at U;go_wp2_with(first|(go_at_call 272;refine U.o.mono ?_;rintro o3 w3 ⟨rfl,O⟩)|fail)
    go_ret
    exact⟨by rw[Bool.false_and];rfl,(D.o nq).trans (O.mono (af _))⟩
  .have hz:((K.p.aA.length:Int) == 0)=false:=beq_eq_false_iff_ne.2 (by omega)
   rw[if_pos rfl,if_neg hp];clear hp;go_enter Tryz.func255,Tryz.ntmps255
   go_wp2_with(first|(go_at_call 19;refine HC.o.mono ?_;rintro o2 w2 ⟨rfl,nq,rfl⟩)|(go_at_call 272;refine(V.o s _ (af _) (D.o nq)).mono ?_;rintro o3 w3 ⟨rfl,O⟩)|fail)
   go_ret
   exact⟨rfl,(D.o nq).trans (O.mono (af _))⟩
end
theorem MxAt.shaped{W:World}(h:W.ShapedOpen Tryz.prog):MxAt W:=Tryz.laysM144.s1_3 W h
end Go.Proofs.YtepacjkacjabbaaGreatDoor
