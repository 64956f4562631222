import Derived.Test.YtepacjkacjabbaaGreatDoorYAC
import Derived.Lib.IndexMore
import Derived.Lib.SlTrimSet
set_option linter.all false
set_option maxRecDepth 10000000
set_option maxHeartbeats 64000000
namespace Go.Proofs.YtepacjkacjabbaaGreatDoor
open Go Go.RowKit
section
attribute [local go_sem] Oper.semAt_some
theorem Uz(k:Nat):Fence.wide.room k:=λd h=>by cases h
theorem DZ{m:Nat}(U O:Nat){P:Program}{l:Nat}{f:FuncId}{tmps:Array Value}{assign D:Code}{w:World}{R:Ending->World->Prop}(h:RoundIn Fence.wide m P l f tmps assign D w R) :
  RoundIn (Fence.wide.inRound O) U P l f tmps assign D w R:=⟨h.1,λc cs _=>h.2 c cs (Uz _)⟩
def TT(t:TypeId):Bool:=t == 30 || t == 33 || t == 43 || t == 194 || t == 58
theorem FN{β:Type}{B C:Nat}{I:β->World->Prop}(h:OwnFrom B I)(D:B<=C):OwnFrom C I:=λs W W' row U O hr=>h s W W' row U O (λr e=>⟨by have:=(hr r e).1;omega,(hr r e).2⟩)
theorem E5(e:ah)(w:World) :
  Calls Tryz.prog 87 #[e.val] w λo w'=>o=.returned (.func (.func 152) #[] #[.pointer (some ⟨w.heap.size,0,none⟩)])/\w'=w.alloc (.cells e.cells.toArray 30):=by
 simp only[ah.val,ah.cells,Sp.val];go_enter Tryz.func87,Tryz.ntmps87
 go_wp2
 go_ret
 exact⟨rfl,rfl⟩
theorem aR{W:World}{b:Nat}{t:TypeId}{fr:Nat × Nat}{D O U V v4 v5:Value}(h:W.heap[b]?=some (.cells #[D,O,U,V,v4,v5] t fr)) :
  W.cell? ⟨b,0,none⟩=some D/\W.cell? ⟨b,1,none⟩=some O/\W.cell? ⟨b,2,none⟩=some U/\W.cell? ⟨b,3,none⟩=some V/\W.cell? ⟨b,4,none⟩=some v4/\W.cell? ⟨b,5,none⟩=some v5:=by
 simp[World.cell?,h]
theorem one_cell{W:World}{b:Nat}{t:TypeId}{fr:Nat × Nat}{D:Value}(h:W.heap[b]?=some (.cells #[D] t fr)):W.cell? ⟨b,0,none⟩=some D:=by
 simp[World.cell?,h]
theorem M4{n₀:Nat}{W0:World}{e:ah}(h:mM n₀ W0 e):∀(n:Nat) (w:World) (Bs:Nat),Below n₀ W0 w->n₀<=w.heap.size->w.heap[Bs]?=some (.cells e.cells.toArray 30 (0,0)) ->
  SV Fence.wide n Tryz.prog 152 #[.pointer (some ⟨Bs,0,none⟩)] (λx:ah=>#[x.val]) TT n₀ (λys=>ys=e.pre) (λpre=>pre <+: e.pre) e.pre.length w:=by
 induction h with
 |mk e k o v wd nm row cu ih =>
  intro n w Bs cg ci ar l J Jx W hW hJ bw hY h0;have IH:=ae ih;clear ih cu;have U:=ah.pre_eq e;simp only[ah.cells,Sp.val]at ar;have HY:Hid (∀pre x W1,J pre W1->pre.length<e.pre.length->pre++[x] <+: e.pre->YieldAt Fence.wide (n - 1) Tryz.prog l #[x.val] W1 λo W' =>
   (o=.returned (.bool true)/\J (pre++[x]) W'/\dD TT W.heap.size W1 W'/\Below n₀ W1 W')\/(o=.returned (.bool false)/\Jx (pre++[x]) W'/\dD TT W.heap.size W1 W')):=ae hY
  clear hY;have aE:W.heap[Bs]?=some (.cells e.r 30):=(hW.block Bs (dM ar).1).trans ar;have ch:=(dM aE).1;have a9:=(eZ W (.cells #[.func (.yield l) #[] #[]] 194) Bs ch).trans aE;have bc:=gM W (.cells #[.func (.yield l) #[] #[]] 194);have a3:Below n₀ W0 (W.alloc (.cells #[.func (.yield l) #[] #[]] 194)):=(cg.trans (hW.mono ci)).alloc (by have:=hW.size;omega) _;obtain⟨c0,c1,c2,c3,c4,c5⟩:=aR a9;have d0:=one_cell bc;obtain⟨fn,tmps,assign,eY,hy,hR⟩:=HY.o [] e (W.alloc (.cells #[.func (.yield l) #[] #[]] 194)) (hJ.alloc _ h0) (by rw[U];simp) (by rw[U];exact⟨_,rfl⟩)
  dsimp only[ah.val,Sp.val]at hy
  have be:=ae a9;have bk:=ae bc;have am:=ae U;clear a9 bc aE ar U;refine callsIn_of_wp_marks Tryz.func152 rfl trivial ?_ rfl;simp only[Tryz.ntmps152,List.size_toArray,aF,bK,Nat.reduceAdd,Nat.reduceSub,Array.replicate_succ,Array.replicate_zero,List.push_toArray,List.append_toArray,gJ,dC]
  gi_wp2
  refine⟨λh=>by(cases h),?_⟩;refine hR.mono ?_;clear hR hy c0 c1 c2 c3 c4 c5 d0;have cn:(W.alloc (.cells #[.func (.yield l) #[] #[]] 194)).heap.size=W.heap.size+1:=by simp
  rintro o3 W3 (⟨rfl,aw,a1,b2⟩|⟨rfl,aw,_⟩)
  .have bo:=a1.cells _ _ _ _ be.o rfl
   have bC:=a1.cells _ _ _ _ bk.o rfl;obtain⟨c0,c1,c2,c3,c4,c5⟩:=aR bo;have bl:=ae bC;have b1:=a3.trans b2;have bh:=ae aw;have cm:=a1.size;clear bo bC a1 b2 aw be bk a3
   gi_wp2
   refine wpIn_loop (λa wr=>∃(j:Nat) (u4 u5 u14 u15 u16 u17 u18 u20 u21 u22 u23 u24:Value) (ds:List Deferred),a={ tmps:=#[.func (.yield l) #[] #[],.pointer (some ⟨Bs,0,none⟩),.pointer (some ⟨W.heap.size,0,none⟩),undef,u4,u5,.func (.yield l) #[] #[],.agg #[.int .u8 e.bI,.int .u8 e.op,.int .u32 e.bv,.int .i64 e.aS,.string e.aT,.slice e.sp.dO e.cu.length e.sp.df],.bool true,.bool false,.pointer (some ⟨Bs,5,none⟩),.slice e.sp.dO e.cu.length e.sp.df,.int .i64 e.cu.length,.int .i64 j,u14,u15,u16,u17,u18,undef,u20,u21,u22,u23,u24],defers:=ds } /\
    j<=e.cu.length/\J (e::(e.cu.take j).flatMap ah.pre) wr/\Below n₀ W0 wr/\W.heap.size<wr.heap.size/\wr.heap[W.heap.size]?=some (.cells #[.func (.yield l) #[] #[]] 194 (0,0))/\iw W.heap.size ds wr)
    (λa _=>e.cu.length - (intOf (a.tmps.getD 13 undef)).toNat) ?atStart ?round
   case atStart=>exact⟨0,_,_,_,_,_,_,_,_,_,_,_,_,[],rfl,aH _,by simpa using bh.o,b1,by omega,bl.o,trivial⟩
   case round =>
    rintro a wr ⟨j,u4,u5,u14,u15,u16,u17,u18,u20,u21,u22,u23,u24,ds,rfl,hj,bt,b5,b8,ca,b7⟩;have bi:=ae bt;have cc:=ae ca;have bj:=ae b7;clear bt ca b7 bh bl c0 c1 c2 c3 c4 c5;by_cases ab:j<e.cu.length
    .obtain⟨b,off,eA,_,O⟩:=(row.below b5).row (by omega)
     have b9:e.cu.take (j+1)=e.cu.take j++[e.cu[j]]:=aG ab;have a4:e.cu[j]∈e.cu:=ak ab;have k0:wr.cell? ⟨b,off+j*6,none⟩=some (.int .u8 e.cu[j].bI):=O j ab 0 _ rfl;have k1:wr.cell? ⟨b,off+j*6+1,none⟩=some (.int .u8 e.cu[j].op):=O j ab 1 _ rfl;have k2:wr.cell? ⟨b,off+j*6+2,none⟩=some (.int .u32 e.cu[j].bv):=O j ab 2 _ rfl;have k3:wr.cell? ⟨b,off+j*6+3,none⟩=some (.int .i64 e.cu[j].aS):=O j ab 3 _ rfl;have k4:wr.cell? ⟨b,off+j*6+4,none⟩=some (.string e.cu[j].aT):=O j ab 4 _ rfl;have k5:wr.cell? ⟨b,off+j*6+5,none⟩=some (.slice e.cu[j].sp.dO e.cu[j].cu.length e.cu[j].sp.df):=O j ab 5 _ rfl;have a8:=ae b9;have cb:=ae (IH.o _ a4);generalize e.cu[j]=x at *;have hE:=E5 x;simp only[ah.val,Sp.val,ah.cells]at hE;have cp:(0:Int)<=(j:Int):=by omega
     have cr:(j:Int)+1<=9223372036854775807:=by
      have h1:=row.df;have V:=row.big;simp only[maxLen]at V;omega
     have cq:(j:Int)<(e.cu.length:Int):=by omega
     have HE:=ae hE;clear O b9 a4 hE;rw[eA];clear eA
     gi_wp2_with (refine⟨trivial,λh=>(by cases h),?_⟩;gi_at_call 87;refine(callsIn_wide.2 (HE.o _)).mono ?_;rintro o4 w4 ⟨rfl,rfl⟩)
     have an:Below wr.heap.size wr ((wr.alloc (.cells x.r 30)).alloc (.cells x.r 30)):=((ag _ wr).alloc (af _) _).alloc (by simp) _;have br:=gM (wr.alloc (.cells x.r 30)) (.cells x.r 30);rw[di]at br;have ce:J (e::(e.cu.take j).flatMap ah.pre) ((wr.alloc (.cells x.r 30)).alloc (.cells x.r 30)):=hJ.alloc _ (hJ.alloc _ bi.o);generalize (wr.alloc (.cells x.r 30)).alloc (.cells x.r 30)=w5 at *;have cv:=an.size;have ct:=hW.size;have b3:Below n₀ W0 w5:=b5.trans (an.mono (by omega));have cf:=(an.block W.heap.size b8).trans cc.o;have b0:iw W.heap.size ds w5:=bj.o.fE (λD _ hD=>(an.block D (dM hD).1).trans hD);have aq:Hid (∀d∈ds,∀D,d.target=.collected D->D<w5.heap.size):=ae λd hd D hD=>by
      obtain⟨D',e',b6⟩:=b0.lt d hd;rw[hD]at e';cases e'
      exact b6
     clear k0 k1 k2 k3 k4 k5 HE;have cw:x.pre.length+(e::(e.cu.take j).flatMap ah.pre).length<=e.pre.length:=by
      rw[am.o];have h1:e.cu.take (j+1) <+: e.cu:=List.take_prefix _ _;obtain⟨r,hr⟩:=h1;have V:(e.cu.flatMap ah.pre).length=((e.cu.take (j+1)).flatMap ah.pre).length+(r.flatMap ah.pre).length:=by
       rw[<-ay,<-bT,hr]
      rw[a8.o,bT,ay]at V;simp only[bA,dV,aP]at V;simp only[aF];omega
     have a5:∀pre,pre <+: x.pre->(e::(e.cu.take j).flatMap ah.pre)++pre <+: e.pre:=by
      intro pre U;rw[am.o];obtain⟨r1,cj⟩:=U;obtain⟨r,hr⟩:e.cu.take (j+1) <+: e.cu:=List.take_prefix _ _;refine⟨r1++r.flatMap ah.pre,?_⟩
      conv=>rhs;rw[<-hr,a8.o]
      simp only[bT,bA,dV,dC,aY];rw[<-cj];simp[aY]
     refine jS (T:=TT) rfl (λh=>by cases h) (gf:=152) (lb:=#[.pointer (some ⟨wr.heap.size+1,0,none⟩)]) rfl trivial (enters_of Tryz.func152 (by kernel_rfl) rfl)
      (cb.o (n - 1) w5 (wr.heap.size+1) b3 (by omega) br) (by omega) (ag _ _) (λ_=>rfl)
      (λpre W'=>(J ((e::(e.cu.take j).flatMap ah.pre)++pre) W'/\W'.heap[W.heap.size]?=some (.cells #[.func (.yield l) #[] #[]] 194 (0,0))/\iw W.heap.size ds W')/\Below n₀ W0 W'/\w5.heap.size<=W'.heap.size)
      (λc pre W'=>c=.ret/\Jx ((e::(e.cu.take j).flatMap ah.pre)++pre) W'/\iw W.heap.size ds W')
      ?hI ?hIx ⟨⟨by simpa using ce,cf,b0⟩,b3,af _⟩
      (λy a' W'=>∃ad,W'.heap[ad]?=some (.cells y.cells.toArray 30 (0,0))/\a'={ tmps:=#[.func (.yield l) #[] #[],.pointer (some ⟨Bs,0,none⟩),.pointer (some ⟨W.heap.size,0,none⟩),undef,.pointer (some ⟨wr.heap.size,0,none⟩),.pointer (some ⟨ad,0,none⟩),.func (.yield l) #[] #[],.agg #[.int .u8 e.bI,.int .u8 e.op,.int .u32 e.bv,.int .i64 e.aS,.string e.aT,.slice (some ⟨b,off,none⟩) e.cu.length e.sp.df],.bool true,.bool false,.pointer (some ⟨Bs,5,none⟩),.slice (some ⟨b,off,none⟩) e.cu.length e.sp.df,.int .i64 e.cu.length,.int .i64 j,.bool true,.pointer (some ⟨b,off+j*6,none⟩),.agg x.r,.agg x.r,.func (.func 152) #[] #[.pointer (some ⟨wr.heap.size+1,0,none⟩)],y.val,u20,u21,u22,u23,u24],defers:=[] })
      ?hAx ?assign ?eY ?done ?stop
     case hI =>
      rintro s X Y rw⟨⟨h1,V,h3⟩,h4,h5⟩ hg hr;refine⟨⟨FN hJ (by omega) _ X Y rw h1 hg hr,(hg.block W.heap.size (by omega) (λe'=>by have:=(hr _ e'.symm).1;omega)).trans V,h3.keepsIn (λd hd D hD _ hX=>(hg.block D (dM hX).1 (λe'=>?_)).trans hX)⟩,h4.grown hg (by omega) (λq hq=>by have:=(hr q hq).1;omega),ai h5 hg.size⟩;have h6:=(hr _ e'.symm).1;have h7:=aq.o d hd D hD;omega
     case hIx =>
      rintro c s X Y rw⟨hc,h1,h3⟩ hg hr;refine⟨hc,FN bw (by omega) _ X Y rw h1 hg hr,h3.keepsIn (λd hd D hD _ hX=>(hg.block D (dM hX).1 (λe'=>?_)).trans hX)⟩;have h6:=(hr _ e'.symm).1;have h7:=aq.o d hd D hD;omega
     case hAx =>
      rintro y a' _ X Y rw⟨ad,h1,V⟩ hg hr;refine⟨ad,(hg.block ad (dM h1).1 (λe'=>?_)).trans h1,V⟩;obtain⟨_,o',ho,hc⟩:=hr ad e'.symm;rw[h1]at ho;cases ho
      cases hc
     case assign =>
      rintro l2 pre y Wc K ⟨⟨h1,V,h3⟩,h4,h5⟩ hK;have H1:=ae h1;have H2:=ae V;have H3:=ae h3;clear h1 V h3;simp only[ah.val,Sp.val]at hK ⊢
      gi_wp2
      have ao:=jc Wc (.cells #[.int .u8 y.bI,.int .u8 y.op,.int .u32 y.bv,.int .i64 y.aS,.string y.aT,.slice y.sp.dO y.cu.length y.sp.df] 30);exact hK _ _ (dD.of_below ao) (ao.mono (by omega)) ⟨⟨hJ.alloc _ H1.o,(ao.block W.heap.size (by omega)).trans H2.o,H3.o.fE (λD _ hD=>(ao.block D (dM hD).1).trans hD)⟩,h4.trans (ao.mono (by omega)),by have:=ao.size;omega⟩ ⟨_,gM _ _,rfl⟩
     case eY =>
      rintro l2 pre y a' Wc _ ⟨⟨h1,V,h3⟩,h4,h5⟩ ⟨ad,hby,rfl⟩ cl hsp;simp only[ah.cells,Sp.val]at hby
      have d0:=one_cell V;obtain⟨q0,q1,q2,q3,q4,q5⟩:=aR hby
      obtain⟨co,ck,bm,cd,hy,hR⟩:=HY.o _ y Wc h1 (by rw[ay];omega) (by rw[aY];exact a5 _ hsp)
      dsimp only[ah.val,Sp.val]at hy
      have H2:=ae V;have H3:=ae h3;clear h1 V h3 hby
      simp only[ah.val,Sp.val]
      gi_wp2
      refine⟨λh=>by(cases h),(DZ _ _ hR).mono ?_⟩;clear hR hy;rintro o6 W6 (⟨rfl,ap,al,b4⟩|⟨rfl,ap,al⟩)
      .have a6:=ae ap
       clear ap
       gi_wp2
       exact⟨al.up (by omega),b4,⟨by rw[<-aY];exact a6.o,al.cells _ _ _ _ H2.o rfl,H3.o.fE (λD hB hD=>al.same D _ hB hD rfl)⟩,h4.trans b4,ai h5 al.size⟩
      .have a6:=ae ap
       clear ap
       gi_wp2
       exact⟨al.up (by omega),rfl,by rw[<-aY];exact a6.o,H3.o.fE (λD hB hD=>al.same D _ hB hD rfl)⟩
     case done =>
      rintro Dq ys Wd hD rfl ⟨⟨h1,V,h3⟩,h4,h5⟩ hK;have H1:=ae h1;have H2:=ae V;have H3:=ae h3;have a7:=ae hK;clear h1 V h3 hK
      gi_wp2
      refine⟨⟨j+1,_,_,_,_,_,_,_,_,_,_,_,_,{ target:=.collected Dq,args:=#[] }::ds,rfl,by omega,?_,h4,by omega,H2.o,Dq,rfl,by omega,a7.o,λd' ba e'=>by have:=aq.o d' ba Dq e';omega,H3.o⟩,by simp[intOf];omega⟩;rw[a8.o,bT]
      simpa using H1.o
     case stop =>
      rintro Dq c pre Wd hD hp ⟨rfl,h1,h3⟩ hK;have H1:=ae h1;have H3:=ae h3;have a7:=ae hK;clear h1 h3 hK
      gi_wp2
      refine l5 (B:=W.heap.size) (λW'=>Jx ((e::(e.cu.take j).flatMap ah.pre)++pre) W') (λW' l' o' bd h hB hl hc=>bw.putObj bd h hB hl hc) (λW' h=>⟨_,results_none rfl _ _ _,⟨_,rfl⟩,.inr ⟨_,a5 pre hp,h⟩⟩) _ Wd ⟨Dq,rfl,by omega,a7.o,λd' ba e'=>by have:=aq.o d' ba Dq e';omega,H3.o⟩ H1.o
    .obtain rfl:j=e.cu.length:=by omega
     gi_wp2
     refine l5 (B:=W.heap.size) (λW'=>J e.pre W') (λW' l' o' bd h hB hl hc=>hJ.putObj bd h hB hl hc) (λW' h=>⟨_,results_none rfl _ _ _,⟨_,rfl⟩,.inl ⟨_,rfl,h⟩⟩) ds wr bj.o ?_;have:=bi.o;rw[bW,<-am.o]at this;exact this
  .gi_wp2
   exact⟨_,results_none rfl _ _ _,⟨_,rfl⟩,.inr ⟨[e],by rw[am.o];exact⟨_,rfl⟩,aw⟩⟩
end
def Jl(p:aj)(seen:List Nat):Nat:=((List.range p.aA.length).map λi=>if i∈seen then 0 else(lC p i).length).sum
theorem JD(f:Nat->Nat)(seen:List Nat)(i:Nat)(hs:i∉seen):∀n:Nat,((List.range n).map λj=>if j∈i::seen then 0 else f j).sum+(if i<n then f i else 0)=((List.range n).map λj=>if j∈seen then 0 else f j).sum
 |0=>by simp
 |n+1=>by
  have U:=JD f seen i hs n;rw[List.range_succ,aO,aO,fo,fo];simp only[ax,dh,bL,fH,bS];by_cases h:n=i
  .subst h
   rw[if_neg (Nat.lt_irrefl n)]at U;rw[if_pos (aD ..),if_pos (bN n),if_neg hs];omega
  .have e1:(if n∈i::seen then 0 else f n)=(if n∈seen then 0 else f n):=by simp[h]
   rw[e1];by_cases V:i<n
   .have D:(if i<n then f i else 0)=f i:=if_pos V
    have O:(if i<n+1 then f i else 0)=f i:=if_pos (by omega);rw[D]at U;rw[O];omega
   .have D:(if i<n then f i else 0)=0:=if_neg V
    have O:(if i<n+1 then f i else 0)=0:=if_neg (by omega);rw[D]at U;rw[O];omega
theorem Lf(p:aj)(seen:List Nat)(i:Nat)(D:i∉seen)(hi:i<p.aA.length):Jl p (i::seen)+(lC p i).length=Jl p seen:=by
 have:=JD (λi=>(lC p i).length) seen i D p.aA.length;rw[if_pos hi]at this;exact this
theorem Po(p:aj):vE p=2+Jl p []:=by
 unfold vE Jl;simp
theorem KW(p:aj)(to n:Nat)(seen:List Nat):kP p to n seen []=false:=by
 cases n<;>rw[kP]
theorem KV(p:aj)(n:Nat)(seen D:List Nat)(to:Nat):kP p to (n+1) seen (to::D)=true:=by
 rw[kP,if_pos rfl]
theorem IR(p:aj)(to n i:Nat)(seen D:List Nat)(h:i≠to)(O:i∈seen):kP p to (n+1) seen (i::D)=kP p to n seen D:=by
 rw[kP,if_neg h,if_pos O]
theorem Nf(p:aj)(to n i:Nat)(seen D:List Nat)(h:i≠to)(O:i∉seen):kP p to (n+1) seen (i::D)=kP p to n (i::seen) (D++lC p i):=by
 rw[kP,if_neg h,if_neg O]
def qx(p:aj)(l:List ByteArray):List Nat:=l.filterMap λs=>(look (eG p) s).map Int.toNat
theorem Jv(p:aj)(l:List ByteArray)(s:ByteArray):qx p (l++[s])=qx p l++(match look (eG p) s with|some k=>[k.toNat]|none=>[]):=by
 unfold qx;rw[List.filterMap_append]
 congr 1
 cases h:look (eG p) s<;>simp[h]
theorem I4(p:aj)(i:Nat)(hi:i<p.aA.length):lC p i=qx p (jG (p.aA[i]).eY):=by
 unfold lC qx;rw[aX hi]
theorem wE{α:Type}(f:α->ByteArray):∀(l:List α) (n:Nat) (x:ByteArray × Int),x∈numbered f l n->∃k:Nat,x.2=k/\n<=k/\k<n+l.length
 |[],n,x,h=>by simp[numbered]at h
 |y::l,n,x,h=>by
  rw[numbered]at h;rcases List.mem_cons.1 h with e|h
  .exact⟨n,by rw[e],af _,by simp⟩
  .obtain⟨k,h1,D,O⟩:=wE f l (n+1) x h
   exact⟨k,h1,by omega,by simp;omega⟩
theorem yx{p:aj}{s:ByteArray}{k:Int}(h:look (eG p) s=some k):0<=k/\k.toNat<p.aA.length/\(k.toNat:Int)=k:=by
 unfold look at h;cases hf:(eG p).find? (λx=>decide (x.1=s))with
 |none=>rw[hf]at h;cases h
 |some x =>
  rw[hf]at h;cases h
  obtain⟨m,h1,_,D⟩:=wE _ _ _ _ (List.mem_of_find?_eq_some hf);simp only[h1,gD];exact⟨by omega,by omega,trivial⟩
theorem Ov(l:List ByteArray)(s:ByteArray):(qP l s).length<=l.length+1:=by
 unfold qP;split<;>simp
theorem ES(l:List aa):∀out:List ByteArray,(l.foldl (λout s=>if s.bI=8 then qP out s.aT else out) out).length<=out.length+l.length:=by
 induction l with
 |nil=>intro out;simp
 |cons s l D =>
  intro out;rw[il];refine ai (D _) ?_;have:=Ov out s.aT
  split<;>simp<;>omega
theorem CX(l:List aa):(jG l).length<=(l.flatMap aa.pre).length:=by
 have:=ES (l.flatMap aa.pre) []
 simpa[jG]using this
theorem FI(p:aj)(i:Nat)(hi:i<p.aA.length):(lC p i).length<=(p.aA[i].eY.flatMap aa.pre).length:=by
 rw[I4 p i hi];exact ai (List.length_filterMap_le _ _) (CX _)
theorem MN(l:List aa)(P:ByteArray->Prop)(hl:∀t∈l,P t.aT):∀out:List ByteArray,(∀s∈out,P s)->∀s∈l.foldl (λout s=>if s.bI=8 then qP out s.aT else out) out,P s:=by
 induction l with
 |nil=>intro out h;exact h
 |cons t l O =>
  intro out h;rw[il];refine O (λx hx=>hl x (au _ hx)) _ ?_
  split
  .intro s D
   unfold qP at D
   split at D
   .exact h s D
   .rcases List.mem_append.1 D with D|D
    .exact h s D
    .rw[List.mem_singleton.1 D];exact hl t (aD ..)
  .exact h
theorem CY(l:List aa)(P:ByteArray->Prop)(hl:∀t∈l.flatMap aa.pre,P t.aT):∀s∈jG l,P s :=
 MN _ P hl [] (λ_ h=>absurd h (by simp))
theorem Oe(p:aj)(l:List ByteArray):∀k∈qx p l,k<p.aA.length:=by
 intro k hk;unfold qx at hk;obtain⟨s,_,h⟩:=List.mem_filterMap.1 hk;cases hl:look (eG p) s with
 |none=>rw[hl]at h;cases h
 |some x =>
  rw[hl]at h;simp at h;have:=yx hl;omega
section
mutual
def bX:ah->ah
 |.mk k o v w n _ l=>.mk k o v w n Sp.none (Au l)
def Au:List ah->List ah
 |[]=>[]
 |e::l=>bX e::Au l
end
theorem Aw:∀l:List ah,Au l=l.map bX
 |[]=>by rw[Au];rfl
 |e::l=>by rw[Au,Aw l];rfl
theorem jW(k o v w:Int)(n:ByteArray)(sp:Sp)(l:List ah):bX (.mk k o v w n sp l)=.mk k o v w n Sp.none (l.map bX):=by rw[bX,Aw]
mutual
def aJ:aa->aa
 |.mk k n _ ex b _ th _ el=>.mk k n Sp.none (Au ex) b Sp.none (Aq th) Sp.none (Aq el)
def Aq:List aa->List aa
 |[]=>[]
 |s::l=>aJ s::Aq l
end
theorem Ar:∀l:List aa,Aq l=l.map aJ
 |[]=>by rw[Aq];rfl
 |e::l=>by rw[Aq,Ar l];rfl
theorem dS(k b:Int)(n:ByteArray)(es ts os:Sp)(ex:List ah)(th el:List aa):aJ (.mk k n es ex b ts th os el)=.mk k n Sp.none (ex.map bX) b Sp.none (th.map aJ) Sp.none (el.map aJ):=by rw[aJ,Aw,Ar,Ar]
def vP(i:dH):dH:=⟨i.block,bX i.bv⟩
def gF(q:bG):bG:=⟨q.aT,Sp.none,q.bC,Sp.none,q.eY.map aJ⟩
def dx(p:aj):aj :=
 { iF:=p.iF,aS:=p.aS,is:=Sp.none,fB:=p.fB,gs:=Sp.none,ek:=p.ek,vs:=Sp.none,gp:=p.gp,«as»:=Sp.none,fP:=p.fP,eD:=bX p.eD,ns:=Sp.none,eQ:=p.eQ.map vP,rs:=Sp.none,aA:=p.aA.map gF,ws:=Sp.none,eX:=p.eX.map aJ,cs:=Sp.none,eB:=p.eB.map aJ,d9:=bX p.d9 }
section
variable (e:ah)(s:aa)
theorem uD:(bX e).bI=e.bI:=by cases e;rw[jW];rfl
theorem Ie:(bX e).op=e.op:=by cases e;rw[jW];rfl
theorem Bv:(bX e).bv=e.bv:=by cases e;rw[jW];rfl
theorem vQ:(bX e).aS=e.aS:=by cases e;rw[jW];rfl
theorem rR:(bX e).aT=e.aT:=by cases e;rw[jW];rfl
theorem rT:(bX e).cu=e.cu.map bX:=by cases e;rw[jW];rfl
theorem xX:(aJ s).bI=s.bI:=by cases s;rw[dS];rfl
theorem rQ:(aJ s).aT=s.aT:=by cases s;rw[dS];rfl
theorem Bu:(aJ s).gT=s.gT:=by cases s;rw[dS];rfl
theorem oJ:(aJ s).bf=s.bf.map bX:=by cases s;rw[dS];rfl
theorem Ap:(aJ s).gy=s.gy.map aJ:=by cases s;rw[dS];rfl
theorem Am:(aJ s).iD=s.iD.map aJ:=by cases s;rw[dS];rfl
end
section
variable (p:aj)(E:Env)
theorem Dj(s:ByteArray):dJ (dx p) E s=dJ p E s:=rfl
theorem ED(k op wd:Int)(D:ByteArray)(s0 O:Int):iW (dx p) E k op wd D s0 O=iW p E k op wd D s0 O:=rfl
end
theorem ah.ind{M:ah->Prop}(h:∀k o v w n sp l,(∀s∈l,M s)->M (.mk k o v w n sp l)):∀e,M e:=λe=>by
 refine ah.rec (motive_1:=M) (motive_2:=λl=>∀s∈l,M s) (λk o v w n sp l U=>h k o v w n sp l U) (λs D=>by cases D) (λa l O hl s D=>?_) e;rcases List.mem_cons.1 D with rfl|D
 .exact O
 .exact hl s D
theorem aa.ind{M:aa->Prop}(h:∀k n es ex b ts th os el,(∀s∈th,M s)->(∀s∈el,M s)->M (.mk k n es ex b ts th os el)):∀s,M s:=λs=>by
 refine aa.rec (motive_1:=M) (motive_2:=λl=>∀s∈l,M s) (λk n es ex b ts th os el U V=>h k n es ex b ts th os el U V) (λs D=>by cases D) (λa l O hl s D=>?_) s;rcases List.mem_cons.1 D with rfl|D
 .exact O
 .exact hl s D
theorem ic{α β:Type}{f g:α->List β}:∀{l:List α},(∀x∈l,f x=g x)->l.flatMap f=l.flatMap g
 |[],_=>rfl
 |x::l,h=>by rw[bA,bA,h x (aD ..),ic λy D=>h y (au _ D)]
theorem nY{α β:Type}{f g:α->β}{l:List α}(h:∀x∈l,f x=g x):l.map f=l.map g:=dA h
section
variable (p:aj)(E:Env)
theorem D9{l:List ah}(h:∀s∈l,fZ (dx p) E (bX s)=fZ p E s)(i:Nat):gB (dx p) E (l.map bX) i=gB p E l i:=by
 unfold gB;rw[iK];cases hi:l[i]? with
 |none=>rfl
 |some x=>exact h x (mZ hi)
theorem wQ(e:ah):fZ (dx p) E (bX e)=fZ p E e:=by
 induction e using ah.ind with
 |h k o v w n sp l D =>
  rw[jR,jR,uD,Ie,vQ,rR,rT,ED,D9 (l:=(ah.mk k o v w n sp l).cu) p E D,D9 (l:=(ah.mk k o v w n sp l).cu) p E D]
theorem uq(l:List ah)(i:Nat):gB (dx p) E (l.map bX) i=gB p E l i:=D9 p E (λs _=>wQ p E s) i
theorem Jt(e:ah):pO (bX e)=pO e:=by
 unfold pO;rw[uD,Ie,Bv,vQ,rR,rT,cZ]
theorem Hq(e:ah):iI (dx p) E (bX e)=iI p E e:=by
 unfold iI;rw[uD,Bv,vQ,rT,cZ,uq,uq,uq]
theorem sQ(a b:Int):jd (dx p) a b=jd p a b:=by
 unfold jd;rw[show(dx p).aA.length=p.aA.length from cZ _]
theorem Kc(wh:Int)(e:ah)(d:Nat):pU (dx p) E wh (bX e) d=pU p E wh e d:=by
 unfold pU iM;rw[uD,rR,Jt,Hq,sQ,Dj]
theorem uK(wh:Int)(e:ah):∀d,jv (dx p) E wh (bX e) d=jv p E wh e d:=by
 induction e using ah.ind with
 |h k o v w n sp l O =>
  intro d;rw[jY,jY,Kc,fJ,fJ,rT,List.flatMap_map]
  congr 1
  exact ic λs D=>O s D (d+1)
theorem Iz(wh:Int)(l:List ah)(d:Nat):iU (dx p) E wh (l.map bX) d=iU p E wh l d:=by
 rw[fJ,fJ,List.flatMap_map];exact ic λs _=>uK p E wh s d
theorem Kk(s:aa):qJ (aJ s)=qJ s:=by
 unfold qJ;rw[xX,Bu,rQ,oJ,Ap,Am,cZ,cZ,cZ]
theorem zI{α β:Type}(f:β->ByteArray)(g:α->β):∀(l:List α) (n:Nat),numbered f (l.map g) n=numbered (λx=>f (g x)) l n
 |[],_=>rfl
 |x::l,n=>by rw[ax,numbered,numbered,zI f g l]
theorem zL:eG (dx p)=eG p:=by
 unfold eG;rw[show(dx p).aA=p.aA.map gF from rfl,zI]
 rfl
theorem Ao(s:aa):(aJ s).pre=s.pre.map aJ:=by
 induction s using aa.ind with
 |h k n es ex b ts th os el O U =>
  rw[aa.pre_eq,aa.pre_eq,ax,aO,Ap,Am,List.flatMap_map,List.flatMap_map,List.map_flatMap,List.map_flatMap]
  congr 2
  .exact ic λs D=>O s D
  .exact ic λs D=>U s D
theorem FP(l:List aa):(l.map aJ).flatMap aa.pre=(l.flatMap aa.pre).map aJ:=by
 rw[List.flatMap_map,List.map_flatMap];exact ic λs _=>Ao s
theorem vS(l:List aa):jG (l.map aJ)=jG l:=by
 unfold jG;rw[FP,List.foldl_map];simp only[xX,rQ]
theorem DJ(i:Nat):lC (dx p) i=lC p i:=by
 unfold lC;rw[zL,show(dx p).aA[i]?=(p.aA[i]?).map gF from iK];cases p.aA[i]? with
 |none=>rfl
 |some q=>simp only[Option.map_some];rw[show(gF q).eY=q.eY.map aJ from rfl,vS]
theorem ww(O:Nat):∀(n:Nat) (seen D:List Nat),kP (dx p) O n seen D=kP p O n seen D
 |0,_,_=>rfl
 |_+1,_,[]=>rfl
 |n+1,seen,i::D=>by
  rw[kP,kP,ww O n,ww O n,DJ]
theorem IQ(a b:Nat):kF (dx p) a b=kF p a b:=by
 unfold kF vE;rw[ww,show(dx p).aA.length=p.aA.length from cZ _];simp only[DJ]
theorem CS:∀(ds:List bO) (l:List ah),oW (dx p) E ds (l.map bX)=oW p E ds l
 |[],_=>by simp[oW]
 |_::_,[]=>by simp[oW]
 |d::ds,e::l=>by rw[ax,oW,oW,wQ,CS ds l]
theorem JX(i:Nat)(l:List ah):lJ (dx p) E i (l.map bX)=lJ p E i l:=by
 unfold lJ;rw[show(dx p).aA[i]?=(p.aA[i]?).map gF from iK];cases p.aA[i]? with
 |none=>rfl
 |some q =>
  simp only[Option.map_some,cZ];rw[show(gF q).bC=q.bC from rfl,CS]
theorem JK(s:aa):jh (dx p) E (aJ s)=jh p E s:=by
 unfold jh;rw[xX,rQ,Bu,oJ,uq,uq,zL,Dj];simp only[JX,IQ]
 rfl
theorem Lv(s:aa)(d:Nat):pV (dx p) E (aJ s) d=pV p E s d:=by
 unfold pV;rw[Kk,JK,sQ]
theorem Lu(s:aa):∀d,lF (dx p) E (aJ s) d=lF p E s d:=by
 induction s using aa.ind with
 |h k n es ex b ts th os el O U =>
  intro d;rw[iH,iH,Lv,oJ,Ap,Am,Iz,jC,jC,jC,jC,List.flatMap_map,List.flatMap_map]
  congr 2
  congr 1
  .exact ic λs D=>O s D (d+1)
  .exact ic λs D=>U s D (d+1)
theorem wM(l:List aa)(d:Nat):eH (dx p) E (l.map aJ) d=eH p E l d:=by
 rw[jC,jC,List.flatMap_map];exact ic λs _=>Lu p E s d
theorem Dy(s:List UInt8):kH (dx p) s=kH p s:=by
 unfold kH;rw[show(dx p).aA.length=p.aA.length from cZ _]
theorem J8(before:List ByteArray)(a:Bool)(d:bO):tQ (dx p) before a d=tQ p before a d:=by
 unfold tQ;rw[Dy]
theorem oK(a:Bool):∀(l:List bO) (before:List ByteArray),gH (dx p) a l before=gH p a l before
 |[],_=>rfl
 |d::l,before=>by rw[gH,gH,J8,oK a l]
theorem IM(i:Nat):inside (dx p) i=inside p i:=by
 unfold inside;rw[show(dx p).aA[i]?=(p.aA[i]?).map gF from iK];cases p.aA[i]? <;>rfl
theorem La(before:List ByteArray)(i:Nat)(q:bG):nM (dx p) before i (gF q)=nM p before i q:=by
 unfold nM xP;rw[Dy,oK,IM,show(gF q).eY=q.eY.map aJ from rfl,wM]
 rfl
theorem BO:∀(l:List bG) (i:Nat) (before:List ByteArray),fO (dx p) (l.map gF) i before=fO p l i before
 |[],_,_=>rfl
 |q::l,i,before=>by rw[ax,fO,fO,La,BO l];rfl
theorem BH:∀(l:List dH) (before:List Int),jA (dx p) (l.map vP) before=jA p l before
 |[],_=>rfl
 |x::l,before=>by
  rw[ax,jA,jA,BH l];have D:xL (dx p) before (vP x)=xL p before x:=by
   unfold xL;rw[show(vP x).bv=bX x.bv from rfl,wQ]
   rfl
  rw[D,show(vP x).bv=bX x.bv from rfl,uK]
  rfl
theorem EC(k:Int):kZ (dx p) k=kZ p k:=by
 unfold kZ;rw[sQ,sQ,show(dx p).aA.length=p.aA.length from cZ _]
 rfl
theorem BD(k:Int):jf (dx p) k=jf p k:=by
 unfold jf;rw[EC,oK,oK,oK,oK];rw[show(dx p).eD=bX p.eD from rfl,show(dx p).d9=bX p.d9 from rfl,show(dx p).eQ=p.eQ.map vP from rfl,show(dx p).aA=p.aA.map gF from rfl,show(dx p).eX=p.eX.map aJ from rfl,show(dx p).eB=p.eB.map aJ from rfl];rw[uK,uK,BH,BO,wM,wM]
 rfl
end
end
abbrev uz:=Int->ByteArray->ByteArray
mutual
def Ai(g:uz):ah->ah
 |.mk k o v w n sp l=>.mk k o v w (g k n) sp (PZ g l)
def PZ(g:uz):List ah->List ah
 |[]=>[]
 |e::l=>Ai g e::PZ g l
end
theorem Mi(g:uz):∀l:List ah,PZ g l=l.map (Ai g)
 |[]=>by rw[PZ];rfl
 |e::l=>by rw[PZ,Mi g l];rfl
theorem yC(g:uz)(k o v w:Int)(n:ByteArray)(sp:Sp)(l:List ah):Ai g (.mk k o v w n sp l)=.mk k o v w (g k n) sp (l.map (Ai g)):=by rw[Ai,Mi]
mutual
def tF(g h:uz):aa->aa
 |.mk k n es ex b ts th os el=>.mk k (h k n) es (ex.map (Ai g)) b ts (Ns g h th) os (Ns g h el)
def Ns(g h:uz):List aa->List aa
 |[]=>[]
 |s::l=>tF g h s::Ns g h l
end
theorem GX(g h:uz):∀l:List aa,Ns g h l=l.map (tF g h)
 |[]=>by rw[Ns];rfl
 |e::l=>by rw[Ns,GX g h l];rfl
theorem yB(g h:uz)(k b:Int)(n:ByteArray)(es ts os:Sp)(ex:List ah)(th el:List aa):tF g h (.mk k n es ex b ts th os el)=.mk k (h k n) es (ex.map (Ai g)) b ts (th.map (tF g h)) os (el.map (tF g h)):=by rw[tF,GX,GX]
def PX:uz:=λ_ n=>n
theorem PY(e:ah):Ai PX e=e:=by
 induction e using ah.ind with
 |h k o v w n sp l D =>
  rw[yC,nY (g:=id) D,List.map_id]
  rfl
theorem Tt(s:aa):tF PX PX s=s:=by
 induction s using aa.ind with
 |h k n es ex b ts th os el D O =>
  rw[yB,nY (g:=id) D,nY (g:=id) O,nY (f:=Ai PX) (g:=id) λe _=>PY e,List.map_id,List.map_id,List.map_id]
  rfl
def En(g:uz)(e D:ah):Prop:=bX D=bX (Ai g e)
def SX(g h:uz)(s D:aa):Prop:=aJ D=aJ (tF g h s)
theorem Gq{α β γ:Type}(f:β->γ)(D:α->γ){l:List α}{l':List β}(len:l'.length=l.length)(h:∀i (h1:i<l.length) (O:i<l'.length),f l'[i]=D l[i]):l'.map f=l.map D:=by
 refine List.ext_getElem (by simpa using len) λi h1 O=>?_
 rw[List.getElem_map,List.getElem_map];exact h i (by simpa using O) (by simpa using h1)
theorem En.mk{g:uz}{k o v w:Int}{O:ByteArray}{sp D:Sp}{l l':List ah}(len:l'.length=l.length)(cu:∀i (h:i<l.length) (U:i<l'.length),En g l[i] l'[i]):En g (.mk k o v w O sp l) (.mk k o v w (g k O) D l'):=by
 unfold En;rw[yC,jW,jW,dw,Gq bX (bX ∘ Ai g) len cu]
def OT(g:uz)(l l':List ah):Prop:=l'.map bX=l.map λe=>bX (Ai g e)
def yY(g h:uz)(l l':List aa):Prop:=l'.map aJ=l.map λs=>aJ (tF g h s)
theorem OT.of{g:uz}{l l':List ah}(len:l'.length=l.length)(cu:∀i (h:i<l.length) (D:i<l'.length),En g l[i] l'[i]):OT g l l':=Gq bX (λe=>bX (Ai g e)) len cu
theorem yY.of{g h:uz}{l l':List aa}(len:l'.length=l.length)(cu:∀i (h1:i<l.length) (D:i<l'.length),SX g h l[i] l'[i]):yY g h l l':=Gq aJ (λe=>aJ (tF g h e)) len cu
theorem SX.mk{g h:uz}{k b:Int}{nm:ByteArray}{es al ts an os am:Sp}{ex O:List ah}{th ad el D:List aa}(U:OT g ex O)(ab:yY g h th ad)(V:yY g h el D) :
  SX g h (.mk k nm es ex b ts th os el) (.mk k (h k nm) al O b an ad am D):=by
 unfold SX;unfold OT at U;unfold yY at ab V;rw[yB,dS,dS,dw,dw,dw,U,ab,V]
 rfl
theorem En.same{e D:ah}(h:En PX e D):bX D=bX e:=by unfold En at h;rwa [PY]at h
theorem yY.same{l l':List aa}(h:yY PX PX l l'):l'.map aJ=l.map aJ:=by
 unfold yY at h;rw[h];exact dA λs _=>by rw[Tt]
def Sz(f t:ByteArray):uz:=λk n=>if k=2\/k=3 then(if n=f then t else n) else n
def Sy(f t:ByteArray):uz:=λk n=>if k=1\/k=2 then(if n=f then t else n) else n
def tX(τ:ByteArray->ByteArray):uz:=λk n=>if k=2\/k=3 then τ n else n
def tT(τ:ByteArray->ByteArray):uz:=λk n=>if k=1\/k=2 then τ n else n
theorem contains_cons(b:UInt8)(l D:List UInt8):Lib.contains (b::l) D=(D.isPrefixOf (b::l) || Lib.contains l D):=by
 unfold Lib.contains;rw[Lib.index];have:=Lib.index_ge l D;by_cases h:D.isPrefixOf (b::l)=true
 .rw[if_pos h,h];simp
 .rw[if_neg h,Bool.eq_false_iff.2 h,Bool.false_or]
  by_cases O:Lib.index l D=-1
  .rw[O];rfl
  .have:((Lib.index l D == -1)=true)=False:=by simp[O]
   simp only[this,if_false]
   apply decide_eq_decide.2
   omega
theorem Gl(b:UInt8)(t:List UInt8):Lib.contains [] (b::t)=false:=rfl
theorem Eu(w r t:List UInt8)(c:UInt8)(D:c∉w):Lib.contains (w++r) (c::t)=Lib.contains r (c::t):=by
 induction w with
 |nil=>rfl
 |cons x w O =>
  have h1:c≠x:=λe=>D (by rw[e];exact aD ..)
  rw[dC,contains_cons,O (λh=>D (au _ h))];have:(c::t).isPrefixOf (x::(w++r))=false:=by rw[List.isPrefixOf];simp[h1]
  rw[this,Bool.false_or]
theorem BN(r:List UInt8):∀(s w:List UInt8),32∉s->32∉w->(s++[32]).isPrefixOf (w++32::r)=decide (w=s)
 |[],[],_,_=>rfl
 |[],x::w,_,O=>by
  have h1:(32:UInt8)≠x:=λe=>O (by rw[e];exact aD ..)
  simp[List.isPrefixOf,h1]
 |y::s,[],D,_=>by
  have h1:y≠32:=λe=>D (by rw[e];exact aD ..)
  simp[List.isPrefixOf,h1]
 |y::s,x::w,D,O=>by
  have V:=BN r s w (λh=>D (au _ h)) (λh=>O (au _ h));rw[dC,dC,List.isPrefixOf,V];by_cases h:y=x
  .subst h;simp
  .have U:x≠y:=λe=>h e.symm
   simp[h,U]
def zt:List (List UInt8)->List UInt8
 |[]=>[32]
 |w::ws=>32::(w++zt ws)
theorem KJ:∀ws:List (List UInt8),∃r,zt ws=32::r
 |[]=>⟨[],rfl⟩
 |w::ws=>⟨w++zt ws,rfl⟩
theorem xJ(s:List UInt8)(O:32∉s):∀ws:List (List UInt8),(∀w∈ws,(32:UInt8)∉w)->Lib.contains (zt ws) (32::(s++[32]))=ws.any λw=>decide (w=s)
 |[],_=>by
  rw[zt,contains_cons,Gl];cases s<;>rfl
 |w::ws,D=>by
  rw[zt,contains_cons,Eu _ _ _ _ (D w (aD ..)),xJ s O ws (λx hx=>D x (au _ hx)),List.any_cons];obtain⟨r,hr⟩:=KJ ws;rw[hr,List.isPrefixOf,BN r s w O (D w (aD ..))];simp
def Ed:List (List UInt8):=words.map λw=>w.toUTF8.data.toList
theorem JJ:∀w∈Ed,(32:UInt8)∉w:=by decide
theorem qA(f:UInt8->Bool):∀l:List UInt8,l.dropWhile f=[]↔∀c∈l,f c=true
 |[]=>by simp
 |c::l=>by
  rw[List.dropWhile_cons];by_cases h:f c=true
  .rw[if_pos h,qA f l];simp[h]
  .rw[if_neg h];simp[h]
theorem OZ(f:String->List UInt8)(s:List UInt8):∀l:List String,(l.all λw=>decide (f w≠s))=!((l.map f).any λw=>decide (w=s))
 |[]=>rfl
 |w::l=>by rw[List.all_cons,OZ f s l,ax,List.any_cons];by_cases h:f w=s<;>simp[h]
theorem Oq(l cs:List UInt8):(Lib.trimS l cs=[])↔∀c∈l,cs.contains c=true:=by
 unfold Lib.trimS Lib.trimLeftS Lib.trimRightS;rw[qA]
 constructor
 .intro h c hc
  cases hd:l.reverse.dropWhile (cs.contains ·)with
  |nil=>exact(qA _ _).1 hd c (List.mem_reverse.2 hc)
  |cons x t =>
   have h1:=List.head?_dropWhile_not (cs.contains ·) l.reverse;rw[hd]at h1;have D:=h x (by rw[hd];simp);simp at h1;rw[List.contains_iff_mem]at D;exact absurd D h1
 .intro h c hc
  have h1:l.reverse.dropWhile (cs.contains ·)=[]:=(qA _ _).2 λx hx=>h x (List.mem_reverse.1 hx)
  rw[h1]at hc;cases hc
def Bg:List UInt8 := "abcdefghijklmnopqrstuvwxyz0123456789_".toUTF8.data.toList
theorem Oa:∀n:Nat,n<256->Bg.contains (UInt8.ofNat n)=wC (UInt8.ofNat n):=by decide
theorem QB(c:UInt8):Bg.contains c=wC c:=by
 have:=Oa c.toNat c.toNat_lt
 rwa [UInt8.ofNat_toNat]at this
def Gw(s:List UInt8):Bool :=
 decide (s.length<=16) && (match s with|c::_=>lower c|[]=>false) && !Lib.contains (zt Ed) (32::(s++[32])) && decide (Lib.trimS s Bg=[])
theorem KH(s:List UInt8):Gw s=kE s:=by
 unfold Gw kE;have ht:decide (Lib.trimS s Bg=[])=s.all wC:=by
  rw[ky,decide_eq_true_iff,Oq,fK]
  constructor<;>intro h c hc<;>have:=h c hc<;>rw[QB]at * <;>exact this
 rw[ht];by_cases O:s.all wC=true
 .have D:(32:UInt8)∉s:=λh=>absurd (List.all_eq_true.1 O 32 h) (by decide)
  rw[xJ s D Ed JJ,O];rw[OZ (λw=>w.toUTF8.data.toList) s words,Bool.and_true,Bool.and_true]
  rfl
 .rw[Bool.eq_false_iff.2 O]
  simp
theorem EW:∀s:List UInt8,vU s=if(Lib.cut s [46]).2.2=true then some ((Lib.cut s [46]).1,(Lib.cut s [46]).2.1) else none
 |[]=>rfl
 |c::l=>by
  have ih:=EW l;have hg:=Lib.index_ge l [46];rw[vU,ih];by_cases h:c.toNat=46
  .have hc:c=46:=UInt8.toNat.inj h
   subst hc;have h1:Lib.index (46::l) [46]=0:=by rw[Lib.index];rfl
   unfold Lib.cut;rw[h1];simp
  .have hc:c≠46:=λe=>h (by rw[e];rfl)
   have hp:[46].isPrefixOf (c::l)=false:=by
    have:(46:UInt8)≠c:=λe=>hc e.symm
    simp[List.isPrefixOf,this]
   rw[if_neg h];unfold Lib.cut;rw[Lib.index,hp];by_cases D:Lib.index l [46]=-1
   .simp[D]
   .obtain⟨k,hk⟩:∃k:Nat,Lib.index l [46]=k:=⟨(Lib.index l [46]).toNat,by omega⟩
    have O:((k:Int) == -1)=false:=by rw[iA];omega
    have U:(0:Int)<=(k:Int)+1:=by omega
    have V:((k:Int)+1).toNat=k+1:=by omega
    simp[hk,O,U,V]
mutual
def LZ:ah->ah->Bool
 |.mk k o v w n _ l,b=>decide (k=b.bI/\o=b.op/\v=b.bv/\w=b.aS/\n=b.aT) && kK l b.cu
def kK:List ah->List ah->Bool
 |[],l=>l.isEmpty
 |a::l,m=>match m with
  |b::m=>LZ a b && kK l m
  |[]=>false
end
mutual
def O7:aa->aa->Bool
 |.mk k n _ ex D _ th _ el,b=>decide (k=b.bI/\n=b.aT/\D=b.gT) && (kK ex b.bf && (kJ th b.gy && kJ el b.iD))
def kJ:List aa->List aa->Bool
 |[],l=>l.isEmpty
 |a::l,m=>match m with
  |b::m=>O7 a b && kJ l m
  |[]=>false
end
theorem L6{l:List ah}(O:∀a∈l,∀b,LZ a b=true↔bX a=bX b):∀m,kK l m=true↔l.map bX=m.map bX:=by
 induction l with
 |nil=>intro m;rw[kK];cases m<;>simp
 |cons a l D =>
  intro m;cases m with
  |nil=>simp[kK]
  |cons b m =>
   rw[kK,bg,O a (aD ..),D λx hx=>O x (au _ hx),ax,ax,List.cons.injEq]
theorem Rk(a:ah):∀b,LZ a b=true↔bX a=bX b:=by
 induction a using ah.ind with
 |h k o v w n sp l D =>
  intro b;rw[LZ,bg,aU,L6 D];obtain⟨O,U,v',w',n',V,l'⟩:=b;rw[jW,jW];show(k=O/\o=U/\v=v'/\w=w'/\n=n')/\l.map bX=l'.map bX↔_;rw[ah.mk.injEq]
  constructor
  .rintro⟨⟨rfl,rfl,rfl,rfl,rfl⟩,h⟩;exact⟨rfl,rfl,rfl,rfl,rfl,rfl,h⟩
  .rintro⟨rfl,rfl,rfl,rfl,rfl,_,h⟩;exact⟨⟨rfl,rfl,rfl,rfl,rfl⟩,h⟩
theorem Iw(l m:List ah):kK l m=true↔l.map bX=m.map bX:=L6 (λa _=>Rk a) m
theorem Gn{l:List aa}(O:∀a∈l,∀b,O7 a b=true↔aJ a=aJ b):∀m,kJ l m=true↔l.map aJ=m.map aJ:=by
 induction l with
 |nil=>intro m;rw[kJ];cases m<;>simp
 |cons a l D =>
  intro m;cases m with
  |nil=>simp[kJ]
  |cons b m =>
   rw[kJ,bg,O a (aD ..),D λx hx=>O x (au _ hx),ax,ax,List.cons.injEq]
theorem Rj(a:aa):∀b,O7 a b=true↔aJ a=aJ b:=by
 induction a using aa.ind with
 |h k n es ex bd ts th os el i1 i2 =>
  intro b;rw[O7,bg,bg,bg,aU,Iw,Gn i1,Gn i2];obtain⟨k',n',ad,U,D,am,ab,al,O⟩:=b;rw[dS,dS];show(k=k'/\n=n'/\bd=D)/\ex.map bX=U.map bX/\th.map aJ=ab.map aJ/\el.map aJ=O.map aJ↔_;rw[aa.mk.injEq]
  constructor
  .rintro⟨⟨rfl,rfl,rfl⟩,h1,V,h3⟩;exact⟨rfl,rfl,rfl,h1,rfl,rfl,V,rfl,h3⟩
  .rintro⟨rfl,rfl,_,h1,rfl,_,V,_,h3⟩;exact⟨⟨rfl,rfl,rfl⟩,h1,V,h3⟩
theorem vY(l m:List aa):kJ l m=true↔l.map aJ=m.map aJ:=Gn (λa _=>Rj a) m
end Go.Proofs.YtepacjkacjabbaaGreatDoor
