import Derived.Test.YtepacjkacjabbaaGreatDoorYAQ
import Derived.Test.YtepacjkacjabbaaGreatDoorYAP
set_option linter.all false
set_option maxRecDepth 10000000
set_option maxHeartbeats 64000000
namespace Go.Proofs.YtepacjkacjabbaaGreatDoor
open Go Go.Maps Go.RowKit
theorem gY.turned{K:mq}{w X X':World}{b:Nat}(h:gY K w X)(ht:X.mapTurned X' b)(hb:w.heap.size<=b)(hn:K.n₀<=w.heap.size):gY K w X':=by
 have D:=ht.grown;have hs:=h.size;have hne:∀(k:Nat) (o:Obj),w.heap[k]?=some o->k≠b/\k<X.heap.size:=λk o O=>by have:=(dM O).1;omega
 refine⟨ai hs D.size,λk o V O hc=>?_,λk cs t fr O hk hq=>?_,?_⟩
 .obtain⟨h1,U⟩:=hne k _ O
  exact(D.block k U (by simpa using h1)).trans (h.same k o V O hc)
 .obtain⟨h1,U⟩:=hne k _ O
  exact(D.block k U (by simpa using h1)).trans (h.cells k cs t fr O hk hq)
 .exact h.low.trans ⟨D.os,D.tape,D.output,D.size,λk hk=>D.block k (by omega) (by intro e;cases e;omega)⟩
theorem pW.turned{K:mq}{J Jx:List (Int × Int)->World->Prop}(hJ:jK 246 K.B J)(V:jK 246 K.B Jx){pm:Option Nat}{E:Env}{cs:List Int}{X X':World}{b:Nat}(h:pW K J Jx pm E cs X)(ht:X.mapTurned X' b)(hB:K.B<=b)(h1:b≠K.mt)(h2:b≠K.mp)(h3:pm≠some b):pW K J Jx pm E cs X':=by
 obtain⟨over,hk,hs⟩:=h.ex;have O:=ht.grown;obtain⟨es,cl,an,am,ab,_⟩:=id ht;have D:∀k,k≠b->k<X.heap.size->X'.heap[k]?=X.heap[k]? := λk U ad=>O.block k ad (by simpa using U)
 have al:K.q≠b:=by
  intro e;have:=hk.box;rw[e,ab]at this;cases this
 refine⟨over,⟨(D _ al hk.lt).trans hk.box,?_,?_,?_,hk.prog.below ⟨O.os,O.tape,O.output,O.size,λk U=>D k (by have:=hk.n0;omega) (by have:=hk.lt;have:=hk.q;have:=hk.n0;omega)⟩,hk.n0,hk.q,hk.mt,hk.mp⟩,hs.keep (λl hl=>hJ.turned hl hB ht) (λl hl=>V.turned hl hB ht)⟩
 .cases pm with
  |none=>exact hk.bC
  |some m =>
   obtain⟨a1,k,a2⟩:=hk.bC;exact⟨a1,k,a2.of_block (D m (λe=>h3 (by rw[e])) a2.lt)⟩
 .obtain⟨k,a2⟩:=hk.things
  exact⟨k,a2.of_block (D _ (Ne.symm h1) a2.lt)⟩
 .obtain⟨k,a2⟩:=hk.aA
  exact⟨k,a2.of_block (D _ (Ne.symm h2) a2.lt)⟩
theorem pW.maps{K:mq}{J Jx:List (Int × Int)->World->Prop}{pm:Option Nat}{E:Env}{cs:List Int}{X:World}(h:pW K J Jx pm E cs X):K.mt<X.heap.size/\K.mp<X.heap.size/\∀m,pm=some m->m<X.heap.size:=by
 obtain⟨over,hk,_⟩:=h.ex;refine⟨?_,?_,λm hm=>?_⟩
 .obtain⟨k,a2⟩:=hk.things;exact a2.lt
 .obtain⟨k,a2⟩:=hk.aA;exact a2.lt
 .subst hm
  obtain⟨_,k,a2⟩:=hk.bC;exact a2.lt
theorem DR{α:Type}[DecidableEq α]:∀(zs L:List α),zs.Nodup->(∀x∈zs,x∈L)->zs.length<=L.length
 |[],_,_,_=>aH _
 |x::zs,L,V,D=>by
  obtain⟨h1,U⟩:=List.nodup_cons.1 V;have hx:=D x (aD ..);have:=DR zs (L.erase x) U (λy O=>(List.mem_erase_of_ne (λe=>h1 (by rw[<-e];exact O))).2 (D y (au _ O)));rw[List.length_erase_of_mem hx]at this;have hp:0<L.length:=List.length_pos_of_mem hx;simp only[aF];omega
theorem vW(p:aj)(a:Bool):∀(l:List bO) (b:List ByteArray) (d:bO),gH p a (l++[d]) b=gH p a l b++[tQ p (b++l.map bO.aT) a d]
 |[],b,d=>by simp[gH]
 |x::l,b,d=>by
  rw[dC,gH,vW p a l,gH];simp
theorem tY(l:List ByteArray)(s:ByteArray):lK l s=true↔s∈l:=by
 unfold lK;simp
theorem IV{α:Type}(T:List (ByteArray × α))(s:ByteArray):(look T s).isSome=lK (T.map (·.1)) s:=by
 unfold look lK;rw[ky];simp[List.find?_isSome]
structure H7(K:mq)(n:Nat)(D:DataW Unit)(left:Lit->Bool)(zs:List ByteArray):Prop where
 nodup:zs.Nodup
 sub:∀s∈zs,s∈eO K.p
 gone:∀s∈zs,left (sM s)=false
 rest:∀s,s∈eO K.p->s.size<=maxLen->s∈zs\/left (sM s)=true
 key:∀kl,left kl=true->Maps.has D kl=true
theorem H7.step{K:mq}{n:Nat}{D:DataW Unit}{left:Lit->Bool}{zs:List ByteArray}(h:H7 K n D left zs){x:ByteArray}(hl:left (sM x)=true)(hx:x∈eO K.p):H7 K n D (λz=>left z && !z.sameKey (sM x)) (zs++[x]):=by
 have ab:x∉zs:=λhm=>by rw[h.gone x hm]at hl;cases hl
 have U:(sM x).sameKey (sM x)=true:=WideAt.sameKey_self (by trivial);refine⟨?_,?_,?_,?_,?_⟩
 .rw[j6]
  refine⟨h.nodup,by simp,λa ha b hb e=>?_⟩;rw[oI]at hb;subst hb;subst e;exact ab ha
 .intro s O
  rcases List.mem_append.1 O with O|O
  .exact h.sub s O
  .rw[List.mem_singleton.1 O];exact hx
 .intro s O
  rcases List.mem_append.1 O with O|O
  .rw[h.gone s O];rfl
  .rw[List.mem_singleton.1 O,U];simp
 .intro s O V
  rcases h.rest s O V with h1|h1
  .exact .inl (cz _ h1)
  .by_cases e:s=x
   .exact .inl (by rw[e];simp)
   .refine .inr ?_
    have hne:(sM s).sameKey (sM x)=false:=Bool.eq_false_iff.2 λh2=>e (QC (WideAt.sameKey_eq h2))
    simp[h1,hne]
 .intro kl hk
  simp at hk;exact h.key kl hk.1
theorem kG.names{W:World}{mb n n':Nat}{l l':List ByteArray}{f:ByteArray->Option Int}(h:kG W mb n l f)(U:n<=n')(hl:∀s,(f s).isSome=true->lK l' s=true)(D:∀s,lK l' s=true->lK l s=true):kG W mb n' l' f:=by
 refine⟨h.map.mono U,λs=>?_,λs c hc=>by have:=h.few s c hc;omega⟩;rw[ky];exact⟨hl s,λO=>by rw[h.has];exact D s O⟩
structure ng(p:aj):Prop where
 decls:∀d,d∈p.fB++p.ek++p.gp++p.fP->d.aT.size<=4294967200
 aA:∀q∈p.aA,q.aT.size<=4294967200/\∀d∈q.bC,d.aT.size<=4294967200
theorem JE{p:aj}(h:ng p):∀s∈eO p,s.size<=maxLen:=by
 intro s D;have e:eO p=(p.fB++p.ek++p.gp++p.fP).map bO.aT:=by
  unfold eO lH;simp[aO,dw,Function.comp_def]
 rw[e]at D;obtain⟨d,O,rfl⟩:=List.mem_map.1 D;have:=h.decls d O;unfold maxLen;omega
theorem vF(p:aj):(eO p).length=p.fB.length+p.ek.length+p.gp.length+p.fP.length:=by
 unfold eO lH;simp;omega
theorem Jg(p:aj)(l:List ByteArray)(q:bG):xP p l q=if(lK l q.aT || !kH p q.aT.data.toList)=true then 321 else if decide (8<q.bC.length)=true then 327 else 0:=by
 unfold xP;cases lK l q.aT<;>cases kH p q.aT.data.toList<;>simp
theorem Qn{K:mq}{J Jx:List (Int × Int)->World->Prop}(hJ:jK 246 K.B J)(ar:jK 246 K.B Jx)(hT:sV K J Jx)(hH:eF K.p<=20000)(hN:ng K.p)(e5:0<K.n₀){pm:Option Nat}{E:Env}{cs:List Int}(w:World)(cf:pW K J Jx pm E cs w)(hmx:MxAt w)
  (i:Nat) (hi:i<K.p.aA.length) (b1:cs.length+(nM K.p [] i K.p.aA[i]).length<=900000) {mb n:Nat}{l:List ByteArray}{f:ByteArray->Option Int}(hm:kG w mb n l f) :
  Calls Tryz.prog 231 #[.pointer (some ⟨K.q,0,none⟩),.int .i64 i,.map (some mb)] w λo w'=>o=.returned (.tuple #[])/\yQ K J Jx outside (cs++nM K.p l i K.p.aA[i]) w w':=by
 obtain⟨over,hk,-⟩:=cf.ex;have cr:K.n₀<=w.heap.size:=by have:=hk.lt;have:=hk.q;have:=hk.n0;omega
 have eE:0<w.heap.size:=by have:=hk.lt;omega
 have fm:=hk.lt;have hq:=hk.prog.aA _ (ak hi);obtain⟨b,off,eA,eW,O⟩:=hk.prog.prow.row (by omega);have k0:w.cell? ⟨b,off+i*3,none⟩=some (.string K.p.aA[i].aT):=O i hi 0 _ rfl;have k1:w.cell? ⟨b,off+i*3+1,none⟩=some (.slice K.p.aA[i].ps.dO K.p.aA[i].bC.length K.p.aA[i].ps.df):=O i hi 1 _ rfl;have k2:w.cell? ⟨b,off+i*3+2,none⟩=some (.slice K.p.aA[i].bs.dO K.p.aA[i].eY.length K.p.aA[i].bs.df):=O i hi 2 _ rfl;have cV:=hk.c13;rw[eA]at cV;have fb:(0:Int)<=(i:Int):=by omega
 have fc:(i:Int)<(K.p.aA.length:Int):=by omega
 obtain⟨e7,hnd⟩:=hN.aA _ (ak hi);have e3:inside K.p i=inside K.p i:=rfl;have cF:nM K.p l i K.p.aA[i]=xP K.p l K.p.aA[i]::(gH K.p false K.p.aA[i].bC (eO K.p)++eH K.p (inside K.p i) K.p.aA[i].eY 1):=rfl;have dv:(nM K.p [] i K.p.aA[i]).length=1+(K.p.aA[i].bC.length+(eH K.p (inside K.p i) K.p.aA[i].eY 1).length):=by
  show(_::(_++_)).length=_;rw[aF,ay,lZ];omega
 have fl:=yu hH;have em:=ae cF;have HQ:=ae hq;have eb:Hid (Calls Tryz.prog 262 #[.pointer (some ⟨K.q,0,none⟩),.int .i64 i] w λ_ _=>True):=ae ((EY hJ ar w cf i hi).mono λ_ _ _=>trivial);have ci:=λ(pm':Option Nat) (E':Env) (et:List Int) (X:World) (h:pW K J Jx pm' E' et X)=>EY hJ ar X h i hi
 have c5:=ae ci;rw[dv]at b1;rw[cF];generalize K.p.aA[i]=x at *;have fk:=HQ.o.bC.row.few;have br:=jc w (.cells x.r 54);have cX:=gM w (.cells x.r 54);have db:=DD _ (hk.new br) x.aT e7 (hmx.below br eE);have dt:=hm.new br;have dp:=dt.look (s:=x.aT) (by unfold maxLen;omega);have cG:=Jg K.p l x;obtain⟨pe,cv⟩:∃pe,xP K.p l x=pe:=⟨_,rfl⟩;rw[cv]at cG ⊢;have bo:=ae cG;have cS:=ae cf;have ei:=ae hmx;have bm:=ae b1;have ej:=ae hnd;clear cG cv cf hk hm dt hmx O hq cF dv b1 ci eb e3 em hnd;go_enter Tryz.func231,Tryz.ntmps231
 go_upto_region 1 with fail
 have bd:=ae cX;have bl:=ae br;have cc:=ae db;clear db br cX;generalize w.alloc (.cells x.r 54)=W1 at *;obtain⟨c0,c1,c2⟩:=gL bd.o;clear k0 k1 k2 cV;generalize e6:kH K.p x.aT.data.toList=nn at *;generalize e0:lK l x.aT=ha at *;clear e6 e0;have ad:Hid (∀(c:Int) (X:World),Below W1.heap.size W1 X->Calls Tryz.prog 228 #[.pointer (some ⟨K.q,0,none⟩),.int .i64 c] X λo w'=>o=.returned (.tuple #[])/\Told K J Jx pm E (cs++[c]) w w'/\w'.heap[w.heap.size]?=some (.cells x.r 54 (0,0))):=ae λc X hX=>by
  have be:Below w.heap.size w X:=bl.o.trans (hX.mono bl.o.size);have eJ:X.heap[w.heap.size]?=some (.cells x.r 54 (0,0)):=(hX.block _ (dM bd.o).1).trans bd.o;refine(hT pm E cs X c (cS.o.new hJ ar be) (by have:=bm.o;omega)).mono ?_;rintro o w' ⟨rfl,ht⟩;obtain⟨cH,b0,-⟩:=cS.o.ex;exact⟨rfl,ht.after (.of_below be cr),ht.fE.cells _ _ _ _ eJ rfl (by have:=b0.lt;omega)⟩
 go_upto_block 0 with fail
 go_cut[] (λwx=>Told K J Jx pm E (cs++[pe]) w wx/\wx.heap[w.heap.size]?=some (.cells x.r 54 (0,0)))
 case first =>
  cases ha with
  |true =>
   have U:pe=321:=by rw[bo.o];rfl
   have ab:=ae U;clear U cc;go_wp2_with(first|(go_at_call 228;refine(ad.o _ _ (ag _ _)).mono ?_;rintro o9 w9 ⟨rfl,al,am⟩;have a7:=ae al;have a8:=ae am;clear al am)|fail)
   go_meet
   case rel=>exact⟨by rw[ab.o];exact a7.o,a8.o⟩
  |false =>
   cases nn with
   |false =>
    have U:pe=321:=by rw[bo.o];rfl
    have ab:=ae U;clear U;go_wp2_with(first|(go_at_call 255;refine cc.o.mono ?_;rintro o8 w8 ⟨rfl,a1⟩;have a5:=ae a1;clear a1)|(go_at_call 228;refine(ad.o _ _ a5.o).mono ?_;rintro o9 w9 ⟨rfl,al,am⟩;have a7:=ae al;have a8:=ae am;clear al am)|fail)
    go_meet
    case rel=>exact⟨by rw[ab.o];exact a7.o,a8.o⟩
   |true =>
    go_upto_region 5 with (first|(go_at_call 255;refine cc.o.mono ?_;rintro o8 w8 ⟨rfl,a1⟩;have a5:=ae a1;clear a1)|fail)
    clear c0 c1 c2 dp;obtain⟨_,c1,_⟩:=gL ((a5.o.block _ (dM bd.o).1).trans bd.o);by_cases h8:8<x.bC.length
    .have e8:decide (8<x.bC.length)=true:=aC h8
     have f8:decide ((8:Int)<(x.bC.length:Int))=true:=aC (by omega);have U:pe=327:=by rw[bo.o,e8];rfl
     have ab:=ae U;clear U h8;go_wp2_with(first|(go_at_call 228;refine(ad.o _ _ a5.o).mono ?_;rintro o9 w9 ⟨rfl,al,am⟩;have a7:=ae al;have a8:=ae am;clear al am)|fail)
     go_meet
     case rel=>exact⟨by rw[ab.o];exact a7.o,a8.o⟩
    .have e8:decide (8<x.bC.length)=false:=az h8
     have f8:decide ((8:Int)<(x.bC.length:Int))=false:=az (by omega);have U:pe=0:=by rw[bo.o,e8];rfl
     have ab:=ae U;clear U h8;go_wp2_with(first|(go_at_call 228;refine(ad.o _ _ a5.o).mono ?_;rintro o9 w9 ⟨rfl,al,am⟩;have a7:=ae al;have a8:=ae am;clear al am)|fail)
     go_meet
     case rel=>exact⟨by rw[ab.o];exact a7.o,a8.o⟩
 case rest =>
  obtain⟨ht,hx⟩:=hcut;clear cc ad bo dp c0 c1 c2 bd bl;have HT:=ae ht;have HX:=ae hx;obtain⟨fj,fi,dy⟩:=ht.st.maps;obtain⟨cH,b0,-⟩:=ht.st.ex;have fs:=ht.fE.size;have fh:=@run_makeMap Tryz.prog;have cA:=jc wc (.map #[] 0);have cD:=b0.new cA;have er:=cD.c22;obtain⟨nT,dr⟩:=cD.things;obtain⟨D,du,hD⟩:=dr.ex;have ck:=kG.made wc;have d1:H7 K nT D (Maps.has D) []:=⟨List.nodup_nil,λs h=>absurd h (by simp),λs h=>absurd h (by simp),λs hs _=>.inr (by
   have h1:=(hD (sM s) (by trivial)).1;rw[h1,kR,IV];exact(tY _ _).2 hs),λ_ h=>h⟩
  have HD:=ae hD;have d6:=ae cA;have ch:=ae ck;have ep:=ae d1;have en:=ae dy;have eS:=b0.mt;clear ht hx b0 cD cA dr hD ck d1 dy;have bh:(wc.alloc (.map #[] 0)).heap.size=wc.heap.size+1:=by simp
  go_wp2_with(first|(at_range;refine wpList_range_own _ rfl _ 244 rfl 9 264 xH Tryz.underlying244 JO.read K.mt nT D rfl du ?_;intro w0 b7 a9 e9)|fail)
  go_frame
  have dd:Below wc.heap.size wc w0:=d6.o.trans ⟨a9.os,a9.tape,a9.output,a9.size,λk hk=>a9.block k (by omega) (by simp)⟩;have bw:kG w0 wc.heap.size 0 [] (λ_=>none):=ch.o.of_block (a9.block wc.heap.size (by omega) (by simp));have c4:=ae bw;have d5:=ae dd;rw[bh]at b7 e9;have ew:=ae bh;clear a9 du er bw dd ch bh;rw[ew.o];go_loopw[10] (λ_ wr=>∃(zs:List ByteArray) (f':ByteArray->Option Int) (left:Lit->Bool) (c6:Nat),wr.ranges Tryz.prog 9 JO.read K.mt (wc.heap.size+1) nT D left c6/\kG wr wc.heap.size zs.length zs f'/\Hid (H7 K nT D left zs)/\Below wc.heap.size wc wr) (λ_ wr=>wr.rangeLeft K.mt (wc.heap.size+1))
  case atStart=>exact⟨[],_,_,_,b7,c4.o,ep,d5.o⟩
  case round =>
   obtain⟨zs,f',left,c6,ce,de,ap,dj⟩:=hrel;have bj:=ae de;have a6:=ae dj;clear de dj b7;go_wp2_with(first|(at_next;refine wpList_next_ranges _ rfl _ rfl 9 xH JO.read Value.string gV.val (λkey kl bc=>by obtain⟨s,rfl,_⟩:=Go.WideMaps.string_of_keyOf Tryz.underlying9 bc;exact⟨s,rfl⟩) (λv y hv=>by obtain⟨c,rfl,_⟩:=JO.inv v y hv;exact⟨c,rfl⟩) K.mt (wc.heap.size+1) nT D left c6 rfl ce ?_ ?_)|fail)
   .intro _ cd
    have cg:=DR zs _ ap.o.nodup ap.o.sub;have cl:=bj.o.names (l':=eO K.p) cg (λs hs=>by
     rw[bj.o.has]at hs;exact(tY _ _).2 (ap.o.sub s ((tY _ _).1 hs))) (λs hs=>by
     have bh:=(tY _ _).1 hs;rcases ap.o.rest s bh (JE hN s bh)with h|h
     .exact(tY _ _).2 h
     .rw[cd]at h;cases h)
    have cI:=ae cl;have b6:=vF K.p;have e2:(eO K.p).length<=20000:=by rw[b6];unfold eF at hH;omega
    obtain⟨wq,eI⟩:∃wq,wq=wr:=⟨_,rfl⟩;subst eI;have be:=(a6.o.block w.heap.size (aI (dM HX.o).1 (af _))).trans HX.o;obtain⟨c0,c1,c2⟩:=gL be;have d8:=ae be;have dc:Told K J Jx pm E (cs++[pe]) w wq:=⟨HT.o.st.new hJ ar a6.o,HT.o.fE.trans (.of_below a6.o (by omega))⟩;have eq:=ae dc;clear cl ce be bj ap cg cd dc b6;go_wp2_with fail
    go_loopw[65] (λv wx=>∃(k:Nat) (f2:ByteArray->Option Int),k<=x.bC.length/\v=.int .i64 k/\Told K J Jx pm E ((cs++[pe])++gH K.p false (x.bC.take k) (eO K.p)) w wx/\kG wx wc.heap.size ((eO K.p).length+k) (eO K.p++(x.bC.take k).map bO.aT) f2/\wx.heap[w.heap.size]?=some (.cells #[.string x.aT,.slice x.ps.dO x.bC.length x.ps.df,.slice x.bs.dO x.eY.length x.bs.df] 54 (0,0))) (λv _=>x.bC.length - (intOf v).toNat)
    case atStart=>exact⟨0,f',aH _,rfl,by simpa[gH]using eq.o,by simpa using cI.o,d8.o⟩
    case round =>
     obtain⟨k,f2,hk,rfl,d3,dg,co⟩:=hrel;have an:=ae d3;have cb:=ae dg;have aw:=ae co;clear d3 dg co c0 c1 c2;by_cases a4:k<x.bC.length
     .obtain⟨b2,b9,c7,_,O⟩:=(HQ.o.bC.row.below an.o.fE.low).row (by omega)
      have b4:=ak a4;have hok:=HQ.o.bC.ok _ b4;have ez:=ej.o _ b4;have k0:wr.cell? ⟨b2,b9+k*3,none⟩=some (.string x.bC[k].aT):=O k a4 0 _ rfl;have k1:wr.cell? ⟨b2,b9+k*3+1,none⟩=some (.int .i64 x.bC[k].aS):=O k a4 1 _ rfl;have k2:wr.cell? ⟨b2,b9+k*3+2,none⟩=some (.int .i64 x.bC[k].size):=O k a4 2 _ rfl;have d4:x.bC.take (k+1)=x.bC.take k++[x.bC[k]]:=aG a4;have cU:=ae d4;generalize x.bC[k]=d at *;have fp:=an.o.fE.size;have bt:=jc wr (.cells d.r 50);have cY:=gM wr (.cells d.r 50);have eN:(gH K.p false (x.bC.take k) (eO K.p)).length<=x.bC.length:=by rw[lZ];exact List.length_take_le' _ _
      have cd:=bm.o;have c8:=Iq hJ ar hT _ (an.o.st.new hJ ar bt) (by simp only[ay,aF,bK];omega) (ei.o.below (an.o.fE.low.trans (bt.mono (by omega))) e5) (cb.o.new bt) d hok ez false;simp only[bO.val]at c8;have dT:=ae c8;have ca:=ae bt;have d7:=ae cY;have fd:(0:Int)<=(k:Int):=by omega
      have ff:(k:Int)<(x.bC.length:Int):=by omega
      clear O d4 c8 bt cY b4;rw[c7];have cN:=ae c7;clear c7;go_upto_region 16 with (first|(go_at_call 224;refine dT.o.mono ?_;rintro o6 w6 ⟨rfl,bi⟩;have aq:=ae bi;clear bi)|fail)
      clear k0 k1 k2;have eR:=cb.o.map.lt;have da:=aq.o.fE.cells _ _ _ _ d7.o rfl (by omega);obtain⟨c0,_,_⟩:=gL da;have ba:=(cb.o.new ca.o).fE aq.o.fE (by omega);have e4:=ba.look1 (s:=d.aT) (by unfold maxLen;omega);obtain⟨dk,dl⟩:=ba.gT d.aT;obtain⟨w8,b8,ao,V⟩:=ba.store (s:=d.aT) (by unfold maxLen;omega) (by omega);have c3:=aq.o.st.turned hJ ar V (by omega) (by omega) (by omega) (λe=>by have:=en.o _ e;omega);have cp:gY K w w8:=((an.o.fE.trans (.of_below ca.o (by omega))).trans aq.o.fE).turned V (by omega) cr;have eV:=(dM HX.o).1;have cn:w8.heap[w.heap.size]?=_:=(V.grown.block _ (by have:=(dM aw.o).1;have:=ca.o.size;have:=aq.o.fE.size;omega) (by intro e;have:=iL e;have:=(dM HX.o).1;omega)).trans (aq.o.fE.cells _ _ _ _ ((ca.o.block _ (dM aw.o).1).trans aw.o) rfl (by omega));generalize (f2 d.aT).getD 0=c at *;have cT:=ae c3;have cP:=ae cp;have cJ:=ae cn;have bk:=ae ao;clear ba ao V c3 cp cn da;go_wp2_with(refine kI rfl _ _ _ 119 rfl rfl rfl rfl b8 ?_)
      go_roundw
      case rel=>exact⟨k+1,_,by omega,by go_num,by
       rw[cU.o,vW,<-aY];exact⟨cT.o,cP.o⟩,by
       rw[cU.o,aO,<-aY];exact bk.o,by have h:=cJ.o;rw[cN.o]at h;exact h⟩
      case measure=>simp[intOf];omega
     .obtain rfl:k=x.bC.length:=by omega
      rw[bW]at an;obtain⟨c0,c1,c2⟩:=gL aw.o;have ee:=ae (c5.o _ _ _ wr an.o.st);have cR:Hid (∀(pm':Option Nat) (X:World),Below K.n₀ w X->pW K J Jx pm' (inside K.p i) ((cs++[pe])++gH K.p false x.bC (eO K.p)) X->Calls Tryz.prog 232 #[.pointer (some ⟨K.q,0,none⟩),x.bs.val x.eY.length,.int .i64 1] X λo w'=>o=.returned (.tuple #[])/\Told K J Jx pm' (inside K.p i) (((cs++[pe])++gH K.p false x.bC (eO K.p))++eH K.p (inside K.p i) x.eY 1) X w'):=ae λpm' X hX hs=>by
       have cd:=bm.o;have fg:(gH K.p false x.bC (eO K.p)).length=x.bC.length:=lZ _ _ _ _;have:=yI hJ ar hT hH (pm:=pm') (E:=inside K.p i) (by show(i:Int)<=1000000000;omega) HQ.o.eY _ 1 X hX hs (by simp only[ay,aF,bK];omega) (by omega)
       simpa using this
      simp only[Sp.val]at cR;clear cb;go_wp2_with fail
      refine ee.o.mono ?_;rintro o w5 ⟨rfl,a3⟩;obtain⟨eK,cy,-⟩:=a3.st;have b3:=an.o.fE.low.trans a3.fE.low;have cm:=a3.fE.cells _ _ _ _ aw.o rfl (by omega);clear c0 c1 c2;obtain⟨c0,c1,c2⟩:=gL cm;have eo:=ae (cR.o eK w5 b3 cy);have cL:=ae a3;clear cy b3 cm a3;go_wp2_with fail
      refine eo.o.mono ?_;rintro o w6 ⟨rfl,bi⟩;have ef:=ae (Ni hJ ar w6 bi.st);have aq:=ae bi;clear bi c0 c1 c2;go_wp2_with fail
      refine ef.o.mono ?_;rintro o w7 ⟨rfl,dn⟩;have cM:=ae dn;clear dn;go_wp2_with fail
      go_returns
      refine⟨rfl,⟨?_,((an.o.fE.trans cL.o.fE).trans aq.o.fE).trans cM.o.fE⟩⟩;obtain⟨eL,h9,ev⟩:=cM.o.st;have ft:=an.o.fE.size;have fv:=cL.o.fE.size;have fx:=aq.o.fE.size;exact⟨eL,by simpa using h9,λm e=>by have:=ev m e;omega⟩
   .intro s th kl y1 y2 w1 cW bc cE hR ey cw dq cC eC fa
    obtain⟨s',e1,rfl,d2⟩:=Go.WideMaps.string_of_keyOf Tryz.underlying9 bc;cases e1
    have b5:s∈eO K.p:=by
     have h1:=ap.o.key _ cE;have h2:=(HD.o (sM s) (by trivial)).1;rw[kR,IV]at h2;exact(tY _ _).1 (h2.symm.trans h1)
    have cg:=DR zs _ ap.o.nodup ap.o.sub;have b6:=vF K.p;have e2:(eO K.p).length<=20000:=by rw[b6];unfold eF at hH;omega
    have aE:=bj.o.of_block (W':=w1) (cC.block _ (by have:=a6.o.size;have:=bj.o.map.lt;omega) (by intro e;have:=iL e;omega));have e4:=aE.look1 d2;obtain⟨dk,dl⟩:=aE.gT s;obtain⟨w8,b8,ao,V⟩:=aE.store d2 (by omega);have ct:=ap.o.step cE b5;have a1:Below wc.heap.size wc w8:=(a6.o.grown cC a6.o.size (λq hq=>by cases hq;omega)).grown V.grown (by have:=a6.o.size;omega) (λq hq=>by cases hq;omega);have cx:=cw.kept V.grown (by intro e;have:=iL e;omega) (by intro e;have:=iL e;omega);have eM:(f' s).getD 0<=20000:=by omega
    generalize (f' s).getD 0=c at *;have cq:zs.length+1=(zs++[s]).length:=by simp
    rw[cq]at ao;clear cq;have cQ:=ae ct;have a5:=ae a1;have bk:=ae ao;have cj:=ae cx;have eh:=ae dq;have eg:=ae ce.left_eq;clear bc cE hR ey b5 cg b6 aE ct a1 cx ao V cw ce dq cC eC;go_wp2_with(refine kI rfl _ _ _ 119 rfl rfl rfl rfl b8 ?_)
    go_roundw
    case rel =>
     repeat apply Exists.intro
     exact⟨⟨zs++[s],_,_,cW,cj.o,bk.o,cQ,a5.o⟩,rfl⟩
    case measure=>rw[cj.o.left_eq,eg.o];exact eh.o
section
def xY(p:aj)(j:Nat):List ByteArray:=(List.range j).flatMap λi=>(listAt p i).map bO.aT
def zf(p:aj)(j:Nat):List Int:=(List.range j).flatMap λi=>gH p (decide (i=3)) (listAt p i) (xY p i)
theorem EO(p:aj)(j:Nat):xY p (j+1)=xY p j++(listAt p j).map bO.aT:=by
 unfold xY;rw[List.range_succ,bT];simp
theorem Ay(p:aj)(j:Nat):zf p (j+1)=zf p j++gH p (decide (j=3)) (listAt p j) (xY p j):=by
 unfold zf;rw[List.range_succ,bT];simp
theorem EN(p:aj):xY p 4=fC p:=by
 simp[xY,List.range,List.range.loop,listAt,fC,qo,names2,pF]
theorem MS(p:aj):zf p 4=gH p false p.fB []++(gH p false p.ek (pF p)++(gH p false p.gp (names2 p)++gH p true p.fP (qo p))):=by
 simp[zf,xY,List.range,List.range.loop,listAt,qo,names2,pF]
theorem Eo(p:aj)(n:Int):jf p n=((((((([kZ p n]++zf p 4)++jv p outside 1 p.eD 1)++jA p p.eQ [])++fO p p.aA 0 (fC p))++eH p outside p.eX 1)++eH p outside p.eB 1)++jv p outside 2 p.d9 1):=by
 rw[MS];unfold jf;simp
theorem vV(p:aj):∀j,(zf p j).length=(xY p j).length
 |0=>rfl
 |j+1=>by rw[Ay,EO,ay,ay,vV p j,lZ,cZ]
theorem wu(p:aj):∀(l:List dH) (b:List Int) (x:dH),jA p (l++[x]) b=jA p l b++(xL p (b++l.map dH.block) x::jv p outside 1 x.bv 1)
 |[],b,x=>by simp[jA]
 |y::l,b,x=>by
  rw[dC,jA,wu p l,jA];simp
theorem BP(p:aj):∀(l:List bG) (i:Nat) (b:List ByteArray) (q:bG),fO p (l++[q]) i b=fO p l i b++nM p (b++l.map bG.aT) (i+l.length) q
 |[],i,b,q=>by simp[fO]
 |y::l,i,b,q=>by
  rw[dC,fO,BP p l,fO];simp[Nat.add_assoc,Nat.add_comm 1]
theorem NM(p:aj)(b b':List ByteArray)(i:Nat)(q:bG):(nM p b i q).length=(nM p b' i q).length:=rfl
structure oO(K:mq)(J Jx:List (Int × Int)->World->Prop)(w:World)(bp mb:Nat)(cs:List Int)(bef:List ByteArray)(X:World):Prop where
 st:∃pm,pW K J Jx pm outside cs X/\pm≠some mb
 fE:gY K w X
 box:X.heap[bp]?=some (.cells K.p.arr 35 (0,0))
 bef:∃f n,n<=bef.length/\kG X mb n bef f
structure CL(K:mq)(w:World)(bp mb:Nat):Prop where
 hbp:w.heap.size<=bp
 hmb:bp<mb
 hq:K.q<w.heap.size
 hB:K.B<=K.q
 hn0:K.n₀<=w.heap.size
 hmt:K.mt<w.heap.size
 hmp:K.mp<w.heap.size
section
variable {K:mq}{J Jx:List (Int × Int)->World->Prop}{w:World}{bp mb:Nat}{cs:List Int}{bef:List ByteArray}{X X':World}
theorem oO.new(h:oO K J Jx w bp mb cs bef X)(hJ:jK 246 K.B J)(D:jK 246 K.B Jx)(F:CL K w bp mb)(hb:Below X.heap.size X X'):oO K J Jx w bp mb cs bef X':=by
 obtain⟨pm,h1,O⟩:=h.st;obtain⟨f,n,U,V⟩:=h.bef;exact⟨⟨pm,h1.new hJ D hb,O⟩,h.fE.trans (.of_below hb (ai F.hn0 h.fE.size)),(hb.block _ (dM h.box).1).trans h.box,⟨f,n,U,V.new hb⟩⟩
theorem oO.told(h:oO K J Jx w bp mb cs bef X)(F:CL K w bp mb){D:List Int}{pm:Option Nat}(O:pm≠some mb)(ht:Told K J Jx pm outside D X X'):oO K J Jx w bp mb D bef X':=by
 obtain⟨f,n,U,V⟩:=h.bef;have h5:=F.hbp;have h6:=F.hmb;have h7:=F.hq;have h8:=F.hB;exact⟨⟨pm,ht.st,O⟩,h.fE.trans ht.fE,ht.fE.cells _ _ _ _ h.box rfl (by omega),⟨f,n,U,V.fE ht.fE (by omega)⟩⟩
theorem oO.entered(h:oO K J Jx w bp mb cs bef X)(F:CL K w bp mb){D:List Int}(ht:yQ K J Jx outside D X X'):oO K J Jx w bp mb D bef X':=by
 obtain⟨f,n,h3,U⟩:=h.bef;have h5:=F.hbp;have h6:=F.hmb;have h7:=F.hq;have h8:=F.hB;obtain⟨pm,h9,O⟩:=ht.st;have V:=U.map.lt;exact⟨⟨pm,h9,λe=>by have:=O _ e;omega⟩,h.fE.trans ht.fE,ht.fE.cells _ _ _ _ h.box rfl (by omega),⟨f,n,h3,U.fE ht.fE (by omega)⟩⟩
theorem oO.stored(h:oO K J Jx w bp mb cs bef X)(hJ:jK 246 K.B J)(D:jK 246 K.B Jx)(F:CL K w bp mb)(ht:X.mapTurned X' mb){s:ByteArray}{n:Nat}{f:ByteArray->Option Int}(hn:n<=bef.length)(hb:kG X' mb (n+1) (bef++[s]) f):oO K J Jx w bp mb cs (bef++[s]) X':=by
 have h5:=F.hbp;have h6:=F.hmb;have h7:=F.hq;have h8:=F.hB;have h9:=F.hmt;have V:=F.hmp;obtain⟨pm,h1,U⟩:=h.st;have O:=(dM h.box).1;refine⟨⟨pm,h1.turned hJ D ht (by omega) (by omega) (by omega) U,U⟩,h.fE.turned ht (by omega) F.hn0,(ht.grown.block _ O (by intro e;have:=iL e;omega)).trans h.box,⟨f,n+1,by simp;omega,hb⟩⟩
end
theorem gN{W:World}{q:Nat}{p:aj}(h:W.heap[q]?=some (.cells p.arr 35 (0,0)))(i:Nat){v:Value}(D:p.cells[i]?=some v):W.cell? ⟨q,i,none⟩=some v:=by
 simp[World.cell?,h,aj.arr,D]
end
theorem IK(p:aj)(l:List Int)(x:dH):xL p l x=if(decide (x.block<0) || decide (p.iF<=x.block) || decide (x.block∈l))=true then 324 else if iT (fZ p outside x.bv) p.aS=true then 322 else 0:=by
 unfold xL;have D:(x.block<0\/x.block≥p.iF\/x.block∈l)↔((decide (x.block<0) || decide (p.iF<=x.block) || decide (x.block∈l))=true):=by simp[or_assoc]
 simp only[D]
theorem Ra{K:mq}{J Jx:List (Int × Int)->World->Prop}(hJ:jK 246 K.B J)(ab:jK 246 K.B Jx)(hT:sV K J Jx)(hH:eF K.p<=20000)(hN:ng K.p)(dr:0<K.n₀)(hwt:l9 K.p<=1125899906842624){pm:Option Nat}(w:World)(cI:pW K J Jx pm outside [] w)(hmx:MxAt w) :
  Calls Tryz.prog 204 #[.pointer (some ⟨K.q,0,none⟩)] w λo w'=>o=.returned (.tuple #[])/\(∃pm,pW K J Jx pm outside (jf K.p (mD (countP K.p))) w')/\gY K w w':=by
 obtain⟨over,hk,hs⟩:=cI.ex;have cr:=λ(W:World) (hW:Below w.heap.size w W)=>(hk.new hW).prog_part
 have cb:=ae cr;have dn:=jc w (.cells K.p.arr 35);have e6:=jc w (.cells ed.arr 35);have hB:=gM w (.cells K.p.arr 35);have f4:=hk.lt;have f3:=hk.q;have gC:=hk.n0;have cR:K.n₀<=w.heap.size:=by omega
 have co:=cI.maps;have dd:=ae dn;have d5:=ae e6;have de:=ae hB;have HP:=ae hk.prog;have cg:=mO K.p (mD (countP K.p));have cF:=Eo K.p (mD (countP K.p));have dt:=Jj hJ ab hT (w.alloc (.cells K.p.arr 35)) (cI.new hJ ab dn) (by simp) hwt;obtain⟨pe,eS⟩:∃pe,kZ K.p (mD (countP K.p))=pe:=⟨_,rfl⟩;rw[eS]at cF dt;have en:=ae dt;obtain⟨ge,db⟩:∃l,jf K.p (mD (countP K.p))=l:=⟨_,rfl⟩;rw[db]at cF cg ⊢;have bh:=ae cF;have dT:=ae (show ge.length<=20000 by omega);have ej:=ae hmx;have HN:=ae hN;have bi:=ae co;clear cr dn e6 hB hk cI hs dt eS db cF cg hmx hwt co hN;go_enter Tryz.func204,Tryz.ntmps204
 go_upto_region 1 with (first
  |(refine uu rfl 35 _ rfl K.q 0 rfl K.p.arr _ (cb.o _ (by first|exact ag _ _|exact d5.o)) Tryz.underlying35 rfl (dZ K.p) ?_)
  |(refine dY (t:=35) rfl rfl (jQ _) ?_)
  |(refine mi (t:=35) rfl _ _ rfl rfl rfl (dZ K.p) rfl (lX K.p) ?_)
  |fail)
 generalize ft:w.alloc (.cells K.p.arr 35)=W1 at *;generalize fL:Value.agg K.p.arr=v8;clear ft fL cb d5;have g9:=@run_makeMap Tryz.prog;go_upto_region 2 with (first|(go_at_call 223;refine en.o.mono ?_;rintro o7 wA ⟨rfl,cx⟩)|fail)
 have cP:=cx.fE.cells _ _ _ _ de.o rfl (by omega);have eW:=cx.fE.size;have gj:=dd.o.size;have hF:CL K w w.heap.size wA.heap.size:=⟨af _,aI (dM de.o).1 eW,f4,f3,cR,bi.o.1,bi.o.2.1⟩;have cE:=jc wA (.map #[] 0);have hA0:oO K J Jx w w.heap.size wA.heap.size ([pe]++zf K.p 0) (xY K.p 0) (wA.alloc (.map #[] 0)):=by
  have f7:=cx.st.new hJ ab cE;have h3:=bi.o.2.2;refine⟨⟨pm,by simpa[zf]using f7,λe=>by have:=h3 _ e;have:=hF.hmb;omega⟩,((gY.of_below dd.o cR).trans cx.fE).trans (.of_below cE (by omega)),(cE.block _ hF.hmb).trans cP,⟨_,0,aH _,kG.made wA⟩⟩
 have HF:=ae hF;have b0:=ae hA0;have eN:=hF.hmb;clear cx cP hF cE hA0 de dd bi en;generalize fv:wA.alloc (.map #[] 0)=WM at *;obtain⟨mb,eM⟩:∃mb,wA.heap.size=mb:=⟨_,rfl⟩;rw[eM]at HF b0 eN;have c2:=gN b0.o.box 2 (v:=.slice K.p.is.dO K.p.fB.length K.p.is.df) rfl;have c3:=gN b0.o.box 3 (v:=.slice K.p.gs.dO K.p.ek.length K.p.gs.df) rfl;have c4:=gN b0.o.box 4 (v:=.slice K.p.vs.dO K.p.gp.length K.p.vs.df) rfl;have c5:=gN b0.o.box 5 (v:=.slice K.p.as.dO K.p.fP.length K.p.as.df) rfl;go_wp2_with fail
 go_loopw[28] (λv wr=>∃j:Nat,j<=4/\v=.int .i64 j/\oO K J Jx w w.heap.size mb ([pe]++zf K.p j) (xY K.p j) wr) (λv _=>4 - (intOf v).toNat)
 case atStart=>exact⟨0,by omega,rfl,b0.o⟩
 case round =>
  obtain⟨j,hj,rfl,e0⟩:=hrel;have aq:=ae e0;clear e0 c2 c3 c4 c5 b0;by_cases gw:j<4
  .have hI:∀W,(Instr.index 262 (.agg #[.slice K.p.is.dO K.p.fB.length K.p.is.df,.slice K.p.gs.dO K.p.ek.length K.p.gs.df,.slice K.p.vs.dO K.p.gp.length K.p.vs.df,.slice K.p.as.dO K.p.fP.length K.p.as.df]) (.int .i64 (j:Int))).run Tryz.prog W=.ok (.slice (Lr K.p j).dO (listAt K.p j).length (Lr K.p j).df) W:=by
    intro W;rcases(show j=0\/j=1\/j=2\/j=3 by omega)with rfl|rfl|rfl|rfl<;>kernel_rfl
   have dp:=HP.o.listAt j;have eR:∀d∈listAt K.p j,d.aT.size<=4294967200:=λd hd=>HN.o.decls d (by
    rcases(show j=0\/j=1\/j=2\/j=3 by omega)with rfl|rfl|rfl|rfl<;>simp only[listAt]at hd<;>simp[hd])
   have eA:=Ay K.p j;have e5:=EO K.p j;have gh:(zf K.p j).length+(listAt K.p j).length<=20000:=by
    have e1:=vV K.p (j+1);rw[Ay,ay,lZ]at e1;have e2:(xY K.p (j+1)).length<=(xY K.p 4).length:=by
     rcases(show j=0\/j=1\/j=2\/j=3 by omega)with rfl|rfl|rfl|rfl<;>simp[xY,List.range,List.range.loop] <;>omega
    have e3:=vV K.p 4;have e4:=dT.o;rw[bh.o]at e4;simp only[ay]at e4;omega
   have f1:((j:Int) == 3)=decide (j=3):=by rcases(show j=0\/j=1\/j=2\/j=3 by omega)with rfl|rfl|rfl|rfl<;>rfl
   have gr:=vV K.p j;have eb:=ae dp;have fh:=ae eR;have ef:=ae eA;have fd:=ae e5;have g7:=dp.row.few;obtain⟨jb,eE⟩:∃b,decide (j=3)=b:=⟨_,rfl⟩;rw[eE]at f1 ef;clear dp eR eA e5 eE;generalize listAt K.p j=l at *;generalize Lr K.p j=sp at *;generalize zf K.p j=dc at *;generalize xY K.p j=bf at *;obtain⟨wo,rfl⟩:∃y:World,y=wr:=⟨_,rfl⟩;have gv:(0:Int)<=(j:Int):=by omega
   have gg:(j:Int)<4:=by omega
   go_wp2_with fail
   go_loopw[34] (λv wr=>∃k:Nat,k<=l.length/\v=.int .i64 k/\oO K J Jx w w.heap.size mb (([pe]++dc)++gH K.p jb (l.take k) bf) (bf++(l.take k).map bO.aT) wr) (λv _=>l.length - (intOf v).toNat)
   case atStart=>exact⟨0,aH _,rfl,by simpa[gH]using aq.o⟩
   case round =>
    obtain⟨k,hk,rfl,bm⟩:=hrel;have ap:=ae bm;clear bm;by_cases O:k<l.length
    .obtain⟨b2,U,ba,_,D⟩:=(eb.o.row.below ap.o.fE.low).row (by omega)
     have cp:=ak O;have hok:=eb.o.ok _ cp;have f0:=fh.o _ cp;have k0:wr.cell? ⟨b2,U+k*3,none⟩=some (.string l[k].aT):=D k O 0 _ rfl;have k1:wr.cell? ⟨b2,U+k*3+1,none⟩=some (.int .i64 l[k].aS):=D k O 1 _ rfl;have k2:wr.cell? ⟨b2,U+k*3+2,none⟩=some (.int .i64 l[k].size):=D k O 2 _ rfl;have bc:l.take (k+1)=l.take k++[l[k]]:=aG O;have cc:=ae bc;generalize l[k]=d at *;have eV:=ap.o.fE.size;have bo:=jc wr (.cells d.r 50);have bl:=gM wr (.cells d.r 50);have gi:(gH K.p jb (l.take k) bf).length<=l.length:=by rw[lZ];exact List.length_take_le' _ _
     have eL:((l.take k).map bO.aT).length<=l.length:=by rw[cZ];exact List.length_take_le' _ _
     have ao:=ap.o.new hJ ab HF.o bo;obtain⟨dy,ar,a8⟩:=ao.st;obtain⟨f5,n5,_,a6⟩:=ao.bef;have dg:=Iq hJ ab hT _ ar (by simp only[ay,aF,bK];omega) (ej.o.below ao.fE.low dr) a6 d hok f0 jb;simp only[bO.val]at dg;have ff:=ae dg;have bd:=ae ao;have eo:=ae a8;have a3:=ae bl;have cH:(wr.alloc (.cells d.r 50)).heap.size=wr.heap.size+1:=by simp
     have eI:(0:Int)<=(k:Int):=by omega
     have eJ:(k:Int)<(l.length:Int):=by omega
     clear D bc dg bo bl cp ao ar a8;rw[ba];clear ba;go_upto_region 10 with (first|(go_at_call 224;refine ff.o.mono ?_;rintro o6 w6 ⟨rfl,bw⟩;have bk:=ae bw;clear bw)|fail)
     clear k0 k1 k2;have aw:=bd.o.told HF.o eo.o bk.o;have cd:=bk.o.fE.cells _ _ _ _ a3.o rfl (by omega);obtain⟨c0,_,_⟩:=gL cd;obtain⟨f6,n6,cq,ad⟩:=aw.bef;have eK:=ad.look1 (s:=d.aT) (by unfold maxLen;omega);obtain⟨e7,e8⟩:=ad.gT d.aT;simp only[ay]at cq;have e9:n6<=100000:=by omega
     obtain⟨w8,cv,a7,a9⟩:=ad.store (s:=d.aT) (by unfold maxLen;omega) (by omega);have an:=aw.stored hJ ab HF.o a9 (by simp only[ay];exact cq) a7;generalize (f6 d.aT).getD 0=c at *;have a1:=ae an;clear aw cd ad a7 a9 an a6;go_wp2_with(refine kI rfl _ _ _ 119 rfl rfl rfl rfl cv ?_)
     go_roundw
     case rel=>exact⟨k+1,by omega,by go_num,by
      have h9:=a1.o;rw[cc.o,vW,aO,<-aY,<-aY];exact h9⟩
     case measure=>simp[intOf];omega
    .obtain rfl:k=l.length:=by omega
     have h9:=ap.o;rw[bW,aY,<-ef.o,<-fd.o]at h9;have H9:=ae h9;clear h9 ap;go_wp2_with fail
     go_roundw
     case rel=>exact⟨j+1,by omega,by go_num,H9.o⟩
     case measure=>simp[intOf];omega
  .obtain rfl:j=4:=by omega
   rw[EN]at aq;have cg:=dT.o;rw[bh.o]at cg;simp only[ay,aF,bK]at cg;obtain⟨w4,fN⟩:∃y:World,y=wr:=⟨_,rfl⟩;subst fN;obtain⟨c8,ch⟩:∃l,[pe]++zf K.p 4=l:=⟨_,rfl⟩;have eK:c8.length=1+(zf K.p 4).length:=by rw[<-ch];simp;omega
   rw[ch]at aq bh;obtain⟨gb,cX,cS⟩:=aq.o.st;have b4:=zh hJ ab hT (pm:=gb) (E:=outside) (wh:=1) HP.o.eD c8 1 w4 aq.o.fE.low cX (by omega) (by omega);simp only[ah.val,Sp.val,Int.natCast_one]at b4;have c6:=ae b4;have cL:=ae cS;have d6:=gN aq.o.box 6 (v:=.int .u8 K.p.eD.bI) rfl;have d7:=gN aq.o.box 7 (v:=.int .u8 K.p.eD.op) rfl;have d8:=gN aq.o.box 8 (v:=.int .u32 K.p.eD.bv) rfl;have d9:=gN aq.o.box 9 (v:=.int .i64 K.p.eD.aS) rfl;have fl:=gN aq.o.box 10 (v:=.string K.p.eD.aT) rfl;have fm:=gN aq.o.box 11 (v:=.slice K.p.eD.sp.dO K.p.eD.cu.length K.p.eD.sp.df) rfl;clear b4 cX cS ch fv eM;go_upto_region 14 with (first|(go_at_call 225;refine c6.o.mono ?_;clear c6;rintro o6 w6 ⟨rfl,bw⟩;have bk:=ae bw;clear bw)|fail)
   have aw:=aq.o.told HF.o cL.o bk.o;have fp:=gN aw.box 12 (v:=.slice K.p.ns.dO K.p.eQ.length K.p.ns.df) rfl;obtain⟨b3,ci⟩:∃l,c8++jv K.p outside 1 K.p.eD 1=l:=⟨_,rfl⟩;have g2:b3.length=c8.length+(jv K.p outside 1 K.p.eD 1).length:=by rw[<-ci,ay]
   rw[ci]at aw bh;have d4:=ae aw;have gt:=HP.o.irow.few;clear aq cL bk d6 d7 d8 d9 fl fm aw ci;go_wp2_with fail
   go_loopw[58] (λv wr=>∃k:Nat,k<=K.p.eQ.length/\v=.int .i64 k/\oO K J Jx w w.heap.size mb (b3++jA K.p (K.p.eQ.take k) []) (fC K.p) wr) (λv _=>K.p.eQ.length - (intOf v).toNat)
   case atStart=>exact⟨0,aH _,rfl,by simpa[jA]using d4.o⟩
   case round =>
    obtain⟨k,hk,rfl,bm⟩:=hrel;have ap:=ae bm;clear bm fp;by_cases O:k<K.p.eQ.length
    .obtain⟨b2,U,ba,_,D⟩:=(HP.o.irow.below ap.o.fE.low).row (by omega)
     have k0:wr.cell? ⟨b2,U+k*7,none⟩=some (.int .i64 K.p.eQ[k].block):=D k O 0 _ rfl;have k1:wr.cell? ⟨b2,U+k*7+1,none⟩=some (.int .u8 K.p.eQ[k].bv.bI):=D k O 1 _ rfl;have k2:wr.cell? ⟨b2,U+k*7+2,none⟩=some (.int .u8 K.p.eQ[k].bv.op):=D k O 2 _ rfl;have k3:wr.cell? ⟨b2,U+k*7+3,none⟩=some (.int .u32 K.p.eQ[k].bv.bv):=D k O 3 _ rfl;have k4:wr.cell? ⟨b2,U+k*7+4,none⟩=some (.int .i64 K.p.eQ[k].bv.aS):=D k O 4 _ rfl;have k5:wr.cell? ⟨b2,U+k*7+5,none⟩=some (.string K.p.eQ[k].bv.aT):=D k O 5 _ rfl;have k6:wr.cell? ⟨b2,U+k*7+6,none⟩=some (.slice K.p.eQ[k].bv.sp.dO K.p.eQ[k].bv.cu.length K.p.eQ[k].bv.sp.df):=D k O 6 _ rfl;have bc:K.p.eQ.take (k+1)=K.p.eQ.take k++[K.p.eQ[k]]:=aG O;have hok:=HP.o.eQ _ (ak O);have cc:=ae bc;have bt:(jA K.p (K.p.eQ.take (k+1)) []).length<=(jA K.p K.p.eQ []).length:=by
      have e1:K.p.eQ=K.p.eQ.take (k+1)++K.p.eQ.drop (k+1):=(fA _ _).symm;rw[uL,uL]
      conv=>rhs;rw[e1]
      rw[aO,fo];omega
     rw[bc,wu]at bt;simp only[ay,aF]at bt;have em:=ae hok;generalize K.p.eQ[k]=x at *;have eV:=ap.o.fE.size;have bo:=jc wr (.cells x.r 149);have bl:=gM wr (.cells x.r 149);have ao:=ap.o.new hJ ab HF.o bo;have cH:(wr.alloc (.cells x.r 149)).heap.size=wr.heap.size+1:=by simp
     have eI:(0:Int)<=(k:Int):=by omega
     have eJ:(k:Int)<(K.p.eQ.length:Int):=by omega
     have dq:=IK K.p ((K.p.eQ.take k).map dH.block) x;obtain⟨ie,cn⟩:∃c,xL K.p ((K.p.eQ.take k).map dH.block) x=c:=⟨_,rfl⟩;have cQ:jA K.p (K.p.eQ.take k++[x]) []=jA K.p (K.p.eQ.take k) []++(ie::jv K.p outside 1 x.bv 1):=by rw[wu,gJ,cn]
     have eh:=ae cQ;rw[cn]at dq;have bj:=ae dq;have gl:=ae cH;have bd:=ae ao;have a3:=ae bl;have cG:Hid (∀X,Below (wr.alloc (.cells x.r 149)).heap.size (wr.alloc (.cells x.r 149)) X->Calls Tryz.prog 226 #[.slice (some ⟨b2,U,none⟩) k K.p.ns.df,.func (.func 227) #[] #[.pointer (some ⟨wr.heap.size,0,none⟩)]] X λo w'=>o=.returned (.bool (decide (x.block∈(K.p.eQ.take k).map dH.block)))/\Below X.heap.size X w'):=ae λX hX=>by
      have hx:=(hX.block _ (dM a3.o).1).trans a3.o;have fW:X.cell? ⟨wr.heap.size,0,none⟩=some (.int .i64 x.block):=by simp[World.cell?,hx]
      have br:Below K.n₀ w X:=ao.fE.low.trans (hX.mono (by have:=ao.fE.size;omega));have:=Ep X (HP.o.irow.below br) (by have:=br.size;omega) k (by omega) K.p.ns.df wr.heap.size x.block fW (dM hx).1;rw[ba]at this;exact this
     clear D bc bl hok ao dq cn cQ bo cH;rw[ba];have eg:=ae ba;clear ba
     go_upto_block 6 with fail
     clear k0 k1 k2 k3 k4 k5 k6;generalize wr.alloc (.cells x.r 149)=W5 at *;obtain⟨dy,ar,a8⟩:=bd.o.st;have a5:Hid (∀(c:Int) (X:World),Below W5.heap.size W5 X->Calls Tryz.prog 228 #[.pointer (some ⟨K.q,0,none⟩),.int .i64 c] X λo w'=>o=.returned (.tuple #[])/\oO K J Jx w w.heap.size mb ((b3++jA K.p (K.p.eQ.take k) [])++[c]) (fC K.p) w'/\w'.heap[wr.heap.size]?=some (.cells x.r 149 (0,0))):=ae λc X hX=>by
      have fx:=bd.o.new hJ ab HF.o hX;have hx:=(hX.block _ (dM a3.o).1).trans a3.o;refine(hT dy outside _ X c (ar.new hJ ab hX) (by simp only[ay];omega)).mono ?_;rintro o w' ⟨rfl,ht⟩;exact⟨rfl,fx.told HF.o a8 ht,ht.fE.cells _ _ _ _ hx rfl (by omega)⟩
     have g0:W5.cell? ⟨wr.heap.size,0,none⟩=some (.int .i64 x.block):=by simp[World.cell?,a3.o]
     have p0:=gN bd.o.box 0 (v:=.int .i64 K.p.iF) rfl;have dv:=gN bd.o.box 12 (v:=.slice K.p.ns.dO K.p.eQ.length K.p.ns.df) rfl;rw[eg.o]at dv;have g1:(k:Int)<=(K.p.eQ.length:Int):=by omega
     have gx:(k:Int)<=(K.p.ns.df:Int):=by have:=HP.o.irow.df;omega
     have cf:=HP.o.irow.big;have g8:K.p.ns.df<=9223372036854775807:=by unfold maxLen at cf;omega
     clear ar a8 cf
     go_cut[] (λwx=>oO K J Jx w w.heap.size mb ((b3++jA K.p (K.p.eQ.take k) [])++[ie]) (fC K.p) wx/\wx.heap[wr.heap.size]?=some (.cells x.r 149 (0,0)))
     case first=>as_aux_lemma =>
      obtain⟨ib,eC⟩:∃ib,decide (x.block∈(K.p.eQ.take k).map dH.block)=ib:=⟨_,rfl⟩;rw[eC]at cG bj;have ca:=ae (cG.o W5 (ag _ _));obtain⟨df,b9⟩:∃df,iT (fZ K.p outside x.bv) K.p.aS=df:=⟨_,rfl⟩;rw[b9]at bj;have ee:=ae b9;clear eC cG b9;by_cases h1:x.block<0
      .have am:ie=324:=by rw[bj.o];simp[h1]
       have a4:=ae am;clear am ca;go_wp2_with(first|(go_at_call 228;refine(a5.o _ _ (ag _ _)).mono ?_;rintro o9 w9 ⟨rfl,V,al⟩;have be:=ae V;have b1:=ae al;clear V al)|fail)
       go_meet
       case rel=>exact⟨by rw[a4.o];exact be.o,b1.o⟩
      .by_cases h2:K.p.iF<=x.block
       .have am:ie=324:=by rw[bj.o];simp[h2]
        have a4:=ae am;clear am ca;go_wp2_with(first|(go_at_call 228;refine(a5.o _ _ (ag _ _)).mono ?_;rintro o9 w9 ⟨rfl,V,al⟩;have be:=ae V;have b1:=ae al;clear V al)|fail)
        go_meet
        case rel=>exact⟨by rw[a4.o];exact be.o,b1.o⟩
       .have d1:decide (x.block<0)=false:=az h1
        have d2:decide (K.p.iF<=x.block)=false:=az h2;rw[d1,d2]at bj;cases ib with
        |true =>
         have am:ie=324:=by rw[bj.o];rfl
         have a4:=ae am;clear am h1 h2;go_wp2_with(first|(go_at_call 226;refine ca.o.mono ?_;rintro o8 w8 ⟨rfl,ce⟩;have b7:=ae ce;clear ce)|(go_at_call 228;refine(a5.o _ _ b7.o).mono ?_;rintro o9 w9 ⟨rfl,V,al⟩;have be:=ae V;have b1:=ae al;clear V al)|fail)
         go_meet
         case rel=>exact⟨by rw[a4.o];exact be.o,b1.o⟩
        |false =>
         go_upto_region 20 with (first|(go_at_call 226;refine ca.o.mono ?_;rintro o8 w8 ⟨rfl,ce⟩;have b7:=ae ce;clear ce)|fail)
         have a1:=ae (bd.o.new hJ ab HF.o b7.o);have cJ:=ae ((b7.o.block _ (dM a3.o).1).trans a3.o);have HC:Hid (∀W,Below w8.heap.size w8 W->W.cell? ⟨wr.heap.size,1,none⟩=some (.int .u8 x.bv.bI)/\W.cell? ⟨wr.heap.size,2,none⟩=some (.int .u8 x.bv.op)/\W.cell? ⟨wr.heap.size,3,none⟩=some (.int .u32 x.bv.bv)/\W.cell? ⟨wr.heap.size,4,none⟩=some (.int .i64 x.bv.aS)/\W.cell? ⟨wr.heap.size,5,none⟩=some (.string x.bv.aT)/\W.cell? ⟨wr.heap.size,6,none⟩=some (.slice x.bv.sp.dO x.bv.cu.length x.bv.sp.df)/\W.cell? ⟨w.heap.size,1,none⟩=some (.int .i64 K.p.aS)):=ae λW hW=>by
          have hx:=(hW.block _ (dM cJ.o).1).trans cJ.o;have hp:=(hW.block _ (dM a1.o.box).1).trans a1.o.box;exact⟨by simp[World.cell?,hx],by simp[World.cell?,hx],by simp[World.cell?,hx],by simp[World.cell?,hx],by simp[World.cell?,hx],by simp[World.cell?,hx],gN hp 1 rfl⟩
         have HW:Hid (∀W,Below w8.heap.size w8 W->Calls Tryz.prog 230 #[.pointer (some ⟨K.q,0,none⟩),x.bv.val] W λo w'=>o=.returned (.int .i64 (fZ K.p outside x.bv))/\Below W.heap.size W w'):=ae λW hW=>by
          obtain⟨fc,b5,-⟩:=(a1.o.new hJ ab HF.o hW).st;obtain⟨fX,f2,-⟩:=b5.ex;have br:Below K.n₀ w W:=a1.o.fE.low.trans (hW.mono (by have:=a1.o.fE.size;omega));exact nH em.o.bv W br (by have:=br.size;omega) f2
         simp only[ah.val,Sp.val]at HW;obtain⟨v0,v1,v2,v3,v4,v5,v6⟩:=HC.o w8.drew (ag _ _).drew;have gn:Below w8.heap.size w8 w8.drew:=(ag _ _).drew;generalize fZ K.p outside x.bv=wy at *;have b9:=ee.o;cases df
         all_goals
          have am:=bj.o;simp only[Bool.or_false,Bool.false_eq_true,if_false,if_true]at am;have a4:=ae am;have fg:=ae (λW=>(b9 ▸ oz wy K.p.aS W:Calls Tryz.prog 229 #[.int .i64 wy,.int .i64 K.p.aS] W λo w'=>o=.returned (.bool _)/\W=w'));clear b9 am bj ca g0 p0 dv h1 h2
          go_region_held3(λW=>W.cell? ⟨wr.heap.size,1,none⟩=some (.int .u8 x.bv.bI)/\W.cell? ⟨wr.heap.size,2,none⟩=some (.int .u8 x.bv.op)/\W.cell? ⟨wr.heap.size,3,none⟩=some (.int .u32 x.bv.bv)/\W.cell? ⟨wr.heap.size,4,none⟩=some (.int .i64 x.bv.aS)/\W.cell? ⟨wr.heap.size,5,none⟩=some (.string x.bv.aT)/\W.cell? ⟨wr.heap.size,6,none⟩=some (.slice x.bv.sp.dO x.bv.cu.length x.bv.sp.df)/\W.cell? ⟨w.heap.size,1,none⟩=some (.int .i64 K.p.aS)/\Below w8.heap.size w8 W) (simp[*])
           (first
            |(go_at_call 230;refine(HW.o _ (by assumption)).mono ?_;rintro o7 w7 ⟨rfl,fy⟩;have fz:=Below.trans (by assumption:Below w8.heap.size w8 _) (fy.mono (Below.size (by assumption)));obtain⟨z0,z1,z2,z3,z4,z5,z6⟩:=HC.o _ fz)
            |(go_at_call 229;refine(fg.o _).mono ?_;rintro o6 w6 ⟨rfl,rfl⟩)
            |fail)
          go_wp2_with(first|(go_at_call 228;refine(a5.o _ _ (b7.o.trans ((by assumption:Below w8.heap.size w8 _).mono b7.o.size))).mono ?_;rintro o9 w9 ⟨rfl,V,al⟩;have be:=ae V;have b1:=ae al;clear V al)|fail)
          go_meet
          case rel=>exact⟨by rw[a4.o];exact be.o,b1.o⟩
     case rest=>as_aux_lemma =>
      obtain⟨V,al⟩:=hcut;obtain⟨d3,b6,cW⟩:=V.st;have b4:=zh hJ ab hT (pm:=d3) (E:=outside) (wh:=1) em.o.bv ((b3++jA K.p (K.p.eQ.take k) [])++[ie]) 1 wc V.fE.low b6 (by simp only[ay,aF,bK];omega) (by omega);simp only[ah.val,Sp.val,Int.natCast_one]at b4;have c6:=ae b4;have be:=ae V;have eq:=ae cW;have q1:wc.cell? ⟨wr.heap.size,1,none⟩=some (.int .u8 x.bv.bI):=by simp[World.cell?,al]
      have q2:wc.cell? ⟨wr.heap.size,2,none⟩=some (.int .u8 x.bv.op):=by simp[World.cell?,al]
      have q3:wc.cell? ⟨wr.heap.size,3,none⟩=some (.int .u32 x.bv.bv):=by simp[World.cell?,al]
      have q4:wc.cell? ⟨wr.heap.size,4,none⟩=some (.int .i64 x.bv.aS):=by simp[World.cell?,al]
      have q5:wc.cell? ⟨wr.heap.size,5,none⟩=some (.string x.bv.aT):=by simp[World.cell?,al]
      have q6:wc.cell? ⟨wr.heap.size,6,none⟩=some (.slice x.bv.sp.dO x.bv.cu.length x.bv.sp.df):=by simp[World.cell?,al]
      clear V al b6 cW b4 a5 g0 p0 dv cG;go_wp2_with(first|(go_at_call 225;refine c6.o.mono ?_;rintro o7 w7 ⟨rfl,cw⟩;have c7:=ae cw;clear cw)|fail)
      have cy:=ae (be.o.told HF.o eq.o c7.o);go_roundw
      case rel=>exact⟨k+1,by omega,by go_num,by
       have h9:=cy.o;rw[cc.o,eh.o]
       simpa using h9⟩
      case measure=>simp[intOf];omega
    .obtain rfl:k=K.p.eQ.length:=by omega
     rw[bW]at ap;obtain⟨w5,fR⟩:∃y:World,y=wr:=⟨_,rfl⟩;subst fR;obtain⟨cA,cj⟩:∃l,b3++jA K.p K.p.eQ []=l:=⟨_,rfl⟩;have g3:cA.length=b3.length+(jA K.p K.p.eQ []).length:=by rw[<-cj,ay]
     rw[cj]at ap bh;have fs:=gN ap.o.box 13 (v:=.slice K.p.rs.dO K.p.aA.length K.p.rs.df) rfl;have gO:=yu hH;have gA:(fC K.p).length<=20000:=by
      have e3:=vV K.p 4;rw[EN]at e3;omega
     clear cj d4;go_wp2_with fail
     go_loopw[104] (λv wr=>∃k:Nat,k<=K.p.aA.length/\v=.int .i64 k/\oO K J Jx w w.heap.size mb (cA++fO K.p (K.p.aA.take k) 0 (fC K.p)) (fC K.p++(K.p.aA.take k).map bG.aT) wr) (λv _=>K.p.aA.length - (intOf v).toNat)
     case atStart=>exact⟨0,aH _,rfl,by simpa[fO]using ap.o⟩
     case round =>
      obtain⟨k,hk,rfl,bm⟩:=hrel;have aE:=ae bm;clear bm fs;by_cases O:k<K.p.aA.length
      .obtain⟨b2,U,ba,_,D⟩:=(HP.o.prow.below aE.o.fE.low).row (by omega)
       have k0:wr.cell? ⟨b2,U+k*3,none⟩=some (.string K.p.aA[k].aT):=D k O 0 _ rfl;have k1:wr.cell? ⟨b2,U+k*3+1,none⟩=some (.slice K.p.aA[k].ps.dO K.p.aA[k].bC.length K.p.aA[k].ps.df):=D k O 1 _ rfl;have k2:wr.cell? ⟨b2,U+k*3+2,none⟩=some (.slice K.p.aA[k].bs.dO K.p.aA[k].eY.length K.p.aA[k].bs.df):=D k O 2 _ rfl;have bc:K.p.aA.take (k+1)=K.p.aA.take k++[K.p.aA[k]]:=aG O;have gE:=(HN.o.aA _ (ak O)).1;have bt:(fO K.p (K.p.aA.take (k+1)) 0 (fC K.p)).length<=(fO K.p K.p.aA 0 (fC K.p)).length:=by
        have e1:K.p.aA=K.p.aA.take (k+1)++K.p.aA.drop (k+1):=(fA _ _).symm;rw[uX,uX]
        conv=>rhs;rw[e1]
        rw[aO,fo];omega
       have du:fO K.p (K.p.aA.take k++[K.p.aA[k]]) 0 (fC K.p)=fO K.p (K.p.aA.take k) 0 (fC K.p)++nM K.p (fC K.p++(K.p.aA.take k).map bG.aT) k K.p.aA[k]:=by
        rw[BP,dW,Nat.min_eq_left hk,fI]
       rw[bc,du]at bt;simp only[ay]at bt;have eV:=aE.o.fE.size;have bo:=jc wr (.cells #[.string K.p.aA[k].aT,.slice K.p.aA[k].ps.dO K.p.aA[k].bC.length K.p.aA[k].ps.df,.slice K.p.aA[k].bs.dO K.p.aA[k].eY.length K.p.aA[k].bs.df] 54);have bl:=gM wr (.cells #[.string K.p.aA[k].aT,.slice K.p.aA[k].ps.dO K.p.aA[k].bC.length K.p.aA[k].ps.df,.slice K.p.aA[k].bs.dO K.p.aA[k].eY.length K.p.aA[k].bs.df] 54);have ao:=aE.o.new hJ ab HF.o bo;obtain⟨dy,ar,a8⟩:=ao.st;obtain⟨f5,n5,_,a6⟩:=ao.bef;have ct:=NM K.p [] (fC K.p++(K.p.aA.take k).map bG.aT) k K.p.aA[k];have ez:=Qn hJ ab hT hH HN.o dr _ ar (ej.o.below ao.fE.low dr) k O (by rw[ct,ay];omega) a6;have cc:=ae bc;have fj:=ae du;clear a8 ar;generalize K.p.aA[k]=x at *;have fi:=ae ez;have bd:=ae ao;have a3:=ae bl;have cH:(wr.alloc (.cells x.r 54)).heap.size=wr.heap.size+1:=by simp
       have eI:(0:Int)<=(k:Int):=by omega
       have eJ:(k:Int)<(K.p.aA.length:Int):=by omega
       have eL:((K.p.aA.take k).map bG.aT).length<=K.p.aA.length:=by rw[cZ];exact List.length_take_le' _ _
       clear D bc du ez bo bl ao ct;rw[ba];clear ba;go_upto_region 28 with (first|(go_at_call 231;refine fi.o.mono ?_;rintro o6 w6 ⟨rfl,bw⟩;have bk:=ae bw;clear bw)|fail)
       clear k0 k1 k2;have aw:=bd.o.entered HF.o bk.o;have cd:=bk.o.fE.cells _ _ _ _ a3.o rfl (by omega);obtain⟨c0,_,_⟩:=gL cd;obtain⟨f6,n6,cq,ad⟩:=aw.bef;have eK:=ad.look1 (s:=x.aT) (by unfold maxLen;omega);obtain⟨e7,e8⟩:=ad.gT x.aT;simp only[ay]at cq;have e9:n6<=100000:=by omega
       obtain⟨w8,cv,a7,a9⟩:=ad.store (s:=x.aT) (by unfold maxLen;omega) (by omega);have an:=aw.stored hJ ab HF.o a9 (by simp only[ay];exact cq) a7;generalize (f6 x.aT).getD 0=c at *;have a1:=ae an;clear aw cd ad a7 a9 an a6;go_wp2_with(refine kI rfl _ _ _ 119 rfl rfl rfl rfl cv ?_)
       go_roundw
       case rel=>exact⟨k+1,by omega,by go_num,by
        have h9:=a1.o;rw[cc.o,fj.o,aO,<-aY,<-aY];exact h9⟩
       case measure=>simp[intOf];omega
      .obtain rfl:k=K.p.aA.length:=by omega
       rw[bW]at aE;obtain⟨w6,fS⟩:∃y:World,y=wr:=⟨_,rfl⟩;subst fS;obtain⟨cC,ck⟩:∃l,cA++fO K.p K.p.aA 0 (fC K.p)=l:=⟨_,rfl⟩;have g4:cC.length=cA.length+(fO K.p K.p.aA 0 (fC K.p)).length:=by rw[<-ck,ay]
       rw[ck]at aE bh;obtain⟨gc,cY,cT⟩:=aE.o.st;have ey:outside.within<=1000000000:=by decide
       have dl:=yI hJ ab hT hH (pm:=gc) ey HP.o.eX cC 1 w6 aE.o.fE.low cY (by omega) (by omega);simp only[Sp.val,Int.natCast_one]at dl;have ev:=ae dl;have cM:=ae cT;have fY:=gN aE.o.box 14 (v:=.slice K.p.ws.dO K.p.eX.length K.p.ws.df) rfl;clear cY cT dl ck ap;go_upto_region 31 with (first|(go_at_call 232;refine ev.o.mono ?_;clear ev;rintro o7 w7 ⟨rfl,cw⟩;have c7:=ae cw;clear cw)|fail)
       have b8:=aE.o.told HF.o cM.o c7.o;obtain⟨cD,cl⟩:∃l,cC++eH K.p outside K.p.eX 1=l:=⟨_,rfl⟩;have g5:cD.length=cC.length+(eH K.p outside K.p.eX 1).length:=by rw[<-cl,ay]
       rw[cl]at b8 bh;have cy:=ae b8;obtain⟨gd,da,cU⟩:=b8.st;have dk:=yI hJ ab hT hH (pm:=gd) ey HP.o.eB cD 1 w7 b8.fE.low da (by omega) (by omega);simp only[Sp.val,Int.natCast_one]at dk;have er:=ae dk;have cN:=ae cU;have ga:=gN b8.box 15 (v:=.slice K.p.cs.dO K.p.eB.length K.p.cs.df) rfl;clear da cU dk cl aE cM c7 fY b8;go_upto_region 32 with (first|(go_at_call 232;refine er.o.mono ?_;clear er;rintro o8 w8 ⟨rfl,fa⟩;have et:=ae fa;clear fa)|fail)
       have an:=cy.o.told HF.o cN.o et.o;obtain⟨ew,cm⟩:∃l,cD++eH K.p outside K.p.eB 1=l:=⟨_,rfl⟩;have g6:ew.length=cD.length+(eH K.p outside K.p.eB 1).length:=by rw[<-cm,ay]
       rw[cm]at an bh;have a1:=ae an;obtain⟨fc,b5,cV⟩:=an.st;have dj:=zh hJ ab hT (pm:=fc) (E:=outside) (wh:=2) HP.o.d9 ew 1 w8 an.fE.low b5 (by omega) (by omega);simp only[ah.val,Sp.val,Int.natCast_one]at dj;have ei:=ae dj;have ep:=ae cV;have gR:=gN an.box 16 (v:=.int .u8 K.p.d9.bI) rfl;have gS:=gN an.box 17 (v:=.int .u8 K.p.d9.op) rfl;have ha:=gN an.box 18 (v:=.int .u32 K.p.d9.bv) rfl;have hg:=gN an.box 19 (v:=.int .i64 K.p.d9.aS) rfl;have hh:=gN an.box 20 (v:=.string K.p.d9.aT) rfl;have hn:=gN an.box 21 (v:=.slice K.p.d9.sp.dO K.p.d9.cu.length K.p.d9.sp.df) rfl;clear b5 cV dj cm cy cN et ga an;go_wp2_with(first|(go_at_call 225;refine ei.o.mono ?_;clear ei;rintro o9 w9 ⟨rfl,fb⟩;have fk:=ae fb;clear fb)|fail)
       go_returns
       have V:=a1.o.told HF.o ep.o fk.o;rw[<-bh.o]at V;obtain⟨d3,b6,-⟩:=V.st;exact⟨rfl,⟨d3,b6⟩,V.fE⟩
end Go.Proofs.YtepacjkacjabbaaGreatDoor
