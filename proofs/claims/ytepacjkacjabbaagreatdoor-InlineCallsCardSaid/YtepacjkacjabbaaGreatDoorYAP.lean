import Derived.Test.YtepacjkacjabbaaGreatDoorYAM
import Derived.Test.YtepacjkacjabbaaGreatDoorYAL
set_option linter.all false
set_option maxRecDepth 10000000
set_option maxHeartbeats 64000000
namespace Go.Proofs.YtepacjkacjabbaaGreatDoor
open Go Go.Maps Go.RowKit
section
def Bt(lo hi:Nat)(W:World)(s:aa):Prop:=lV hi (gP lo W) s
section
variable {lo hi hi':Nat}{W W':World}{s:aa}
theorem Bt.keep(h:Bt lo hi W s)(hk:∀b,lo<=b->b<hi->W'.heap[b]?=W.heap[b]?):Bt lo hi W' s :=
 lV.cells h λp _ hp hc=>by
  obtain⟨h1,D⟩:=bJ.1 hc;exact bJ.2 ⟨h1,(aM (hk _ h1 hp)).trans D⟩
theorem Bt.raise(h:Bt lo hi W s)(D:hi<=hi'):Bt lo hi' W s:=lV.more h D
theorem dz.same{α:Type}{enc:α->List Value}{B k n c:Nat}{t:TypeId}{sa:Option Addr}{l:List α}(h:dz B W t k enc (.slice sa n c) l)(hk:∀a,sa=some a->W'.heap[a.block]?=W.heap[a.block]?):dz B W' t k enc (.slice sa n c) l:=by
 obtain⟨D,ho⟩:=h;refine⟨D,?_⟩;rcases ho with U|⟨g,O,cur,hv,h1,V,h3⟩
 .exact .inl U
 .injection hv with e1 e2 e3
  exact .inr ⟨g,O,cur,by rw[e1,e2,e3],h1,(hk _ e1).trans V,h3⟩
end
structure Br(γ η:uz)(w W:World)(l:List aa)(sp:Sp)(sa:Option Addr)(sc lo hi k:Nat)(row cur:List aa):Prop where
 low:Below w.heap.size w W
 hlo:w.heap.size<=lo
 hhi:lo<=hi
 hiW:hi<=W.heap.size
 dO:∀a,sa=some a->a.block<lo
 own:dz w.heap.size W 43 6 aa.cells (.slice sa l.length sc) row
 len:cur.length=l.length
 done:∀i (h:i<l.length) (h':i<cur.length),i<k->SX γ η l[i] cur[i]/\Bt lo hi W cur[i]
 todo:∀i (h:i<l.length) (h':i<cur.length),k<=i->cur[i]=l[i]
section
variable {γ η:uz}{w W W':World}{l:List aa}{sp:Sp}{sa:Option Addr}{sc lo hi k:Nat}{row cur:List aa}
theorem Br.keep(h:Br γ η w W l sp sa sc lo hi k row cur)(hb:Below hi W W'):Br γ η w W' l sp sa sc lo hi k row cur :=
 ⟨h.low.trans (hb.mono (ai h.hlo h.hhi)),h.hlo,h.hhi,ai h.hiW hb.size,h.dO,h.own.same λa V=>hb.block _ (aI (h.dO a V) h.hhi),h.len,λi h1 O U=>⟨(h.done i h1 O U).1,(h.done i h1 O U).2.keep λb _ D=>hb.block b D⟩,h.todo⟩
theorem Br.on(h:Br γ η w W l sp sa sc lo hi k row cur)(hb:Below W.heap.size W W'):Br γ η w W' l sp sa sc lo hi k row cur:=h.keep (hb.mono h.hiW)
theorem Br.raise(h:Br γ η w W l sp sa sc lo hi k row cur):Br γ η w W l sp sa sc lo W.heap.size k row cur :=
 ⟨h.low,h.hlo,ai h.hhi h.hiW,af _,h.dO,h.own,h.len,λi h1 D O=>⟨(h.done i h1 D O).1,(h.done i h1 D O).2.raise h.hiW⟩,h.todo⟩
theorem Br.put{g r:Nat}{v:Value}{x:aa}(h:Br γ η w W l sp (some ⟨g,0,none⟩) sc lo hi k row cur)(U:w.heap.size<=g)(ab:row.length=l.length)(hk:k<l.length)(hr:r<6)(hx:((row[k]'(by omega)).cells).set r v=x.cells) :
  Br γ η w (W.setCell ⟨g,k*6+r,none⟩ v) l sp (some ⟨g,0,none⟩) sc lo hi k (row.set k x) cur:=by
 have V:g<lo:=h.dO _ rfl;refine⟨h.low.setCell (p:=⟨g,k*6+r,none⟩) U v,h.hlo,h.hhi,by rw[World.size_setCell];exact h.hiW,h.dO,h.own.put1 (λ_=>rfl) (by omega) hr hx,h.len,λi h1 D O=>⟨(h.done i h1 D O).1,(h.done i h1 D O).2.keep λb hb _=>aN _ _ _ _ (show b≠g by omega)⟩,h.todo⟩
theorem Br.next{x:aa}(h:Br γ η w W l sp sa sc lo hi k (cur.set k x) cur)(hk:k<l.length)(hr:SX γ η l[k] x)(hx:Bt lo W.heap.size W x):Br γ η w W l sp sa sc lo W.heap.size (k+1) (cur.set k x) (cur.set k x):=by
 have D:=h.raise;refine⟨D.low,D.hlo,D.hhi,D.hiW,D.dO,D.own,by rw[fe];exact h.len,λi h1 O U=>?_,λi h1 O U=>?_⟩
 .by_cases hi:i=k
  .subst hi
   rw[fM];exact⟨hr,hx⟩
  .rw[iC (Ne.symm hi)]
   exact D.done i h1 (by rw[h.len];exact h1) (by omega)
 .rw[iC (by omega)]
  exact h.todo i h1 (by rw[h.len];exact h1) (by omega)
end
structure OE(γ:uz)(W:World)(bx:Nat)(s:aa)(ea:Option Addr)(ec lo2 k2:Nat)(cur2:List ah):Prop where
 ebox:W.heap[bx]?=some (.cells s.r 43)
 hbx:bx<lo2
 lo2W:lo2<=W.heap.size
 dO:∀a,ea=some a->bx<a.block/\a.block<lo2
 own:dz (bx+1) W 30 6 ah.cells (.slice ea s.bf.length ec) cur2
 len:cur2.length=s.bf.length
 done:∀i (h:i<s.bf.length) (h':i<cur2.length),i<k2->En γ s.bf[i] cur2[i]/\fV lo2 W cur2[i]
 todo:∀i (h:i<s.bf.length) (h':i<cur2.length),k2<=i->cur2[i]=s.bf[i]
section
variable {γ:uz}{W W':World}{bx:Nat}{s:aa}{ea:Option Addr}{ec lo2 k2:Nat}{cur2:List ah}
theorem OE.keep(h:OE γ W bx s ea ec lo2 k2 cur2)(V:W.heap.size<=W'.heap.size)(hk:∀b,bx<=b->b<W.heap.size->W'.heap[b]?=W.heap[b]?):OE γ W' bx s ea ec lo2 k2 cur2 :=
 ⟨(hk _ (af _) (dM h.ebox).1).trans h.ebox,h.hbx,ai h.lo2W V,h.dO,h.own.same λa U=>hk _ (dI (h.dO a U).1) (aI (h.dO a U).2 h.lo2W),h.len,λi h1 D O=>⟨(h.done i h1 D O).1,mM.more (mM.cells (h.done i h1 D O).2 λp u hp hc=>by
   obtain⟨c1,c2⟩:=bJ.1 hc;exact bJ.2 ⟨c1,(aM (hk _ (ai (dI h.hbx) c1) hp)).trans c2⟩) V⟩,h.todo⟩
theorem OE.on(h:OE γ W bx s ea ec lo2 k2 cur2)(hb:Below W.heap.size W W'):OE γ W' bx s ea ec lo2 k2 cur2:=h.keep hb.size λb _ D=>hb.block b D
theorem OE.put{g:Nat}(h:OE γ W bx s (some ⟨g,0,none⟩) ec lo2 k2 cur2)(hk:k2<s.bf.length){x:ah}(hr:En γ s.bf[k2] x)(hx:fV lo2 W x) :
  OE γ (six W g (k2*6) (.int .u8 x.bI) (.int .u8 x.op) (.int .u32 x.bv) (.int .i64 x.aS) (.string x.aT) (.slice x.sp.dO x.cu.length x.sp.df)) bx s (some ⟨g,0,none⟩) ec lo2 (k2+1) (cur2.set k2 x):=by
 obtain⟨O,D⟩:=h.dO _ rfl
 dsimp only at O D
 refine⟨(wK _ _ _ _ _ _ _ _ _ (by omega)).trans h.ebox,h.hbx,by rw[wL];exact h.lo2W,h.dO,h.own.put6 (λ_=>rfl) (by rw[h.len];exact hk) rfl,by rw[fe];exact h.len,λi h1 U V=>?_,λi h1 U V=>?_⟩
 .by_cases hi:i=k2
  .subst hi
   rw[fM];exact⟨hr,xA hx D _ _ _ _ _ _ _⟩
  .rw[iC (Ne.symm hi)]
   have:=h.done i h1 (by rw[h.len];exact h1) (by omega);exact⟨this.1,xA this.2 D _ _ _ _ _ _ _⟩
 .rw[iC (by omega)]
  exact h.todo i h1 (by rw[h.len];exact h1) (by omega)
end
theorem j4.keep{lo:Nat}{W W':World}{sp:Sp}{l:List aa}(h:j4 lo W sp l)(U:W.heap.size<=W'.heap.size)(hk:∀b,lo<=b->b<W.heap.size->W'.heap[b]?=W.heap[b]?):j4 lo W' sp l:=by
 have hc:∀p u,p.block<W.heap.size->(gP lo W).cell? p=some u->(gP lo W').cell? p=some u:=λp u hp h1=>by
  obtain⟨O,V⟩:=bJ.1 h1;exact bJ.2 ⟨O,(aM (hk _ O hp)).trans V⟩
 exact⟨(h.1.cells hc).more U,λs D=>lV.more (lV.cells (h.2 s D) hc) U⟩
theorem j4.on'{lo:Nat}{W W':World}{sp:Sp}{l:List aa}(h:j4 lo W sp l)(hb:Below W.heap.size W W'):j4 lo W' sp l:=h.keep hb.size λb _ D=>hb.block b D
def U5(η:uz)(s:aa)(es:Sp)(ex:List ah)(ts:Sp)(th:List aa)(os:Sp)(el:List aa):aa:=.mk s.bI (η s.bI s.aT) es ex s.gT ts th os el
section
variable {γ η:uz}{w W:World}{l:List aa}{sp:Sp}{g sc lo bx k:Nat}{cur:List aa}{s:aa}{ea:Option Addr}{ec lo2:Nat}{cur2:List ah}{nm1:ByteArray}{tsp osp:Sp}{tl ol:List aa}
theorem Br.fin(h:Br γ η w W l sp (some ⟨g,0,none⟩) sc lo bx k (cur.set k (.mk s.bI nm1 ⟨ea,ec⟩ s.bf s.gT s.ts s.gy s.os s.iD)) cur)(he:OE γ W bx s ea ec lo2 s.bf.length cur2)
  (an:j4 lo W tsp tl) (hne:j4 lo W osp ol) (aq:yY γ η s.gy tl) (ap:yY γ η s.iD ol) (am:η s.bI s.aT=nm1) (hk:k<l.length) (hs:l[k]=s) (hg:w.heap.size<=g) (hη:∀k s,s.size<=maxLen->(η k s).size<=maxLen) (ao:lV w.heap.size w s) :
  ∃(O:List aa) (hi':Nat),Br γ η w ((W.setCell ⟨g,k*6+4,none⟩ (.slice tsp.dO tl.length tsp.df)).setCell ⟨g,k*6+5,none⟩ (.slice osp.dO ol.length osp.df)) l sp (some ⟨g,0,none⟩) sc lo hi' (k+1) O O:=by
 have ar:g<lo:=h.dO _ rfl;have a1:=h.hhi;have aw:k<cur.length:=by rw[h.len];exact hk
 have h1:=h.put (r:=4) (v:=.slice tsp.dO tl.length tsp.df) (x:=.mk s.bI nm1 ⟨ea,ec⟩ s.bf s.gT tsp tl s.os s.iD) hg (by rw[fe];exact h.len) hk (by decide) (by rw[fM];rfl);rw[List.set_set]at h1;have h2:=h1.put (r:=5) (v:=.slice osp.dO ol.length osp.df) (x:=U5 η s ⟨ea,ec⟩ cur2 tsp tl osp ol) hg (by rw[fe];exact h.len) hk (by decide) (by
  rw[fM];have e:(U5 η s ⟨ea,ec⟩ cur2 tsp tl osp ol).cells=[.int .u8 s.bI,.string (η s.bI s.aT),.slice ea cur2.length ec,.int .i64 s.gT,.slice tsp.dO tl.length tsp.df,.slice osp.dO ol.length osp.df]:=rfl;rw[e,he.len,am]
  rfl)
 rw[List.set_set]at h2;have D:∀b,lo<=b->((W.setCell ⟨g,k*6+4,none⟩ (.slice tsp.dO tl.length tsp.df)).setCell ⟨g,k*6+5,none⟩ (.slice osp.dO ol.length osp.df)).heap[b]?=W.heap[b]? := λb hb=>(aN _ _ _ _ (show b≠g by omega)).trans (aN _ _ _ _ (show b≠g by omega))
 have ab:W.heap.size<=((W.setCell ⟨g,k*6+4,none⟩ (.slice tsp.dO tl.length tsp.df)).setCell ⟨g,k*6+5,none⟩ (.slice osp.dO ol.length osp.df)).heap.size:=by simp
 have ad:=he.keep ab λb hb _=>D b (by omega)
 have V:=an.keep ab λb hb _=>D b hb
 have U:=hne.keep ab λb hb _=>D b hb
 refine⟨_,_,h2.next hk ?_ ?_⟩
 .rw[hs]
  cases s with
  |mk kd nm es ex b ts th os el=>exact SX.mk (OT.of he.len λi h1 h2=>(he.done i h1 h2 h1).1) aq ap
 .obtain⟨r1,r2,r3,r4⟩:=(match ao with|.mk _ a b c d _ _ _ _ _=>⟨a,b,c,d⟩:_/\_/\_/\_)
  refine .mk _ r1 r2 ?_ (ad.own.low (B2:=lo) (λ_=>rfl) (by rw[he.len];exact r4.few) (by omega)) (λe hm=>?_) V.1 V.2 U.1 U.2
  .show(η s.bI s.aT).size<=maxLen
   exact hη _ _ r3
  .obtain⟨i,hi,rfl⟩:=gm hm
   have al:i<s.bf.length:=by rw[<-he.len];exact hi
   exact(ad.done i al hi al).2.less (by have:=he.hbx;omega)
end
end
inductive SQ(p:aj):Nat->Nat->Prop
 |refl (a:Nat):SQ p a a
 |step {a b c:Nat}(h:b∈lC p a) (t:SQ p b c):SQ p a c
def Jm(p:aj)(seen:List Nat):Nat:=((List.range p.aA.length).map λk=>if k∈seen then 0 else(lC p k).length).sum
theorem Nr{p:aj}{i:Nat}(h:p.aA.length<=i):lC p i=[]:=by
 unfold lC;rw[List.getElem?_eq_none h]
theorem JC(f:Nat->Nat)(seen:List Nat)(i:Nat)(hi:i∉seen):∀l:List Nat,l.Nodup->(l.map λk=>if k∈i::seen then 0 else f k).sum+(if i∈l then f i else 0)=(l.map λk=>if k∈seen then 0 else f k).sum
 |[],_=>by simp
 |x::l,D=>by
  rw[List.nodup_cons]at D;have O:=JC f seen i hi l D.2;rw[ax,ax,bL,bL];by_cases hx:i=x
  .subst hx
   rw[if_neg D.1,bS]at O;rw[if_pos (aD ..),if_pos (aD ..),if_neg hi,<-O];omega
  .have U:(x∈i::seen)=(x∈seen):=by
    simp only[bE,eq_iff_iff];exact⟨λh=>h.resolve_left (Ne.symm hx),.inr⟩
   have V:(i∈x::l)=(i∈l):=by
    simp only[bE,eq_iff_iff];exact⟨λh=>h.resolve_left hx,.inr⟩
   simp only[U,V];omega
theorem NT(p:aj)(seen:List Nat)(i:Nat)(hi:i∉seen):Jm p (i::seen)+(lC p i).length=Jm p seen:=by
 have h:=JC (λk=>(lC p k).length) seen i hi (List.range p.aA.length) List.nodup_range;unfold Jm;rw[<-h];by_cases hl:i<p.aA.length
 .rw[if_pos (List.mem_range.2 hl)]
 .rw[if_neg λh=>hl (List.mem_range.1 h),Nr (Nat.le_of_not_lt hl)]
  rfl
theorem uN(p:aj)(U:Nat):∀(n:Nat) (seen D:List Nat),(∀s∈seen,s≠U/\∀c∈lC p s,c∈seen\/c∈D)->D.length+Jm p seen<n->kP p U n seen D=false ->
  ∃S:Nat->Prop,(∀s∈seen,S s)/\(∀t∈D,S t)/\¬S U/\∀s,S s->∀c∈lC p s,S c
 |0,_,_,_,h,_=>absurd h (dX _)
 |n+1,seen,[],hI,_,_=>⟨(·∈seen),λ_ h=>h,λ_ h=>(by cases h),λh=>(hI _ h).1 rfl,λs V c hc=>by
   rcases(hI s V).2 c hc with h|h
   .exact h
   .cases h⟩
 |n+1,seen,i::D,hI,hf,hl=>by
  by_cases hi:i=U
  .subst hi
   rw[kP,if_pos rfl]at hl;cases hl
  .rw[kP,if_neg hi]at hl
   simp only[aF]at hf;by_cases V:i∈seen
   .rw[if_pos V]at hl
    obtain⟨S,h1,h2,h3,h4⟩:=uN p U n seen D (λs O=>⟨(hI s O).1,λc hc=>by
     rcases(hI s O).2 c hc with h|h
     .exact .inl h
     .rcases List.mem_cons.1 h with rfl|h
      .exact .inl V
      .exact .inr h⟩) (by omega) hl
    exact⟨S,h1,λt ht=>by
     rcases List.mem_cons.1 ht with rfl|ht
     .exact h1 _ V
     .exact h2 t ht,h3,h4⟩
   .rw[if_neg V]at hl
    have hr:=NT p seen i V;obtain⟨S,h1,h2,h3,h4⟩:=uN p U n (i::seen) (D++lC p i) (λs O=>by
     rcases List.mem_cons.1 O with rfl|O
     .exact⟨hi,λc hc=>.inr (bF _ hc)⟩
     .exact⟨(hI s O).1,λc hc=>by
       rcases(hI s O).2 c hc with h|h
       .exact .inl (au _ h)
       .rcases List.mem_cons.1 h with rfl|h
        .exact .inl (aD ..)
        .exact .inr (cz _ h)⟩) (by rw[ay];omega) hl
    exact⟨S,λs O=>h1 s (au _ O),λt ht=>by
     rcases List.mem_cons.1 ht with rfl|ht
     .exact h1 _ (aD ..)
     .exact h2 t (cz _ ht),h3,h4⟩
theorem SQ.closed{p:aj}{S:Nat->Prop}(D:∀s,S s->∀c∈lC p s,S c){a b:Nat}(h:SQ p a b):S a->S b:=by
 induction h with
 |refl=>exact id
 |step h _ U=>exact λO=>U (D _ O _ h)
theorem PO{p:aj}{a b:Nat}(h:kF p a b=false):¬SQ p a b:=by
 obtain⟨S,_,D,O,U⟩:=uN p b (vE p) [] [a] (λs V=>(by cases V)) (by unfold vE Jm;simp) h;exact λhr=>O (hr.closed U (D a (aD ..)))
theorem ET{α:Type}(f g:α->Bool):∀l:List α,(∀x∈l,f x=true->g x=true)->(∃x∈l,g x=true/\f x=false)->l.countP f<l.countP g
 |[],_,h=>by obtain⟨x,hx,_⟩:=h;cases hx
 |x::l,hi,h=>by
  have U:∀l:List α,(∀x∈l,f x=true->g x=true)->l.countP f<=l.countP g:=λl hl=>List.countP_mono_left hl
  rw[List.countP_cons,List.countP_cons];have hx:=hi x (aD ..);have hl:=U l λy O=>hi y (au _ O)
  obtain⟨y,O,V,hf⟩:=h;rcases List.mem_cons.1 O with rfl|O
  .simp[V,hf];omega
  .have:=ET f g l (λy O=>hi y (au _ O)) ⟨y,O,V,hf⟩
   by_cases D:f x=true
   .simp[D,hx D];omega
   .simp[D];split<;>omega
noncomputable def rankP (p:aj) (i:Nat):Nat:=(List.range p.aA.length).countP λk=>@decide (SQ p i k) (Classical.propDecidable _)
theorem ve(p:aj)(i:Nat):rankP p i<=p.aA.length:=by
 unfold rankP;exact ai List.countP_le_length (by simp)
theorem RS{p:aj}{i j:Nat}(hi:i<p.aA.length)(D:j∈lC p i)(O:kF p j i=false):rankP p j<rankP p i:=by
 unfold rankP;refine ET _ _ _ (λk _ hk=>?_) ⟨i,List.mem_range.2 hi,?_,?_⟩
 .exact @decide_eq_true _ (Classical.propDecidable _) (.step D (@of_decide_eq_true _ (Classical.propDecidable _) hk))
 .exact @decide_eq_true _ (Classical.propDecidable _) (.refl i)
 .exact @decide_eq_false _ (Classical.propDecidable _) (PO O)
theorem R6(p:aj)(E:Env)(s:aa):∀(d:Nat) (x:aa),x∈s.pre->∃D,pV p E x D∈lF p E s d:=by
 induction s using aa.ind with
 |h k n es ex b ts th os el U V =>
  intro d x hx;rw[aa.pre_eq]at hx;rw[iH];rcases List.mem_cons.1 hx with rfl|hx
  .exact⟨d,aD ..⟩
  .rcases List.mem_append.1 hx with hx|hx
   .obtain⟨s,O,hx⟩:=List.mem_flatMap.1 hx
    obtain⟨D,h⟩:=U s O (d+1) x hx;exact⟨D,au _ (bF _ (cz _ (by rw[jC];exact List.mem_flatMap.2 ⟨s,O,h⟩)))⟩
   .obtain⟨s,O,hx⟩:=List.mem_flatMap.1 hx
    obtain⟨D,h⟩:=V s O (d+1) x hx;exact⟨D,au _ (bF _ (bF _ (by rw[jC];exact List.mem_flatMap.2 ⟨s,O,h⟩)))⟩
theorem zV(p:aj)(E:Env)(l:List aa)(d:Nat)(x:aa)(hx:x∈l.flatMap aa.pre):∃D,pV p E x D∈eH p E l d:=by
 obtain⟨s,O,hx⟩:=List.mem_flatMap.1 hx;obtain⟨D,h⟩:=R6 p E s d x hx;exact⟨D,by rw[jC];exact List.mem_flatMap.2 ⟨s,O,h⟩⟩
theorem OY(y:dH)(xb:Nat)(D:Int)(W:World)(h:W.cell? ⟨xb,0,none⟩=some (.int .i64 D))(ab:xb<W.heap.size) :
  Calls Tryz.prog 227 #[y.val,.pointer (some ⟨xb,0,none⟩)] W λo w'=>o=.returned (.bool (decide (y.block=D)))/\Below W.heap.size W w':=by
 have O:=jc W (.cells y.r 149);have h2:=(O.cell (p:=⟨xb,0,none⟩) ab).trans h;have U:=ae O;clear h O;simp only[dH.val,Sp.val];by_cases e:y.block=D
 .have V:decide (y.block=D)=true:=aC e
  have he:(y.block == D)=true:=by simpa using e
  rw[V];clear V e;go_enter Tryz.func227,Tryz.ntmps227
  go_wp2_with fail
  go_ret
  exact⟨rfl,U.o⟩
 .have V:decide (y.block=D)=false:=az e
  have he:(y.block == D)=false:=by simpa using e
  rw[V];clear V e;go_enter Tryz.func227,Tryz.ntmps227
  go_wp2_with fail
  go_ret
  exact⟨rfl,U.o⟩
theorem Kz(w:World){n₀:Nat}{sp:Sp}{l:List dH}(row:RowOf n₀ w sp 7 dH.cells l)(hn:n₀<=w.heap.size)(k:Nat)(hk:k<=l.length)(c:Nat)(xb:Nat)(V:Int)(hx:w.cell? ⟨xb,0,none⟩=some (.int .i64 V))(a3:xb<w.heap.size) :
  Calls Tryz.prog 259 #[.slice sp.dO k c,.func (.func 227) #[] #[.pointer (some ⟨xb,0,none⟩)]] w λo w'=>(∃z:Int,-1<=z/\o=.returned (.int .i64 z)/\(0<=z↔V∈(l.take k).map dH.block))/\Below w.heap.size w w':=by
 have a6:=row.few;have an:=ae row;have HX:=ae hx;clear row hx;go_enter Tryz.func259,Tryz.ntmps259
 go_wp2_with fail
 go_loopw[8] (λi wr=>∃j:Nat,j<=k/\i=.int .i64 j/\Hid (V∉(l.take j).map dH.block)/\Below w.heap.size w wr) (λi _=>k - (intOf i).toNat)
 case atStart=>exact⟨0,aH _,rfl,ae (by simp),ag _ _⟩
 case round =>
  obtain⟨j,hj,rfl,am,hb⟩:=hrel;have HB:=ae hb;clear hb;by_cases a1:j<k
  .have O:j<l.length:=by omega
   obtain⟨b,off,eA,_,D⟩:=(an.o.below (HB.o.mono hn)).row (by omega);have k0:wr.cell? ⟨b,off+j*7,none⟩=some (.int .i64 l[j].block):=D j O 0 _ rfl;have k1:wr.cell? ⟨b,off+j*7+1,none⟩=some (.int .u8 l[j].bv.bI):=D j O 1 _ rfl;have k2:wr.cell? ⟨b,off+j*7+2,none⟩=some (.int .u8 l[j].bv.op):=D j O 2 _ rfl;have k3:wr.cell? ⟨b,off+j*7+3,none⟩=some (.int .u32 l[j].bv.bv):=D j O 3 _ rfl;have k4:wr.cell? ⟨b,off+j*7+4,none⟩=some (.int .i64 l[j].bv.aS):=D j O 4 _ rfl;have k5:wr.cell? ⟨b,off+j*7+5,none⟩=some (.string l[j].bv.aT):=D j O 5 _ rfl;have k6:wr.cell? ⟨b,off+j*7+6,none⟩=some (.slice l[j].bv.sp.dO l[j].bv.cu.length l[j].bv.sp.df):=D j O 6 _ rfl;have ap:l.take (j+1)=l.take j++[l[j]]:=aG O;have ao:j<k->l[j].block∈(l.take k).map dH.block:=λh=>List.mem_map.2 ⟨l[j],by rw[List.mem_take_iff_getElem];exact⟨j,by omega,rfl⟩,rfl⟩
   have aw:=ae ap;have ar:=ae ao;generalize l[j]=y at *;have aq:=(HB.o.cell (p:=⟨xb,0,none⟩) a3).trans HX.o;have U:=OY y xb V wr aq (by have:=HB.o.size;omega);simp only[dH.val,Sp.val]at U;have a4:(0:Int)<=(j:Int):=by omega
   have a5:(j:Int)<(k:Int):=by omega
   clear D ap ao aq;rw[eA];clear eA;by_cases e:y.block=V
   .rw[aC e]at U
    have ad:=ae U;have HE:=ae e;clear U e;go_wp2_with fail
    refine ad.o.mono ?_;rintro o w2 ⟨rfl,ab⟩;have al:=ae ab;clear ab k0 k1 k2 k3 k4 k5 k6;go_wp2_with fail
    go_ret
    exact⟨⟨j,by omega,rfl,iff_of_true (by omega) (by rw[<-HE.o];exact ar.o a1)⟩,HB.o.trans (al.o.mono HB.o.size)⟩
   .rw[az e]at U
    have ad:=ae U;have HE:=ae e;clear U e;go_wp2_with fail
    refine ad.o.mono ?_;rintro o w2 ⟨rfl,ab⟩;have al:=ae ab;clear ab k0 k1 k2 k3 k4 k5 k6;go_wp2_with fail
    go_roundw
    case rel=>exact⟨j+1,by omega,by go_num,ae (by
     rw[aw.o,aO,dF];rintro(h|h)
     .exact am.o h
     .simp at h;exact HE.o h.symm),HB.o.trans (al.o.mono HB.o.size)⟩
    case measure=>simp[intOf];omega
  .obtain rfl:j=k:=by omega
   go_wp2_with fail
   go_ret
   exact⟨⟨-1,by omega,rfl,by have:=am.o;constructor<;>intro h;omega;exact absurd h this⟩,HB.o⟩
theorem Ep(w:World){n₀:Nat}{sp:Sp}{l:List dH}(row:RowOf n₀ w sp 7 dH.cells l)(hn:n₀<=w.heap.size)(k:Nat)(hk:k<=l.length)(c:Nat)(xb:Nat)(O:Int)(hx:w.cell? ⟨xb,0,none⟩=some (.int .i64 O))(ad:xb<w.heap.size) :
  Calls Tryz.prog 226 #[.slice sp.dO k c,.func (.func 227) #[] #[.pointer (some ⟨xb,0,none⟩)]] w λo w'=>o=.returned (.bool (decide (O∈(l.take k).map dH.block)))/\Below w.heap.size w w':=by
 have H:=ae (Kz w row hn k hk c xb O hx ad);obtain⟨U,D⟩:∃U,decide (O∈(l.take k).map dH.block)=U:=⟨_,rfl⟩;rw[D];have HR:=ae D;clear D row hx;go_enter Tryz.func226,Tryz.ntmps226
 go_wp2_with(first|(go_at_call 259;refine H.o.mono ?_;rintro o2 w2 ⟨⟨z,_,rfl,hz⟩,V⟩;have HZ:=ae hz;have ab:=ae V;clear hz V)|fail)
 go_ret
 exact⟨by rw[show decide (0<=z)=U by rw[<-HR.o,ky,decide_eq_true_iff,decide_eq_true_iff];exact HZ.o];rfl,ab.o⟩
def yo(k:Int):aa:=.mk k ⟨#[]⟩ Sp.none [] 0 Sp.none [] Sp.none []
inductive WT(M:jr)(hasP:Bool):Nat->aa->Prop
 |write {d:Nat}{wa:Int}{sp:Sp}{a b:ah}:WX M 0 1 wa a->WX M 0 2 M.w b->WT M hasP d (fw sp a b)
 |flush {d:Nat}{k:Int}:k=4\/k=5->WT M hasP d (yo k)
 |set {d:Nat}{s:ByteArray}{t:gV}{sp:Sp}{e:ah}:(s,t)∈jo M++mh M->WX M 0 2 t.aS e->WT M hasP d (ji sp s e)
 |put {d:Nat}{sp:Sp}{a b:ah}:WX M 0 1 2 a->WX M 0 1 M.w b->WT M hasP d (.mk 2 M.N.a sp [a,b] 0 Sp.none [] Sp.none [])
 |cond {d:Nat}{sp ts os:Sp}{e:ah}{th el:List aa}:WX M 0 2 1 e->th.length<=2->(∀s,s∈th->WT M hasP d s)->el.length<=1->(∀s,s∈el->WT M hasP d s)->WT M hasP (d+1) (.mk 6 ⟨#[]⟩ sp [e] 0 ts th os el)
 |loop {d:Nat}{sp ts:Sp}{gT:Int}{e:ah}{th:List aa}:1<=gT->gT<=3->WX M 0 1 1 e->th.length<=3->(∀s,s∈th->WT M hasP 0 s)->WT M hasP (d+1) (.mk 7 ⟨#[]⟩ sp [e] gT ts th Sp.none [])
 |call {d:Nat}{sp:Sp}{e:ah}:M.iR=false->hasP=true->WX M 0 1 M.w e->WT M hasP d (dN sp pB [e])
def Sb:Nat->Nat
 |0=>18
 |d+1=>14+3*Sb d
theorem yM:∀d,18<=Sb d
 |0=>af _
 |d+1=>by have:=yM d;rw[Sb];omega
theorem oM(s:aa):aV [s]=1+dU s.bf+aV s.gy+aV s.iD:=by
 rw[oD];simp[aV,lW]
theorem qa{l:List aa}{k:Nat}(h:∀s,s∈l->aV [s]<=k):aV l<=l.length*k:=by
 induction l with
 |nil=>simp[aV,lW]
 |cons s l D =>
  have h1:=h s (aD ..);have O:=D λx hx=>h x (au _ hx)
  rw[oM]at h1;rw[oD,aF,Nat.add_mul];omega
theorem qb:aV []=0:=rfl
theorem WT.few{M:jr}{hasP:Bool}{d:Nat}{s:aa}(h:WT M hasP d s):aV [s]<=Sb d:=by
 induction h with
 |write D hb =>
  have h1:=D.few;have U:=hb.few;have h3:=yM;rw[oM];simp only[fw,aa.bf,aa.gy,aa.iD,dU,ax,dh,bL,fH,qb,Hz]at *;refine ai ?_ (h3 _);omega
 |flush =>
  rw[oM];exact ai (by simp[yo,aa.bf,aa.gy,aa.iD,dU,qb]) (yM _)
 |set _ D =>
  have h1:=D.few;rw[oM];simp only[ji,aa.bf,aa.gy,aa.iD,dU,ax,dh,bL,fH,qb,Hz]at *;refine ai ?_ (yM _);omega
 |put D hb =>
  have h1:=D.few;have U:=hb.few;rw[oM];simp only[aa.bf,aa.gy,aa.iD,dU,ax,dh,bL,fH,qb,Hz]at *;refine ai ?_ (yM _);omega
 |@cond d sp ts os e th el he lt _ le _ O V =>
  have h1:=he.few;have U:=qa O;have h3:=qa V;have h4:=iG (Sb d) lt;have h5:=iG (Sb d) le;rw[oM];simp only[aa.bf,aa.gy,aa.iD,dU,ax,dh,bL,fH,Hz,Sb]at *;omega
 |@loop d sp ts gT e th _ _ he lt _ O =>
  have h1:=he.few;have U:=qa O;have h4:=iG (Sb 0) lt;have h5:=yM d;rw[oM];simp only[aa.bf,aa.gy,aa.iD,dU,ax,dh,bL,fH,Hz,Sb,qb]at *;omega
 |call _ _ D =>
  have h1:=D.few;rw[oM];simp only[dN,aa.bf,aa.gy,aa.iD,dU,ax,dh,bL,fH,qb,Hz]at *;refine ai ?_ (yM _);omega
def SH(p:aj)(E:Env)(M:jr)(hasP:Bool):Prop:=hasP=true->M.iR=false ->
 look (eG p) pB=some 0/\(∃q d,p.aA[0]?=some q/\q.bC=[d]/\d.aS=M.w)/\(E.within<0\/kF p 0 E.within.toNat=false)
theorem jL(p:aj)(E:Env)(wh:Int)(a:ah)(k:Nat):iU p E wh [a] k=jv p E wh a k:=by rw[fJ];simp
theorem oC(p:aj)(E:Env)(wh:Int)(a b:ah)(k:Nat):iU p E wh [a,b] k=jv p E wh a k++jv p E wh b k:=by rw[fJ];simp
theorem je(p:aj)(E:Env)(k:Nat):eH p E [] k=[]:=by rw[eH]
theorem ig{p:aj}{E:Env}{s:aa}{k:Nat}(h1:qJ s=true)(D:jh p E s=0)(O:k<=32):pV p E s k=0:=by
 unfold pV;rw[if_pos h1,if_pos D,if_neg (LY p O)]
theorem nU{p:aj}{E:Env}{l:List aa}{k:Nat}(h:∀s,s∈l->jF (lF p E s k)):jF (eH p E l k):=by
 rw[jC];intro c hc;obtain⟨s,O,D⟩:=List.mem_flatMap.1 hc;exact h s O c D
theorem zR{M:jr}{x:ByteArray × gV}(h:x∈jo M++mh M):x∈nL M 0/\(x.2.bI=2\/x.2.bI=3):=by
 constructor
 .unfold nL
  simp only[dF]at *;rcases h with h|h
  .exact .inr (.inl (by simpa using h))
  .exact .inr (.inr (by simp[h]))
 .simp[jo,mh]at h
  rcases h with rfl|rfl|rfl|rfl<;>simp
theorem WT.codes{M:jr}(D:M.ok){p:aj}{E:Env}(hE:EH p E M){hasP:Bool}(hC:SH p E M hasP){d:Nat}{s:aa}(h:WT M hasP d s):∀k:Nat,k+d<=30->jF (lF p E s k):=by
 induction h with
 |write O hb =>
  intro k hk;rw[iH];refine .cons (ig rfl ?_ (by omega)) ?_
  .have e:∀sp a b,jh p E (fw sp a b)=if iT (gB p E [a,b] 1) p.aS=true then 322 else 0:=λ_ _ _=>rfl
   rw[e];simp only[gB,dm,bD,(hb.aS D hE).1,hE.aS,gK]
   rfl
  .simp only[fw,aa.bf,aa.gy,aa.iD,oC,je,aP]
   exact(O.codes D hE 1 (by omega)).append (hb.codes D hE 1 (by omega))
 |flush ab =>
  intro k hk;rw[iH];refine .cons ?_ ?_
  .rcases ab with rfl|rfl<;>exact ig rfl rfl (by omega)
  .simp only[yo,aa.bf,aa.gy,aa.iD,je,aP,fJ]
   exact .nil
 |set hm O =>
  intro k hk;have hl:=zR hm;have hf:=hE.find _ hl.1;have ad:=hl.2;simp only at hf ad;rw[iH];refine .cons (ig rfl ?_ (by omega)) ?_
  .have e:∀sp s ex,jh p E (ji sp s ex)=if(dJ p E s).bI=0\/(dJ p E s).bI=1\/(dJ p E s).bI=4 then 321
     else if iT (gB p E [ex] 0) (dJ p E s).aS=true then 322 else 0:=λ_ _ _=>rfl
   rw[e,hf,if_neg (by omega)];simp only[gB,bD,(O.aS D hE).1,gK]
   rfl
  .simp only[ji,aa.bf,aa.gy,aa.iD,jL,je,aP]
   exact O.codes D hE 1 (by omega)
 |put O hb =>
  intro k hk;rw[iH];refine .cons (ig rfl ?_ (by omega)) ?_
  .have e:∀sp s ex,jh p E (.mk 2 s sp ex 0 Sp.none [] Sp.none [])=if(dJ p E s).bI≠4 then 321
     else if iT (gB p E ex 1) (dJ p E s).aS=true then 322 else 0:=λ_ _ _=>rfl
   rw[e,hE.arr,if_neg (by simp)];simp only[gB,bD,dm,(hb.aS D hE).1,gK]
   rfl
  .simp only[aa.bf,aa.gy,aa.iD,oC,je,aP]
   exact(O.codes D hE 1 (by omega)).append (hb.codes D hE 1 (by omega))
 |cond he _ _ _ _ U al =>
  intro k hk;rw[iH];refine .cons (ig rfl rfl (by omega)) ?_;simp only[aa.bf,aa.gy,aa.iD,jL];exact(he.codes D hE 1 (by omega)).append ((nU λs V=>U s V _ (by omega)).append (nU λs V=>al s V _ (by omega)))
 |loop b1 b2 he _ _ U =>
  intro k hk;rw[iH];refine .cons (ig rfl ?_ (by omega)) ?_
  .have e:∀sp ex b ts th,jh p E (.mk 7 ⟨#[]⟩ sp ex b ts th Sp.none [])=if b<1\/b>16 then 329 else 0:=λ_ _ _ _ _=>rfl
   rw[e,if_neg (by omega)]
  simp only[aa.bf,aa.gy,aa.iD,jL,je,aP];exact(he.codes D hE 1 (by omega)).append (nU λs V=>U s V _ (by omega))
 |@call _ _ ex hp hP O =>
  intro k hk;obtain⟨h1,⟨q,dd,h2,h3,h4⟩,h5⟩:=hC hP hp;rw[iH];refine .cons (ig rfl ?_ (by omega)) ?_
  .have e:∀sp ex,jh p E (dN sp pB ex)=(match look (eG p) pB with
    |none=>321
    |some i=>if lJ p E i.toNat ex=true then 327
     else if E.within≥0/\kF p i.toNat E.within.toNat=true then 328 else 0):=λ_ _=>rfl
   rw[e,h1];have e2:lJ p E (0:Int).toNat [ex]=false:=by
    unfold lJ;rw[show(0:Int).toNat=0 from rfl,h2];simp only[h3,aF,bK,oW,(O.aS D hE).1,h4,gK]
    rfl
   simp only[e2];rw[if_neg (by decide),if_neg];rintro⟨h6,h7⟩;rcases h5 with h5|h5
   .omega
   .rw[show(0:Int).toNat=0 from rfl,h5]at h7;cases h7
  .simp only[dN,aa.bf,aa.gy,aa.iD,jL,je,aP]
   exact O.codes D hE 1 (by omega)
def su(N:Nm):Bool:=[N.i,N.j,N.g,N.h,N.v,N.c,N.a].all (λs=>kE s.data.toList && (vU s.data.toList).isNone && decide (s.size<=16)) && decide ([N.i,N.j,N.g,N.h,N.v,N.c,N.a,xB,pB].Nodup)
def lG(M:jr):List bO:=[⟨M.N.i,M.w,0⟩,⟨M.N.j,1,0⟩].take M.ni
def ry(M:jr):List bO:=[⟨M.N.g,M.w,0⟩,⟨M.N.h,1,0⟩]
def BS(M:jr):List bO:=[⟨M.N.v,M.w,0⟩,⟨M.N.c,2,0⟩]
structure IsHead(M:jr)(p:aj):Prop where
 ok:M.ok
 iR:M.iR=false
 iF:1<=p.iF/\p.iF<=3
 aS:p.aS=M.w
 fB:p.fB=lG M
 ek:p.ek=ry M
 gp:p.gp=BS M
 fP:∃z:Int,2<=z/\z<=3/\p.fP=[⟨M.N.a,M.w,z⟩]
 eD:WX M 1 2 1 p.eD
 eQ:∀i∈p.eQ,0<=i.block/\i.block<p.iF/\WX M 1 1 M.w i.bv
 blocksN:p.eQ.Pairwise (λx y=>x.block<y.block)
 iQ:p.eQ.length<=3
 d9:WX M 2 3 1 p.d9
structure vN(M:jr)(hasP:Bool)(q:bG):Prop where
 aT:q.aT=pB
 bC:q.bC=[⟨xB,M.w,0⟩]
 few:q.eY.length<=3
 eY:∀s,s∈q.eY->WT { M with iR:=true } hasP 1 s
structure xW(M:jr)(hasP:Bool)(p:aj):Prop extends IsHead M p where
 aA:if hasP=true then ∃q,p.aA=[q]/\vN M hasP q else p.aA=[]
 lT:p.eX.length<=5
 eX:∀s,s∈p.eX->WT M hasP 2 s
 jb:p.eB.length<=3
 eB:∀s,s∈p.eB->WT M hasP 1 s
theorem zC{α:Type}:∀{T:List (ByteArray × α)}{x:ByteArray × α},(T.map (·.1)).Nodup->x∈T->look T x.1=some x.2
 |[],x,_,h=>by cases h
 |y::T,x,D,h=>by
  rw[ax,List.nodup_cons]at D;unfold look;rw[List.find?_cons];rcases List.mem_cons.1 h with rfl|h
  .simp
  .have hne:y.1≠x.1:=λe=>D.1 (by rw[e];exact iE h)
   simp only[az hne];exact zC D.2 h
theorem I5{N:Nm}(h:su N=true):[N.i,N.j,N.g,N.h,N.v,N.c,N.a,xB,pB].Nodup:=by
 unfold su at h;rw[bg]at h;exact dB h.2
theorem DI{N:Nm}(h:su N=true):∀s∈[N.i,N.j,N.g,N.h,N.v,N.c,N.a],kE s.data.toList=true/\vU s.data.toList=none/\s.size<=16:=by
 unfold su at h;rw[bg]at h;intro s D;have:=List.all_eq_true.1 h.1 s D;rw[bg,bg,aU,Option.isNone_iff_eq_none]at this;exact⟨this.1.1,this.1.2,this.2⟩
theorem F6{M:jr}{p:aj}(h:IsHead M p):lH p=kV M++jo M++mh M++[(M.N.a,⟨4,M.w⟩)]:=by
 obtain⟨z,_,_,hz⟩:=h.fP;unfold lH;rw[h.fB,h.ek,h.gp,hz];have e:(lG M).map (λd=>(d.aT,(⟨1,d.aS⟩:gV)))=kV M:=by
  unfold lG kV;rw[List.map_take];rfl
 rw[e];rfl
theorem AY{M:jr}:((kV M++jo M++mh M++[(M.N.a,(⟨4,M.w⟩:gV))]).map (·.1)).Sublist [M.N.i,M.N.j,M.N.g,M.N.h,M.N.v,M.N.c,M.N.a]:=by
 have e:[M.N.i,M.N.j,M.N.g,M.N.h,M.N.v,M.N.c,M.N.a]=[M.N.i,M.N.j]++[M.N.g,M.N.h,M.N.v,M.N.c,M.N.a]:=rfl;have D:(kV M++jo M++mh M++[(M.N.a,(⟨4,M.w⟩:gV))]).map (·.1)=(kV M).map (·.1)++[M.N.g,M.N.h,M.N.v,M.N.c,M.N.a]:=by
  simp[jo,mh]
 rw[e,D];refine List.Sublist.append ?_ (List.Sublist.refl _);unfold kV;rw[List.map_take];exact List.take_sublist _ _
theorem vw{M:jr}(O:su M.N=true):((kV M++jo M++mh M++[(M.N.a,(⟨4,M.w⟩:gV))]).map (·.1)).Nodup:=by
 have h:=I5 O;have D:[M.N.i,M.N.j,M.N.g,M.N.h,M.N.v,M.N.c,M.N.a].Nodup:=h.sublist (by
  have:[M.N.i,M.N.j,M.N.g,M.N.h,M.N.v,M.N.c,M.N.a,xB,pB]=[M.N.i,M.N.j,M.N.g,M.N.h,M.N.v,M.N.c,M.N.a]++[xB,pB]:=rfl;rw[this];exact List.sublist_append_left _ _)
 exact D.sublist AY
theorem BI{M:jr}(hp:M.iR=false){x:ByteArray × gV}(h:x∈nL M 0):x∈kV M++jo M++mh M++[(M.N.a,⟨4,M.w⟩)]:=by
 unfold nL yD at h;simp only[hp,dF,if_true,Bool.false_eq_true,if_false,bu,or_false,show ¬(0:Int)=1 by decide]at h ⊢;rcases h with h|h|h
 .exact .inl (.inl (.inl h))
 .exact .inl (.inl (.inr h))
 .exact .inl (.inr h)
theorem uJ{M:jr}{p:aj}(h:IsHead M p)(D:su M.N=true)(i:Int):EH p ⟨i,[]⟩ M:=by
 have hf:∀x∈kV M++jo M++mh M++[(M.N.a,⟨4,M.w⟩)],dJ p ⟨i,[]⟩ x.1=x.2:=λx hx=>by
  unfold dJ;have e:look ([]:List (ByteArray × gV)) x.1=none:=rfl;simp only[e];rw[F6 h,zC (vw D) hx];rfl
 exact⟨h.aS,λx hx=>hf x (BI h.iR hx),hf (M.N.a,⟨4,M.w⟩) (by simp)⟩
theorem QU{N:Nm}(O:su N=true):∀s∈[N.i,N.j,N.g,N.h,N.v,N.c,N.a],s≠xB/\s≠pB:=by
 have h:=I5 O;intro s D;have e:[N.i,N.j,N.g,N.h,N.v,N.c,N.a,xB,pB]=[N.i,N.j,N.g,N.h,N.v,N.c,N.a]++[xB,pB]:=rfl;rw[e,j6]at h;exact⟨h.2.2 s D xB (by simp),h.2.2 s D pB (by simp)⟩
theorem Nn{M:jr}{x:ByteArray × gV}(h:x∈kV M++jo M++mh M++[(M.N.a,⟨4,M.w⟩)]):x.1∈[M.N.i,M.N.j,M.N.g,M.N.h,M.N.v,M.N.c,M.N.a] :=
 AY.subset (iE h)
theorem Tf{M:jr}{p:aj}(h:IsHead M p)(O:su M.N=true)(i:Int):EH p ⟨i,[(xB,⟨5,M.w⟩)]⟩ { M with iR:=true }:=by
 have hf:∀x∈kV M++jo M++mh M++[(M.N.a,⟨4,M.w⟩)],dJ p ⟨i,[(xB,⟨5,M.w⟩)]⟩ x.1=x.2:=λx hx=>by
  unfold dJ;have D:=(QU O x.1 (Nn hx)).1;have e:look [(xB,(⟨5,M.w⟩:gV))] x.1=none:=by
   unfold look;rw[List.find?_cons];simp[az (Ne.symm D)]
  simp only[e];rw[F6 h,zC (vw O) hx];rfl
 refine⟨h.aS,λx hx=>?_,hf (M.N.a,⟨4,M.w⟩) (by simp)⟩;have D:x∈nL M 0\/x=(xB,⟨5,M.w⟩):=by
  unfold nL yD at hx ⊢;simp only[h.iR,if_true,dF,oI,Bool.false_eq_true,if_false,bu,or_false]at hx ⊢;rcases hx with hx|hx|hx|hx
  .exact .inl (.inl hx)
  .exact .inl (.inr (.inl hx))
  .exact .inl (.inr (.inr hx))
  .exact .inr hx
 rcases D with D|rfl
 .exact hf x (BI h.iR D)
 .unfold dJ
  have e:look [(xB,(⟨5,M.w⟩:gV))] xB=some ⟨5,M.w⟩:=zC (T:=[(xB,(⟨5,M.w⟩:gV))]) (x:=(xB,⟨5,M.w⟩)) (by simp) (by simp);simp only[e]
theorem qL{p:aj}{s:List UInt8}(h1:kE s=true)(D:vU s=none):kH p s=true:=by
 unfold kH;rw[D];exact h1
theorem J9{p:aj}{before:List ByteArray}{D:Bool}{d:bO}(h1:d.aT∉before)(O:kH p d.aT.data.toList=true)(U:1<=d.aS/\d.aS<=16)(V:if D=true then 1<=d.size/\d.size<=16 else d.size=0):tQ p before D d=0:=by
 unfold tQ;have e:lK before d.aT=false:=by
  unfold lK;rw[List.any_eq_false];intro x hx;simp only[aU];rintro rfl;exact h1 hx
 rw[if_neg (by rw[e,O];simp),if_neg (by rw[mY U];decide),if_neg];cases D<;>simpa using V
theorem vX{p:aj}{D:Bool}:∀(l:List bO) (before:List ByteArray),(before++l.map bO.aT).Nodup->(∀d∈l,kH p d.aT.data.toList=true/\(1<=d.aS/\d.aS<=16)/\(if D=true then 1<=d.size/\d.size<=16 else d.size=0))->jF (gH p D l before)
 |[],_,_,_=>.nil
 |d::l,before,O,h=>by
  rw[gH];obtain⟨h1,U,V⟩:=h d (aD ..);refine .cons (J9 ?_ h1 U V) (vX l _ (by simpa using O) λx hx=>h x (au _ hx));rw[j6]at O;intro hm;exact O.2.2 _ hm _ (by simp) rfl
def l7(lv:Sp)(n:Nat)(dO:Nat)(p:aj)(iR:Bool):List Value:=lv.val n::.int .i64 dO::(p.cells++[.bool iR])
def encU(x:Int):List Value:=[.int .u8 x]
structure uy(q n:Nat)(lv:Sp)(ls:List Int)(dO:Nat)(p:aj)(iR:Bool)(W:World):Prop where
 box:W.heap[q]?=some (.cells (l7 lv ls.length dO p iR).toArray 145 (0,0))
 le:dO<=ls.length
 few:ls.length<=200
 list:RowOf n (mask q W) lv 1 encU ls
 byte:∀x∈ls,0<=x/\x<=255
 qn:q<n
 nW:n<=W.heap.size
theorem uy.ib{q n:Nat}{lv:Sp}{ls:List Int}{dO:Nat}{p:aj}{iR:Bool}{W:World}(h:uy q n lv ls dO p iR W):q<W.heap.size:=aI h.qn h.nW
theorem uy.cell{q n:Nat}{lv:Sp}{ls:List Int}{dO:Nat}{p:aj}{iR:Bool}{W:World}(h:uy q n lv ls dO p iR W)(i:Nat){v:Value}(D:(l7 lv ls.length dO p iR)[i]?=some v):W.cell? ⟨q,i,none⟩=some v:=by
 simp only[World.cell?,h.box]
 simpa using D
theorem uy.frozen{q n:Nat}{lv:Sp}{ls:List Int}{dO:Nat}{p:aj}{iR:Bool}{W:World}(h:uy q n lv ls dO p iR W)(i:Nat):W.frozen? ⟨q,i,none⟩=false:=by simp[World.frozen?,h.box]
theorem uy.on{q n:Nat}{lv:Sp}{ls:List Int}{dO:Nat}{p:aj}{iR:Bool}{W W':World}(h:uy q n lv ls dO p iR W)(hb:Below W.heap.size W W'):uy q n lv ls dO p iR W' :=
 ⟨(hb.block _ h.ib).trans h.box,h.le,h.few,h.list.below (bn h.ib (hb.mono h.nW)),h.byte,h.qn,ai h.nW hb.size⟩
theorem uy.step{q n:Nat}{lv:Sp}{ls:List Int}{dO:Nat}{p:aj}{iR:Bool}{W:World}(h:uy q n lv ls dO p iR W)(k:Nat)(hk:k<=ls.length):uy q n lv ls k p iR (W.setCell ⟨q,1,none⟩ (.int .i64 k)):=by
 refine⟨?_,hk,h.few,by rw[l6];exact h.list,h.byte,h.qn,by simpa using h.nW⟩;simp[World.setCell,cK,h.box,l7]
theorem xu(x wd:Int)(w:World):Calls Tryz.prog 98 #[.int .u32 x,.int .i64 wd] w λo w'=>o=.returned (.agg #[.int .u8 1,.int .u8 0,.int .u32 x,.int .i64 wd,.string ⟨#[]⟩,.slice none 0 0])/\Below w.heap.size w w':=by
 go_enter Tryz.func98,Tryz.ntmps98
 go_wp2_with fail
 exact aW (aL rfl _ _ w.heap.size 30 _ (0,0) _ rfl (gM _ _) Tryz.underlying30 rfl (by kernel_rfl)) rfl ⟨rfl,(ag _ _).alloc (af _) _⟩
theorem yz(s:ByteArray)(w:World):Calls Tryz.prog 159 #[.string s] w λo w'=>o=.returned (.agg #[.int .u8 2,.int .u8 0,.int .u32 0,.int .i64 0,.string s,.slice none 0 0])/\Below w.heap.size w w':=by
 go_enter Tryz.func159,Tryz.ntmps159
 go_wp2_with fail
 exact aW (aL rfl _ _ w.heap.size 30 _ (0,0) _ rfl (gM _ _) Tryz.underlying30 rfl (by kernel_rfl)) rfl ⟨rfl,(ag _ _).alloc (af _) _⟩
theorem uy.drew{q n:Nat}{lv:Sp}{ls:List Int}{dO:Nat}{p:aj}{iR:Bool}{W:World}(h:uy q n lv ls dO p iR W):uy q n lv ls dO p iR W.drew:=h.on (ag _ _).drew
theorem uy.byteAt{q n:Nat}{lv:Sp}{ls:List Int}{dO:Nat}{p:aj}{iR:Bool}{W:World}(h:uy q n lv ls dO p iR W)(D:dO<ls.length):∃b off x,lv.dO=some ⟨b,off,none⟩/\b≠q/\b<W.heap.size/\0<=x/\x<=255/\W.cell? ⟨b,off+dO,none⟩=some (.int .u8 x):=by
 obtain⟨b,off,ea,ab,hc⟩:=h.list.row (by omega);have O:=Fz (hc dO D 0 (.int .u8 (ls[dO])) rfl);rw[Nat.mul_one,bS]at O;have U:b≠q:=by
  rintro rfl;have V:=hc dO D 0 (.int .u8 (ls[dO])) rfl;simp only[World.cell?,mE,if_pos h.ib]at V;simp at V
 have hx:=h.byte _ (ak D);exact⟨b,off,_,ea,U,by have:=h.nW;omega,hx.1,hx.2,O⟩
theorem jg(q n:Nat)(lv:Sp)(ls:List Int)(dO:Nat)(p:aj)(iR:Bool)(w:World)(h:uy q n lv ls dO p iR w)(m:Int)(hm:0<m)(a8:m<=255) :
  Calls Tryz.prog 97 #[.pointer (some ⟨q,0,none⟩),.int .i64 m] w λo w'=>∃(k:Int) (at':Nat),o=.returned (.int .i64 k)/\0<=k/\k<m/\uy q n lv ls at' p iR w'/\Below w.heap.size (mask q w) (mask q w'):=by
 have c0:=h.cell 0 rfl;simp only[Sp.val]at c0;have V:Below w.heap.size w w.drew:=(ag _ _).drew;have D:=h.drew;have U:=bn h.ib V;have d0:=D.cell 0 rfl;have d1:=D.cell 1 rfl;have f1:=D.frozen 1;simp only[Sp.val]at d0;have H:=ae D;have am:=ae U;have HM:=ae hm;have a7:=h.le;have a5:=h.few;have aw:m≠0:=by omega
 by_cases ad:dO<ls.length
 .have hd:decide ((ls.length:Int)<=(dO:Int))=false:=az (by omega)
  obtain⟨b,off,x,ea,ar,a3,a1,aE,al⟩:=D.byteAt ad;have a4:(w.drew.setCell ⟨q,1,none⟩ (.int .i64 ((dO:Int)+1))).cell? ⟨b,off+dO,none⟩=some (.int .u8 x):=(aM (w:=w.drew) (aN _ _ _ _ ar)).trans al;have O:=D.step (dO+1) ad;rw[show(((dO+1:Nat):Int))=(dO:Int)+1 by omega]at O;have e0:=O.cell 0 rfl;have e1:=O.cell 1 rfl;simp only[Sp.val]at e0;rw[show(((dO+1:Nat):Int))=(dO:Int)+1 by omega]at e1;rw[ea]at c0 d0 e0;have ab:=bn (B:=w.heap.size) O.ib ((ag _ (w.drew.setCell ⟨q,1,none⟩ (.int .i64 ((dO:Int)+1)))).drew);have ao:=ae O.drew;rw[l6]at ab;have an:=ae (U.trans ab);have a6:(dO:Int)+1 - 1=(dO:Int):=by omega
  have a9:x.tmod m=x % m:=Int.tmod_eq_emod_of_nonneg a1;have ap:=ae (Int.emod_nonneg x aw);have aq:=ae (Int.emod_lt_of_pos x hm);clear O ab U D V al h;go_enter Tryz.func97,Tryz.ntmps97
  go_upto_region 1 with fail
  go_region
  generalize w.drew=w1 at *;go_wp2_with fail
  go_region
  go_wp2_with fail
  go_ret
  exact⟨x % m,dO+1,rfl,ap.o,aq.o,ao.o,an.o⟩
 .have hd:decide ((ls.length:Int)<=(dO:Int))=true:=aC (by omega)
  clear h D V U;go_enter Tryz.func97,Tryz.ntmps97
  go_upto_region 1 with fail
  go_region
  go_wp2_with fail
  go_ret
  exact⟨0,dO,rfl,by omega,HM.o,H.o,am.o⟩
theorem oZ(op:Int)(D O:ah)(w:World):Calls Tryz.prog 158 #[.int .u8 op,.agg #[.int .u8 D.bI,.int .u8 D.op,.int .u32 D.bv,.int .i64 D.aS,.string D.aT,.slice D.sp.dO D.cu.length D.sp.df],.agg #[.int .u8 O.bI,.int .u8 O.op,.int .u32 O.bv,.int .i64 O.aS,.string O.aT,.slice O.sp.dO O.cu.length O.sp.df]] w λo w'=>∃b,o=.returned (.agg #[.int .u8 6,.int .u8 op,.int .u32 0,.int .i64 0,.string ⟨#[]⟩,.slice (some ⟨b,0,none⟩) 2 2])/\w.heap.size<=b/\b<w'.heap.size/\w'.heap[b]?=some (.cells (D.cells++O.cells).toArray 30 (0,0))/\Below w.heap.size w w':=by
 go_enter Tryz.func158,Tryz.ntmps158
 go_wp2_with fail
 obtain⟨_,_,U,V,h6,h5⟩:=Al w (.cells #[.int .u8 D.bI,.int .u8 D.op,.int .u32 D.bv,.int .i64 D.aS,.string D.aT,.slice D.sp.dO D.cu.length D.sp.df] 30) (.cells #[.int .u8 O.bI,.int .u8 O.op,.int .u32 O.bv,.int .i64 O.aS,.string O.aT,.slice O.sp.dO O.cu.length O.sp.df] 30) (.cells #[.int .u8 6,.int .u8 op,.int .u32 0,.int .i64 0,.string ⟨#[]⟩,.slice (some ⟨w.heap.size+1+1+1,0,none⟩) 2 2] 30) (.cells #[.int .u8 D.bI,.int .u8 D.op,.int .u32 D.bv,.int .i64 D.aS,.string D.aT,.slice D.sp.dO D.cu.length D.sp.df,.int .u8 O.bI,.int .u8 O.op,.int .u32 O.bv,.int .i64 O.aS,.string O.aT,.slice O.sp.dO O.cu.length O.sp.df] 30);exact aW (aL rfl _ _ (w.heap.size+1+1) 30 _ (0,0) _ rfl U Tryz.underlying30 rfl (by kernel_rfl)) rfl ⟨w.heap.size+1+1+1,rfl,by omega,by omega,V,h5⟩
structure Hu(q n:Nat)(lv:Sp)(ls:List Int)(dO:Nat)(p:aj)(M:jr)(W:World):Prop where
 base:uy q n lv ls dO p M.iR W
 ok:M.ok
 std:M.N=std
 aS:p.aS=M.w
 fB:p.fB=lG M
 ek:p.ek=ry M
 gp:p.gp=BS M
 irow:RowOf n (mask q W) p.is 3 bO.cells p.fB
 grow:RowOf n (mask q W) p.gs 3 bO.cells p.ek
 vrow:RowOf n (mask q W) p.vs 3 bO.cells p.gp
theorem Hu.next{q n:Nat}{lv:Sp}{ls:List Int}{dO at':Nat}{p:aj}{M:jr}{W W':World}(h:Hu q n lv ls dO p M W)(O:uy q n lv ls at' p M.iR W')(hb:Below W.heap.size (mask q W) (mask q W')):Hu q n lv ls at' p M W' :=
 have D:=hb.mono h.base.nW
 ⟨O,h.ok,h.std,h.aS,h.fB,h.ek,h.gp,h.irow.below D,h.grow.below D,h.vrow.below D⟩
theorem Hu.on{q n:Nat}{lv:Sp}{ls:List Int}{dO:Nat}{p:aj}{M:jr}{W W':World}(h:Hu q n lv ls dO p M W)(hb:Below W.heap.size W W'):Hu q n lv ls dO p M W':=h.next (h.base.on hb) (bn h.base.ib hb)
theorem jN{q B b:Nat}{W W':World}(h:Below B (mask q W) (mask q W'))(hb:b<B)(hq:b≠q):W'.heap[b]?=W.heap[b]? := by
 have:=h.block b hb
 rwa [gz hq,gz hq]at this
theorem jE{α:Type}{k B q:Nat}{enc:α->List Value}{t:TypeId}{v:Value}{l:List α}{W W':World}(h:dz B W t k enc v l)(hb:Below W.heap.size (mask q W) (mask q W'))(hq:q<B):dz B W' t k enc v l :=
 h.kept λg _ _ _ D=>jN hb (dM D).1 (by omega)
theorem uy.low{q n:Nat}{lv:Sp}{ls:List Int}{dO:Nat}{p:aj}{iR:Bool}{W W':World}(h:uy q n lv ls dO p iR W)(hb:Below n W W'):uy q n lv ls dO p iR W' :=
 ⟨(hb.block _ h.qn).trans h.box,h.le,h.few,h.list.below (bn h.ib hb),h.byte,h.qn,ai h.nW hb.size⟩
def uU(M:jr):List bO:=if M.iR=true then[⟨xB,M.w,0⟩] else[]
def xM(M:jr)(wh:Int):List bO:=lG M++((if wh=1 then[] else ry M)++(if wh=0 then BS M++uU M else[]))
theorem PP(M:jr)(wh:Int):xM M wh=(nL M wh).map λx=>⟨x.1,x.2.aS,0⟩:=by
 unfold xM nL;have e:lG M=(kV M).map λx=>⟨x.1,x.2.aS,0⟩:=by unfold lG kV;rw[List.map_take];rfl
 rw[e,aO,aO]
 congr 1
 congr 1
 .split<;>rfl
 .unfold uU yD
  split
  .rw[aO]
   congr 1
   split<;>rfl
  .rfl
def jO(l:List bO)(wd:Int):List ByteArray:=(l.filter λd=>decide (d.aS=wd)).map bO.aT
theorem I1{M:jr}{wh wd:Int}{s:ByteArray}(h:s∈jO (xM M wh) wd):∃t,(s,t)∈nL M wh/\t.aS=wd:=by
 unfold jO at h;obtain⟨d,D,rfl⟩:=List.mem_map.1 h;rw[List.mem_filter,aU,PP]at D;obtain⟨⟨s,t⟩,hx,rfl⟩:=List.mem_map.1 D.1;exact⟨t,hx,D.2⟩
theorem BK(l:List bO)(d:bO)(wd:Int):jO (l++[d]) wd=jO l wd++(if d.aS=wd then[d.aT] else[]):=by
 unfold jO;rw[List.filter_append,aO]
 congr 1
 by_cases h:d.aS=wd
 .rw[if_pos h];simp[h]
 .rw[if_neg h];simp[h]
def encS(s:ByteArray):List Value:=[.string s]
theorem Nh(M:jr)(wh:Int):(xM M wh).length<=7:=by
 unfold xM lG ry BS uU;simp only[ay,dW,aF,bK]
 repeat' split
 all_goals simp
 all_goals omega
theorem DF(l:List bO)(wd:Int):(jO l wd).length<=l.length:=by
 unfold jO;rw[cZ];exact List.length_filter_le _ _
theorem Od{M:jr}(h:M.N=std){wh:Int}{x:ByteArray × gV}(hx:x∈nL M wh):x.1.size<=16:=by
 have O:=zy hx;have D:∀s∈[std.i,std.j,std.g,std.h,std.v,std.c,xB],s.size<=16:=by decide
 refine D _ ?_;unfold nL at O;simp only[dF]at O;rcases O with h1|h1|h1
 .have U:=jm h1
  simp[h]at U;rcases U with rfl|rfl<;>simp
 .simp[jo,h]at h1
  rcases h1 with rfl|rfl<;>simp
 .simp only[if_true,mh,yD,h,bE,dF,bu,or_false]at h1
  rcases h1 with (rfl|rfl)|h1
  .simp
  .simp
  .split at h1
   .simp at h1;subst h1;simp
   .cases h1
theorem dz.far{α:Type}{k B b:Nat}{enc:α->List Value}{e t:TypeId}{v:Value}{l:List α}{w W':World}{cs:Array Value}{fr:Nat × Nat}(h:dz B w e k enc v l)(hg:w.grownBy W' v.ownBlock)(hb:w.heap[b]?=some (.cells cs t fr))(hne:t≠e):W'.heap[b]?=some (.cells cs t fr):=
 (hg.block b (dM hb).1 (λU=>by
  obtain⟨_,O,V,D⟩:=h.iO U.symm;rw[hb]at D;cases D;exact hne rfl)).trans hb
def zX:Array Value:=#[.int .u8 0,.int .u8 0,.int .u32 0,.int .i64 0,.string ⟨#[]⟩,.slice none 0 0]
theorem dL(a b c d:Int)(s:ByteArray)(x:Value):(Tryz.prog.info? 30).map (·.size)=some (#[Value.int .u8 a,.int .u8 b,.int .u32 c,.int .i64 d,.string s,x]:Array Value).size:=by kernel_rfl
theorem jw(a b c d:Int)(s:ByteArray)(A:Option Addr)(n D:Nat):(#[Value.int .u8 a,.int .u8 b,.int .u32 c,.int .i64 d,.string s,.slice A n D]:Array Value).all (·.oneCell')=true:=by kernel_rfl
theorem Rc(D:Nat)(wd:Int)(hk:(D:Int)<8)(h:1<=wd/\wd<=3):0<=bits BinOp.and IntKind.u32 (D:Int) ((2 ^ wd.toNat - 1) % 4294967296)/\bits BinOp.and IntKind.u32 (D:Int) ((2 ^ wd.toNat - 1) % 4294967296)<2 ^ wd.toNat/\bits BinOp.and IntKind.u32 (D:Int) ((2 ^ wd.toNat - 1) % 4294967296)<=4294967295:=by
 have U:wd=1\/wd=2\/wd=3:=by omega
 have O:D=0\/D=1\/D=2\/D=3\/D=4\/D=5\/D=6\/D=7:=by omega
 rcases U with rfl|rfl|rfl<;>rcases O with rfl|rfl|rfl|rfl|rfl|rfl|rfl|rfl<;>decide
theorem ut{wd:Int}(h:1<=wd/\wd<=3):(Lit.int .i64 wd).wf=true:=by
 have D:wd=1\/wd=2\/wd=3:=by omega
 rcases D with rfl|rfl|rfl<;>decide
theorem GV(W:World)(s:ByteArray)(D:s.size<=maxLen):mM 0 W (aZ s):=
 .mk _ (show(0:Int)<=2/\(2:Int)<=255 by decide) (show(0:Int)<=0/\(0:Int)<=255 by decide) (show(0:Int)<=0/\(0:Int)<=4294967295 by decide) (show(Lit.int .i64 0).wf=true by decide) D RowOf.nil (λ_ h=>absurd h (by simp[aZ,ah.cu]))
theorem RF:∀x:ByteArray,∀u∈encS x,u.oneCell'=true:=by
 intro x u D;simp[encS]at D;rw[D];rfl
theorem jI(q n:Nat)(lv:Sp)(ls:List Int)(dO:Nat)(p:aj)(M:jr)(w:World)(h:Hu q n lv ls dO p M w)(wd wh:Int)(cp:1<=wd/\wd<=3) :
  Calls Tryz.prog 156 #[.pointer (some ⟨q,0,none⟩),.int .i64 wd,.int .i64 wh] w λo w'=>∃(e:ah) (at':Nat),o=.returned e.val/\WX M wh 0 wd e/\(∀W:World,mM 0 W e)/\uy q n lv ls at' p M.iR w'/\Below w.heap.size (mask q w) (mask q w'):=by
 have hq:=h.base.ib;have ci:=jc w (.cells #[.int .u8 0,.int .u8 0,.int .u32 0,.int .i64 0,.string ⟨#[]⟩,.slice none 0 0] 30);have cq:=gM w (.cells #[.int .u8 0,.int .u8 0,.int .u32 0,.int .i64 0,.string ⟨#[]⟩,.slice none 0 0] 30);have aw:=(dM cq).1;have H0:=h.on ci;have cM:=p9 (w.alloc (.cells #[.int .u8 0,.int .u8 0,.int .u32 0,.int .i64 0,.string ⟨#[]⟩,.slice none 0 0] 30)) p.is p.fB n H0.irow.unmask (by rw[h.fB];unfold lG;simp;omega);have c4:=H0.base.cell 4 rfl;simp only[Sp.val]at c4;have H:=ae h;have cw:=ae cM;have cv:=ae ci;have cE:=ae cq;clear h H0 cM ci cq;go_enter Tryz.func156,Tryz.ntmps156
 go_wp2_with fail
 refine cw.o.mono ?_;rintro o w1 ⟨⟨v,rfl,b8⟩,cj⟩;have a6:=ae (b8.less (dI aw));have a1:=ae (cv.o.trans (cj.mono (dI aw)));have ch:=ae ((cj.block _ aw).trans cE.o);clear b8 cj cw cE cv c4 aw
 go_upto_if 19 with fail
 go_cut[8] (λs8 wx=>dz w.heap.size wx 50 3 bO.cells s8 (p.fB++(if wh=1 then[] else p.ek))/\Below w.heap.size w wx/\wx.heap[w.heap.size]?=some (.cells #[.int .u8 0,.int .u8 0,.int .u32 0,.int .i64 0,.string ⟨#[]⟩,.slice none 0 0] 30 (0,0)))
 case first =>
  by_cases h1:wh=1
  .have hd:(wh != 1)=false:=by simp[h1]
   have an:Hid ((if wh=1 then[] else p.ek)=[]):=ae (if_pos h1);clear h1;go_wp2_with fail
   go_meet
   case rel=>exact⟨by rw[an.o,aP];exact a6.o,a1.o,ch.o⟩
  .have hd:(wh != 1)=true:=by simp[h1]
   have an:Hid ((if wh=1 then[] else p.ek)=p.ek):=ae (if_neg h1);clear h1;have H1:=H.o.on a1.o;have c5:=H1.base.cell 5 rfl;simp only[Sp.val]at c5;have HR:=ae H1.grow.unmask;have br:Hid (p.fB.length+p.ek.length<=1000000):=ae (by rw[H1.fB,H1.ek];unfold lG ry;simp;omega);clear H1;go_wp2_with(first|(at_builtin;refine gQ rfl (.tmp 20) (.tmp 25) 24 rfl LX (λ_=>rfl) wG v p.fB rfl a6.o p.gs p.ek rfl HR.o br.o a1.o.size ?_)|fail)
   intro v2 w2 bj cl cF;have ao:=ae bj;have ad:=ae (a6.o.below cl (af _) a1.o a1.o.size);have aE:=ae (a6.o.far cl ch.o (by decide));clear bj cl cF;go_wp2_with fail
   go_meet
   case rel=>exact⟨by rw[an.o];exact ao.o,ad.o,aE.o⟩
 case rest =>
  obtain⟨cS,cJ,cW⟩:=hcut;have ao:=ae cS;have ad:=ae cJ;have aE:=ae cW;clear cS cJ cW a6 a1 ch;have HL:Hid (xM M wh=p.fB++(if wh=1 then[] else p.ek)++(if wh=0 then p.gp++uU M else[])):=ae (by rw[H.o.fB,H.o.ek,H.o.gp,aY];rfl);have bo:Hid ((p.fB++(if wh=1 then[] else p.ek)).length<=4):=ae (by rw[H.o.fB,H.o.ek];unfold lG ry;split<;>simp<;>omega);obtain⟨pre,b9⟩:∃l,p.fB++(if wh=1 then[] else p.ek)=l:=⟨_,rfl⟩;rw[b9]at HL bo ao;clear b9
  go_upto_if 28 with fail
  go_cut[8] (λs8 wx=>dz w.heap.size wx 50 3 bO.cells s8 (xM M wh)/\Below w.heap.size w wx/\wx.heap[w.heap.size]?=some (.cells #[.int .u8 0,.int .u8 0,.int .u32 0,.int .i64 0,.string ⟨#[]⟩,.slice none 0 0] 30 (0,0)))
  case first =>
   by_cases h0:wh=0
   .have hd:(wh == 0)=true:=by simp[h0]
    have an:Hid (xM M wh=pre++(p.gp++uU M)):=ae (by rw[HL.o,if_pos h0]);clear h0 HL;have H1:=H.o.on ad.o;have c6:=H1.base.cell 6 rfl;have c3:=H1.base.cell 3 rfl;have b1:=H1.base.cell 24 rfl;simp only[Sp.val]at c6;have HR:=ae H1.vrow.unmask;have dk:=ae H1.aS;have br:Hid (pre.length+p.gp.length<=1000000):=ae (by have:=bo.o;rw[H1.gp];unfold BS;simp;omega);clear H1 c3 b1;go_wp2_with(first|(at_builtin;refine gQ rfl (.tmp 29) (.tmp 34) 24 rfl LX (λ_=>rfl) wG _ pre rfl ao.o p.vs p.gp rfl HR.o br.o ad.o.size ?_)|fail)
    intro v3 w3 bk cm cG;have a3:=ae bk;have al:=ae (ao.o.below cm (af _) ad.o ad.o.size);have ap:=ae (ao.o.far cm aE.o (by decide));clear bk cm cG HR c6;have H3:=H.o.on al.o;have c3:=H3.base.cell 3 rfl;have b1:=H3.base.cell 24 rfl;clear H3;cases hp:M.iR with
    |false =>
     rw[hp]at b1;have cg:Hid (uU M=[]):=ae (by unfold uU;rw[hp];rfl);go_wp2_with fail
     go_meet
     case rel=>exact⟨by rw[an.o,cg.o,aP];exact a3.o,al.o,ap.o⟩
    |true =>
     rw[hp]at b1;have cg:Hid (uU M=[⟨xB,p.aS,0⟩]):=ae (by unfold uU;rw[hp,dk.o];rfl);have b3:=jc w3 (.cells #[.string xB,.int .i64 p.aS,.int .i64 0] 50);have dg:=ae (row_one (enc:=bO.cells) (x:=⟨xB,p.aS,0⟩) (k:=3) (gM w3 (.cells #[.string xB,.int .i64 p.aS,.int .i64 0] 50)));have cf:=ae (a3.o.on b3);have cc:=ae (al.o.trans (b3.mono al.o.size));have dp:=ae ((b3.block _ (dM ap.o).1).trans ap.o);have dj:Hid (p.gp.length=2):=ae (by rw[H.o.gp];rfl);have cx:Hid ((pre++p.gp).length+1<=1000000):=ae (by have:=bo.o;rw[ay,dj.o];omega);clear b3 a3 al ap br;go_wp2_with(first|(at_builtin;refine gQ rfl (.tmp 40) (.tmp 47) 24 rfl LX (λ_=>rfl) wG _ (pre++p.gp) rfl cf.o ⟨some ⟨w3.heap.size,0,none⟩,1⟩ [⟨xB,p.aS,0⟩] rfl dg.o cx.o cc.o.size ?_)|fail)
     intro v4 w4 bl cn cH;have de:=ae bl;have cY:=ae (cf.o.below cn (af _) cc.o cc.o.size);have dl:=ae (cf.o.far cn dp.o (by decide));clear bl cn cH;go_wp2_with fail
     go_meet
     case rel=>exact⟨by rw[an.o,cg.o];exact de.o,cY.o,dl.o⟩
   .have hd:(wh == 0)=false:=by simp[h0]
    have an:Hid (xM M wh=pre):=ae (by rw[HL.o,if_neg h0,aP]);clear h0 HL;go_wp2_with fail
    go_meet
    case rel=>exact⟨by rw[an.o];exact ao.o,ad.o,aE.o⟩
  case rest =>
   obtain⟨co,cL,cX⟩:=hcut;have cQ:=Nh M wh;have cd:=ae (λs=>I1 (M:=M) (wh:=wh) (wd:=wd) (s:=s));obtain⟨A8,c8,rfl⟩:=co.form;have a3:=ae co;have al:=ae cL;have ap:=ae cX;clear co cL cX ao ad aE HL bo;generalize xM M wh=D at *;go_wp2_with fail
   go_loopw[7,51] (λs7 ct wr=>∃j:Nat,j<=D.length/\ct=.int .i64 j/\dz w.heap.size wr 9 1 encS s7 (jO (D.take j) wd)/\dz w.heap.size wr 50 3 bO.cells (.slice A8 D.length c8) D/\Below w.heap.size w wr/\wr.heap[w.heap.size]?=some (.cells #[.int .u8 0,.int .u8 0,.int .u32 0,.int .i64 0,.string ⟨#[]⟩,.slice none 0 0] 30 (0,0))) (λ_ ct _=>D.length - (intOf ct).toNat)
   case atStart=>exact⟨0,aH _,rfl,dz.nil,a3.o,al.o,ap.o⟩
   case round =>
    obtain⟨j,hj,rfl,a5,b6,ck,cr⟩:=hrel;clear a3 al ap;have a7:=ae a5;have a8:=ae b6;have U:=ae ck;have ab:=ae cr;by_cases bi:j<D.length
    .obtain⟨g,eA,_,_,hc⟩:=b6.cell (λ_=>rfl) bi
     cases eA
     have k0:=hc 0 (.string (D[j]).aT) rfl;have k1:=hc 1 (.int .i64 (D[j]).aS) rfl;have k2:=hc 2 (.int .i64 (D[j]).size) rfl;simp only[bS]at k0;have bw:Hid (D.take (j+1)=D.take j++[D[j]]):=ae (aG bi);have dd:Hid ((jO (D.take j) wd).length<=7):=ae (by have h1:=DF (D.take j) wd;have h2:(D.take j).length<=D.length:=List.length_take_le' _ _;omega);obtain⟨A7,c7,rfl⟩:=a5.form;clear a5 b6 ck cr hc;generalize D[j]=d at *;have ar:=jc wr (.cells d.r 50);by_cases he:d.aS=wd
     .have hd:(d.aS == wd)=true:=by simp[he]
      have ce:Hid (jO (D.take (j+1)) wd=jO (D.take j) wd++[d.aT]):=ae (by rw[bw.o,BK,if_pos he]);have be:Below wr.heap.size wr ((wr.alloc (.cells d.r 50)).alloc (.cells #[.string d.aT] 9)):=ar.alloc (by simp) _;have cC:=ae (row_one (enc:=encS) (x:=d.aT) (k:=1) (gM (wr.alloc (.cells d.r 50)) (.cells #[.string d.aT] 9)));simp only[di]at cC;have V:=ae (a7.o.on be);have a9:=ae (a8.o.on be);have am:=ae (U.o.trans (be.mono U.o.size));have bc:=ae ((be.block _ (dM ab.o).1).trans ab.o);clear he ar be bw a7 a8 U ab;go_wp2_with(first|(at_builtin;refine gQ rfl (.tmp 59) (.tmp 62) 40 rfl UX (λ_=>rfl) RF _ (jO (D.take j) wd) rfl V.o ⟨some ⟨wr.heap.size+1,0,none⟩,1⟩ [d.aT] rfl cC.o (by have:=dd.o;simp;omega) am.o.size ?_)|fail)
      intro v9 w9 bm b4 cI;have df:=ae bm;have da:=ae (V.o.below b4 (af _) am.o am.o.size);have dn:=ae (V.o.far b4 bc.o (by decide));have dc:=ae (a9.o.other V.o b4 (by decide));clear bm b4 cI;go_wp2_with fail
      go_roundw
      case rel =>
       exact⟨j+1,by omega,by go_num,by rw[ce.o];exact df.o,dc.o,da.o,dn.o⟩
      case measure=>simp[intOf];omega
     .have hd:(d.aS == wd)=false:=by simp[he]
      have ce:Hid (jO (D.take (j+1)) wd=jO (D.take j) wd):=ae (by rw[bw.o,BK,if_neg he,aP]);have V:=ae (a7.o.on ar);have a9:=ae (a8.o.on ar);have am:=ae (U.o.trans (ar.mono U.o.size));have bc:=ae ((ar.block _ (dM ab.o).1).trans ab.o);clear he ar bw a7 a8 U ab;go_wp2_with fail
      go_roundw
      case rel =>
       exact⟨j+1,by omega,by go_num,by rw[ce.o];exact V.o,a9.o,am.o,bc.o⟩
      case measure=>simp[intOf];omega
    .have cP:j=D.length:=by omega
     have b7:=ae (show dz w.heap.size wr 9 1 encS _ (jO D wd)from by rw[cP,bW]at a5;exact a5);clear a5 b6 ck cr cP a7 a8 hj;have c0:=ae (H.o.on U.o);have bt:=ae (jg q n lv ls dO p M.iR wr c0.o.base 8 (by decide) (by decide));go_wp2_with fail
     refine bt.o.mono ?_;clear bt c0;rintro o w5 ⟨k,at',rfl,dq,dr,cR,b2⟩;have cy:=ae cR;have ca:=ae ((bn hq U.o).trans (b2.mono U.o.size));have a4:=ae ((jN b2 (dM ab.o).1 (by omega)).trans ab.o);have b5:=jE b7.o b2 hq;have cT:w.heap.size<=w5.heap.size:=by have:=ca.o.size;rw[gI,gI]at this;exact this
     have dt:(jO D wd).length<=7:=ai (DF D wd) cQ;have cA:=ae H.o.base.nW;clear cR b2 b7 U ab;obtain⟨A7,c7,rfl⟩:=b5.form;obtain⟨kn,rfl⟩:=jV dq;by_cases bC:2<kn/\0<(jO D wd).length
     .obtain⟨h2,h0⟩:=bC
      have cN:decide ((2:Int)<(kn:Int))=true:=aC (by omega);have du:decide ((0:Int)<((jO D wd).length:Int))=true:=aC (by omega);have bi:kn % (jO D wd).length<(jO D wd).length:=Nat.mod_lt _ h0;obtain⟨g,eA,_,_,hc⟩:=b5.cell (λ_=>rfl) bi;cases eA
      have k0:=hc 0 (.string ((jO D wd)[kn % (jO D wd).length])) rfl;simp only[bS,Nat.mul_one]at k0;obtain⟨t,ht,cU⟩:=cd.o _ (ak bi);have cD:=ae (Od H.o.std ht);have b0:=ae (WX.var (d:=0) ht);rw[cU]at b0;generalize (jO D wd)[kn % (jO D wd).length]=s at *;generalize (jO D wd).length=L at *;clear hc cd b5 cU ht;go_wp2_with fail
      refine(yz _ _).mono ?_;rintro o w6 ⟨rfl,aq⟩;have ba:=ae ((aq.block _ (dM a4.o).1).trans a4.o);have cb:=ae aq;clear aq a4;go_wp2_with(first|(refine aK rfl 30 _ _ rfl w.heap.size #[.int .u8 2,.int .u8 0,.int .u32 0,.int .i64 0,.string s,.slice none 0 0] (by rfl) (by rfl) 30 zX ba.o (dL _ _ _ _ _ _) (by rfl) (jw _ _ _ _ _ _ _ _) ?_)|fail)
      have bh:=bM w6 w.heap.size _ #[.int .u8 2,.int .u8 0,.int .u32 0,.int .i64 0,.string s,.slice none 0 0] 30 (0,0) ba.o;have bd:=Go.below_setRow (cb.o.mono cT) (af _) #[.int .u8 2,.int .u8 0,.int .u32 0,.int .i64 0,.string s,.slice none 0 0];exact aW (aL rfl _ _ w.heap.size 30 _ (0,0) _ rfl bh Tryz.underlying30 rfl (by kernel_rfl)) rfl ⟨aZ s,at',rfl,b0.o,λW=>GV W s (by have:=cD.o;simp only[maxLen];omega),cy.o.low (bd.mono cA.o),ca.o.trans (bn (by omega) bd)⟩
     .have O:=Rc kn wd dr cp
      have b0:Hid (WX M wh 0 wd (cO (bits BinOp.and IntKind.u32 (kn:Int) ((2 ^ wd.toNat - 1) % 4294967296)) wd)):=ae (WX.num O.1 O.2.1 cp.1 (by omega));have bt:Hid (∀W:World,mM 0 W (cO (bits BinOp.and IntKind.u32 (kn:Int) ((2 ^ wd.toNat - 1) % 4294967296)) wd)):=ae (λ_=>by
       exact .mk _ (show(0:Int)<=1/\(1:Int)<=255 by decide) (show(0:Int)<=0/\(0:Int)<=255 by decide) ⟨O.1,O.2.2⟩ (ut cp) (show(0:Nat)<=maxLen by decide) RowOf.nil (λ_ h=>absurd h (by simp[cO,ah.cu])))
      have cV:(decide ((2:Int)<(kn:Int))=true/\decide (0<(jO D wd).length)=false/\¬0<(jO D wd).length)\/decide ((2:Int)<(kn:Int))=false:=by
       by_cases h2:2<kn
       .exact .inl ⟨aC (by omega),az (by omega),by omega⟩
       .exact .inr (az (by omega))
      clear O bC cd b5 dt;rcases cV with ⟨cN,_,dv⟩|cN
      all_goals
       go_wp2_with fail
       generalize bits BinOp.and IntKind.u32 (kn:Int) ((2 ^ wd.toNat - 1) % 4294967296)=x at *;refine(xu _ _ _).mono ?_;rintro o w6 ⟨rfl,aq⟩;have ba:=ae ((aq.block _ (dM a4.o).1).trans a4.o);have cb:=ae aq;clear aq a4;go_wp2_with(first|(refine aK rfl 30 _ _ rfl w.heap.size #[.int .u8 1,.int .u8 0,.int .u32 x,.int .i64 wd,.string ⟨#[]⟩,.slice none 0 0] (by rfl) (by rfl) 30 zX ba.o (dL _ _ _ _ _ _) (by rfl) (jw _ _ _ _ _ _ _ _) ?_)|fail)
       have bh:=bM w6 w.heap.size _ #[.int .u8 1,.int .u8 0,.int .u32 x,.int .i64 wd,.string ⟨#[]⟩,.slice none 0 0] 30 (0,0) ba.o;have bd:=Go.below_setRow (cb.o.mono cT) (af _) #[.int .u8 1,.int .u8 0,.int .u32 x,.int .i64 wd,.string ⟨#[]⟩,.slice none 0 0];have db:=ca.o.trans (bn (by omega) bd);refine aW (aL rfl _ _ w.heap.size 30 _ (0,0) _ rfl bh Tryz.underlying30 rfl (by kernel_rfl)) rfl ⟨cO x wd,at',rfl,b0.o,bt.o,cy.o.low (bd.mono cA.o),db⟩
section
structure EI(q n:Nat)(lv:Sp)(ls:List Int)(dO:Nat)(p:aj)(M:jr)(wh d:Int)(w W:World):Prop where
 base:Hu q n lv ls dO p M W
 old:q<w.heap.size
 oldn:n<=w.heap.size
 low:Below w.heap.size (mask q w) (mask q W)
 cm:W.heap[w.heap.size]?=some (.cells #[.pointer (some ⟨q,0,none⟩)] 143 (0,0))
 cw:W.heap[w.heap.size+1]?=some (.cells #[.int .i64 wh] 3 (0,0))
 cd:W.heap[w.heap.size+1+1]?=some (.cells #[.int .i64 d] 3 (0,0))
 cr:W.heap[w.heap.size+1+1+1]?=some (.cells zX 30 (0,0))
section
variable {q n:Nat}{lv:Sp}{ls:List Int}{dO at':Nat}{p:aj}{M:jr}{wh d:Int}{w W W':World}
theorem EI.size(h:EI q n lv ls dO p M wh d w W):w.heap.size+4<=W.heap.size:=by
 have:=(dM h.cr).1;omega
theorem EI.next(h:EI q n lv ls dO p M wh d w W)(D:uy q n lv ls at' p M.iR W')(hb:Below W.heap.size (mask q W) (mask q W')):EI q n lv ls at' p M wh d w W':=by
 have U:=h.size;have O:=h.old;exact⟨h.base.next D hb,O,h.oldn,h.low.trans (hb.mono (by omega)),(jN hb (by omega) (by omega)).trans h.cm,(jN hb (by omega) (by omega)).trans h.cw,(jN hb (by omega) (by omega)).trans h.cd,(jN hb (by omega) (by omega)).trans h.cr⟩
theorem EI.on(h:EI q n lv ls dO p M wh d w W)(hb:Below W.heap.size W W'):EI q n lv ls dO p M wh d w W':=h.next (h.base.base.on hb) (bn h.base.base.ib hb)
theorem EI.boxm(h:EI q n lv ls dO p M wh d w W):W.cell? ⟨w.heap.size,0,none⟩=some (.pointer (some ⟨q,0,none⟩)):=by simp[World.cell?,h.cm]
theorem EI.boxw(h:EI q n lv ls dO p M wh d w W):W.cell? ⟨w.heap.size+1,0,none⟩=some (.int .i64 wh):=by simp[World.cell?,h.cw]
theorem EI.boxd(h:EI q n lv ls dO p M wh d w W):W.cell? ⟨w.heap.size+1+1,0,none⟩=some (.int .i64 d):=by simp[World.cell?,h.cd]
theorem EI.fin(h:EI q n lv ls dO p M wh d w W)(cs:Array Value):(W.setRow (w.heap.size+1+1+1) cs).heap[w.heap.size+1+1+1]?=some (.cells cs 30 (0,0))/\uy q n lv ls dO p M.iR (W.setRow (w.heap.size+1+1+1) cs)/\Below w.heap.size (mask q w) (mask q (W.setRow (w.heap.size+1+1+1) cs)):=by
 have hb:=Go.below_setRow (ag w.heap.size W) (show w.heap.size<=w.heap.size+1+1+1 by omega) cs;exact⟨bM _ _ _ _ _ _ h.cr,h.base.base.low (hb.mono h.oldn),h.low.trans (bn h.base.base.ib hb)⟩
end
theorem WX.rise{M:jr}{wh:Int}{wd:Int}{e:ah}(h:WX M wh 0 wd e)(d:Nat):WX M wh d wd e:=by
 cases h with
 |num h1 D O U=>exact .num h1 D O U
 |var h1=>exact .var h1
def yR(d:Nat):Prop:=∀(q n:Nat) (lv:Sp) (ls:List Int) (dO:Nat) (p:aj) (M:jr) (w:World),Hu q n lv ls dO p M w->∀(wd wh:Int),1<=wd/\wd<=3 ->
 Calls Tryz.prog 99 #[.pointer (some ⟨q,0,none⟩),.int .i64 wd,.int .i64 wh,.int .i64 d] w λo w'=>∃(e:ah) (at':Nat),o=.returned (.agg e.r)/\WX M wh d wd e/\fV w.heap.size w' e/\uy q n lv ls at' p M.iR w'/\Below w.heap.size (mask q w) (mask q w')
def Ua(d:Nat):Prop:=∀(q n:Nat) (lv:Sp) (ls:List Int) (dO:Nat) (p:aj) (M:jr) (wh:Int) (w W:World),EI q n lv ls dO p M wh ((d:Int)+1) w W->∀(wd:Int),1<=wd/\wd<=3 ->
 Calls Tryz.prog 157 #[.int .i64 wd,.pointer (some ⟨w.heap.size,0,none⟩),.pointer (some ⟨w.heap.size+1,0,none⟩),.pointer (some ⟨w.heap.size+1+1,0,none⟩)] W λo w'=>∃(e:ah) (at':Nat),o=.returned (.agg e.r)/\WX M wh d wd e/\fV (w.heap.size+4) w' e/\EI q n lv ls at' p M wh ((d:Int)+1) w w'/\Below W.heap.size (mask q W) (mask q w')
theorem TN{d:Nat}(a9:d<=10)(hE:yR d):Ua d:=by
 intro q n lv ls dO p M wh w W h wd a8;have D:=jc W (.cells zX 30);have h1:=h.on D;have c1:=h1.boxm;have c2:=h1.boxw;have c3:=h1.boxd;have a3:=gM W (.cells zX 30);have am:=hE q n lv ls dO p M _ h1.base wd wh a8;have ab:=ae am;have ad:=ae a3;have a4:=ae D;have H:=ae h;clear hE h h1 am a3 D;unfold zX at *;go_enter Tryz.func157,Tryz.ntmps157
 go_wp2_with fail
 refine ab.o.mono ?_;rintro o w1 ⟨e,at',rfl,a1,U,ar,O⟩;have aq:=(dM ad.o).1;have hq:=H.o.base.base.ib;have aw:(W.alloc (.cells #[.int .u8 0,.int .u8 0,.int .u32 0,.int .i64 0,.string ⟨#[]⟩,.slice none 0 0] 30)).heap.size=W.heap.size+1:=by simp
 have al:=ae ((jN O aq (by omega)).trans ad.o);have V:=ae ((bn hq a4.o).trans (O.mono (by omega)));have a7:=ae a1;rw[aw]at U;have a6:=ae U;have a5:=ae ar;have ba:W.heap.size<=w1.heap.size:=ja V.o;clear a1 U ar O aw ab;go_wp2_with(first|(refine aK rfl 30 _ _ rfl W.heap.size e.r (by rfl) (by rfl) 30 zX al.o (dL _ _ _ _ _ _) (by rfl) (jw _ _ _ _ _ _ _ _) ?_)|fail)
 have ao:=bM w1 W.heap.size _ e.r 30 (0,0) al.o;have an:=Go.below_setRow (ag W.heap.size w1) (af _) e.r;have ap:=V.o.trans (bn (by omega) an);have aE:=H.o.size;exact aW (aL rfl _ _ W.heap.size 30 _ (0,0) _ rfl ao Tryz.underlying30 rfl (dL _ _ _ _ _ _)) rfl ⟨e,at',rfl,a7.o,(a6.o.set (bN _)).less (by omega),H.o.next (a5.o.low (an.mono (by have:=H.o.oldn;omega))) ap,ap⟩
end
theorem LU(w:World)(D O U V:Obj):Below w.heap.size w ((((w.alloc D).alloc O).alloc U).alloc V)/\((((w.alloc D).alloc O).alloc U).alloc V).heap[w.heap.size]?=some D/\((((w.alloc D).alloc O).alloc U).alloc V).heap[w.heap.size+1]?=some O/\((((w.alloc D).alloc O).alloc U).alloc V).heap[w.heap.size+1+1]?=some U/\((((w.alloc D).alloc O).alloc U).alloc V).heap[w.heap.size+1+1+1]?=some V:=by
 obtain⟨h1,h2,h3,h4,_,h6⟩:=Al w D O U V;exact⟨h6,h1,h2,h3,h4⟩
theorem iX{α:Type}{W:World}{b k c:Nat}{t:TypeId}{fr:Nat × Nat}{enc:α->List Value}{l:List α}(hk:∀x,(enc x).length=k)(hc:c=l.length)(hl:l.length<=1000)(h:W.heap[b]?=some (.cells (l.flatMap enc).toArray t fr)):RowOf W.heap.size W ⟨some ⟨b,0,none⟩,c⟩ k enc l:=by
 subst hc;refine⟨af _,by simp only[maxLen];omega,by omega,λ_=>⟨b,0,rfl,(dM h).1,λj D r u O=>?_⟩⟩;have e:=Cw hk l j r u D O;simp only[World.cell?,h,fI]
 simpa using e
theorem nA{lo g c:Nat}{W:World}{k o v wd:Int}{O:ByteArray}{l:List ah}(D:RowOf W.heap.size W ⟨some ⟨g,0,none⟩,c⟩ 6 ah.cells l)(U:lo<=g)(hs:∀s,s∈l->fV lo W s)(hk:0<=k/\k<=255)(ho:0<=o/\o<=255)(hv:0<=v/\v<=4294967295)(hw:(Lit.int .i64 wd).wf=true)(V:O.size<=maxLen):fV lo W (.mk k o v wd O ⟨some ⟨g,0,none⟩,c⟩ l):=
 .mk _ hk ho hv hw V (D.low U) hs
theorem kz{w W:World}{e:ah}(he:fV (w.heap.size+4) W e)(cs:Array Value):fV w.heap.size (W.setRow (w.heap.size+1+1+1) cs) e :=
 (he.set (by omega)).less (by omega)
theorem M3:yR 0:=by
 intro q n lv ls dO p M w h wd wh am;obtain⟨O,x0,x1,x2,x3⟩:=LU w (.cells #[.pointer (some ⟨q,0,none⟩)] 143) (.cells #[.int .i64 wh] 3) (.cells #[.int .i64 0] 3) (.cells #[.int .u8 0,.int .u8 0,.int .u32 0,.int .i64 0,.string ⟨#[]⟩,.slice none 0 0] 30);have hS:EI q n lv ls dO p M wh 0 w _:=⟨h.on O,h.base.ib,h.base.nW,bn h.base.ib O,x0,x1,x2,x3⟩;have D:=ae hS;clear O x0 x1 x2 x3 hS h;go_enter Tryz.func99,Tryz.ntmps99
 go_upto_region 1 with fail
 generalize ((((w.alloc (.cells #[.pointer (some ⟨q,0,none⟩)] 143)).alloc (.cells #[.int .i64 wh] 3)).alloc (.cells #[.int .i64 0] 3)).alloc (.cells #[.int .u8 0,.int .u8 0,.int .u32 0,.int .i64 0,.string ⟨#[]⟩,.slice none 0 0] 30))=W0 at *;have m0:=D.o.boxm;have v0:=D.o.boxw;have y0:=D.o.boxd;go_wp2_with fail
 refine(jI q n lv ls _ p M _ D.o.base wd wh am).mono ?_;rintro o WA ⟨e,aA,rfl,ab,V,hm,hb⟩;have U:=ae (D.o.next hm hb);have al:=ae (ab.rise 0);have ad:Hid (fV (w.heap.size+4) WA e):=ae ((V _).more (aH _));clear hm hb ab V;simp only[ah.val,Sp.val];go_wp2_with(first|(refine aK rfl 30 _ _ rfl (w.heap.size+1+1+1) e.r (by rfl) (by rfl) 30 zX U.o.cr (dL _ _ _ _ _ _) (by rfl) (jw _ _ _ _ _ _ _ _) ?_)|fail)
 obtain⟨f1,f2,f3⟩:=U.o.fin e.r;exact aW (aL rfl _ _ (w.heap.size+1+1+1) 30 _ (0,0) _ rfl f1 Tryz.underlying30 rfl (dL _ _ _ _ _ _)) rfl ⟨e,_,rfl,al.o,kz ad.o _,f2,f3⟩
theorem M0{d:Nat}(bm:d<=10)(hE:yR d):yR (d+1):=by
 intro q n lv ls dO p M w h wd wh aw;have aq:=ae (TN bm hE);obtain⟨b2,x0,x1,x2,x3⟩:=LU w (.cells #[.pointer (some ⟨q,0,none⟩)] 143) (.cells #[.int .i64 wh] 3) (.cells #[.int .i64 ((d:Int)+1)] 3) (.cells #[.int .u8 0,.int .u8 0,.int .u32 0,.int .i64 0,.string ⟨#[]⟩,.slice none 0 0] 30);have hS:EI q n lv ls dO p M wh ((d:Int)+1) w _:=⟨h.on b2,h.base.ib,h.base.nW,bn h.base.ib b2,x0,x1,x2,x3⟩;have bc:=ae hS;have bo:=h.aS;have hz:((d:Int)+1 == 0)=false:=by rw[iA];omega
 clear b2 x0 x1 x2 x3 hS h hE bm;rw[show(((d+1:Nat)):Int)=(d:Int)+1 by omega];go_enter Tryz.func99,Tryz.ntmps99
 go_upto_region 1 with fail
 generalize ((((w.alloc (.cells #[.pointer (some ⟨q,0,none⟩)] 143)).alloc (.cells #[.int .i64 wh] 3)).alloc (.cells #[.int .i64 ((d:Int)+1)] 3)).alloc (.cells #[.int .u8 0,.int .u8 0,.int .u32 0,.int .i64 0,.string ⟨#[]⟩,.slice none 0 0] 30))=W0 at *;have b5:=ae bo;clear bo;have m0:=bc.o.boxm;have v0:=bc.o.boxw;have y0:=bc.o.boxd;have z0:=bc.o.base.base.cell 3 rfl;go_wp2_with fail
 refine(jg q n lv ls _ p M.iR _ bc.o.base.base 9 (by decide) (by decide)).mono ?_;rintro o W1 ⟨k1,a1,rfl,cb,b9,hm,hb⟩;have al:=ae (bc.o.next hm hb);clear hm hb bc m0 v0 y0 z0;have m1:=al.o.boxm;have v1:=al.o.boxw;have y1:=al.o.boxd;have z1:=al.o.base.base.cell 3 rfl;clear hz;have ca:k1=0\/k1=1\/k1=2\/k1=3\/k1=4\/k1=5\/k1=6\/k1=7\/k1=8:=by omega
 clear cb b9;rcases ca with rfl|rfl|rfl|rfl|rfl|rfl|rfl|rfl|rfl
 .go_wp2_with fail
  refine(jI q n lv ls _ p M _ al.o.base wd wh aw).mono ?_;rintro o WA ⟨e,aA,rfl,O,D,hm,hb⟩;have ab:=ae (al.o.next hm hb);have a8:=ae (O.rise (d+1));have an:Hid (fV (w.heap.size+4) WA e):=ae ((D _).more (aH _));clear hm hb O D;simp only[ah.val,Sp.val];go_wp2_with(first|(refine aK rfl 30 _ _ rfl (w.heap.size+1+1+1) e.r (by rfl) (by rfl) 30 zX ab.o.cr (dL _ _ _ _ _ _) (by rfl) (jw _ _ _ _ _ _ _ _) ?_)|fail)
  obtain⟨f1,f2,f3⟩:=ab.o.fin e.r;exact aW (aL rfl _ _ (w.heap.size+1+1+1) 30 _ (0,0) _ rfl f1 Tryz.underlying30 rfl (dL _ _ _ _ _ _)) rfl ⟨e,_,rfl,a8.o,kz an.o _,f2,f3⟩
 .go_wp2_with fail
  refine(jI q n lv ls _ p M _ al.o.base wd wh aw).mono ?_;rintro o WA ⟨e,aA,rfl,O,D,hm,hb⟩;have ab:=ae (al.o.next hm hb);have a8:=ae (O.rise (d+1));have an:Hid (fV (w.heap.size+4) WA e):=ae ((D _).more (aH _));clear hm hb O D;simp only[ah.val,Sp.val];go_wp2_with(first|(refine aK rfl 30 _ _ rfl (w.heap.size+1+1+1) e.r (by rfl) (by rfl) 30 zX ab.o.cr (dL _ _ _ _ _ _) (by rfl) (jw _ _ _ _ _ _ _ _) ?_)|fail)
  obtain⟨f1,f2,f3⟩:=ab.o.fin e.r;exact aW (aL rfl _ _ (w.heap.size+1+1+1) 30 _ (0,0) _ rfl f1 Tryz.underlying30 rfl (dL _ _ _ _ _ _)) rfl ⟨e,_,rfl,a8.o,kz an.o _,f2,f3⟩
 .go_wp2_with fail
  refine(jI q n lv ls _ p M _ al.o.base wd wh aw).mono ?_;rintro o WA ⟨e,aA,rfl,O,D,hm,hb⟩;have ab:=ae (al.o.next hm hb);have a8:=ae (O.rise (d+1));have an:Hid (fV (w.heap.size+4) WA e):=ae ((D _).more (aH _));clear hm hb O D;simp only[ah.val,Sp.val];go_wp2_with(first|(refine aK rfl 30 _ _ rfl (w.heap.size+1+1+1) e.r (by rfl) (by rfl) 30 zX ab.o.cr (dL _ _ _ _ _ _) (by rfl) (jw _ _ _ _ _ _ _ _) ?_)|fail)
  obtain⟨f1,f2,f3⟩:=ab.o.fin e.r;exact aW (aL rfl _ _ (w.heap.size+1+1+1) 30 _ (0,0) _ rfl f1 Tryz.underlying30 rfl (dL _ _ _ _ _ _)) rfl ⟨e,_,rfl,a8.o,kz an.o _,f2,f3⟩
 .by_cases h1:wd=1
  .subst h1
   go_wp2_with fail
   refine(jg q n lv ls _ p M.iR _ al.o.base.base 3 (by decide) (by decide)).mono ?_;rintro o W2 ⟨k2,a2,rfl,lo2,bl,hm,hb⟩;have U:=ae (al.o.next hm hb);clear hm hb al m1 v1 y1 z1;have m2:=U.o.boxm;have v2:=U.o.boxw;have y2:=U.o.boxd;have z2:=U.o.base.base.cell 3 rfl;have be:1<=1+k2/\1+k2<=3:=by omega
   go_wp2_with fail
   refine(jg q n lv ls _ p M.iR _ U.o.base.base 4 (by decide) (by decide)).mono ?_;rintro o W3 ⟨k3,a3,rfl,b7,b6,hm,hb⟩;have V:=ae (U.o.next hm hb);clear hm hb U m2 v2 y2 z2;have m3:=V.o.boxm;have v3:=V.o.boxw;have y3:=V.o.boxd;have z3:=V.o.base.base.cell 3 rfl;go_wp2_with fail
   refine(aq.o q n lv ls _ p M wh w _ V.o (1+k2) be).mono ?_;rintro o W4 ⟨e1,a4,rfl,O,D,hm,hb⟩;have a6:=ae O;have ad:=ae hm;have ap:=ae D;clear O D;clear hm hb V m3 v3 y3 z3;have m4:=ad.o.boxm;have v4:=ad.o.boxw;have y4:=ad.o.boxd;have z4:=ad.o.base.base.cell 3 rfl;go_wp2_with fail
   refine(aq.o q n lv ls _ p M wh w _ ad.o (1+k2) be).mono ?_;rintro o W5 ⟨e2,a5,rfl,O,D,hm,hb⟩;have bd:=ae O;have bh:=ae hm;have bt:=ae (ap.o.on hb (by have:=ad.o.old;omega));have bw:=ae D;clear O D;clear hm hb ad m4 v4 y4 z4 ap;go_wp2_with fail
   refine(oZ (13+k3) e1 e2 _).mono ?_;rintro o WA ⟨b,rfl,aE,bk,ba,am⟩;have ao:=bn (aI bh.o.old (ai (gU _ 4) bh.o.size)) am;have ab:=ae (bh.o.on am);have an:Hid (fV (w.heap.size+4) WA (.mk 6 (13+k3) 0 0 ⟨#[]⟩ ⟨some ⟨b,0,none⟩,2⟩ [e1,e2])):=ae (nA (pM (enc:=ah.cells) rfl ba) (ai bh.o.size aE) (λs hs=>by
    simp only[bE,bu,or_false]at hs;rcases hs with rfl|rfl
    .exact bt.o.on ao (by have:=bh.o.old;omega)
    .exact bw.o.on ao (by have:=bh.o.old;omega)) (show(0:Int)<=6/\(6:Int)<=255 by decide) ⟨by omega,by omega⟩ (show(0:Int)<=0/\(0:Int)<=4294967295 by decide) (show(Lit.int .i64 0).wf=true by decide) (show(⟨#[]⟩:ByteArray).size<=maxLen by decide))
   clear am ao aE bk ba;go_wp2_with(first|(refine aK rfl 30 _ _ rfl (w.heap.size+1+1+1) #[.int .u8 6,.int .u8 (13+k3),.int .u32 0,.int .i64 0,.string ⟨#[]⟩,.slice (some ⟨b,0,none⟩) 2 2] (by rfl) (by rfl) 30 zX ab.o.cr (dL _ _ _ _ _ _) (by rfl) (jw _ _ _ _ _ _ _ _) ?_)|fail)
   obtain⟨f1,f2,f3⟩:=ab.o.fin #[.int .u8 6,.int .u8 (13+k3),.int .u32 0,.int .i64 0,.string ⟨#[]⟩,.slice (some ⟨b,0,none⟩) 2 2];exact aW (aL rfl _ _ (w.heap.size+1+1+1) 30 _ (0,0) _ rfl f1 Tryz.underlying30 rfl (dL _ _ _ _ _ _)) rfl ⟨.mk 6 (13+k3) 0 0 ⟨#[]⟩ ⟨some ⟨b,0,none⟩,2⟩ [e1,e2],_,rfl,WX.cmp (by omega) (by omega) a6.o bd.o,kz an.o _,f2,f3⟩
  .have bi:(wd == 1)=false:=by simp[h1]
   clear h1;go_wp2_with fail
   refine(jg q n lv ls _ p M.iR _ al.o.base.base 10 (by decide) (by decide)).mono ?_;rintro o W2 ⟨k2,a2,rfl,lo2,bl,hm,hb⟩;have U:=ae (al.o.next hm hb);clear hm hb al m1 v1 y1 z1;have m2:=U.o.boxm;have v2:=U.o.boxw;have y2:=U.o.boxd;have z2:=U.o.base.base.cell 3 rfl;go_wp2_with fail
   refine(aq.o q n lv ls _ p M wh w _ U.o wd aw).mono ?_;rintro o W3 ⟨e1,a3,rfl,O,D,hm,hb⟩;have a6:=ae O;have V:=ae hm;have ar:=ae D;clear O D;clear hm hb U m2 v2 y2 z2;have m3:=V.o.boxm;have v3:=V.o.boxw;have y3:=V.o.boxd;have z3:=V.o.base.base.cell 3 rfl;go_wp2_with fail
   refine(aq.o q n lv ls _ p M wh w _ V.o wd aw).mono ?_;rintro o W4 ⟨e2,a4,rfl,O,D,hm,hb⟩;have bd:=ae O;have ad:=ae hm;have ap:=ae (ar.o.on hb (by have:=V.o.old;omega));have a9:=ae D;clear O D;clear hm hb V m3 v3 y3 z3 ar;go_wp2_with fail
   refine(oZ (3+k2) e1 e2 _).mono ?_;rintro o WA ⟨b,rfl,aE,bk,ba,am⟩;have ao:=bn (aI ad.o.old (ai (gU _ 4) ad.o.size)) am;have ab:=ae (ad.o.on am);have an:Hid (fV (w.heap.size+4) WA (.mk 6 (3+k2) 0 0 ⟨#[]⟩ ⟨some ⟨b,0,none⟩,2⟩ [e1,e2])):=ae (nA (pM (enc:=ah.cells) rfl ba) (ai ad.o.size aE) (λs hs=>by
    simp only[bE,bu,or_false]at hs;rcases hs with rfl|rfl
    .exact ap.o.on ao (by have:=ad.o.old;omega)
    .exact a9.o.on ao (by have:=ad.o.old;omega)) (show(0:Int)<=6/\(6:Int)<=255 by decide) ⟨by omega,by omega⟩ (show(0:Int)<=0/\(0:Int)<=4294967295 by decide) (show(Lit.int .i64 0).wf=true by decide) (show(⟨#[]⟩:ByteArray).size<=maxLen by decide))
   clear am ao aE bk ba;go_wp2_with(first|(refine aK rfl 30 _ _ rfl (w.heap.size+1+1+1) #[.int .u8 6,.int .u8 (3+k2),.int .u32 0,.int .i64 0,.string ⟨#[]⟩,.slice (some ⟨b,0,none⟩) 2 2] (by rfl) (by rfl) 30 zX ab.o.cr (dL _ _ _ _ _ _) (by rfl) (jw _ _ _ _ _ _ _ _) ?_)|fail)
   obtain⟨f1,f2,f3⟩:=ab.o.fin #[.int .u8 6,.int .u8 (3+k2),.int .u32 0,.int .i64 0,.string ⟨#[]⟩,.slice (some ⟨b,0,none⟩) 2 2];exact aW (aL rfl _ _ (w.heap.size+1+1+1) 30 _ (0,0) _ rfl f1 Tryz.underlying30 rfl (dL _ _ _ _ _ _)) rfl ⟨.mk 6 (3+k2) 0 0 ⟨#[]⟩ ⟨some ⟨b,0,none⟩,2⟩ [e1,e2],_,rfl,WX.bin (by omega) (by omega) a6.o bd.o,kz an.o _,f2,f3⟩
 .skip
  go_wp2_with fail
  refine(jg q n lv ls _ p M.iR _ al.o.base.base 10 (by decide) (by decide)).mono ?_;rintro o W2 ⟨k2,a2,rfl,lo2,bl,hm,hb⟩;have U:=ae (al.o.next hm hb);clear hm hb al m1 v1 y1 z1;have m2:=U.o.boxm;have v2:=U.o.boxw;have y2:=U.o.boxd;have z2:=U.o.base.base.cell 3 rfl;go_wp2_with fail
  refine(aq.o q n lv ls _ p M wh w _ U.o wd aw).mono ?_;rintro o W3 ⟨e1,a3,rfl,O,D,hm,hb⟩;have a6:=ae O;have V:=ae hm;have ar:=ae D;clear O D;clear hm hb U m2 v2 y2 z2;have m3:=V.o.boxm;have v3:=V.o.boxw;have y3:=V.o.boxd;have z3:=V.o.base.base.cell 3 rfl;go_wp2_with fail
  refine(aq.o q n lv ls _ p M wh w _ V.o wd aw).mono ?_;rintro o W4 ⟨e2,a4,rfl,O,D,hm,hb⟩;have bd:=ae O;have ad:=ae hm;have ap:=ae (ar.o.on hb (by have:=V.o.old;omega));have a9:=ae D;clear O D;clear hm hb V m3 v3 y3 z3 ar;go_wp2_with fail
  refine(oZ (3+k2) e1 e2 _).mono ?_;rintro o WA ⟨b,rfl,aE,bk,ba,am⟩;have ao:=bn (aI ad.o.old (ai (gU _ 4) ad.o.size)) am;have ab:=ae (ad.o.on am);have an:Hid (fV (w.heap.size+4) WA (.mk 6 (3+k2) 0 0 ⟨#[]⟩ ⟨some ⟨b,0,none⟩,2⟩ [e1,e2])):=ae (nA (pM (enc:=ah.cells) rfl ba) (ai ad.o.size aE) (λs hs=>by
   simp only[bE,bu,or_false]at hs;rcases hs with rfl|rfl
   .exact ap.o.on ao (by have:=ad.o.old;omega)
   .exact a9.o.on ao (by have:=ad.o.old;omega)) (show(0:Int)<=6/\(6:Int)<=255 by decide) ⟨by omega,by omega⟩ (show(0:Int)<=0/\(0:Int)<=4294967295 by decide) (show(Lit.int .i64 0).wf=true by decide) (show(⟨#[]⟩:ByteArray).size<=maxLen by decide))
  clear am ao aE bk ba;go_wp2_with(first|(refine aK rfl 30 _ _ rfl (w.heap.size+1+1+1) #[.int .u8 6,.int .u8 (3+k2),.int .u32 0,.int .i64 0,.string ⟨#[]⟩,.slice (some ⟨b,0,none⟩) 2 2] (by rfl) (by rfl) 30 zX ab.o.cr (dL _ _ _ _ _ _) (by rfl) (jw _ _ _ _ _ _ _ _) ?_)|fail)
  obtain⟨f1,f2,f3⟩:=ab.o.fin #[.int .u8 6,.int .u8 (3+k2),.int .u32 0,.int .i64 0,.string ⟨#[]⟩,.slice (some ⟨b,0,none⟩) 2 2];exact aW (aL rfl _ _ (w.heap.size+1+1+1) 30 _ (0,0) _ rfl f1 Tryz.underlying30 rfl (dL _ _ _ _ _ _)) rfl ⟨.mk 6 (3+k2) 0 0 ⟨#[]⟩ ⟨some ⟨b,0,none⟩,2⟩ [e1,e2],_,rfl,WX.bin (by omega) (by omega) a6.o bd.o,kz an.o _,f2,f3⟩
 .skip
  go_wp2_with fail
  refine(aq.o q n lv ls _ p M wh w _ al.o 1 ⟨by decide,by decide⟩).mono ?_;rintro o W2 ⟨e1,a2,rfl,O,D,hm,hb⟩;have a6:=ae O;have U:=ae hm;have a7:=ae D;clear O D;clear hm hb al m1 v1 y1 z1;have m2:=U.o.boxm;have v2:=U.o.boxw;have y2:=U.o.boxd;have z2:=U.o.base.base.cell 3 rfl;go_wp2_with fail
  refine(aq.o q n lv ls _ p M wh w _ U.o wd aw).mono ?_;rintro o W3 ⟨e2,a3,rfl,O,D,hm,hb⟩;have bd:=ae O;have V:=ae hm;have ar:=ae (a7.o.on hb (by have:=U.o.old;omega));have bj:=ae D;clear O D;clear hm hb U m2 v2 y2 z2 a7;have m3:=V.o.boxm;have v3:=V.o.boxw;have y3:=V.o.boxd;have z3:=V.o.base.base.cell 3 rfl;go_wp2_with fail
  refine(aq.o q n lv ls _ p M wh w _ V.o wd aw).mono ?_;rintro o W4 ⟨e3,a4,rfl,O,D,hm,hb⟩;have b8:=ae O;have ad:=ae hm;have ap:=ae (ar.o.on hb (by have:=V.o.old;omega));have a9:=ae (bj.o.on hb (by have:=V.o.old;omega));have b0:=ae D;clear O D;clear hm hb V m3 v3 y3 z3 ar bj;have am:=jc W4 (.cells #[.int .u8 e1.bI,.int .u8 e1.op,.int .u32 e1.bv,.int .i64 e1.aS,.string e1.aT,.slice e1.sp.dO e1.cu.length e1.sp.df,.int .u8 e2.bI,.int .u8 e2.op,.int .u32 e2.bv,.int .i64 e2.aS,.string e2.aT,.slice e2.sp.dO e2.cu.length e2.sp.df,.int .u8 e3.bI,.int .u8 e3.op,.int .u32 e3.bv,.int .i64 e3.aS,.string e3.aT,.slice e3.sp.dO e3.cu.length e3.sp.df] 30);have ao:=bn (aI ad.o.old (ai (gU _ 4) ad.o.size)) am;have ab:=ae (ad.o.on am);have an:Hid (fV (w.heap.size+4) (W4.alloc (.cells #[.int .u8 e1.bI,.int .u8 e1.op,.int .u32 e1.bv,.int .i64 e1.aS,.string e1.aT,.slice e1.sp.dO e1.cu.length e1.sp.df,.int .u8 e2.bI,.int .u8 e2.op,.int .u32 e2.bv,.int .i64 e2.aS,.string e2.aT,.slice e2.sp.dO e2.cu.length e2.sp.df,.int .u8 e3.bI,.int .u8 e3.op,.int .u32 e3.bv,.int .i64 e3.aS,.string e3.aT,.slice e3.sp.dO e3.cu.length e3.sp.df] 30)) (.mk 7 0 0 0 ⟨#[]⟩ ⟨some ⟨W4.heap.size,0,none⟩,3⟩ [e1,e2,e3])):=ae (nA (iX (t:=30) (fr:=(0,0)) (λ_=>rfl) rfl (by simp) (gM W4 (.cells #[.int .u8 e1.bI,.int .u8 e1.op,.int .u32 e1.bv,.int .i64 e1.aS,.string e1.aT,.slice e1.sp.dO e1.cu.length e1.sp.df,.int .u8 e2.bI,.int .u8 e2.op,.int .u32 e2.bv,.int .i64 e2.aS,.string e2.aT,.slice e2.sp.dO e2.cu.length e2.sp.df,.int .u8 e3.bI,.int .u8 e3.op,.int .u32 e3.bv,.int .i64 e3.aS,.string e3.aT,.slice e3.sp.dO e3.cu.length e3.sp.df] 30))) ad.o.size (λs hs=>by
   simp only[bE,bu,or_false]at hs;rcases hs with rfl|rfl|rfl
   .exact ap.o.on ao (by have:=ad.o.old;omega)
   .exact a9.o.on ao (by have:=ad.o.old;omega)
   .exact b0.o.on ao (by have:=ad.o.old;omega)) (show(0:Int)<=7/\(7:Int)<=255 by decide) (show(0:Int)<=0/\(0:Int)<=255 by decide) (show(0:Int)<=0/\(0:Int)<=4294967295 by decide) (show(Lit.int .i64 0).wf=true by decide) (show(⟨#[]⟩:ByteArray).size<=maxLen by decide))
  clear am ao;go_wp2_with(first|(refine aK rfl 30 _ _ rfl (w.heap.size+1+1+1) #[.int .u8 7,.int .u8 0,.int .u32 0,.int .i64 0,.string ⟨#[]⟩,.slice (some ⟨W4.heap.size,0,none⟩) 3 3] (by rfl) (by rfl) 30 zX ab.o.cr (dL _ _ _ _ _ _) (by rfl) (jw _ _ _ _ _ _ _ _) ?_)|fail)
  obtain⟨f1,f2,f3⟩:=ab.o.fin #[.int .u8 7,.int .u8 0,.int .u32 0,.int .i64 0,.string ⟨#[]⟩,.slice (some ⟨W4.heap.size,0,none⟩) 3 3];exact aW (aL rfl _ _ (w.heap.size+1+1+1) 30 _ (0,0) _ rfl f1 Tryz.underlying30 rfl (dL _ _ _ _ _ _)) rfl ⟨.mk 7 0 0 0 ⟨#[]⟩ ⟨some ⟨W4.heap.size,0,none⟩,3⟩ [e1,e2,e3],_,rfl,WX.mux a6.o bd.o b8.o,kz an.o _,f2,f3⟩
 .skip
  go_wp2_with fail
  refine(jg q n lv ls _ p M.iR _ al.o.base.base 2 (by decide) (by decide)).mono ?_;rintro o W2 ⟨k2,a2,rfl,lo2,bl,hm,hb⟩;have U:=ae (al.o.next hm hb);clear hm hb al m1 v1 y1 z1;have m2:=U.o.boxm;have v2:=U.o.boxw;have y2:=U.o.boxd;have z2:=U.o.base.base.cell 3 rfl;have bC:k2=0\/k2=1:=by omega
  clear lo2 bl;rcases bC with rfl|rfl
  .skip
   go_wp2_with fail
   refine(jg q n lv ls _ p M.iR _ U.o.base.base 2 (by decide) (by decide)).mono ?_;rintro o W3 ⟨k3,a3,rfl,b7,b6,hm,hb⟩;have V:=ae (U.o.next hm hb);clear hm hb U m2 v2 y2 z2;have m3:=V.o.boxm;have v3:=V.o.boxw;have y3:=V.o.boxd;have z3:=V.o.base.base.cell 3 rfl;go_wp2_with fail
   refine(aq.o q n lv ls _ p M wh w _ V.o wd aw).mono ?_;rintro o W4 ⟨e1,a4,rfl,O,D,hm,hb⟩;have a6:=ae O;have ad:=ae hm;have ap:=ae D;clear O D;clear hm hb V m3 v3 y3 z3;have am:=jc W4 (.cells e1.r 30);have ao:=bn (aI ad.o.old (ai (gU _ 4) ad.o.size)) am;have ab:=ae (ad.o.on am);have an:Hid (fV (w.heap.size+4) (W4.alloc (.cells e1.r 30)) (.mk 5 (1+k3) 0 0 ⟨#[]⟩ ⟨some ⟨W4.heap.size,0,none⟩,1⟩ [e1])):=ae (nA (iX (t:=30) (fr:=(0,0)) (λ_=>rfl) rfl (by simp) (gM W4 (.cells e1.r 30))) ad.o.size (λs hs=>by
    simp only[bE,bu,or_false]at hs;rw[hs];exact ap.o.on ao (by have:=ad.o.old;omega)) (show(0:Int)<=5/\(5:Int)<=255 by decide) ⟨by omega,by omega⟩ (show(0:Int)<=0/\(0:Int)<=4294967295 by decide) (show(Lit.int .i64 0).wf=true by decide) (show(⟨#[]⟩:ByteArray).size<=maxLen by decide))
   clear am ao;go_wp2_with(first|(refine aK rfl 30 _ _ rfl (w.heap.size+1+1+1) #[.int .u8 5,.int .u8 (1+k3),.int .u32 0,.int .i64 0,.string ⟨#[]⟩,.slice (some ⟨W4.heap.size,0,none⟩) 1 1] (by rfl) (by rfl) 30 zX ab.o.cr (dL _ _ _ _ _ _) (by rfl) (jw _ _ _ _ _ _ _ _) ?_)|fail)
   obtain⟨f1,f2,f3⟩:=ab.o.fin #[.int .u8 5,.int .u8 (1+k3),.int .u32 0,.int .i64 0,.string ⟨#[]⟩,.slice (some ⟨W4.heap.size,0,none⟩) 1 1];exact aW (aL rfl _ _ (w.heap.size+1+1+1) 30 _ (0,0) _ rfl f1 Tryz.underlying30 rfl (dL _ _ _ _ _ _)) rfl ⟨.mk 5 (1+k3) 0 0 ⟨#[]⟩ ⟨some ⟨W4.heap.size,0,none⟩,1⟩ [e1],_,rfl,WX.un (by omega) (by omega) a6.o,kz an.o _,f2,f3⟩
  .skip
   go_wp2_with fail
   refine(jg q n lv ls _ p M.iR _ U.o.base.base 3 (by decide) (by decide)).mono ?_;rintro o W3 ⟨k3,a3,rfl,b7,b6,hm,hb⟩;have V:=ae (U.o.next hm hb);clear hm hb U m2 v2 y2 z2;have m3:=V.o.boxm;have v3:=V.o.boxw;have y3:=V.o.boxd;have z3:=V.o.base.base.cell 3 rfl;have be:1<=1+k3/\1+k3<=3:=by omega
   go_wp2_with fail
   refine(aq.o q n lv ls _ p M wh w _ V.o (1+k3) be).mono ?_;rintro o W4 ⟨e1,a4,rfl,O,D,hm,hb⟩;have a6:=ae O;have ad:=ae hm;have ap:=ae D;clear O D;clear hm hb V m3 v3 y3 z3;have am:=jc W4 (.cells e1.r 30);have ao:=bn (aI ad.o.old (ai (gU _ 4) ad.o.size)) am;have ab:=ae (ad.o.on am);have an:Hid (fV (w.heap.size+4) (W4.alloc (.cells e1.r 30)) (.mk 8 0 0 wd ⟨#[]⟩ ⟨some ⟨W4.heap.size,0,none⟩,1⟩ [e1])):=ae (nA (iX (t:=30) (fr:=(0,0)) (λ_=>rfl) rfl (by simp) (gM W4 (.cells e1.r 30))) ad.o.size (λs hs=>by
    simp only[bE,bu,or_false]at hs;rw[hs];exact ap.o.on ao (by have:=ad.o.old;omega)) (show(0:Int)<=8/\(8:Int)<=255 by decide) (show(0:Int)<=0/\(0:Int)<=255 by decide) (show(0:Int)<=0/\(0:Int)<=4294967295 by decide) (ut aw) (show(⟨#[]⟩:ByteArray).size<=maxLen by decide))
   clear am ao;go_wp2_with(first|(refine aK rfl 30 _ _ rfl (w.heap.size+1+1+1) #[.int .u8 8,.int .u8 0,.int .u32 0,.int .i64 wd,.string ⟨#[]⟩,.slice (some ⟨W4.heap.size,0,none⟩) 1 1] (by rfl) (by rfl) 30 zX ab.o.cr (dL _ _ _ _ _ _) (by rfl) (jw _ _ _ _ _ _ _ _) ?_)|fail)
   obtain⟨f1,f2,f3⟩:=ab.o.fin #[.int .u8 8,.int .u8 0,.int .u32 0,.int .i64 wd,.string ⟨#[]⟩,.slice (some ⟨W4.heap.size,0,none⟩) 1 1];exact aW (aL rfl _ _ (w.heap.size+1+1+1) 30 _ (0,0) _ rfl f1 Tryz.underlying30 rfl (dL _ _ _ _ _ _)) rfl ⟨.mk 8 0 0 wd ⟨#[]⟩ ⟨some ⟨W4.heap.size,0,none⟩,1⟩ [e1],_,rfl,WX.cast aw.1 (by omega) a6.o,kz an.o _,f2,f3⟩
 .by_cases h1:wd=p.aS
  .by_cases h2:wh=1
   .have bi:(wd == p.aS)=true:=by simp[h1]
    have b3:(wh != 1)=false:=by simp[h2]
    clear h1 h2;go_wp2_with fail
    refine(jI q n lv ls _ p M _ al.o.base wd wh aw).mono ?_;rintro o WA ⟨e,aA,rfl,O,D,hm,hb⟩;have ab:=ae (al.o.next hm hb);have a8:=ae (O.rise (d+1));have an:Hid (fV (w.heap.size+4) WA e):=ae ((D _).more (aH _));clear hm hb O D;simp only[ah.val,Sp.val];go_wp2_with(first|(refine aK rfl 30 _ _ rfl (w.heap.size+1+1+1) e.r (by rfl) (by rfl) 30 zX ab.o.cr (dL _ _ _ _ _ _) (by rfl) (jw _ _ _ _ _ _ _ _) ?_)|fail)
    obtain⟨f1,f2,f3⟩:=ab.o.fin e.r;exact aW (aL rfl _ _ (w.heap.size+1+1+1) 30 _ (0,0) _ rfl f1 Tryz.underlying30 rfl (dL _ _ _ _ _ _)) rfl ⟨e,_,rfl,a8.o,kz an.o _,f2,f3⟩
   .have bi:(wd == p.aS)=true:=by simp[h1]
    have b3:(wh != 1)=true:=by simp[h2]
    have b1:=ae h2;have br:Hid (M.w=wd):=ae (by rw[<-b5.o,h1]);clear h1 h2;go_wp2_with fail
    refine(aq.o q n lv ls _ p M wh w _ al.o 2 ⟨by decide,by decide⟩).mono ?_;rintro o W2 ⟨e1,a2,rfl,O,D,hm,hb⟩;have a6:=ae O;have U:=ae hm;have a7:=ae D;clear O D;clear hm hb al m1 v1 y1 z1;have am:=jc W2 (.cells e1.r 30);have ao:=bn (aI U.o.old (ai (gU _ 4) U.o.size)) am;have ab:=ae (U.o.on am);have an:Hid (fV (w.heap.size+4) (W2.alloc (.cells e1.r 30)) (.mk 4 0 0 0 ⟨#[]⟩ ⟨some ⟨W2.heap.size,0,none⟩,1⟩ [e1])):=ae (nA (iX (t:=30) (fr:=(0,0)) (λ_=>rfl) rfl (by simp) (gM W2 (.cells e1.r 30))) U.o.size (λs hs=>by
     simp only[bE,bu,or_false]at hs;rw[hs];exact a7.o.on ao (by have:=U.o.old;omega)) (show(0:Int)<=4/\(4:Int)<=255 by decide) (show(0:Int)<=0/\(0:Int)<=255 by decide) (show(0:Int)<=0/\(0:Int)<=4294967295 by decide) (show(Lit.int .i64 0).wf=true by decide) (show(⟨#[]⟩:ByteArray).size<=maxLen by decide))
    clear am ao;go_wp2_with(first|(refine aK rfl 30 _ _ rfl (w.heap.size+1+1+1) #[.int .u8 4,.int .u8 0,.int .u32 0,.int .i64 0,.string ⟨#[]⟩,.slice (some ⟨W2.heap.size,0,none⟩) 1 1] (by rfl) (by rfl) 30 zX ab.o.cr (dL _ _ _ _ _ _) (by rfl) (jw _ _ _ _ _ _ _ _) ?_)|fail)
    obtain⟨f1,f2,f3⟩:=ab.o.fin #[.int .u8 4,.int .u8 0,.int .u32 0,.int .i64 0,.string ⟨#[]⟩,.slice (some ⟨W2.heap.size,0,none⟩) 1 1];exact aW (aL rfl _ _ (w.heap.size+1+1+1) 30 _ (0,0) _ rfl f1 Tryz.underlying30 rfl (dL _ _ _ _ _ _)) rfl ⟨.mk 4 0 0 0 ⟨#[]⟩ ⟨some ⟨W2.heap.size,0,none⟩,1⟩ [e1],_,rfl,(br.o ▸ WX.disk b1.o a6.o),kz an.o _,f2,f3⟩
  .have bi:(wd == p.aS)=false:=by simp[h1]
   clear h1;go_wp2_with fail
   refine(jI q n lv ls _ p M _ al.o.base wd wh aw).mono ?_;rintro o WA ⟨e,aA,rfl,O,D,hm,hb⟩;have ab:=ae (al.o.next hm hb);have a8:=ae (O.rise (d+1));have an:Hid (fV (w.heap.size+4) WA e):=ae ((D _).more (aH _));clear hm hb O D;simp only[ah.val,Sp.val];go_wp2_with(first|(refine aK rfl 30 _ _ rfl (w.heap.size+1+1+1) e.r (by rfl) (by rfl) 30 zX ab.o.cr (dL _ _ _ _ _ _) (by rfl) (jw _ _ _ _ _ _ _ _) ?_)|fail)
   obtain⟨f1,f2,f3⟩:=ab.o.fin e.r;exact aW (aL rfl _ _ (w.heap.size+1+1+1) 30 _ (0,0) _ rfl f1 Tryz.underlying30 rfl (dL _ _ _ _ _ _)) rfl ⟨e,_,rfl,a8.o,kz an.o _,f2,f3⟩
 .by_cases h1:wd=p.aS
  .by_cases h2:wh=0
   .have bi:(wd == p.aS)=true:=by simp[h1]
    have b3:(wh == 0)=true:=by simp[h2]
    have b1:=ae h2;have br:Hid (M.w=wd):=ae (by rw[<-b5.o,h1]);have b4:Hid (M.N.a=⟨#[97]⟩):=ae (by rw[al.o.base.std];rfl);clear h1 h2;go_wp2_with fail
    refine(aq.o q n lv ls _ p M wh w _ al.o 2 ⟨by decide,by decide⟩).mono ?_;rintro o W2 ⟨e1,a2,rfl,O,D,hm,hb⟩;have a6:=ae O;have U:=ae hm;have a7:=ae D;clear O D;clear hm hb al m1 v1 y1 z1;have am:=jc W2 (.cells e1.r 30);have ao:=bn (aI U.o.old (ai (gU _ 4) U.o.size)) am;have ab:=ae (U.o.on am);have an:Hid (fV (w.heap.size+4) (W2.alloc (.cells e1.r 30)) (.mk 3 0 0 0 ⟨#[97]⟩ ⟨some ⟨W2.heap.size,0,none⟩,1⟩ [e1])):=ae (nA (iX (t:=30) (fr:=(0,0)) (λ_=>rfl) rfl (by simp) (gM W2 (.cells e1.r 30))) U.o.size (λs hs=>by
     simp only[bE,bu,or_false]at hs;rw[hs];exact a7.o.on ao (by have:=U.o.old;omega)) (show(0:Int)<=3/\(3:Int)<=255 by decide) (show(0:Int)<=0/\(0:Int)<=255 by decide) (show(0:Int)<=0/\(0:Int)<=4294967295 by decide) (show(Lit.int .i64 0).wf=true by decide) (show(⟨#[97]⟩:ByteArray).size<=maxLen by decide))
    clear am ao;go_wp2_with(first|(refine aK rfl 30 _ _ rfl (w.heap.size+1+1+1) #[.int .u8 3,.int .u8 0,.int .u32 0,.int .i64 0,.string ⟨#[97]⟩,.slice (some ⟨W2.heap.size,0,none⟩) 1 1] (by rfl) (by rfl) 30 zX ab.o.cr (dL _ _ _ _ _ _) (by rfl) (jw _ _ _ _ _ _ _ _) ?_)|fail)
    obtain⟨f1,f2,f3⟩:=ab.o.fin #[.int .u8 3,.int .u8 0,.int .u32 0,.int .i64 0,.string ⟨#[97]⟩,.slice (some ⟨W2.heap.size,0,none⟩) 1 1];exact aW (aL rfl _ _ (w.heap.size+1+1+1) 30 _ (0,0) _ rfl f1 Tryz.underlying30 rfl (dL _ _ _ _ _ _)) rfl ⟨.mk 3 0 0 0 ⟨#[97]⟩ ⟨some ⟨W2.heap.size,0,none⟩,1⟩ [e1],_,rfl,(br.o ▸ b4.o ▸ WX.elem b1.o a6.o),kz an.o _,f2,f3⟩
   .have bi:(wd == p.aS)=true:=by simp[h1]
    have b3:(wh == 0)=false:=by simp[h2]
    clear h1 h2;go_wp2_with fail
    refine(jI q n lv ls _ p M _ al.o.base wd wh aw).mono ?_;rintro o WA ⟨e,aA,rfl,O,D,hm,hb⟩;have ab:=ae (al.o.next hm hb);have a8:=ae (O.rise (d+1));have an:Hid (fV (w.heap.size+4) WA e):=ae ((D _).more (aH _));clear hm hb O D;simp only[ah.val,Sp.val];go_wp2_with(first|(refine aK rfl 30 _ _ rfl (w.heap.size+1+1+1) e.r (by rfl) (by rfl) 30 zX ab.o.cr (dL _ _ _ _ _ _) (by rfl) (jw _ _ _ _ _ _ _ _) ?_)|fail)
    obtain⟨f1,f2,f3⟩:=ab.o.fin e.r;exact aW (aL rfl _ _ (w.heap.size+1+1+1) 30 _ (0,0) _ rfl f1 Tryz.underlying30 rfl (dL _ _ _ _ _ _)) rfl ⟨e,_,rfl,a8.o,kz an.o _,f2,f3⟩
  .have bi:(wd == p.aS)=false:=by simp[h1]
   clear h1;go_wp2_with fail
   refine(jI q n lv ls _ p M _ al.o.base wd wh aw).mono ?_;rintro o WA ⟨e,aA,rfl,O,D,hm,hb⟩;have ab:=ae (al.o.next hm hb);have a8:=ae (O.rise (d+1));have an:Hid (fV (w.heap.size+4) WA e):=ae ((D _).more (aH _));clear hm hb O D;simp only[ah.val,Sp.val];go_wp2_with(first|(refine aK rfl 30 _ _ rfl (w.heap.size+1+1+1) e.r (by rfl) (by rfl) 30 zX ab.o.cr (dL _ _ _ _ _ _) (by rfl) (jw _ _ _ _ _ _ _ _) ?_)|fail)
   obtain⟨f1,f2,f3⟩:=ab.o.fin e.r;exact aW (aL rfl _ _ (w.heap.size+1+1+1) 30 _ (0,0) _ rfl f1 Tryz.underlying30 rfl (dL _ _ _ _ _ _)) rfl ⟨e,_,rfl,a8.o,kz an.o _,f2,f3⟩
theorem qB(d:Nat)(O:d<=11):yR d:=by
 induction d with
 |zero=>exact M3
 |succ d D=>exact M0 (by omega) (D (by omega))
section
open Go.WideShapes Go.ChangeShapes
theorem Rf:Tryz.prog.cellsOf 5=1:=by kernel_rfl
theorem QO{z:Int}(h:(Lit.int .u8 z).wf=true):0<=z/\z<=255:=by
 have:=(bounds_u8 (by simpa[Lit.wf]using h));omega
theorem bytes_of_arg{H:Type}{enc:TypeId × Value->H}{W:World}{base:Nat}{v:Value}{d:DataW H}{p:List MemPlace}
  (hval:Value.okWide Tryz.prog W .any base 22 v) (h:DataW.Trod enc Tryz.prog W 0 (λ_=>true) true 22 v d p) :
  ∃(lv:Sp) (len:Nat) (ls:List Int),v=.slice lv.dO len lv.df/\ls.length=min len 200/\len<=maxLen/\len<=lv.df/\lv.df<=maxLen/\RowOf W.heap.size W lv 1 encU ls/\∀x∈ls,0<=x/\x<=255:=by
 obtain⟨a0,len,df,rfl⟩:=okWide_slice Tryz.underlying22 hval;obtain⟨ad,hf⟩:=h;rcases open_ints Tryz.underlying22 Tryz.underlying5 Rf hf with ⟨O,_⟩|⟨a,al,ab,zs,O,_,hl,hm,hz,hx,D,V⟩
 .injection O with e
  injection e with e1 e2 e3;subst e1 e2 e3;exact⟨Sp.none,0,[],rfl,rfl,aH _,af _,aH _,RowOf.nil,λ_ h=>by cases h⟩
 .injection O with e
  injection e with e1 e2 e3;subst e1 e2 e3;simp only[if_true]at hz;refine⟨⟨some a,df⟩,len,zs.take (min len 200),rfl,by rw[dW];omega,by omega,by dsimp only;omega,by dsimp only;omega,⟨by rw[dW];dsimp only;omega,by dsimp only;omega,by rw[dW];omega,λh0=>?_⟩,λz hz=>QO (V z (jm hz))⟩;have h1:0<zs.length:=by rw[dW]at h0;omega
  obtain⟨b,off,rfl,hc⟩:=Go.ints_at D h1;have hb:b<W.heap.size:=by
   have:=hc 0 h1;rcases Nat.lt_or_ge b W.heap.size with h1|h1
   .exact h1
   .simp[World.cell?,Array.getElem?_eq_none h1]at this
  refine⟨b,off,rfl,hb,λj hj r u hu=>?_⟩;have U:j<zs.length:=by rw[dW]at hj;omega
  cases r with
  |zero =>
   have e:u=.int .u8 zs[j]:=by simpa[encU]using hu.symm
   rw[e];have h2:=hc j U
   simpa[U]using h2
  |succ r=>simp[encU]at hu
end
end Go.Proofs.YtepacjkacjabbaaGreatDoor
