import Derived.Test.YtepacjkacjabbaaGreatDoorYAC
import Derived.Maps.AppendAt
import Derived.Laws.CopyOwn
set_option linter.all false
namespace Go.Proofs.YtepacjkacjabbaaGreatDoor
open Go Go.RowKit
section
section
variable {α:Type}{k:Nat}{enc:α->List Value}
theorem kL(hk:∀x,(enc x).length=k):∀l:List α,(l.flatMap enc).length=l.length*k
 |[]=>by simp
 |x::l=>by rw[bA,ay,kL hk l,hk,aF,Nat.add_mul];omega
theorem Dk(hk:∀x,(enc x).length=k):∀(l:List α) (j:Nat) (u:Value),(l.flatMap enc)[j]?=some u->∃i r,∃hi:i<l.length,j=i*k+r/\(enc (l[i]))[r]?=some u
 |[],j,u,h=>by simp at h
 |x::l,j,u,h=>by
  rw[bA]at h;by_cases O:j<k
  .rw[List.getElem?_append_left (by rw[hk];exact O)]at h
   exact⟨0,j,by simp,by omega,h⟩
  .rw[List.getElem?_append_right (by rw[hk];omega),hk]at h
   obtain⟨i,r,hi,e,D⟩:=Dk hk l (j - k) u h;refine⟨i+1,r,by simp;omega,?_,by simpa using D⟩;rw[Nat.add_mul];omega
theorem Cw(hk:∀x,(enc x).length=k):∀(l:List α) (i r:Nat) (u:Value) (hi:i<l.length),(enc (l[i]))[r]?=some u->(l.flatMap enc)[i*k+r]?=some u
 |[],i,r,u,hi,_=>by simp at hi
 |x::l,0,r,u,hi,h=>by
  have hr:=(List.getElem?_eq_some_iff.1 h).1;rw[bA,Nat.zero_mul,fI,List.getElem?_append_left (by simpa using hr)];exact h
 |x::l,i+1,r,u,hi,h=>by
  rw[bA,List.getElem?_append_right (by rw[hk,Nat.add_mul];omega),hk];have:=Cw hk l i r u (by simpa using hi) (by simpa using h);rw[<-this]
  congr 1
  rw[Nat.add_mul];omega
def dz(B:Nat)(W:World)(t:TypeId)(k:Nat)(enc:α->List Value)(v:Value)(l:List α):Prop:=W.ownsRow B t k v l.length (l.flatMap enc)
variable {B n:Nat}{W W':World}{t:TypeId}{v:Value}{l:List α}
theorem dz.kept(h:dz B W t k enc v l)(hk:∀g cs fr,B<=g->W.heap[g]?=some (.cells cs t fr)->W'.heap[g]?=W.heap[g]?):dz B W' t k enc v l:=by
 obtain⟨D,ho⟩:=h;refine⟨D,?_⟩;rcases ho with V|⟨g,U,cur,rfl,h1,O,h3⟩
 .exact .inl V
 .exact .inr ⟨g,U,cur,rfl,h1,(hk g _ _ h1 O).trans O,h3⟩
theorem dz.on(h:dz B W t k enc v l)(hb:Below W.heap.size W W'):dz B W' t k enc v l:=h.kept λg _ _ _ D=>hb.block g (dM D).1
theorem dz.less{C:Nat}(h:dz C W t k enc v l)(hB:B<=C):dz B W t k enc v l:=by
 obtain⟨D,ho⟩:=h;refine⟨D,?_⟩;rcases ho with U|⟨g,O,cur,rfl,h1,V⟩
 .exact .inl U
 .exact .inr ⟨g,O,cur,rfl,ai hB h1,V⟩
theorem dz.nil:dz B W t k enc (.slice none 0 0) ([]:List α):=⟨by simp,.inl ⟨rfl,rfl⟩⟩
theorem dz.row(h:dz B W t k enc v l)(hk:∀x,(enc x).length=k)(D:l.length<=4398046511104):∃sp:Sp,v=sp.val l.length/\RowOf W.heap.size W sp k enc l/\(∀a,sp.dO=some a->B<=a.block/\a.off=0/\a.spot=none):=by
 rcases h.2 with ⟨rfl,h0⟩|⟨g,df,cur,rfl,h1,h2,h3,h4,_,h6⟩
 .have:l=[]:=gX h0
  subst this;exact⟨Sp.none,rfl,RowOf.nil,λa U=>by cases U⟩
 .refine⟨⟨some ⟨g,0,none⟩,df⟩,rfl,⟨h3,h4,D,λ_=>⟨g,0,rfl,(dM h2).1,λj hj r u hu=>?_⟩⟩,λa U=>by cases U;exact⟨h1,rfl,rfl⟩⟩
  have e:=Cw hk l j r u hj hu;have V:=(List.getElem?_eq_some_iff.1 e).1;have e2:(cur.toList.take (l.length*k))[j*k+r]?=some u:=by rw[h6];exact e
  have O:j*k+r<l.length*k:=by rw[<-kL hk l];exact V
  rw[List.getElem?_take_of_lt O,Array.getElem?_toList]at e2;simp only[World.cell?,h2,fI];exact e2
theorem RowOf.news{sp:Sp}(h:RowOf n W sp k enc l)(hk:∀x,(enc x).length=k)(D:0<l.length):∃b off,sp.dO=some ⟨b,off,none⟩/\b<n/\∀j u,(l.flatMap enc)[j]?=some u->W.cell? ((⟨b,off,none⟩:Addr).add j)=some u:=by
 obtain⟨b,off,e,hb,hc⟩:=h.row D;refine⟨b,off,e,hb,λj u O=>?_⟩;obtain⟨i,r,hi,rfl,U⟩:=Dk hk l j u O;rw[Addr.add_lit,show off+(i*k+r)=off+i*k+r by omega];exact hc i hi r u U
end
theorem wG:∀x:bO,∀u∈x.cells,u.oneCell'=true:=by
 intro x u D;simp[bO.cells]at D;rcases D with rfl|rfl|rfl<;>rfl
theorem mV:∀x:aa,∀u∈x.cells,u.oneCell'=true:=by
 intro x u D;simp[aa.cells,Sp.val]at D;rcases D with rfl|rfl|rfl|rfl|rfl|rfl<;>rfl
theorem I7:∀x:ah,∀u∈x.cells,u.oneCell'=true:=by
 intro x u D;simp[ah.cells,Sp.val]at D;rcases D with rfl|rfl|rfl|rfl|rfl|rfl<;>rfl
theorem I9:∀x:bG,∀u∈x.cells,u.oneCell'=true:=by
 intro x u D;simp[bG.cells,Sp.val]at D;rcases D with rfl|rfl|rfl<;>rfl
theorem I8:∀x:dH,∀u∈x.cells,u.oneCell'=true:=by
 intro x u D;simp only[dH.cells,bE]at D;rcases D with rfl|D
 .rfl
 .exact I7 _ u D
theorem sD{α:Type}{enc:α->List Value}(h:∀x:α,∀u∈enc x,u.oneCell'=true)(l:List α):∀u∈l.flatMap enc,u.oneCell'=true:=by
 intro u D;obtain⟨x,_,hx⟩:=List.mem_flatMap.1 D;exact h x u hx
end
def cO(x w:Int):ah:=.mk 1 0 x w ⟨#[]⟩ Sp.none []
def aZ(s:ByteArray):ah:=.mk 2 0 0 0 s Sp.none []
def ji(sp:Sp)(s:ByteArray)(e:ah):aa:=.mk 1 s sp [e] 0 Sp.none [] Sp.none []
def fw(sp:Sp)(b e:ah):aa:=.mk 3 ⟨#[]⟩ sp [b,e] 0 Sp.none [] Sp.none []
def dN(sp:Sp)(s:ByteArray)(l:List ah):aa:=.mk 8 s sp l 0 Sp.none [] Sp.none []
def xB:ByteArray:=⟨#[120]⟩
theorem row_one{α:Type}{W:World}{b k:Nat}{t:TypeId}{fr:Nat × Nat}{enc:α->List Value}{x:α}(h:W.heap[b]?=some (.cells (enc x).toArray t fr)):RowOf W.heap.size W ⟨some ⟨b,0,none⟩,1⟩ k enc [x]:=by
 refine⟨af _,by simp[maxLen],by simp,λ_=>⟨b,0,rfl,(dM h).1,λj O r u D=>?_⟩⟩;have:j=0:=by simp at O;omega
 subst this;simp only[List.getElem_cons_zero]at D;simp[World.cell?,h,D]
theorem pM{α:Type}{W:World}{b k:Nat}{t:TypeId}{fr:Nat × Nat}{enc:α->List Value}{x y:α}(hk:(enc x).length=k)(h:W.heap[b]?=some (.cells (enc x++enc y).toArray t fr)):RowOf W.heap.size W ⟨some ⟨b,0,none⟩,2⟩ k enc [x,y]:=by
 refine⟨af _,by simp[maxLen],by simp,λ_=>⟨b,0,rfl,(dM h).1,λj U r u D=>?_⟩⟩;have O:j=0\/j=1:=by simp at U;omega
 rcases O with rfl|rfl
 .simp only[List.getElem_cons_zero]at D
  have hr:r<(enc x).length:=(List.getElem?_eq_some_iff.1 D).1;simp[World.cell?,h,List.getElem?_append_left hr,D]
 .simp only[List.getElem_cons_succ,List.getElem_cons_zero]at D
  have e:(enc x++enc y)[k+r]?=some u:=by rw[List.getElem?_append_right (by omega)];rw[hk,Nat.add_sub_cancel_left];exact D
  simp[World.cell?,h,e]
def sU(W:World)(e:ah):Prop:=mM W.heap.size W e
def kW(W:World)(s:aa):Prop:=lV W.heap.size W s
theorem sU.on{W W':World}{e:ah}(h:sU W e)(hb:Below W.heap.size W W'):sU W' e:=(mM.stays h hb).more hb.size
theorem kW.on{W W':World}{s:aa}(h:kW W s)(hb:Below W.heap.size W W'):kW W' s:=(lV.stays h hb).more hb.size
theorem pX(w:World)(D O:Obj):((w.alloc D).alloc O).heap[w.heap.size]?=some D/\((w.alloc D).alloc O).heap[w.heap.size+1]?=some O/\((w.alloc D).alloc O).heap.size=w.heap.size+2/\Below w.heap.size w ((w.alloc D).alloc O):=by
 have h1:=gM w D;have U:=gM (w.alloc D) O;rw[di]at U;refine⟨(eZ _ _ _ (by simp)).trans h1,U,by simp,((ag _ _).alloc (af _) _).alloc (by simp) _⟩
theorem CR(w:World)(D O U:Obj):(((w.alloc D).alloc O).alloc U).heap[w.heap.size]?=some D/\(((w.alloc D).alloc O).alloc U).heap[w.heap.size+1]?=some O/\(((w.alloc D).alloc O).alloc U).heap[w.heap.size+1+1]?=some U/\(((w.alloc D).alloc O).alloc U).heap.size=w.heap.size+3/\Below w.heap.size w (((w.alloc D).alloc O).alloc U):=by
 obtain⟨h1,h2,h3,h4⟩:=pX w D O;have V:=gM ((w.alloc D).alloc O) U;rw[h3]at V;refine⟨(eZ _ _ _ (by omega)).trans h1,(eZ _ _ _ (by omega)).trans h2,V,by simp,h4.alloc (by omega) _⟩
theorem Al(w:World)(D O U V:Obj):((((w.alloc D).alloc O).alloc U).alloc V).heap[w.heap.size]?=some D/\((((w.alloc D).alloc O).alloc U).alloc V).heap[w.heap.size+1]?=some O/\((((w.alloc D).alloc O).alloc U).alloc V).heap[w.heap.size+1+1]?=some U/\((((w.alloc D).alloc O).alloc U).alloc V).heap[w.heap.size+1+1+1]?=some V/\((((w.alloc D).alloc O).alloc U).alloc V).heap.size=w.heap.size+4/\Below w.heap.size w ((((w.alloc D).alloc O).alloc U).alloc V):=by
 obtain⟨h1,h2,h3,h4,h6⟩:=CR w D O U;have h5:=gM (((w.alloc D).alloc O).alloc U) V;rw[h4]at h5;refine⟨(eZ _ _ _ (by omega)).trans h1,(eZ _ _ _ (by omega)).trans h2,(eZ _ _ _ (by omega)).trans h3,h5,by simp,h6.alloc (by omega) _⟩
theorem gq.on{W W':World}{sp:Sp}{l:List aa}(h:gq W.heap.size W sp l)(hb:Below W.heap.size W W'):gq W'.heap.size W' sp l:=(h.below hb).more hb.size
theorem jT.on{W W':World}{p:aj}(h:jT W.heap.size W p)(hb:Below W.heap.size W W'):jT W'.heap.size W' p:=(h.below hb).more hb.size
section
section
variable {P:Program}{ops:Array Oper}{Q:Exit->Act->World->Prop}
def pI(L:Nat->Bool)(i:Nat):Nat->Bool:=λj=>if j=i then true else L j
theorem bU{L:Nat->Bool}{i:Nat}:pI L i i=true:=by simp[pI]
theorem av{L:Nat->Bool}{i j:Nat}(h:j≠i):pI L i j=L j:=by simp[pI,h]
def rD(listed:Array Bool):Nat->Bool:=λj=>listed.getD j false
theorem L9{listed:Array Bool}{i:Nat}(h:i<listed.size):rD (listed.setIfInBounds i true)=pI (rD listed) i:=by
 funext j
 unfold rD pI;by_cases D:j=i
 .subst D;simp[h]
 .rw[if_neg D,getD_set_ne false (Ne.symm D)]
theorem FW{listed:Array Bool}(O:listed.size=ops.size)(D:∀(i:Nat) (o:Oper),ops[i]?=some o->∀e∈o.after,Region.binds .any e=true->e.on<i)(hr:Region.ready .any ops listed=[]):∀i,i<ops.size->rD listed i=true:=by
 intro i;induction i using Nat.strongRecOn with
 |_ i V =>
  intro hi;cases hc:rD listed i with
  |true=>rfl
  |false =>
   exfalso
   have U:listed.getD i true=false:=by
    unfold rD at hc;rw[<-O]at hi;simp[Array.getD,hi]at hc ⊢;exact hc
   have hm:i∈Region.ready .any ops listed:=by
    rw[mem_ready];exact⟨U,ops[i],bB hi,λe he hb=>V e.on (D i _ (bB hi) e he hb) (Nat.lt_trans (D i _ (bB hi) e he hb) hi)⟩
   rw[hr]at hm;cases hm
def vL(F:Nat->Oper->Prop):Nat->List Oper->Prop
 |_,[]=>True
 |i,o::l=>F i o/\vL F (i+1) l
theorem vL.dO{F:Nat->Oper->Prop}:∀{l:List Oper}{k:Nat},vL F k l->∀{i:Nat}{o:Oper},l[i]?=some o->F (k+i) o
 |[],_,_,i,o,h=>by simp at h
 |x::l,k,hA,0,o,h=>by
  simp at h;subst h;exact hA.1
 |x::l,k,hA,i+1,o,h=>by
  have:=vL.dO hA.2 (i:=i) (o:=o) (by simpa using h)
  rwa [show k+1+i=k+(i+1) by omega]at this
theorem vL.all{F:Nat->Oper->Prop}{ops:Array Oper}(h:vL F 0 ops.toList)(i:Nat)(o:Oper)(D:ops[i]?=some o):F i o:=by
 have:=vL.dO h (i:=i) (o:=o) (by simpa using D)
 rwa [fI]at this
def uE(o:Oper)(j:Nat):Bool:=o.after.toList.any λe=>Region.binds .any e && Nat.beq e.on j
theorem Oper.wp_value{o:Oper}{a:Act}{w w':World}{v:Value}{K:Act->World->Prop}(h:(execOp a.eval o).run P w=.ok (.value v) w')(hk:K (a.put o.dst v) w'):o.wp P a w K Q:=by
 unfold Oper.wp;rw[h];exact hk
theorem Oper.wp_enter{o:Oper}{a:Act}{w w':World}{f:FuncId}{args:Array Value}{K:Act->World->Prop}(h:(execOp a.eval o).run P w=.ok (.enter f args) w')(hc:Calls P f args w' λe D=>∃v,e=.returned v/\K (a.put o.dst v) D):o.wp P a w K Q:=by
 unfold Oper.wp;rw[h];refine Calls.mono hc λe D he=>?_
 obtain⟨v,rfl,hk⟩:=he;exact hk
def opsOf(n:Nat):Code->Option (Array Oper)
 |.region id ops _=>if id=n then some ops else none
 |.seq a b=>match opsOf n a with
  |some c=>some c
  |none=>opsOf n b
 |.loop c=>opsOf n c
 |.block _ c=>opsOf n c
 |.scope c=>opsOf n c
 |.cond _ a b=>match opsOf n a with
  |some c=>some c
  |none=>opsOf n b
 |_=>none
theorem aB{a:Act}{n:Nat}{v:Value}(h:a.eval (.tmp n)=v):a.tmps[n]?.getD undef=v:=by
 rw[<-h];simp[Act.eval]
theorem JW{a:Act}{n:Nat}(h:a.tmps.size=n)(D:a.defers=[]):a=⟨((List.range n).map λt=>a.eval (.tmp t)).toArray,[]⟩:=by
 obtain⟨ts,ds⟩:=a;subst D;subst h
 congr 1
 apply Array.ext
 .simp
 .intro i h1 O
  simp[Act.eval,h1]
end
end
section
section
variable {P:Program}{ops:Array Oper}{Q:Exit->Act->World->Prop}
def qX(a:Act):Option Nat->Value
 |some t=>a.eval (.tmp t)
 |none=>undef
def FM:Option Nat->Option Nat->Bool
 |some x,some y=>Nat.beq x y
 |none,none=>true
 |_,_=>false
theorem Jb{x y:Option Nat}(h:FM x y=true):x=y:=by
 cases x<;>cases y<;>simp_all [FM]
def wO(ops:Array Oper)(n sz:Nat)(dst:Nat->Option Nat):Bool :=
 decide (ops.size=n) && (List.range n).all (λi=>match ops[i]? with
  |some o=>(match o.guard with|some (g,_)=>decide (g<i) && uE o g|none=>true) && FM o.dst (dst i) && (match dst i with|some d=>decide (d<sz)|none=>true) && (o.after.toList.all λe=>!Region.binds .any e || decide (e.on<i)) && (List.range n).all (λj=>j == i || (dst i).isNone || !(FM (dst i) (dst j)))
  |none=>false)
def yS(dst:Nat->Option Nat)(S:(Nat->Bool)->World->Prop)(D:(Nat->Bool)->Nat->Value->World->Prop)(i:Nat)(L:Nat->Bool)(a:Act)(w:World)(a':Act)(w':World):Prop :=
 ∃v,a'=a.put (dst i) v/\(dst i=none->v=undef)/\D (pI L i) i v w'/\S (pI L i) w'/\∀j u,j≠i->L j=true->D L j u w->D (pI L i) j u w'
def T9(P:Program)(Q:Exit->Act->World->Prop)(ops:Array Oper)(n:Nat)(dst:Nat->Option Nat)(S:(Nat->Bool)->World->Prop)(D:(Nat->Bool)->Nat->Value->World->Prop)(a0:Act)(i:Nat)(o:Oper):Prop :=
 ∀(L:Nat->Bool) (a:Act) (w:World),L i=false->S L w->(∀j,(ops[j]?.any λO=>uE O i)=true->L j=false)->(∀t:Nat,(∀i,i<n->dst i≠some t)->a.eval (.tmp t)=a0.eval (.tmp t))->(∀j,uE o j=true->L j=true/\D L j (qX a (dst j)) w) ->
  match o.guard with
  |none=>o.wp P a w (yS dst S D i L a w) Q
  |some (g,b)=>∃b',qX a (dst g)=.bool b'/\(b'=b->o.wp P a w (yS dst S D i L a w) Q)/\(b'≠b->yS dst S D i L a w (a.put (dst i) undef) w)
theorem JF{a:Act}{d:Nat}{b:Bool}(h:a.eval (.tmp d)=.bool b):a.tmps[d]?=some (.bool b):=by
 cases hc:a.tmps[d]? with
 |none=>simp[Act.eval,hc,undef]at h
 |some v=>simp[Act.eval,hc]at h;rw[h]
theorem Cm{id n sz:Nat}{dst:Nat->Option Nat}{a0:Act}{w0:World}(hm:P.follows .mixedOrders=true)(hB:wO ops n sz dst=true)(ha:a0.tmps.size=sz)
  (S:(Nat->Bool)->World->Prop) (Pv:(Nat->Bool)->Nat->Value->World->Prop)
  (a5:vL (λi o=>T9 P Q ops n dst S Pv a0 i o) 0 ops.toList)
  (hs:S (λ_=>false) w0.drew)
  (a1:∀(L:Nat->Bool) (a:Act) (w:World),S L w->a.tmps.size=a0.tmps.size->a.defers=a0.defers->(∀t:Nat,(∀i,i<n->dst i≠some t)->a.eval (.tmp t)=a0.eval (.tmp t))->(∀i,i<n->L i=true/\Pv L i (qX a (dst i)) w)->Q .normal a w):(Code.region id ops true).wp P Q a0 w0:=by
 unfold wO at hB;simp only[bg,fK,List.mem_range,aU]at hB;obtain⟨al,hB⟩:=hB;have a4:∀i o,ops[i]?=some o->i<n/\(∀g b,o.guard=some (g,b)->g<i/\uE o g=true)/\o.dst=dst i/\(∀d,dst i=some d->d<sz)/\(∀e∈o.after,Region.binds .any e=true->e.on<i)/\∀j,j<n->dst i≠none->dst i=dst j->j=i:=by
  intro i o ho;have hi:i<n:=by rw[<-al];exact(dM ho).1
  have h1:=hB i hi;rw[ho]at h1;simp only[bg,fK,List.mem_range,Bool.or_eq_true,fT,Bool.not_eq_true',aU]at h1;obtain⟨⟨⟨⟨h2,h3⟩,bj⟩,h4⟩,h5⟩:=h1;refine⟨hi,λg b hg=>?_,Jb h3,λd hd=>?_,λe he hb=>?_,λj U hne he=>?_⟩
  .simp only[hg,bg,aU]at h2
   exact h2
  .simpa[hd]using bj
  .have:=h4 e (by simpa using he)
   simpa[hb]using this
  .rcases h5 j U with (h|h)|h
   .exact h
   .exact absurd (by simpa using h) hne
   .rw[<-he]at h
    cases hd:dst i with
    |none=>exact absurd hd hne
    |some d=>rw[hd]at h;simp[FM]at h
 refine xV hm (λlisted a w=>listed.size=ops.size/\(∀(j:Nat) (o':Oper),ops[j]?=some o'->rD listed j=true->∀e∈o'.after,Region.binds .any e=true->rD listed e.on=true)/\S (rD listed) w/\a.tmps.size=a0.tmps.size/\a.defers=a0.defers/\(∀t:Nat,(∀i,i<n->dst i≠some t)->a.eval (.tmp t)=a0.eval (.tmp t))/\∀i,i<n->rD listed i=true->Pv (rD listed) i (qX a (dst i)) w) ?_ ?_ ⟨by simp,λj o' _ h=>?_,?_,rfl,rfl,λ_ _=>rfl,λi _ h=>?_⟩
 .rintro listed a w i ⟨ao,a7,hS,ap,aw,aq,hv⟩ hr
  obtain⟨h0,o,ho,ar⟩:=mem_ready.1 hr;obtain⟨hi,hg,hd,bl,bk,bd⟩:=a4 i o ho;have bc:i<listed.size:=by rw[ao,al];exact hi
  have a9:rD listed i=false:=by
   unfold rD;simp[Array.getD,bc]at h0 ⊢;exact h0
  have a6:∀j,(ops[j]?.any λo'=>uE o' i)=true->rD listed j=false:=λj U=>by
   cases V:ops[j]? with
   |none=>rw[V]at U;cases U
   |some oj =>
    rw[V]at U;simp only[Option.any_some]at U;unfold uE at U;simp only[iy,bg]at U;obtain⟨e,he,D,a3⟩:=U;obtain rfl:=jB a3;cases hlj:rD listed j with
    |false=>rfl
    |true =>
     have:=a7 j oj V hlj e (by simpa using he) D;rw[a9]at this;cases this
  have O:=a5.all i o ho (rD listed) a w a9 hS a6 aq λj U=>by
   unfold uE at U;simp only[iy,bg]at U;obtain⟨e,he,D,a3⟩:=U;obtain rfl:=jB a3;have h2:=ar e (by simpa using he) D;exact⟨h2,hv e.on (Nat.lt_trans (bk e (by simpa using he) D) hi) h2⟩
  have ad:∀a' w',yS dst S Pv i (rD listed) a w a' w'->(listed.setIfInBounds i true).size=ops.size/\(∀(j:Nat) (o':Oper),ops[j]?=some o'->rD (listed.setIfInBounds i true) j=true->∀e∈o'.after,Region.binds .any e=true->rD (listed.setIfInBounds i true) e.on=true)/\S (rD (listed.setIfInBounds i true)) w'/\a'.tmps.size=a0.tmps.size/\a'.defers=a0.defers/\(∀t:Nat,(∀i,i<n->dst i≠some t)->a'.eval (.tmp t)=a0.eval (.tmp t))/\∀j,j<n->rD (listed.setIfInBounds i true) j=true->Pv (rD (listed.setIfInBounds i true)) j (qX a' (dst j)) w':=by
   rintro a' w' ⟨v,rfl,bh,hp,bm,hk⟩;rw[L9 bc]at *;refine⟨by simpa using ao,λj oj V hl e he hb=>?_,bm,by rw[size_put];exact ap,by cases dst i<;>exact aw,λt ht=>?_,λj U hl=>?_⟩
   .by_cases a8:e.on=i
    .rw[a8];exact bU
    .rw[av a8]
     by_cases be:j=i
     .subst be
      rw[ho]at V;cases V
      exact ar e he hb
     .rw[av be]at hl
      exact a7 j oj V hl e he hb
   .rw[<-aq t ht]
    cases hdi:dst i with
    |none=>rfl
    |some d=>exact cB λhne=>ht i hi (by rw[hdi,hne])
   .by_cases an:j=i
    .subst an
     cases hdi:dst j with
     |none=>rw[hdi]at bh;rw[bh rfl]at hp;exact hp
     |some d =>
      show Pv _ j ((a.put (some d) v).eval (.tmp d)) _;rw[eval_put_same (by rw[ap,ha];exact bl d hdi)];exact hp
    .rw[av an]at hl
     have h2:=hk j _ an hl (hv j U hl);cases hdj:dst j with
     |none=>rw[hdj]at h2;exact h2
     |some d =>
      rw[hdj]at h2;cases hdi:dst i with
      |none=>exact h2
      |some d2 =>
       show Pv _ j ((a.put (some d2) v).eval (.tmp d)) _;rw[cB (λhne=>an (bd j U (by rw[hdi];simp) (by rw[hdi,hdj,hne])))];exact h2
  unfold wpOp;simp only[ho];cases hgd:o.guard with
  |none =>
   rw[hgd]at O;rw[if_pos (by simp[Region.wanted,hgd])];exact .inl (Oper.wp_mono ad O)
  |some gb =>
   obtain⟨g,b⟩:=gb;rw[hgd]at O;obtain⟨b',am,hy,hn⟩:=O;have bo:=(hg g b hgd).1;have ba:g<ops.size:=by rw[al];omega
   have aE:=(a4 g ops[g] (bB ba)).2.2.1;have bi:yielded ops a.tmps g=some b':=by
    unfold yielded;rw[bB ba];cases hdg:dst g with
    |none=>rw[hdg]at am;cases am
    |some d =>
     rw[hdg]at am;simp only[Option.bind_some,aE,hdg,JF (show a.eval (.tmp d)=.bool b' from am)]
   by_cases D:b'=b
   .rw[if_pos (by simp[Region.wanted,hgd,bi,D])]
    exact .inl (Oper.wp_mono ad (hy D))
   .rw[if_neg (by simp[Region.wanted,hgd,bi,D])]
    rw[hd];exact ad _ _ (hn D)
 .rintro listed a w ⟨ao,_,hS,ap,aw,aq,hv⟩ hr
  have ab:=FW ao (λi o ho e he hb=>(a4 i o ho).2.2.2.2.1 e he hb) hr;exact a1 (rD listed) a w hS ap aw aq λi hi=>⟨ab i (by rw[al];exact hi),hv i hi (ab i (by rw[al];exact hi))⟩
 .simp[rD,Array.getD]at h
 .have:rD (Array.replicate ops.size false)=λ_=>false:=by funext j;simp[rD,Array.getD]
  rw[this];exact hs
 .simp[rD,Array.getD]at h
theorem vL.of_list{F:Nat->Oper->Prop}:∀(l:List Oper) (k:Nat),(∀i o,l[i]?=some o->F (k+i) o)->vL F k l
 |[],_,_=>trivial
 |x::l,k,h=>⟨h 0 x rfl,vL.of_list l (k+1) λi o D=>by
   have:=h (i+1) o (by simpa using D)
   rwa [show k+(i+1)=k+1+i by omega]at this⟩
theorem vL.of{F:Nat->Oper->Prop}(h:∀i o,ops[i]?=some o->F i o):vL F 0 ops.toList :=
 vL.of_list _ _ λi o D=>by
  rw[fI];exact h i o (by simpa using D)
end
end
section
abbrev PV:=(Nat->Bool)->Value->World->Prop
abbrev BZ:=List (Nat × Option Nat × PV)
def rF:BZ->Nat->Option Nat × PV
 |[],_=>(none,λ_ _ _=>True)
 |(i,d,p)::l,j=>match Nat.beq i j with
  |true=>(d,p)
  |false=>rF l j
theorem IU{i:Nat}{d:Option Nat}{p:PV}{l:BZ}:rF ((i,d,p)::l) i=(d,p):=by
 unfold rF;rw[Nat.beq_refl]
theorem Fx{i j:Nat}{d:Option Nat}{p:PV}{l:BZ}(h:i≠j):rF ((i,d,p)::l) j=rF l j:=by
 have:Nat.beq i j=false:=by
  cases hb:Nat.beq i j with
  |false=>rfl
  |true=>exact absurd (jB hb) h
 conv=>lhs;unfold rF
 rw[this]
def AB(c:Value):PV:=λ_ v _=>v=c
section
variable (P:Program)(Q:Exit->Act->World->Prop)(ops:Array Oper)(keep:Nat->Bool)(a0:Act)(S:(Nat->Bool)->World->Prop)(R:Nat->World->World->Prop)
def Q9(Ps:BZ)(L:Nat->Bool)(a:Act)(w:World):List Edge->Prop
 |[]=>True
 |e::l=>(Region.binds .any e=true->L e.on=true/\(rF Ps e.on).2 L (qX a (rF Ps e.on).1) w)/\Q9 Ps L a w l
def wU(k:Nat)(d:Option Nat)(D:PV)(L:Nat->Bool)(a:Act)(w:World)(a':Act)(w':World):Prop :=
 ∃v,a'=a.put d v/\(d=none->v=undef)/\D (pI L k) v w'/\S (pI L k) w'/\R k w w'
structure Q6(Ps:BZ)(k:Nat)(o:Oper)(L:Nat->Bool)(a:Act)(w:World):Prop where
 new:L k=false
 world:S L w
 behind:∀j,(ops[j]?.any λo'=>uE o' k)=true->L j=false
 same:∀t:Nat,keep t=true->a.tmps[t]?.getD undef=a0.tmps[t]?.getD undef
 aft:Q9 Ps L a w o.after.toList
def Su(Ps:BZ)(k:Nat)(o:Oper)(D:PV):Prop:=∀(L:Nat->Bool) (a:Act) (w:World),Q6 ops keep a0 S Ps k o L a w ->
  match o.guard with
  |none=>o.wp P a w (wU S R k o.dst D L a w) Q
  |some (g,b)=>∃b',qX a (rF Ps g).1=.bool b'/\(b'=b->o.wp P a w (wU S R k o.dst D L a w) Q)/\(b'≠b->wU S R k o.dst D L a w (a.put o.dst undef) w)
def vD(k:Nat)(D:PV):Prop:=∀(i:Nat) (L:Nat->Bool) (v:Value) (w w':World),i≠k->R i w w'->D L v w->D (pI L i) v w'
def Sr(a:Act):Prop:=a.tmps.size=a0.tmps.size/\a.defers=a0.defers/\∀t:Nat,keep t=true->a.tmps[t]?.getD undef=a0.tmps[t]?.getD undef
structure Sl(Ps:BZ)(L:Nat->Bool)(a:Act)(w:World):Prop where
 world:S L w
 same:Sr keep a0 a
 val:∀j,(rF Ps j).2 L (qX a (rF Ps j).1) w
def aQ:Nat->BZ->List Oper->Prop
 |k,Ps,[]=>∀(L:Nat->Bool) (a:Act) (w:World),(∀i,i<k->L i=true)->Sl keep a0 S Ps L a w->Q .normal a w
 |k,Ps,o::rest=>∃D,vD R k D/\Su P Q ops keep a0 S R Ps k o D/\aQ (k+1) ((k,o.dst,D)::Ps) rest
end
def oL(ops:Array Oper)(i:Nat):Option Nat:=(ops[i]?).bind Oper.dst
def jH(ops:Array Oper)(n sz:Nat)(keep:Nat->Bool):Bool :=
 wO ops n sz (oL ops) && ops.toList.all (λo=>match o.dst with|some d=>!keep d|none=>true)
section
variable {P:Program}{Q:Exit->Act->World->Prop}{ops:Array Oper}{keep:Nat->Bool}{a0:Act}{S:(Nat->Bool)->World->Prop}{R:Nat->World->World->Prop}
theorem CF{D Ps:BZ}{k j:Nat}(h:∀x,x∈D->k<=x.1)(V:j<k):rF (D++Ps) j=rF Ps j:=by
 induction D with
 |nil=>rfl
 |cons x D U =>
  obtain⟨i,d,p⟩:=x;have h1:=h _ (aD ..);show rF ((i,d,p)::(D++Ps)) j=_;rw[Fx (by have:k<=i:=h1;omega)];exact U λy O=>h y (au _ O)
theorem zB{l:BZ}{j:Nat}(h:∀x,x∈l->x.1≠j):rF l j=(none,λ_ _ _=>True):=by
 induction l with
 |nil=>rfl
 |cons y l D =>
  obtain⟨U,O,p'⟩:=y;rw[Fx (h _ (aD ..))];exact D λx hx=>h x (au _ hx)
theorem aQ.all:∀(rest:List Oper) (k:Nat) (Ps:BZ),aQ P Q ops keep a0 S R k Ps rest ->
  ∃D:BZ,(∀x,x∈D->k<=x.1/\x.1<k+rest.length/\rF (D++Ps) x.1=x.2)/\(∀(L:Nat->Bool) (a:Act) (w:World),(∀i,i<k+rest.length->L i=true)->Sl keep a0 S (D++Ps) L a w->Q .normal a w) /\
   ∀(i:Nat) (o:Oper),rest[i]?=some o->∃(O:PV) (Pi:BZ),rF (D++Ps) (k+i)=(o.dst,O)/\vD R (k+i) O/\Su P Q ops keep a0 S R Pi (k+i) o O/\∀j,j<k+i->rF Pi j=rF (D++Ps) j
 |[],k,Ps,h=>⟨[],by simp,h,by simp⟩
 |o::rest,k,Ps,h=>by
  obtain⟨O,h1,h2,h3⟩:=h;obtain⟨D,U,g2,g3⟩:=aQ.all rest (k+1) _ h3;have e:D++(k,o.dst,O)::Ps=(D++[(k,o.dst,O)])++Ps:=by simp
  have hk:rF (D++(k,o.dst,O)::Ps) k=(o.dst,O):=by
   rw[CF (k:=k+1) (λx hx=>(U x hx).1) (bN k)];exact IU
  rw[e]at U g2 g3 hk;have e2:k+1+rest.length=k+(o::rest).length:=by simp;omega
  rw[e2]at g2;refine⟨D++[(k,o.dst,O)],λx hx=>?_,g2,λi o' ho=>?_⟩
  .rcases List.mem_append.1 hx with hx|hx
   .have:=U x hx
    simp only[aF];exact⟨by omega,by omega,this.2.2⟩
   .obtain rfl:=List.mem_singleton.1 hx
    simp only[aF];exact⟨af _,by omega,hk⟩
  .match i with
   |0 =>
    simp only[bD,Option.some.injEq]at ho;subst ho;refine⟨O,Ps,hk,h1,h2,λj hj=>?_⟩;refine(CF (k:=k) (λx hx=>?_) hj).symm;rcases List.mem_append.1 hx with hx|hx
    .have:=(U x hx).1;omega
    .obtain rfl:=List.mem_singleton.1 hx;exact af _
   |i+1 =>
    obtain⟨V,Pi,t1,t2,t3,t4⟩:=g3 i o' (by simpa using ho);rw[show k+1+i=k+(i+1) by omega]at t1 t2 t3 t4;exact⟨V,Pi,t1,t2,t3,t4⟩
theorem Gh{Ps Pi:BZ}{L:Nat->Bool}{a:Act}{w:World}{k:Nat}(D:∀j,j<k->rF Pi j=rF Ps j):∀(l:List Edge),(∀e,e∈l->Region.binds .any e=true->e.on<k/\L e.on=true/\(rF Ps e.on).2 L (qX a (rF Ps e.on).1) w)->Q9 Pi L a w l
 |[],_=>trivial
 |e::l,h=>⟨λhb=>by
   obtain⟨h1,O,U⟩:=h e (aD ..) hb;rw[D _ h1];exact⟨O,U⟩,Gh D l λe he=>h e (au _ he)⟩
theorem fQ{id n sz:Nat}{w0:World}(hm:P.follows .mixedOrders=true)(U:jH ops n sz keep=true)(ha:a0.tmps.size=sz)
  (S:(Nat->Bool)->World->Prop) (R:Nat->World->World->Prop) (hs:S (λ_=>false) w0.drew) (h:aQ P Q ops keep a0 S R 0 [] ops.toList):(Code.region id ops true).wp P Q a0 w0:=by
 unfold jH at U;rw[bg,fK]at U;obtain⟨U,a3⟩:=U;obtain⟨Ex,h1,h2,h3⟩:=aQ.all _ _ _ h;rw[aP]at h1 h2 h3;simp only[fI]at h1 h2 h3;have D:∀i o,ops[i]?=some o->oL ops i=o.dst:=λi o V=>by unfold oL;rw[V];rfl
 have hn:ops.size=n:=by unfold wO at U;rw[bg]at U;simpa using U.1
 have ad:∀i o,ops[i]?=some o->(rF Ex i).1=o.dst:=λi o V=>by
  obtain⟨Pk,Pi,t1,_⟩:=h3 i o (by simpa using V);rw[t1]
 refine Cm hm U ha S (λL i v w=>(rF Ex i).2 L v w) ?_ hs ?_
 .refine vL.of λi o V=>?_
  intro L a w hL hS an al am;obtain⟨Pk,Pi,t1,_,t3,t4⟩:=h3 i o (by simpa using V);have ao:=D i o V;have a5:Q6 ops keep a0 S Pi i o L a w:=⟨hL,hS,an,λt ht=>by
    have:=al t λj hj he=>by
     have ab:j<ops.size:=by rw[hn];exact hj
     have hd:=D j ops[j] (bB ab);rw[hd]at he;have:=a3 ops[j] (by simp);rw[he]at this;simp only[ht]at this;cases this
    simpa[Act.eval]using this,Gh t4 _ λe he hb=>?_⟩
  .have O:=t3 L a w a5
   have hl:∀a' w',wU S R i o.dst Pk L a w a' w'->yS (oL ops) S (λL i v w=>(rF Ex i).2 L v w) i L a w a' w':=by
    rintro a' w' ⟨v,e1,e2,e3,e4,e5⟩;rw[<-ao]at e1 e2;refine⟨v,e1,e2,by show(rF Ex i).2 _ _ _;rw[t1];exact e3,e4,λj u a8 _ hu=>?_⟩;by_cases aw:j<ops.size
    .obtain⟨Pj,_,u1,u2,_⟩:=h3 j ops[j] (by simp[aw])
     show(rF Ex j).2 _ _ _
     replace hu:(rF Ex j).2 _ _ _:=hu
     rw[u1]at hu ⊢;exact u2 i L u w w' (Ne.symm a8) e5 hu
    .have:(rF Ex j)=(none,λ_ _ _=>True):=zB λx hx e=>aw (by have:=(h1 x hx).2.1;rw[e]at this;simpa using this)
     show(rF Ex j).2 _ _ _;rw[this]
     trivial
   cases hg:o.guard with
   |none =>
    rw[hg]at O;exact Oper.wp_mono hl O
   |some gb =>
    obtain⟨g,b⟩:=gb;rw[hg]at O;obtain⟨b',s1,s2,s3⟩:=O;have aq:g<i:=by
     unfold wO at U;simp only[bg,fK,List.mem_range]at U;have hi:i<n:=by rw[<-hn];exact(dM V).1
     have:=U.2 i hi;rw[V]at this;simp only[hg,bg,aU]at this;exact this.1.1.1.1.1
    have ar:g<ops.size:=Nat.lt_trans aq (dM V).1;refine⟨b',?_,λe=>Oper.wp_mono hl (s2 e),λe=>?_⟩
    .rw[t4 g aq,ad g ops[g] (bB ar),<-D g ops[g] (bB ar)]at s1
     exact s1
    .rw[ao]
     exact hl _ _ (s3 e)
  .have a6:uE o e.on=true:=by
    unfold uE;rw[iy];exact⟨e,he,by rw[hb,Bool.true_and];exact Nat.beq_refl _⟩
   obtain⟨g1,g2⟩:=am e.on a6;have a4:e.on<i:=by
    unfold wO at U;simp only[bg,fK,List.mem_range]at U;have hi:i<n:=by rw[<-hn];exact(dM V).1
    have:=U.2 i hi;rw[V]at this;simp only[bg,fK]at this;have:=this.1.2 e (by simpa using he)
    simpa[hb]using this
   have ap:e.on<ops.size:=Nat.lt_trans a4 (dM V).1;refine⟨a4,g1,?_⟩;rw[ad e.on ops[e.on] (bB ap),<-D e.on ops[e.on] (bB ap)];exact g2
 .intro L a w hS a9 a7 al hv
  refine h2 L a w (λi hi=>(hv i (by rw[<-hn];simpa using hi)).1) ⟨hS,⟨a9,a7,λt ht=>?_⟩,λj=>?_⟩
  .have:=al t λj hj he=>by
    have ab:j<ops.size:=by rw[hn];exact hj
    have hd:=D j ops[j] (bB ab);rw[hd]at he;have:=a3 ops[j] (by simp);rw[he]at this;simp only[ht]at this;cases this
   simpa[Act.eval]using this
  .by_cases hj:j<n
   .have a1:j<ops.size:=by rw[hn];exact hj
    have:=(hv j hj).2;rw[D _ _ (bB a1),<-ad _ _ (bB a1)]at this;exact this
   .have hx:∀x,x∈Ex->x.1≠j:=λx hx e=>hj (by have:=(h1 x hx).2.1;rw[e]at this;rw[<-hn];simpa using this)
    rw[zB hx]
    trivial
section
variable {k:Nat}{Ps:BZ}{o:Oper}{rest:List Oper}
theorem aQ.exact{c:Value}{d:Nat}(hg:o.guard=none)(V:o.dst=some d)(U:∀L w,S L w->S (pI L k) w)(O:∀w,R k w w)
  (h:∀(L:Nat->Bool) (a:Act) (w:World),Q6 ops keep a0 S Ps k o L a w->(execOp a.eval o).run P w=.ok (.value c) w)
  (t:aQ P Q ops keep a0 S R (k+1) ((k,o.dst,AB c)::Ps) rest):aQ P Q ops keep a0 S R k Ps (o::rest):=by
 refine⟨AB c,λ_ _ _ _ _ _ _ h=>h,λL a w D=>?_,t⟩;rw[hg];exact Oper.wp_value (h L a w D) ⟨c,rfl,λe=>by rw[V]at e;(cases e),rfl,U L w D.world,O w⟩
theorem aQ.any(D:PV)(U:o.guard=none)(O:vD R k D)
  (h:∀(L:Nat->Bool) (a:Act) (w:World),Q6 ops keep a0 S Ps k o L a w->o.wp P a w (wU S R k o.dst D L a w) Q)
  (t:aQ P Q ops keep a0 S R (k+1) ((k,o.dst,D)::Ps) rest):aQ P Q ops keep a0 S R k Ps (o::rest):=by
 refine⟨D,O,λL a w V=>?_,t⟩;rw[U];exact h L a w V
theorem bz{a:Act}{n:Nat}{v:Value}(h:a.tmps[n]?.getD undef=v):a.eval (.tmp n)=v:=by rw[<-h];simp[Act.eval]
end
end
end
section
section
variable {P:Program}{ops:Array Oper}{Q:Exit->Act->World->Prop}
def yT(dst:Nat->Option Nat)(S:(Nat->Bool)->Act->World->Prop)(D:(Nat->Bool)->Nat->Value->World->Prop)(i:Nat)(L:Nat->Bool)(a:Act)(w:World)(a':Act)(w':World):Prop :=
 ∃v,a'=a.put (dst i) v/\(dst i=none->v=undef)/\D (pI L i) i v w'/\S (pI L i) a' w'/\∀j u,j≠i->L j=true->D L j u w->D (pI L i) j u w'
def SY(P:Program)(Q:Exit->Act->World->Prop)(ops:Array Oper)(n:Nat)(dst:Nat->Option Nat)(S:(Nat->Bool)->Act->World->Prop)(D:(Nat->Bool)->Nat->Value->World->Prop)(a0:Act)(i:Nat)(o:Oper):Prop :=
 ∀(L:Nat->Bool) (a:Act) (w:World),L i=false->S L a w->(∀j,(ops[j]?.any λO=>uE O i)=true->L j=false)->(∀t:Nat,(∀i,i<n->dst i≠some t)->a.eval (.tmp t)=a0.eval (.tmp t))->(∀j,uE o j=true->L j=true/\D L j (qX a (dst j)) w) ->
  match o.guard with
  |none=>o.wp P a w (yT dst S D i L a w) Q
  |some (g,b)=>∃b',qX a (dst g)=.bool b'/\(b'=b->o.wp P a w (yT dst S D i L a w) Q)/\(b'≠b->yT dst S D i L a w (a.put (dst i) undef) w)
theorem Cn{id n sz:Nat}{dst:Nat->Option Nat}{a0:Act}{w0:World}(hm:P.follows .mixedOrders=true)(hB:wO ops n sz dst=true)(ha:a0.tmps.size=sz)
  (S:(Nat->Bool)->Act->World->Prop) (Pv:(Nat->Bool)->Nat->Value->World->Prop)
  (a5:vL (λi o=>SY P Q ops n dst S Pv a0 i o) 0 ops.toList)
  (hs:S (λ_=>false) a0 w0.drew)
  (a1:∀(L:Nat->Bool) (a:Act) (w:World),S L a w->a.tmps.size=a0.tmps.size->a.defers=a0.defers->(∀t:Nat,(∀i,i<n->dst i≠some t)->a.eval (.tmp t)=a0.eval (.tmp t))->(∀i,i<n->L i=true/\Pv L i (qX a (dst i)) w)->Q .normal a w):(Code.region id ops true).wp P Q a0 w0:=by
 unfold wO at hB;simp only[bg,fK,List.mem_range,aU]at hB;obtain⟨al,hB⟩:=hB;have a4:∀i o,ops[i]?=some o->i<n/\(∀g b,o.guard=some (g,b)->g<i/\uE o g=true)/\o.dst=dst i/\(∀d,dst i=some d->d<sz)/\(∀e∈o.after,Region.binds .any e=true->e.on<i)/\∀j,j<n->dst i≠none->dst i=dst j->j=i:=by
  intro i o ho;have hi:i<n:=by rw[<-al];exact(dM ho).1
  have h1:=hB i hi;rw[ho]at h1;simp only[bg,fK,List.mem_range,Bool.or_eq_true,fT,Bool.not_eq_true',aU]at h1;obtain⟨⟨⟨⟨h2,h3⟩,bj⟩,h4⟩,h5⟩:=h1;refine⟨hi,λg b hg=>?_,Jb h3,λd hd=>?_,λe he hb=>?_,λj U hne he=>?_⟩
  .simp only[hg,bg,aU]at h2
   exact h2
  .simpa[hd]using bj
  .have:=h4 e (by simpa using he)
   simpa[hb]using this
  .rcases h5 j U with (h|h)|h
   .exact h
   .exact absurd (by simpa using h) hne
   .rw[<-he]at h
    cases hd:dst i with
    |none=>exact absurd hd hne
    |some d=>rw[hd]at h;simp[FM]at h
 refine xV hm (λlisted a w=>listed.size=ops.size/\(∀(j:Nat) (o':Oper),ops[j]?=some o'->rD listed j=true->∀e∈o'.after,Region.binds .any e=true->rD listed e.on=true)/\S (rD listed) a w/\a.tmps.size=a0.tmps.size/\a.defers=a0.defers/\(∀t:Nat,(∀i,i<n->dst i≠some t)->a.eval (.tmp t)=a0.eval (.tmp t))/\∀i,i<n->rD listed i=true->Pv (rD listed) i (qX a (dst i)) w) ?_ ?_ ⟨by simp,λj o' _ h=>?_,?_,rfl,rfl,λ_ _=>rfl,λi _ h=>?_⟩
 .rintro listed a w i ⟨ao,a7,hS,ap,aw,aq,hv⟩ hr
  obtain⟨h0,o,ho,ar⟩:=mem_ready.1 hr;obtain⟨hi,hg,hd,bl,bk,bd⟩:=a4 i o ho;have bc:i<listed.size:=by rw[ao,al];exact hi
  have a9:rD listed i=false:=by
   unfold rD;simp[Array.getD,bc]at h0 ⊢;exact h0
  have a6:∀j,(ops[j]?.any λo'=>uE o' i)=true->rD listed j=false:=λj U=>by
   cases V:ops[j]? with
   |none=>rw[V]at U;cases U
   |some oj =>
    rw[V]at U;simp only[Option.any_some]at U;unfold uE at U;simp only[iy,bg]at U;obtain⟨e,he,D,a3⟩:=U;obtain rfl:=jB a3;cases hlj:rD listed j with
    |false=>rfl
    |true =>
     have:=a7 j oj V hlj e (by simpa using he) D;rw[a9]at this;cases this
  have O:=a5.all i o ho (rD listed) a w a9 hS a6 aq λj U=>by
   unfold uE at U;simp only[iy,bg]at U;obtain⟨e,he,D,a3⟩:=U;obtain rfl:=jB a3;have h2:=ar e (by simpa using he) D;exact⟨h2,hv e.on (Nat.lt_trans (bk e (by simpa using he) D) hi) h2⟩
  have ad:∀a' w',yT dst S Pv i (rD listed) a w a' w'->(listed.setIfInBounds i true).size=ops.size/\(∀(j:Nat) (o':Oper),ops[j]?=some o'->rD (listed.setIfInBounds i true) j=true->∀e∈o'.after,Region.binds .any e=true->rD (listed.setIfInBounds i true) e.on=true)/\S (rD (listed.setIfInBounds i true)) a' w'/\a'.tmps.size=a0.tmps.size/\a'.defers=a0.defers/\(∀t:Nat,(∀i,i<n->dst i≠some t)->a'.eval (.tmp t)=a0.eval (.tmp t))/\∀j,j<n->rD (listed.setIfInBounds i true) j=true->Pv (rD (listed.setIfInBounds i true)) j (qX a' (dst j)) w':=by
   rintro a' w' ⟨v,rfl,bh,hp,bm,hk⟩;rw[L9 bc]at *;refine⟨by simpa using ao,λj oj V hl e he hb=>?_,bm,by rw[size_put];exact ap,by cases dst i<;>exact aw,λt ht=>?_,λj U hl=>?_⟩
   .by_cases a8:e.on=i
    .rw[a8];exact bU
    .rw[av a8]
     by_cases be:j=i
     .subst be
      rw[ho]at V;cases V
      exact ar e he hb
     .rw[av be]at hl
      exact a7 j oj V hl e he hb
   .rw[<-aq t ht]
    cases hdi:dst i with
    |none=>rfl
    |some d=>exact cB λhne=>ht i hi (by rw[hdi,hne])
   .by_cases an:j=i
    .subst an
     cases hdi:dst j with
     |none=>rw[hdi]at bh;rw[bh rfl]at hp;exact hp
     |some d =>
      show Pv _ j ((a.put (some d) v).eval (.tmp d)) _;rw[eval_put_same (by rw[ap,ha];exact bl d hdi)];exact hp
    .rw[av an]at hl
     have h2:=hk j _ an hl (hv j U hl);cases hdj:dst j with
     |none=>rw[hdj]at h2;exact h2
     |some d =>
      rw[hdj]at h2;cases hdi:dst i with
      |none=>exact h2
      |some d2 =>
       show Pv _ j ((a.put (some d2) v).eval (.tmp d)) _;rw[cB (λhne=>an (bd j U (by rw[hdi];simp) (by rw[hdi,hdj,hne])))];exact h2
  unfold wpOp;simp only[ho];cases hgd:o.guard with
  |none =>
   rw[hgd]at O;rw[if_pos (by simp[Region.wanted,hgd])];exact .inl (Oper.wp_mono ad O)
  |some gb =>
   obtain⟨g,b⟩:=gb;rw[hgd]at O;obtain⟨b',am,hy,hn⟩:=O;have bo:=(hg g b hgd).1;have ba:g<ops.size:=by rw[al];omega
   have aE:=(a4 g ops[g] (bB ba)).2.2.1;have bi:yielded ops a.tmps g=some b':=by
    unfold yielded;rw[bB ba];cases hdg:dst g with
    |none=>rw[hdg]at am;cases am
    |some d =>
     rw[hdg]at am;simp only[Option.bind_some,aE,hdg,JF (show a.eval (.tmp d)=.bool b' from am)]
   by_cases D:b'=b
   .rw[if_pos (by simp[Region.wanted,hgd,bi,D])]
    exact .inl (Oper.wp_mono ad (hy D))
   .rw[if_neg (by simp[Region.wanted,hgd,bi,D])]
    rw[hd];exact ad _ _ (hn D)
 .rintro listed a w ⟨ao,_,hS,ap,aw,aq,hv⟩ hr
  have ab:=FW ao (λi o ho e he hb=>(a4 i o ho).2.2.2.2.1 e he hb) hr;exact a1 (rD listed) a w hS ap aw aq λi hi=>⟨ab i (by rw[al];exact hi),hv i hi (ab i (by rw[al];exact hi))⟩
 .simp[rD,Array.getD]at h
 .have:rD (Array.replicate ops.size false)=λ_=>false:=by funext j;simp[rD,Array.getD]
  rw[this];exact hs
 .simp[rD,Array.getD]at h
end
end
section
section
variable (P:Program)(Q:Exit->Act->World->Prop)(ops:Array Oper)(keep:Nat->Bool)(a0:Act)(S:(Nat->Bool)->Act->World->Prop)(R:Nat->World->World->Prop)
def yU(k:Nat)(d:Option Nat)(D:PV)(L:Nat->Bool)(a:Act)(w:World)(a':Act)(w':World):Prop :=
 ∃v,a'=a.put d v/\(d=none->v=undef)/\D (pI L k) v w'/\S (pI L k) a' w'/\R k w w'
structure JR(Ps:BZ)(k:Nat)(o:Oper)(L:Nat->Bool)(a:Act)(w:World):Prop where
 new:L k=false
 world:S L a w
 behind:∀j,(ops[j]?.any λo'=>uE o' k)=true->L j=false
 same:∀t:Nat,keep t=true->a.tmps[t]?.getD undef=a0.tmps[t]?.getD undef
 aft:Q9 Ps L a w o.after.toList
def Sv(Ps:BZ)(k:Nat)(o:Oper)(D:PV):Prop:=∀(L:Nat->Bool) (a:Act) (w:World),JR ops keep a0 S Ps k o L a w ->
  match o.guard with
  |none=>o.wp P a w (yU S R k o.dst D L a w) Q
  |some (g,b)=>∃b',qX a (rF Ps g).1=.bool b'/\(b'=b->o.wp P a w (yU S R k o.dst D L a w) Q)/\(b'≠b->yU S R k o.dst D L a w (a.put o.dst undef) w)
structure Sm(Ps:BZ)(L:Nat->Bool)(a:Act)(w:World):Prop where
 world:S L a w
 same:Sr keep a0 a
 val:∀j,(rF Ps j).2 L (qX a (rF Ps j).1) w
def dP:Nat->BZ->List Oper->Prop
 |k,Ps,[]=>∀(L:Nat->Bool) (a:Act) (w:World),(∀i,i<k->L i=true)->Sm keep a0 S Ps L a w->Q .normal a w
 |k,Ps,o::rest=>∃D,vD R k D/\Sv P Q ops keep a0 S R Ps k o D/\dP (k+1) ((k,o.dst,D)::Ps) rest
end
section
variable {P:Program}{Q:Exit->Act->World->Prop}{ops:Array Oper}{keep:Nat->Bool}{a0:Act}{S:(Nat->Bool)->Act->World->Prop}{R:Nat->World->World->Prop}
theorem dP.all:∀(rest:List Oper) (k:Nat) (Ps:BZ),dP P Q ops keep a0 S R k Ps rest ->
  ∃D:BZ,(∀x,x∈D->k<=x.1/\x.1<k+rest.length/\rF (D++Ps) x.1=x.2)/\(∀(L:Nat->Bool) (a:Act) (w:World),(∀i,i<k+rest.length->L i=true)->Sm keep a0 S (D++Ps) L a w->Q .normal a w) /\
   ∀(i:Nat) (o:Oper),rest[i]?=some o->∃(O:PV) (Pi:BZ),rF (D++Ps) (k+i)=(o.dst,O)/\vD R (k+i) O/\Sv P Q ops keep a0 S R Pi (k+i) o O/\∀j,j<k+i->rF Pi j=rF (D++Ps) j
 |[],k,Ps,h=>⟨[],by simp,h,by simp⟩
 |o::rest,k,Ps,h=>by
  obtain⟨O,h1,h2,h3⟩:=h;obtain⟨D,U,g2,g3⟩:=dP.all rest (k+1) _ h3;have e:D++(k,o.dst,O)::Ps=(D++[(k,o.dst,O)])++Ps:=by simp
  have hk:rF (D++(k,o.dst,O)::Ps) k=(o.dst,O):=by
   rw[CF (k:=k+1) (λx hx=>(U x hx).1) (bN k)];exact IU
  rw[e]at U g2 g3 hk;have e2:k+1+rest.length=k+(o::rest).length:=by simp;omega
  rw[e2]at g2;refine⟨D++[(k,o.dst,O)],λx hx=>?_,g2,λi o' ho=>?_⟩
  .rcases List.mem_append.1 hx with hx|hx
   .have:=U x hx
    simp only[aF];exact⟨by omega,by omega,this.2.2⟩
   .obtain rfl:=List.mem_singleton.1 hx
    simp only[aF];exact⟨af _,by omega,hk⟩
  .match i with
   |0 =>
    simp only[bD,Option.some.injEq]at ho;subst ho;refine⟨O,Ps,hk,h1,h2,λj hj=>?_⟩;refine(CF (k:=k) (λx hx=>?_) hj).symm;rcases List.mem_append.1 hx with hx|hx
    .have:=(U x hx).1;omega
    .obtain rfl:=List.mem_singleton.1 hx;exact af _
   |i+1 =>
    obtain⟨V,Pi,t1,t2,t3,t4⟩:=g3 i o' (by simpa using ho);rw[show k+1+i=k+(i+1) by omega]at t1 t2 t3 t4;exact⟨V,Pi,t1,t2,t3,t4⟩
theorem nI{id n sz:Nat}{w0:World}(hm:P.follows .mixedOrders=true)(U:jH ops n sz keep=true)(ha:a0.tmps.size=sz)
  (S:(Nat->Bool)->Act->World->Prop) (R:Nat->World->World->Prop) (hs:S (λ_=>false) a0 w0.drew) (h:dP P Q ops keep a0 S R 0 [] ops.toList):(Code.region id ops true).wp P Q a0 w0:=by
 unfold jH at U;rw[bg,fK]at U;obtain⟨U,a3⟩:=U;obtain⟨Ex,h1,h2,h3⟩:=dP.all _ _ _ h;rw[aP]at h1 h2 h3;simp only[fI]at h1 h2 h3;have D:∀i o,ops[i]?=some o->oL ops i=o.dst:=λi o V=>by unfold oL;rw[V];rfl
 have hn:ops.size=n:=by unfold wO at U;rw[bg]at U;simpa using U.1
 have ad:∀i o,ops[i]?=some o->(rF Ex i).1=o.dst:=λi o V=>by
  obtain⟨Pk,Pi,t1,_⟩:=h3 i o (by simpa using V);rw[t1]
 refine Cn hm U ha S (λL i v w=>(rF Ex i).2 L v w) ?_ hs ?_
 .refine vL.of λi o V=>?_
  intro L a w hL hS an al am;obtain⟨Pk,Pi,t1,_,t3,t4⟩:=h3 i o (by simpa using V);have ao:=D i o V;have a5:JR ops keep a0 S Pi i o L a w:=⟨hL,hS,an,λt ht=>by
    have:=al t λj hj he=>by
     have ab:j<ops.size:=by rw[hn];exact hj
     have hd:=D j ops[j] (bB ab);rw[hd]at he;have:=a3 ops[j] (by simp);rw[he]at this;simp only[ht]at this;cases this
    simpa[Act.eval]using this,Gh t4 _ λe he hb=>?_⟩
  .have O:=t3 L a w a5
   have hl:∀a' w',yU S R i o.dst Pk L a w a' w'->yT (oL ops) S (λL i v w=>(rF Ex i).2 L v w) i L a w a' w':=by
    rintro a' w' ⟨v,e1,e2,e3,e4,e5⟩;rw[<-ao]at e1 e2;refine⟨v,e1,e2,by show(rF Ex i).2 _ _ _;rw[t1];exact e3,e4,λj u a8 _ hu=>?_⟩;by_cases aw:j<ops.size
    .obtain⟨Pj,_,u1,u2,_⟩:=h3 j ops[j] (by simp[aw])
     show(rF Ex j).2 _ _ _
     replace hu:(rF Ex j).2 _ _ _:=hu
     rw[u1]at hu ⊢;exact u2 i L u w w' (Ne.symm a8) e5 hu
    .have:(rF Ex j)=(none,λ_ _ _=>True):=zB λx hx e=>aw (by have:=(h1 x hx).2.1;rw[e]at this;simpa using this)
     show(rF Ex j).2 _ _ _;rw[this]
     trivial
   cases hg:o.guard with
   |none =>
    rw[hg]at O;exact Oper.wp_mono hl O
   |some gb =>
    obtain⟨g,b⟩:=gb;rw[hg]at O;obtain⟨b',s1,s2,s3⟩:=O;have aq:g<i:=by
     unfold wO at U;simp only[bg,fK,List.mem_range]at U;have hi:i<n:=by rw[<-hn];exact(dM V).1
     have:=U.2 i hi;rw[V]at this;simp only[hg,bg,aU]at this;exact this.1.1.1.1.1
    have ar:g<ops.size:=Nat.lt_trans aq (dM V).1;refine⟨b',?_,λe=>Oper.wp_mono hl (s2 e),λe=>?_⟩
    .rw[t4 g aq,ad g ops[g] (bB ar),<-D g ops[g] (bB ar)]at s1
     exact s1
    .rw[ao]
     exact hl _ _ (s3 e)
  .have a6:uE o e.on=true:=by
    unfold uE;rw[iy];exact⟨e,he,by rw[hb,Bool.true_and];exact Nat.beq_refl _⟩
   obtain⟨g1,g2⟩:=am e.on a6;have a4:e.on<i:=by
    unfold wO at U;simp only[bg,fK,List.mem_range]at U;have hi:i<n:=by rw[<-hn];exact(dM V).1
    have:=U.2 i hi;rw[V]at this;simp only[bg,fK]at this;have:=this.1.2 e (by simpa using he)
    simpa[hb]using this
   have ap:e.on<ops.size:=Nat.lt_trans a4 (dM V).1;refine⟨a4,g1,?_⟩;rw[ad e.on ops[e.on] (bB ap),<-D e.on ops[e.on] (bB ap)];exact g2
 .intro L a w hS a9 a7 al hv
  refine h2 L a w (λi hi=>(hv i (by rw[<-hn];simpa using hi)).1) ⟨hS,⟨a9,a7,λt ht=>?_⟩,λj=>?_⟩
  .have:=al t λj hj he=>by
    have ab:j<ops.size:=by rw[hn];exact hj
    have hd:=D j ops[j] (bB ab);rw[hd]at he;have:=a3 ops[j] (by simp);rw[he]at this;simp only[ht]at this;cases this
   simpa[Act.eval]using this
  .by_cases hj:j<n
   .have a1:j<ops.size:=by rw[hn];exact hj
    have:=(hv j hj).2;rw[D _ _ (bB a1),<-ad _ _ (bB a1)]at this;exact this
   .have hx:∀x,x∈Ex->x.1≠j:=λx hx e=>hj (by have:=(h1 x hx).2.1;rw[e]at this;rw[<-hn];simpa using this)
    rw[zB hx]
    trivial
section
variable {k:Nat}{Ps:BZ}{o:Oper}{rest:List Oper}
theorem dP.exact{c:Value}{d:Nat}(hg:o.guard=none)(V:o.dst=some d)(U:∀L a w,S L a w->S (pI L k) (a.put o.dst c) w)(O:∀w,R k w w)
  (h:∀(L:Nat->Bool) (a:Act) (w:World),JR ops keep a0 S Ps k o L a w->(execOp a.eval o).run P w=.ok (.value c) w)
  (t:dP P Q ops keep a0 S R (k+1) ((k,o.dst,AB c)::Ps) rest):dP P Q ops keep a0 S R k Ps (o::rest):=by
 refine⟨AB c,λ_ _ _ _ _ _ _ h=>h,λL a w D=>?_,t⟩;rw[hg];exact Oper.wp_value (h L a w D) ⟨c,rfl,λe=>by rw[V]at e;(cases e),rfl,U L a w D.world,O w⟩
theorem dP.any(D:PV)(U:o.guard=none)(O:vD R k D)
  (h:∀(L:Nat->Bool) (a:Act) (w:World),JR ops keep a0 S Ps k o L a w->o.wp P a w (yU S R k o.dst D L a w) Q)
  (t:dP P Q ops keep a0 S R (k+1) ((k,o.dst,D)::Ps) rest):dP P Q ops keep a0 S R k Ps (o::rest):=by
 refine⟨D,O,λL a w V=>?_,t⟩;rw[U];exact h L a w V
end
end
end
theorem Cs{a:Act}{n:Nat}(h:a.tmps.size=n):∃F:Nat->Value,(∀i,F i=a.eval (.tmp i))/\a=⟨((List.range n).map F).toArray,a.defers⟩:=by
 obtain⟨t,d⟩:=a;refine⟨λi=>(⟨t,d⟩:Act).eval (.tmp i),λ_=>rfl,?_⟩;change t.size=n at h;refine congrArg (λx=>(⟨x,d⟩:Act)) (Array.ext (by simp[h]) λi h1 D=>?_);simp[Act.eval,h1]
theorem nu{a:Act}{n:Nat}{f:Nat->Bool}{d}{x:Array Value}(h:a.tmps.size=n)(e:a.defers=d)(k:∀t,f t=true->a.tmps[t]?.getD undef=x[t]?.getD undef)(h0:x.size=n)(l:List Nat)(hl:((List.range n).all λt=>f t || l.contains t)=true) :
  ∃F:Nat->Value,(∀i,F i=a.eval (.tmp i))/\a=⟨l.foldl (λr t=>r.setIfInBounds t (F t)) x,d⟩:=by
 obtain⟨t,O⟩:=a;subst e;change t.size=n at h;refine⟨λi=>(⟨t,O⟩:Act).eval (.tmp i),λ_=>rfl,congrArg (λx=>(⟨x,O⟩:Act)) ?_⟩;have key:∀(l:List Nat) (x:Array Value),x.size=n->(∀i,i<n->i∉l->t[i]?.getD undef=x[i]?.getD undef)->t=l.foldl (λr j=>r.setIfInBounds j ((⟨t,O⟩:Act).eval (.tmp j))) x:=λl=>by
  induction l with
  |nil =>
   intro x hx hk;refine Array.ext (by rw[h,List.foldl_nil,hx]) λi h1 V=>?_
   rw[List.foldl_nil]at V;have:=hk i (by omega) (by simp)
   simpa[h1,V]using this
  |cons j l ih =>
   intro x hx hk;rw[List.foldl_cons];refine ih _ (by simp[hx]) λi hi D=>?_
   by_cases U:j=i
   .subst U
    have h3:j<x.size:=by omega
    simp[Act.eval,h3,h,hi]
   .rw[Array.getElem?_setIfInBounds_ne U]
    exact hk i hi (by simp[D,Ne.symm U])
 refine key l x h0 λi hi D=>k i ?_
 have:=List.all_eq_true.1 hl i (List.mem_range.2 hi)
 simpa[D]using this
abbrev Oz:=@List.foldl_cons
abbrev OA:=@List.foldl_nil
abbrev OB:=@List.setIfInBounds_toArray
abbrev Oy:=@List.set_cons_succ
abbrev OC:=@List.set_cons_zero
section
section
variable {P:Program}{ops:Array Oper}{Q:Exit->Act->World->Prop}
end
end
section
section
variable (P:Program)(Q:Exit->Act->World->Prop)(ops:Array Oper)(keep:Nat->Bool)(a0:Act)(S:(Nat->Bool)->World->Prop)(R:Nat->(Nat->Bool)->Act->World->World->Prop)
end
section
variable {P:Program}{Q:Exit->Act->World->Prop}{ops:Array Oper}{keep:Nat->Bool}{a0:Act}{S:(Nat->Bool)->World->Prop}{R:Nat->(Nat->Bool)->Act->World->World->Prop}
section
variable {k:Nat}{Ps:BZ}{o:Oper}{rest:List Oper}
end
end
end
end Go.Proofs.YtepacjkacjabbaaGreatDoor
