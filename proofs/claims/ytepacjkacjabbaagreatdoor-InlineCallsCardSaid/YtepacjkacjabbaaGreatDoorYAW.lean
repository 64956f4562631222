import Derived.Test.YtepacjkacjabbaaGreatDoorYAV
import Derived.Test.YtepacjkacjabbaaGreatDoorYAR
set_option linter.all false
set_option maxRecDepth 10000000
set_option maxHeartbeats 64000000
namespace Go.Proofs.YtepacjkacjabbaaGreatDoor
open Go Go.Maps Go.RowKit
mutual
def OH(p:aj)(W:Nat->Int):aa->Int
 |.mk k n _ ex _ _ th _ el=>1+(dU ex:Int)+(if k=8 then(ex.length:Int) - 1+W (dG p n) else 0)+j3 p W th 0+j3 p W el 0
def j3(p:aj)(W:Nat->Int):List aa->Int->Int
 |[],n=>n
 |s::l,n=>j3 p W l (min (n+OH p W s) 20001)
end
def CV(p:aj):Nat->Nat->Int
 |0,_=>0
 |n+1,i=>j3 p (CV p n) (fU p i).eY 0
def UF(a:Int)(b:Nat):Prop:=min a 20001=min (b:Int) 20001
theorem Ad(p:aj)(W:Nat->Int)(B:Nat->List aa):∀(l:List aa),(∀s∈l,UF (OH p W s) (aV (inT p B s))/\0<=OH p W s)->∀n:Int,0<=n->n<=20001->j3 p W l n=min (n+aV (fG p B l)) 20001
 |[],_,n,D,h1=>by rw[j3,fG,gu];omega
 |s::l,h,n,D,h1=>by
  obtain⟨O,U⟩:=h s (aD ..);unfold UF at O;rw[j3,fG,ku,Ad p W B l (λt ht=>h t (au _ ht)) _ (by omega) (by omega)];omega
theorem Pp(g:uz)(e:ah):(Ai g e).pre.length=e.pre.length:=by
 induction e using ah.ind with
 |h k o v w n sp l D =>
  rw[yC,qN,qN];show 1+dU (l.map (Ai g))=1+dU l;unfold dU;rw[dw,nY (f:=(λe=>e.pre.length) ∘ Ai g) D]
theorem M8(g:uz)(l:List ah):dU (l.map (Ai g))=dU l:=by
 unfold dU;rw[dw];exact congrArg List.sum (dA λe _=>Pp g e)
theorem Tj(g h:uz)(s:aa):Ky (tF g h s)=Ky s:=by
 induction s using aa.ind with
 |h k n es ex b ts th os el D O =>
  have each:∀l:List aa,(∀s∈l,Ky (tF g h s)=Ky s)->aV (l.map (tF g h))=aV l:=λl=>by
   induction l with
   |nil=>intro _;rfl
   |cons s l U =>
    intro hl;rw[ax,fq,fq,hl s (aD ..),U λt ht=>hl t (au _ ht)]
  rw[yB];show 1+dU (ex.map (Ai g))+aV (th.map (tF g h))+aV (el.map (tF g h))=1+dU ex+aV th+aV el;rw[M8,each th D,each el O]
theorem Dn(g h:uz):∀l:List aa,aV (l.map (tF g h))=aV l
 |[]=>rfl
 |s::l=>by rw[ax,fq,fq,Tj,Dn g h l]
theorem qc(q:bG)(l:List aa):aV (Ld q l)=aV l:=by
 have each:∀(ds:List bO) (l:List aa),aV (ds.foldl (λl d=>l.map (tF (Sz d.aT (kC q d)) (Sy d.aT (kC q d)))) l)=aV l:=λds=>by
  induction ds with
  |nil=>intro l;rfl
  |cons d ds D =>
   intro l;rw[il,D,Dn]
 exact each _ _
theorem AQ(q:bG):∀(ds:List bO) (ex:List ah),ds.length=ex.length->aV ((ds.zip ex).map λx=>yH (kC q x.1) x.2)=ex.length+dU ex
 |[],[],_=>rfl
 |d::ds,e::ex,h=>by
  have U:=AQ q ds ex (by simpa using h);rw[List.zip_cons_cons,ax,fq,U];have D:Ky (yH (kC q d) e)=1+e.pre.length:=by
   show 1+dU [e]+aV []+aV []=_;rw[gu];simp[dU]
  have O:dU (e::ex)=e.pre.length+dU ex:=by simp[dU]
  rw[D,O,aF];omega
def mJ(p:aj)(s:aa):Prop:=s.bI=8->s.gy=[]/\s.iD=[]/\(fU p (dG p s.aT)).bC.length=s.bf.length
theorem Si{p:aj}{W:Nat->Int}{B:Nat->List aa}(s:aa)(hc:∀x∈s.pre,mJ p x)(hW:∀c∈jX s,W (dG p c)=min (aV (B (dG p c)):Int) 20001):UF (OH p W s) (aV (inT p B s))/\0<=OH p W s:=by
 induction s using aa.ind with
 |h k n es ex b ts th os el i1 i2 =>
  have D:=hc _ (by rw[aa.pre_eq];exact aD ..);rw[jX,gZ,gZ]at hW;have a:=Ad p W B th (λt ht=>i1 t ht (λx hx=>hc x (by
   rw[aa.pre_eq];exact au _ (cz _ (List.mem_flatMap.2 ⟨t,ht,hx⟩)))) λc hc=>hW c (bF _ (cz _ (List.mem_flatMap.2 ⟨t,ht,hc⟩)))) 0 (by decide) (by decide)
  have O:=Ad p W B el (λt ht=>i2 t ht (λx hx=>hc x (by
   rw[aa.pre_eq];exact au _ (bF _ (List.mem_flatMap.2 ⟨t,ht,hx⟩)))) λc hc=>hW c (bF _ (bF _ (List.mem_flatMap.2 ⟨t,ht,hc⟩)))) 0 (by decide) (by decide)
  unfold UF;rw[OH,inT];by_cases hk:k=8
  .obtain⟨h1,U,V⟩:=D hk
   change th=[]at h1;change el=[]at U;change(fU p (dG p n)).bC.length=ex.length at V;have hw:=hW n (by rw[if_pos hk];exact cz _ (List.mem_singleton.2 rfl));have hs:=AQ (fU p (dG p n)) _ ex V;subst h1;subst U;rw[fG,gu]at a O;rw[if_pos hk,if_pos hk,a,hw,ku,qO,hs];omega
  .have e1:aV [aa.mk k n es ex b Sp.none (fG p B th) Sp.none (fG p B el)]=1+dU ex+aV (fG p B th)+aV (fG p B el):=by
    rw[fq,gu]
    rfl
   rw[if_neg hk,if_neg hk,a,O,e1];omega
theorem Dp{p:aj}{W:Nat->Int}{B:Nat->List aa}{l:List aa}(hc:∀x∈l.flatMap aa.pre,mJ p x)(hW:∀c∈eT l,W (dG p c)=min (aV (B (dG p c)):Int) 20001):j3 p W l 0=min (aV (fG p B l):Int) 20001:=by
 have:=Ad p W B l (λs D=>Si s (λx hx=>hc x (List.mem_flatMap.2 ⟨s,D,hx⟩)) λc hc=>hW c (by rw[gZ];exact List.mem_flatMap.2 ⟨s,D,hc⟩)) 0 (by decide) (by decide);omega
theorem Ij{p:aj}(h:fF p){E:Env}{s:aa}{d:Nat}(hz:pV p E s d=0):mJ p s:=λhk=>by
 obtain⟨j,U,hn,_,O,_⟩:=Cu hz hk;have hf:=(Jy hz).1;unfold qJ at hf;rw[hk]at hf;simp only[show ¬(8:Int)=1 by decide,show ¬(8:Int)=2 by decide,show ¬(8:Int)=3 by decide,show ¬((8:Int)=4\/(8:Int)=5) by decide,show ¬(8:Int)=6 by decide,show ¬(8:Int)=7 by decide,if_false,if_true]at hf;obtain⟨_,h1,V⟩:=dB hf;refine⟨List.length_eq_zero_iff.1 h1,List.length_eq_zero_iff.1 V,?_⟩;have hq:fU p (dG p s.aT)=p.aA[j]:=by
  rw[<-hn,(uo h j U).1];unfold fU;rw[aX U]
  rfl
 rw[hq];unfold lJ at O;rw[aX U]at O
 dsimp only at O
 by_cases D:(p.aA[j]).bC.length≠s.bf.length
 .rw[if_pos D]at O;cases O
 .exact Classical.byContradiction D
theorem ru{p:aj}(h:fF p){E:Env}{l:List aa}(hz:∀c∈eH p E l 1,c=0):∀x∈l.flatMap aa.pre,mJ p x:=λx hx=>by
 obtain⟨d,D⟩:=zV p E l 1 x hx;exact Ij h (hz _ D)
theorem vR{p:aj}(h:fF p):∀(n i:Nat),i<p.aA.length->rankP p i<n->CV p n i=min (aV (j5 p n i):Int) 20001
 |0,_,_,hr=>absurd hr (dX _)
 |n+1,i,hi,hr=>by
  have hq:fU p i=p.aA[i]:=by unfold fU;rw[aX hi];rfl
  rw[CV,j5,qc,hq];refine Dp (ru h (h.proc i hi).1.eY) λc hc=>?_
  obtain⟨s,O,hk,rfl⟩:=wZ hc;obtain⟨h1,D⟩:=h.rank i hi s (by rw[hq];exact O) hk;exact vR h n _ D (by omega)
def tL(p:aj):Nat:=eF { p with aA:=[],eX:=[],eB:=[] }
theorem CU(p:aj):eF (pR p)=tL p+(p.aA.map λq=>q.bC.length).sum+aV (fG p (eU p) p.eX)+aV (fG p (eU p) p.eB):=by
 have e:(Tv p).length=(p.aA.map λq=>q.bC.length).sum:=by
  unfold Tv;rw[List.length_flatMap]
  congr 1
  exact dA λq _=>cZ _
 have D:(pR p).gp.length=p.gp.length+(Tv p).length:=ay;unfold tL eF;rw[D,e];show p.fB.length+p.ek.length+(p.gp.length+_)+p.fP.length+1+p.eD.pre.length+_+0+aV (fG p (eU p) p.eX)+aV (fG p (eU p) p.eB)+p.d9.pre.length=p.fB.length+p.ek.length+p.gp.length+p.fP.length+1+p.eD.pre.length+_+0+aV []+aV []+p.d9.pre.length+_+_+_;rw[gu];show _+(p.eQ.map λi=>1+i.bv.pre.length).sum+0+_+_+_=_+(p.eQ.map λi=>1+i.bv.pre.length).sum+0+0+0+_+_+_+_;omega
def lI(p:aj):Int:=min ((tL p:Int)+(p.aA.map λq=>q.bC.length).sum+j3 p (CV p (p.aA.length+1)) p.eX 0+j3 p (CV p (p.aA.length+1)) p.eB 0) 20001
theorem qy{p:aj}(h:fF p):lI p=min (eF (pR p):Int) 20001:=by
 have one:∀l:List aa,(∀c∈eH p outside l 1,c=0)->j3 p (CV p (p.aA.length+1)) l 0=min (aV (fG p (eU p) l):Int) 20001:=λl hz=>by
  refine Dp (ru h hz) λc hc=>?_
  obtain⟨s,V,hk,rfl⟩:=wZ hc;obtain⟨d,O⟩:=zV p outside l 1 s V;obtain⟨j,D,U,_⟩:=Cu (hz _ O) hk;rw[<-U,(uo h j D).1];exact vR h _ j D (by have:=ve p j;omega)
 unfold lI;rw[one _ h.eX,one _ h.eB,CU];omega

theorem y7{a:Act}(h:a.tmps.size=94)(D:a.defers=[]):∃F:Nat->Value,(∀i:Nat,F i=a.eval (.tmp i))/\a=⟨(F 0::F 1::F 2::F 3::F 4::F 5::F 6::F 7::F 8::F 9::F 10::F 11::F 12::F 13::F 14::F 15::F 16::F 17::F 18::F 19::F 20::F 21::F 22::F 23::F 24::F 25::F 26::F 27::F 28::F 29::F 30::F 31::F 32::F 33::F 34::F 35::F 36::F 37::F 38::F 39::F 40::F 41::F 42::F 43::F 44::F 45::F 46::F 47::F 48::F 49::F 50::F 51::F 52::F 53::F 54::F 55::F 56::F 57::F 58::F 59::F 60::F 61::F 62::F 63::F 64::F 65::F 66::F 67::F 68::F 69::F 70::F 71::F 72::F 73::F 74::F 75::F 76::F 77::F 78::F 79::F 80::F 81::F 82::F 83::F 84::F 85::F 86::F 87::F 88::F 89::F 90::F 91::F 92::F 93::[]).toArray,[]⟩:=⟨λi=>a.eval (.tmp i),λ_=>rfl,JW h D⟩
theorem IJ{p:aj}(h:eF p<=20000):(p.fB.length<=1000000/\p.ek.length<=1000000/\p.gp.length<=1000000/\p.fP.length<=1000000)/\p.eD.pre.length<=1000000/\p.d9.pre.length<=1000000/\aV p.eX<=1000000/\aV p.eB<=1000000:=by
 unfold eF at h;refine⟨⟨?_,?_,?_,?_⟩,?_,?_,?_,?_⟩<;>omega
theorem D7{W:World}{g:Nat}{cs:Array Value}{ty:TypeId}{fr:Nat × Nat}(h:W.heap[g]?=some (.cells cs ty fr))(ds:Array Value):(W.setRow g ds).heap[g]?=some (.cells ds ty fr):=bM _ _ _ _ _ _ h
theorem Qm{α:Type}{k lo:Nat}{enc:α->List Value}{e:TypeId}{W:World}{sp:Sp}{l:List α}(h:dz lo W e k enc (.slice sp.dO l.length sp.df) l)(O:l=[]){n:Nat}{W':World}:RowOf n W' sp k enc l:=by
 subst O;rcases h.2 with ⟨D,_⟩|⟨g,V,cur,D,h1,h2,h3,U,h5,h6⟩
 .cases sp
  injection D with e1 e2 e3;simp only at e1 e3;rw[e1,e3];exact RowOf.nil
 .cases sp
  injection D with e1 e2 e3;simp only at e1 e3;rw[e1,e3];exact⟨aH _,U,aH _,λh=>absurd h (by simp)⟩
theorem FH{lo g:Nat}{W:World}{cs:Array Value}{sp:Sp}{l:List aa}(h:j4 lo W sp l)(D:g<lo):j4 lo (W.setRow g cs) sp l :=
 ⟨by rw[eP];exact h.1.cells (xm D),λs O=>(h.2 s O).set D⟩
theorem wH{α:Type}{k lo g:Nat}{enc:α->List Value}{e:TypeId}{W:World}{cs:Array Value}{v:Value}{l:List α}(h:dz lo W e k enc v l)(D:g<lo):dz lo (W.setRow g cs) e k enc v l :=
 h.kept λb _ _ hb _=>dQ _ _ _ _ (by omega)
theorem zJ{lo:Nat}{W:World}{sp:Sp}{l:List bO}(h:dz lo W 50 3 bO.cells (.slice sp.dO l.length sp.df) l)(hl:l.length<=1000000):RowOf W.heap.size (gP lo W) sp 3 bO.cells l:=by
 obtain⟨D,e,hr,hb⟩:=h.row (λ_=>rfl) (by omega);have:D=sp:=by
  obtain⟨U,c1⟩:=sp;obtain⟨a2,c2⟩:=D;unfold Sp.val at e;injection e with e1 e2 e3;simp only at e1 e3;rw[e1,e3]
 subst this;exact hr.low' λa O=>(hb a O).1
section
def MR:Option Addr->DataW Unit
 |none=>.nil
 |some a=>.agg [.lit (.int .i64 a.block),.lit (.int .i64 a.off),match a.spot with|none=>.nil|some s=>.lit (.int .i64 s)]
def Te(x:Option Addr × Nat × Nat):DataW Unit:=.agg [MR x.1,.lit (.int .i64 x.2.1),.lit (.int .i64 x.2.2)]
def Uq:Value->Option (DataW Unit × List MemPlace)
 |.slice a n c=>some (Te (a,n,c),[])
 |_=>none
theorem O6{a b:Option Addr}(h:MR a=MR b):a=b:=by
 cases a with
 |none=>cases b with
  |none=>rfl
  |some b=>simp[MR]at h
 |some a=>cases b with
  |none=>simp[MR]at h
  |some b =>
   obtain⟨x,y,z⟩:=a;obtain⟨x',y',O⟩:=b;simp only[MR,DataW.agg.injEq,List.cons.injEq,DataW.lit.injEq,Lit.int.injEq,true_and,and_true]at h;obtain⟨h1,h2,D⟩:=h;have U:x=x':=by omega
   have V:y=y':=by omega
   have e3:z=O:=by
    cases z with
    |none=>cases O with
     |none=>rfl
     |some v=>simp at D
    |some v=>cases O with
     |none=>simp at D
     |some v' =>
      simp only[DataW.lit.injEq,Lit.int.injEq,true_and]at D;rw[show v=v' by omega]
   rw[U,V,e3]
def UK:vM Tryz.prog 33 (Option Addr × Nat × Nat) where
 val x:=.slice x.1 x.2.1 x.2.2
 dat:=Te
 read:=Uq
 put _:=rfl
 inv v z h:=by
  unfold Uq at h
  split at h
  .rename_i a n c
   cases h
   exact⟨(a,n,c),rfl,rfl⟩
  .cases h
 inj x y h:=by
  obtain⟨a,n,c⟩:=x;obtain⟨a',n',D⟩:=y;simp only[Te,DataW.agg.injEq,List.cons.injEq,DataW.lit.injEq,Lit.int.injEq,true_and,and_true]at h;obtain⟨h1,O,U⟩:=h;rw[O6 h1,show n=n' by omega,show c=D by omega]
 zero:=(none,0,0)
 zrun w:=by kernel_rfl
theorem FJ{α:Type}[DecidableEq α]:∀(D S:List α),D.Pairwise (·≠·)->(∀x∈D,x∈S)->D.length<=S.length
 |[],_,_,_=>aH _
 |x::D,S,h,O=>by
  rw[List.pairwise_cons]at h;have h1:=O x (aD ..);have V:=FJ D (S.erase x) h.2 λy U=>(List.mem_erase_of_ne (h.1 y U).symm).2 (O y (au _ U))
  have h3:=List.length_erase_of_mem h1;have h4:=List.length_pos_of_mem h1;rw[aF];omega
theorem iZ.tight{P:Program}{e k:TypeId}{α:Type}{C:vM P e α}{W:World}{b n:Nat}{f:Lit->Option α}(h:iZ C k W b n f)(K:Keyed P k)(S:List Lit)(V:∀l,WideAt.IsKeyLit l->(f l).isSome=true->l∈S):iZ C k W b S.length f:=by
 obtain⟨D,⟨es,O,hb,F,_,rfl⟩,U⟩:=h.ex;refine⟨_,⟨es,O,hb,F,?_,rfl⟩,U⟩
 haveI:DecidableEq Lit:=λa b=>Classical.propDecidable (a=b)
 have h1:=FJ ((es.toList.map (WideElems.rg P k C.read)).map (·.1)) S (by
  rw[List.pairwise_map];exact fit_apart K F) λl hl=>by
   obtain⟨p,hp,rfl⟩:=List.mem_map.1 hl;obtain⟨v,hv⟩:=fit_keys F p hp;have hk:=K.key hv;refine V _ hk ?_;rw[<-(U _ hk).1,Maps.has_eq,iy];exact⟨p,mem_sorted.2 hp,WideAt.sameKey_self hk⟩
 simpa using h1
structure jq where
 q:Nat
 bi:Nat
 bd:Nat
 bs:Nat
 p:aj
def jq.cells(K:jq):Array Value:=(K.p.cells++([.map (some K.bi),.map (some K.bd),.map (some K.bs)]:List Value)).toArray
structure mK(K:jq)(w:World):Prop where
 blk:w.heap[K.q]?=some (.cells K.cells 187 (0,0))
 idx:∃n,iZ uh 9 w K.bi n (og (look (eG K.p).reverse))
 prog:jT w.heap.size w K.p
 ne1:K.bi≠K.bd
 ne2:K.bi≠K.bs
 ne3:K.bd≠K.bs
def IsMap(w:World)(b:Nat):Prop:=∃es c,w.heap[b]?=some (.map es c)
theorem IsMap.lt{w:World}{b:Nat}(h:IsMap w b):b<w.heap.size:=by
 obtain⟨_,_,h⟩:=h;exact(dM h).1
theorem IsMap.no{w:World}{b:Nat}(h:IsMap w b){p:Addr}{u:Value}(hc:w.cell? p=some u):p.block≠b:=by
 obtain⟨es,c,h⟩:=h;rintro rfl;simp[World.cell?,h]at hc
theorem mQ{w w':World}{b:Nat}(h:Mk b w w')(hm:IsMap w b):∀(p:Addr) (u:Value),p.block<w.heap.size->w.cell? p=some u->w'.cell? p=some u :=
 λ_ _ hp hc=>(h.cell (hm.no hc) hp).trans hc
theorem Mk.rdTs{w w':World}{b:Nat}(h:Mk b w w')(hm:IsMap w b){sp:Sp}{l:List aa}(hr:gq w.heap.size w sp l):gq w'.heap.size w' sp l :=
 ⟨(hr.row.cells (mQ h hm)).more h.size,λt ht=>((hr.ok t ht).cells (mQ h hm)).more h.size⟩
theorem Mk.rdP{w w':World}{b:Nat}(h:Mk b w w')(hm:IsMap w b){p:aj}(hr:jT w.heap.size w p):jT w'.heap.size w' p :=
 (jT.cells hr (mQ h hm)).more h.size
theorem Mk.turned{w w':World}{b:Nat}(h:w.mapTurned w' b):Mk b w w':=by
 have D:=h.grown;refine⟨D.os,D.tape,D.output,by rw[gI,gI];exact D.size,λk hk=>?_⟩;by_cases e:k=b
 .subst e
  rw[mE,mE,if_pos hk,if_pos (aI hk D.size)]
 .rw[gz e,gz e]
  exact D.block k hk (by simpa using e)
theorem iZ.isMap{P:Program}{e k:TypeId}{α:Type}{C:vM P e α}{w:World}{b n:Nat}{f:Lit->Option α}(h:iZ C k w b n f):IsMap w b:=h.obj
theorem mK.on{K:jq}{w w':World}{b:Nat}(h:mK K w)(hk:Mk b w w')(hm:IsMap w b)(hb:b≠K.bi):mK K w' where
 blk:=by
  have hq:K.q≠b:=by
   rintro rfl;obtain⟨_,_,D⟩:=hm;rw[h.blk]at D;cases D
  exact(hk.heap hq (dM h.blk).1).trans h.blk
 idx:=by
  obtain⟨n,D⟩:=h.idx;exact⟨n,D.of_block (hk.heap (Ne.symm hb) D.lt)⟩
 prog:=hk.rdP hm h.prog
 ne1:=h.ne1
 ne2:=h.ne2
 ne3:=h.ne3
section
variable {K:jq}{w:World}(h:mK K w)
include h
theorem mK.cell(i:Nat)(v:Value)(D:K.cells[i]?=some v):w.cell? ⟨K.q,i,none⟩=some v:=by
 have hb:=h.blk;simp[World.cell?,hb,D]
theorem mK.c13:w.cell? ⟨K.q,13,none⟩=some (.slice K.p.rs.dO K.p.aA.length K.p.rs.df):=h.cell 13 _ rfl
theorem mK.c22:w.cell? ⟨K.q,22,none⟩=some (.map (some K.bi)):=h.cell 22 _ rfl
theorem mK.c23:w.cell? ⟨K.q,23,none⟩=some (.map (some K.bd)):=h.cell 23 _ rfl
theorem mK.c24:w.cell? ⟨K.q,24,none⟩=some (.map (some K.bs)):=h.cell 24 _ rfl
theorem mK.look{s:ByteArray}(O:s.size<=maxLen):(Instr.lookup 119 (.map (some K.bi)) (.string s) false).run Tryz.prog w=.ok (.int .i64 ((look (eG K.p).reverse s).getD 0)) w:=by
 obtain⟨n,D⟩:=h.idx;have:=D.look xH Tryz.underlying119 (zx O);rw[kR]at this;exact this
end
theorem xy(p:aj)(s:ByteArray):(look (eG p).reverse s).getD 0=(dG p s:Int):=by
 unfold dG;have:0<=(look (eG p).reverse s).getD 0:=by
  cases e:look (eG p).reverse s with
  |none=>exact Int.le_refl _
  |some i =>
   have hm:=Nk e;rw[List.mem_reverse]at hm;obtain⟨k,h1,_⟩:=wE _ _ _ _ hm;show 0<=i;omega
 omega
def wB(p:aj)(j:Nat):Int:=CV p (p.aA.length+1) j
structure CQ(K:jq)(w:World):Prop where
 ex:∃n f,iZ uh 3 w K.bs n (mg f)/\n<=K.p.aA.length/\∀i x,f i=some x->∃j:Nat,i=j/\j<K.p.aA.length/\x=wB K.p j
def fu(G:Nat->Bool)(W:World):World:={ W with heap:=W.heap.mapIdx λk o=>if G k=true then .cells #[] 0 else o }
theorem Dx(G:Nat->Bool)(W:World)(k:Nat):(fu G W).heap[k]?=(W.heap[k]?).map λo=>if G k=true then .cells #[] 0 else o:=by simp[fu]
theorem kw{G:Nat->Bool}{W:World}{p:Addr}{u:Value}:(fu G W).cell? p=some u↔G p.block=false/\W.cell? p=some u:=by
 by_cases h:G p.block=true
 .constructor
  .intro hc
   exfalso
   simp only[World.cell?,Dx]at hc;cases hh:W.heap[p.block]? with
   |none=>rw[hh]at hc;simp at hc
   |some o=>rw[hh]at hc;simp[h]at hc
  .intro hc;rw[h]at hc;cases hc.1
 .have D:G p.block=false:=by simpa using h
  have e:(fu G W).cell? p=W.cell? p:=aM (by
   rw[Dx];cases W.heap[p.block]? <;>simp[D])
  rw[e];exact⟨λhc=>⟨D,hc⟩,λhc=>hc.2⟩
theorem Tq{G G':Nat->Bool}{W W':World}(h:∀(p:Addr) (u:Value),p.block<W.heap.size->G p.block=false->W.cell? p=some u->G' p.block=false/\W'.cell? p=some u):∀(p:Addr) (u:Value),p.block<W.heap.size->(fu G W).cell? p=some u->(fu G' W').cell? p=some u:=λp u hp hc=>by
 obtain⟨h1,D⟩:=kw.1 hc;exact kw.2 (h p u hp h1 D)
theorem G6{G:Nat->Bool}{W:World}:∀(p:Addr) (u:Value),p.block<W.heap.size->(fu G W).cell? p=some u->W.cell? p=some u:=λ_ _ _ hc=>(kw.1 hc).2
structure Ah(G:Nat->Bool)(K:jq)(w:World):Prop where
 ex:∃n g,iZ UK 3 w K.bd n (mg g)/\n<=K.p.aA.length/\∀i x,g i=some x->∃(j:Nat) (m:List aa),i=j/\j<K.p.aA.length/\x.2.1=m.length/\gq w.heap.size (fu G w) ⟨x.1,x.2.2⟩ m/\m.map aJ=(eU K.p j).map aJ
theorem CQ.isMap{K:jq}{w:World}(h:CQ K w):IsMap w K.bs:=by
 obtain⟨_,_,h,_⟩:=h.ex;exact h.isMap
theorem Ah.isMap{G:Nat->Bool}{K:jq}{w:World}(h:Ah G K w):IsMap w K.bd:=by
 obtain⟨_,_,h,_⟩:=h.ex;exact h.isMap
theorem CQ.below{K:jq}{w w':World}(h:CQ K w)(hb:Below w.heap.size w w'):CQ K w':=by
 obtain⟨n,f,h1,D,O⟩:=h.ex;exact⟨n,f,h1.below hb h1.lt,D,O⟩
theorem mK.below{K:jq}{w w':World}(h:mK K w)(hb:Below w.heap.size w w'):mK K w' where
 blk:=(hb.block _ (dM h.blk).1).trans h.blk
 idx:=by
  obtain⟨n,D⟩:=h.idx;exact⟨n,D.below hb D.lt⟩
 prog:=(h.prog.below hb).more hb.size
 ne1:=h.ne1
 ne2:=h.ne2
 ne3:=h.ne3
theorem Ah.move{G G':Nat->Bool}{K:jq}{w w':World}(h:Ah G K w)(D:w.heap.size<=w'.heap.size)(hb:w'.heap[K.bd]?=w.heap[K.bd]?)(hc:∀(p:Addr) (u:Value),p.block<w.heap.size->(fu G w).cell? p=some u->(fu G' w').cell? p=some u):Ah G' K w':=by
 obtain⟨n,g,h1,O,U⟩:=h.ex;refine⟨n,g,h1.of_block hb,O,λi x hx=>?_⟩;obtain⟨j,m,a,b,c,d,e⟩:=U i x hx;exact⟨j,m,a,b,c,⟨(d.row.cells hc).more D,λt ht=>((d.ok t ht).cells hc).more D⟩,e⟩
theorem gq.move{G G':Nat->Bool}{w w':World}{sp:Sp}{l:List aa}(h:gq w.heap.size (fu G w) sp l)(D:w.heap.size<=w'.heap.size)(hc:∀(p:Addr) (u:Value),p.block<w.heap.size->(fu G w).cell? p=some u->(fu G' w').cell? p=some u):gq w'.heap.size (fu G' w') sp l :=
 ⟨(h.row.cells hc).more D,λt ht=>((h.ok t ht).cells hc).more D⟩
theorem lV.move{G G':Nat->Bool}{w w':World}{s:aa}(h:lV w.heap.size (fu G w) s)(D:w.heap.size<=w'.heap.size)(hc:∀(p:Addr) (u:Value),p.block<w.heap.size->(fu G w).cell? p=some u->(fu G' w').cell? p=some u):lV w'.heap.size (fu G' w') s:=(h.cells hc).more D
theorem jT.move{G G':Nat->Bool}{w w':World}{p:aj}(h:jT w.heap.size (fu G w) p)(D:w.heap.size<=w'.heap.size)(hc:∀(p:Addr) (u:Value),p.block<w.heap.size->(fu G w).cell? p=some u->(fu G' w').cell? p=some u):jT w'.heap.size (fu G' w') p:=(jT.cells h hc).more D
theorem mR{G:Nat->Bool}{w w':World}(hb:Below w.heap.size w w'):∀(p:Addr) (u:Value),p.block<w.heap.size->(fu G w).cell? p=some u->(fu G w').cell? p=some u:=Tq λ_ _ hp D hc=>⟨D,(hb.cell hp).trans hc⟩
theorem FC{G:Nat->Bool}{b:Nat}{w w':World}(hm:Mk b w w')(hi:IsMap w b):∀(p:Addr) (u:Value),p.block<w.heap.size->(fu G w).cell? p=some u->(fu G w').cell? p=some u:=Tq λ_ _ hp D hc=>⟨D,mQ hm hi _ _ hp hc⟩
theorem zD{G G':Nat->Bool}{w:World}(h:∀b,G b=false->G' b=false):∀(p:Addr) (u:Value),p.block<w.heap.size->(fu G w).cell? p=some u->(fu G' w).cell? p=some u:=Tq λ_ _ _ D hc=>⟨h _ D,hc⟩
theorem Ah.below{G:Nat->Bool}{K:jq}{w w':World}(h:Ah G K w)(hb:Below w.heap.size w w'):Ah G K w':=h.move hb.size (hb.block _ h.isMap.lt) (mR hb)
theorem UB{p:aj}(h:fF p)(i:Nat)(hi:i<p.aA.length):wB p i=j3 p (wB p) (fU p i).eY 0:=by
 have hq:fU p i=p.aA[i]:=by unfold fU;rw[aX hi];rfl
 have ab:=ve p i;have D:∀c∈eT (fU p i).eY,rankP p (dG p c)<rankP p i/\dG p c<p.aA.length:=λc hc=>by
  obtain⟨s,U,hk,rfl⟩:=wZ hc;exact h.rank i hi s U hk
 unfold wB;rw[vR h _ i hi (by omega),j5,qc];have V:fG p (j5 p p.aA.length) (fU p i).eY=fG p (eU p) (fU p i).eY:=yw p _ λs U c hc=>by
  obtain⟨h1,O⟩:=D c (by rw[gZ];exact List.mem_flatMap.2 ⟨s,U,hc⟩);exact xZ h.rank _ _ _ O (by omega) (by have:=ve p (dG p c);omega)
 rw[V];refine(Dp (ru h (by rw[hq];exact(h.proc i hi).1.eY)) λc hc=>?_).symm;obtain⟨_,O⟩:=D c hc;exact vR h _ _ O (by have:=ve p (dG p c);omega)
theorem Eb{P:Program}{e k:TypeId}{α:Type}{C:vM P e α}{W:World}{b n L:Nat}{f:Int->Option α}(h:iZ C k W b n (mg f))(K:Keyed P k)(hf:∀i x,f i=some x->∃j:Nat,i=j/\j<L):iZ C k W b L (mg f):=by
 have:=h.tight K ((List.range L).map λj:Nat=>Lit.int .i64 j) λl hl D=>by
  unfold mg at D
  split at D
  .rename_i i
   cases hx:f i with
   |none=>rw[hx]at D;cases D
   |some x =>
    obtain⟨j,rfl,O⟩:=hf i x hx;exact List.mem_map.2 ⟨j,List.mem_range.2 O,rfl⟩
  .cases D
 simpa using this
theorem CQ.put{K:jq}{w':World}{n:Nat}{f:Int->Option Int}(hf:∀i x,f i=some x->∃j:Nat,i=j/\j<K.p.aA.length/\x=wB K.p j){i:Nat}(hi:i<K.p.aA.length)
  (h:iZ uh 3 w' K.bs (n+1) (Bb (mg f) (.int .i64 i) (wB K.p i))):CQ K w':=by
 rw[uY]at h;have D:∀j x,(if j=(i:Int) then some (wB K.p i) else f j)=some x->∃m:Nat,j=m/\m<K.p.aA.length/\x=wB K.p m:=λj x hx=>by
  by_cases e:j=(i:Int)
  .rw[if_pos e]at hx
   exact⟨i,e,hi,(iL hx).symm⟩
  .rw[if_neg e]at hx
   exact hf j x hx
 exact⟨_,_,Eb h GM (λj x hx=>by obtain⟨m,a,b,_⟩:=D j x hx;exact⟨m,a,b⟩),af _,D⟩
end
theorem Ob{e:ah}(h:e.pre.length<=20000):mD (kX e.pre.length 0)=e.pre.length:=by
 rw[zb (by omega),Int.zero_add];unfold mD;rw[if_pos (by omega)]
theorem Kt(l:List ah)(k:Nat)(hk:k<l.length):dU (l.take (k+1))=dU (l.take k)+(l[k]).pre.length:=by
 unfold dU;rw[aG hk,aO,fo];simp
theorem Ev(l:List ah)(k:Nat):dU (l.take k)<=dU l:=by
 unfold dU
 conv=>rhs;rw[<-fA k l]
 rw[aO,fo];omega
def EM(K:jq)(i:Nat):Prop:=∀w,mK K w->CQ K w ->
 Calls Tryz.prog 201 #[.pointer (some ⟨K.q,0,none⟩),.int .i64 (i:Nat)] w λo w'=>o=.returned (.int .i64 (wB K.p i))/\Mk K.bs w w'/\CQ K w'
def qR(K:jq)(l:List aa):Prop:=∀w sp,mK K w->CQ K w->gq w.heap.size w sp l ->
 Calls Tryz.prog 167 #[.pointer (some ⟨K.q,0,none⟩),.slice sp.dO l.length sp.df] w λo w'=>o=.returned (.int .i64 (j3 K.p (wB K.p) l 0))/\Mk K.bs w w'/\CQ K w'
theorem q9{p:aj}(h:fF p)(i:Nat)(hi:i<p.aA.length):0<=wB p i/\wB p i<=20001:=by
 unfold wB;rw[vR h _ i hi (by have:=ve p i;omega)];omega
theorem qz{p:aj}{W:Nat->Int}:∀(l:List aa) (n:Int),0<=n->n<=20001->(∀s∈l,0<=OH p W s)->0<=j3 p W l n/\j3 p W l n<=20001
 |[],n,D,h1,_=>by rw[j3];exact⟨D,h1⟩
 |s::l,n,D,h1,h=>by
  rw[j3];have O:=h s (aD ..);exact qz l _ (by omega) (by omega) λt ht=>h t (au _ ht)
theorem GU{b:Nat}{w:World}(hb:b<w.heap.size):Mk b w w.drew:=Mk.of (ag _ _).drew hb
noncomputable def opsW12:Array Oper:=((Tryz.f167.body.bind (opsOf 12)).getD #[])
def GL(t:Nat):Bool:=decide (t<=4) || (decide (6<=t) && decide (t<=32)) || decide (49<=t)
theorem NI:jH opsW12 17 63 GL=true:=by kernel_rfl
theorem TG{a0:Act}{w0:World}{K:jq}(an:a0.tmps.size=63)(b7:Nat)(s:aa)(n1:Int)(f0:a0.tmps[0]?.getD undef=.pointer (some ⟨K.q,0,none⟩))(f5:a0.tmps[5]?.getD undef=.int .i64 n1)(f7:a0.tmps[7]?.getD undef=.pointer (some ⟨b7,0,none⟩))(aE:IntKind.i64.wrap ((s.bf.length:Int) - 1)=(s.bf.length:Int) - 1)(ba:IntKind.i64.wrap ((s.bf.length:Int) - 1+wB K.p (dG K.p s.aT))=(s.bf.length:Int) - 1+wB K.p (dG K.p s.aT))(bc:IntKind.i64.wrap (n1+((s.bf.length:Int) - 1+wB K.p (dG K.p s.aT)))=n1+((s.bf.length:Int) - 1+wB K.p (dG K.p s.aT)))(a9:s.aT.size<=maxLen)(V:EM K (dG K.p s.aT))
  (ad:w0.heap[b7]?=some (.cells s.r 43)) (hB:mK K w0) (hZ:CQ K w0) :
  (Code.region 12 opsW12 true).wp Tryz.prog (λe a w=>e=.normal/\a.tmps.size=63/\a.defers=a0.defers/\(∀t:Nat,GL t=true->a.tmps[t]?.getD undef=a0.tmps[t]?.getD undef)/\a.tmps[5]?.getD undef=.int .i64 (n1+((s.bf.length:Int) - 1+wB K.p (dG K.p s.aT)))/\Mk K.bs w0 w/\CQ K w) a0 w0:=by
 have ab:b7<w0.heap.size:=(dM ad).1;have O:=hZ.isMap;obtain⟨_,x1,x2,_,_,_⟩:=aR ad;refine lQ (n:=17) (sz:=63) (keep:=GL) rfl NI an (λ_ w=>Mk K.bs w0 w/\CQ K w) (λ_ w w'=>Mk K.bs w w') ⟨GU O.lt,hZ.below (ag _ _).drew⟩ ?_;have e:opsW12.toList=opsW12.toList:=rfl
 conv at e=>rhs;arg 1;whnf
 simp only at e;rw[e];clear e
 apply StepsF.exact rfl rfl rfl;exact λ_ _ h=>h;exact λw=>Mk.refl;rintro _ a _ ⟨-,⟨b,_⟩,c,_,_⟩;have f5:a.tmps[5]?.getD undef=_:=(b.at 16 (by kernel_rfl) (c 16 rfl)).trans f5;simp[go_sem,f5];exact rfl
 apply StepsF.exact rfl rfl rfl;exact λ_ _ h=>h;exact λw=>Mk.refl;rintro _ _ _ ⟨-,⟨_,_⟩,_,b,_⟩;simp[go_sem,(b 7 rfl).trans f7];exact rfl
 apply StepsF.exact rfl rfl rfl;exact λ_ _ h=>h;exact λw=>Mk.refl;rintro _ _ _ ⟨-,⟨_,b⟩,_,_,c⟩;have aq:=aB (c.1 rfl).2;have c2:=mQ b.1 O ⟨b7,2,none⟩ _ ab x2;simp[go_sem,aq,c2];exact rfl
 apply StepsF.exact rfl rfl rfl;exact λ_ _ h=>h;exact λw=>Mk.refl;rintro _ _ _ ⟨-,⟨_,_⟩,_,_,b⟩;simp[go_sem,aB (b.1 rfl).2];exact rfl
 apply StepsF.exact rfl rfl rfl;exact λ_ _ h=>h;exact λw=>Mk.refl;rintro _ _ _ ⟨-,⟨_,_⟩,_,_,b⟩;simp[go_sem,aB (b.1 rfl).2,aE];exact rfl
 apply StepsF.exact rfl rfl rfl;exact λ_ _ h=>h;exact λw=>Mk.refl;rintro _ _ _ ⟨-,⟨_,_⟩,_,b,_⟩;simp[go_sem,(b 0 rfl).trans f0];exact rfl
 apply StepsF.exact rfl rfl rfl;exact λ_ _ h=>h;exact λw=>Mk.refl;rintro _ _ _ ⟨-,⟨_,_⟩,_,b,_⟩;simp[go_sem,(b 0 rfl).trans f0];exact rfl
 apply StepsF.exact rfl rfl rfl;exact λ_ _ h=>h;exact λw=>Mk.refl;rintro _ _ _ ⟨-,⟨_,_⟩,_,_,b⟩;simp[go_sem,aB (b.1 rfl).2];exact rfl
 apply StepsF.exact rfl rfl rfl;exact λ_ _ h=>h;exact λw=>Mk.refl;rintro _ _ _ ⟨-,⟨_,_⟩,_,_,b⟩;simp[go_sem,aB (b.1 rfl).2];exact rfl
 apply StepsF.exact rfl rfl rfl;exact λ_ _ h=>h;exact λw=>Mk.refl;rintro _ _ _ ⟨-,⟨_,b⟩,_,_,c⟩;have a1:=aB (c.1 rfl).2;have bd:=(hB.on b.1 O (Ne.symm hB.ne2)).c22;simp[go_sem,a1,bd];exact rfl
 apply StepsF.exact rfl rfl rfl;exact λ_ _ h=>h;exact λw=>Mk.refl;rintro _ _ _ ⟨-,⟨_,_⟩,_,b,_⟩;simp[go_sem,(b 7 rfl).trans f7];exact rfl
 apply StepsF.exact rfl rfl rfl;exact λ_ _ h=>h;exact λw=>Mk.refl;rintro _ _ _ ⟨-,⟨_,b⟩,_,_,c⟩;have a4:=aB (c.1 rfl).2;have c1:=mQ b.1 O ⟨b7,1,none⟩ _ ab x1;simp[go_sem,a4,c1];exact rfl
 apply StepsF.exact rfl rfl rfl;exact λ_ _ h=>h;exact λw=>Mk.refl;rintro _ _ _ ⟨-,⟨_,b⟩,_,_,c⟩;have a3:=aB (c.1 rfl).2;have a5:=aB (c.2.1 rfl).2;have al:=(hB.on b.1 O (Ne.symm hB.ne2)).look a9;rw[xy]at al;simp[go_sem,a3,a5,al];exact rfl
 refine StepsF.any (λL v w=>v=.int .i64 (wB K.p (dG K.p s.aT))) rfl rfl ?_ ?_ ?_
 .exact λ_ _ _ _ _ _ _ hP=>hP
 .rintro L a w ⟨_,⟨_,hS⟩,_,_,U⟩
  have aw:=aB (U.1 rfl).2;have a6:=aB (U.2.1 rfl).2;refine Oper.wp_enter (f:=201) (args:=#[.pointer (some ⟨K.q,0,none⟩),.int .i64 (dG K.p s.aT:Nat)]) (w':=w) ?_ ?_
  .simp[go_sem,aw,a6]
  .refine(V w (hB.on hS.1 O (Ne.symm hB.ne2)) hS.2).mono ?_
   rintro o w' ⟨rfl,am,ao⟩;exact⟨_,rfl,_,rfl,λe=>(by cases e),rfl,⟨hS.1.trans am,ao⟩,am⟩
 apply StepsF.exact rfl rfl rfl;exact λ_ _ h=>h;exact λw=>Mk.refl;rintro _ _ _ ⟨-,⟨_,_⟩,_,_,b⟩;have ar:=aB (b.1 rfl).2;have a7:=aB (b.2.1 rfl).2;simp[go_sem,ar,a7,ba];exact rfl
 apply StepsF.exact rfl rfl rfl;exact λ_ _ h=>h;exact λw=>Mk.refl;rintro _ _ _ ⟨-,⟨_,_⟩,_,_,b⟩;have ap:=aB (b.1 rfl).2;have a8:=aB (b.2.1 rfl).2;simp[go_sem,ap,a8,bc];exact rfl
 apply StepsF.exact rfl rfl rfl;exact λ_ _ h=>h;exact λw=>Mk.refl;rintro _ _ _ ⟨-,⟨_,_⟩,_,_,b⟩;simp[go_sem,aB (b.1 rfl).2];exact rfl
 rintro L a w _ ⟨⟨-,hS⟩,D,hv⟩;exact⟨rfl,D.1.trans an,D.2.1,D.2.2,aB (hv 16),hS.1,hS.2⟩
noncomputable def opsW13:Array Oper:=((Tryz.f167.body.bind (opsOf 13)).getD #[])
def zu(t:Nat):Bool:=decide (t<=4) || (decide (6<=t) && decide (t<=48)) || decide (61<=t)
theorem NJ:jH opsW13 13 63 zu=true:=by kernel_rfl
theorem Qt{a0:Act}{w0:World}{K:jq}(an:a0.tmps.size=63)(b7:Nat)(s:aa)(n1:Int)(f0:a0.tmps[0]?.getD undef=.pointer (some ⟨K.q,0,none⟩))(f5:a0.tmps[5]?.getD undef=.int .i64 n1)(f7:a0.tmps[7]?.getD undef=.pointer (some ⟨b7,0,none⟩))(ba:IntKind.i64.wrap (n1+j3 K.p (wB K.p) s.gy 0)=n1+j3 K.p (wB K.p) s.gy 0)(bc:IntKind.i64.wrap (n1+j3 K.p (wB K.p) s.gy 0+j3 K.p (wB K.p) s.iD 0)=n1+j3 K.p (wB K.p) s.gy 0+j3 K.p (wB K.p) s.iD 0)(a8:qR K s.gy)(a7:qR K s.iD)(aE:gq w0.heap.size w0 s.ts s.gy)(a9:gq w0.heap.size w0 s.os s.iD)
  (am:w0.heap[b7]?=some (.cells s.r 43)) (hB:mK K w0) (hZ:CQ K w0) :
  (Code.region 13 opsW13 true).wp Tryz.prog (λe a w=>e=.normal/\a.tmps.size=63/\a.defers=a0.defers/\(∀t:Nat,zu t=true->a.tmps[t]?.getD undef=a0.tmps[t]?.getD undef)/\a.tmps[5]?.getD undef=.int .i64 (min (n1+j3 K.p (wB K.p) s.gy 0+j3 K.p (wB K.p) s.iD 0) 20001)/\Mk K.bs w0 w/\CQ K w) a0 w0:=by
 have al:b7<w0.heap.size:=(dM am).1;have O:=hZ.isMap;obtain⟨_,_,_,_,x4,x5⟩:=aR am;refine lQ (n:=13) (sz:=63) (keep:=zu) rfl NJ an (λ_ w=>Mk K.bs w0 w/\CQ K w) (λ_ w w'=>Mk K.bs w w') ⟨GU O.lt,hZ.below (ag _ _).drew⟩ ?_;have e:opsW13.toList=opsW13.toList:=rfl
 conv at e=>rhs;arg 1;whnf
 simp only at e;rw[e];clear e
 apply StepsF.exact rfl rfl rfl;exact λ_ _ h=>h;exact λw=>Mk.refl;rintro _ a _ ⟨-,⟨b,_⟩,c,_,_⟩;have f5:a.tmps[5]?.getD undef=_:=(b.at 12 (by kernel_rfl) (c 12 rfl)).trans f5;simp[go_sem,f5];exact rfl
 apply StepsF.exact rfl rfl rfl;exact λ_ _ h=>h;exact λw=>Mk.refl;rintro _ _ _ ⟨-,⟨_,_⟩,_,b,_⟩;simp[go_sem,(b 0 rfl).trans f0];exact rfl
 apply StepsF.exact rfl rfl rfl;exact λ_ _ h=>h;exact λw=>Mk.refl;rintro _ _ _ ⟨-,⟨_,_⟩,_,b,_⟩;simp[go_sem,(b 7 rfl).trans f7];exact rfl
 apply StepsF.exact rfl rfl rfl;exact λ_ _ h=>h;exact λw=>Mk.refl;rintro _ _ _ ⟨-,⟨_,b⟩,_,_,c⟩;have aq:=aB (c.1 rfl).2;have c4:=mQ b.1 O ⟨b7,4,none⟩ _ al x4;simp[go_sem,aq,c4];exact rfl
 refine StepsF.any (λL v w=>v=.int .i64 (j3 K.p (wB K.p) s.gy 0)) rfl rfl ?_ ?_ ?_
 .exact λ_ _ _ _ _ _ _ hP=>hP
 .rintro L a w ⟨_,⟨_,V⟩,_,_,D⟩
  have ap:=aB (D.1 rfl).2;have ar:=aB (D.2.1 rfl).2;refine Oper.wp_enter (f:=167) (args:=#[.pointer (some ⟨K.q,0,none⟩),.slice s.ts.dO s.gy.length s.ts.df]) (w':=w) ?_ ?_
  .simp[go_sem,ap,ar]
  .refine(a8 w s.ts (hB.on V.1 O (Ne.symm hB.ne2)) V.2 (V.1.rdTs O aE)).mono ?_
   rintro o w' ⟨rfl,ab,ad⟩;exact⟨_,rfl,_,rfl,λe=>(by cases e),rfl,⟨V.1.trans ab,ad⟩,ab⟩
 apply StepsF.exact rfl rfl rfl;exact λ_ _ h=>h;exact λw=>Mk.refl;rintro _ _ _ ⟨-,⟨_,_⟩,_,_,b⟩;have ao:=aB (b.1 rfl).2;have aw:=aB (b.2.1 rfl).2;simp[go_sem,ao,aw,ba];exact rfl
 apply StepsF.exact rfl rfl rfl;exact λ_ _ h=>h;exact λw=>Mk.refl;rintro _ _ _ ⟨-,⟨_,_⟩,_,b,_⟩;simp[go_sem,(b 0 rfl).trans f0];exact rfl
 apply StepsF.exact rfl rfl rfl;exact λ_ _ h=>h;exact λw=>Mk.refl;rintro _ _ _ ⟨-,⟨_,_⟩,_,b,_⟩;simp[go_sem,(b 7 rfl).trans f7];exact rfl
 apply StepsF.exact rfl rfl rfl;exact λ_ _ h=>h;exact λw=>Mk.refl;rintro _ _ _ ⟨-,⟨_,b⟩,_,_,c⟩;have a4:=aB (c.1 rfl).2;have c5:=mQ b.1 O ⟨b7,5,none⟩ _ al x5;simp[go_sem,a4,c5];exact rfl
 refine StepsF.any (λL v w=>v=.int .i64 (j3 K.p (wB K.p) s.iD 0)) rfl rfl ?_ ?_ ?_
 .exact λ_ _ _ _ _ _ _ hP=>hP
 .rintro L a w ⟨_,⟨_,V⟩,_,_,D⟩
  have a3:=aB (D.1 rfl).2;have a5:=aB (D.2.1 rfl).2;refine Oper.wp_enter (f:=167) (args:=#[.pointer (some ⟨K.q,0,none⟩),.slice s.os.dO s.iD.length s.os.df]) (w':=w) ?_ ?_
  .simp[go_sem,a3,a5]
  .refine(a7 w s.os (hB.on V.1 O (Ne.symm hB.ne2)) V.2 (V.1.rdTs O a9)).mono ?_
   rintro o w' ⟨rfl,ab,ad⟩;exact⟨_,rfl,_,rfl,λe=>(by cases e),rfl,⟨V.1.trans ab,ad⟩,ab⟩
 apply StepsF.exact rfl rfl rfl;exact λ_ _ h=>h;exact λw=>Mk.refl;rintro _ _ _ ⟨-,⟨_,_⟩,_,_,b⟩;have a1:=aB (b.1 rfl).2;have a6:=aB (b.2.1 rfl).2;simp[go_sem,a1,a6,bc];exact rfl
 apply StepsF.exact rfl rfl rfl;exact λ_ _ h=>h;exact λw=>Mk.refl;rintro _ _ _ ⟨-,⟨_,_⟩,_,_,b⟩;simp[go_sem,aB (b.1 rfl).2];exact rfl
 apply StepsF.exact rfl rfl rfl;exact λ_ _ h=>h;exact λw=>Mk.refl;rintro _ _ _ ⟨-,⟨_,_⟩,_,_,b⟩;simp[go_sem,aB (b.1 rfl).2];exact rfl
 rintro L a w _ ⟨⟨-,V⟩,U,hv⟩;exact⟨rfl,U.1.trans an,U.2.1,U.2.2,aB (hv 12),V.1,V.2⟩
theorem xE{p:aj}{W:Nat->Int}(hW:∀i,i<p.aA.length->0<=W i)(s:aa)(hc:∀x∈s.pre,x.bI=8->dG p x.aT<p.aA.length):0<=OH p W s:=by
 induction s using aa.ind with
 |h k n es ex b ts th os el O U =>
  have a:=(qz th 0 (by decide) (by decide) λt ht=>O t ht λx hx=>hc x (by
   rw[aa.pre_eq];exact au _ (cz _ (List.mem_flatMap.2 ⟨t,ht,hx⟩)))).1
  have c:=(qz el 0 (by decide) (by decide) λt ht=>U t ht λx hx=>hc x (by
   rw[aa.pre_eq];exact au _ (bF _ (List.mem_flatMap.2 ⟨t,ht,hx⟩)))).1
  have D:=hc (.mk k n es ex b ts th os el) (by rw[aa.pre_eq];exact aD ..);rw[OH];by_cases hk:k=8
  .have:=hW _ (D hk)
   change 0<=W (dG p n)at this;rw[if_pos hk];omega
  .rw[if_neg hk]
   omega
def CallsIn(p:aj)(s:aa):Prop:=∀x∈s.pre,x.bI=8->dG p x.aT<p.aA.length
theorem CallsIn.own{p:aj}{s:aa}(h:CallsIn p s)(hk:s.bI=8):dG p s.aT<p.aA.length:=h s (by rw[aa.pre_eq];exact aD ..) hk
theorem CallsIn.gy{p:aj}{s:aa}(h:CallsIn p s):∀t∈s.gy,CallsIn p t:=λt ht x hx=>h x (by
 rw[aa.pre_eq];exact au _ (cz _ (List.mem_flatMap.2 ⟨t,ht,hx⟩)))
theorem CallsIn.iD{p:aj}{s:aa}(h:CallsIn p s):∀t∈s.iD,CallsIn p t:=λt ht x hx=>h x (by
 rw[aa.pre_eq];exact au _ (bF _ (List.mem_flatMap.2 ⟨t,ht,hx⟩)))
theorem Ef{P:Program}{Q:Exit->Act->World->Prop}{a:Act}{w:World}{C C':Code}(h:C=C')(D:C'.wp P Q a w):C.wp P Q a w:=by subst h;exact D
theorem mo{x:Int}(h:-1000000<=x/\x<=1000000):IntKind.i64.wrap x=x:=wrap_small (by omega)
theorem Bp{K:jq}(cJ:fF K.p){l:List aa}(hw:aV l<=20000)(hc:∀s∈l,CallsIn K.p s)(hg:∀s∈l,s.bI=8->EM K (dG K.p s.aT))(ih:∀s∈l,qR K s.gy/\qR K s.iD):qR K l:=by
 intro w sp hB hZ hr;have HB:=ae hB;have HZ:=ae hZ;have HM:=ae hZ.isMap;have HR:=ae hr;have cC:=ae λ(i:Nat) (hi:i<l.length)=>ih _ (ak hi)
 have cY:=ae λ(i:Nat) (hi:i<l.length)=>hg _ (ak hi)
 have cW:=ae λ(i:Nat) (hi:i<l.length)=>hc _ (ak hi)
 have dl:=ae λ(i:Nat) (hi:i<l.length)=>ai (pE l _ (ak hi)) hw
 have dd:=ae cJ;have d2:=hr.row.few;clear hr hw hc hg ih hB hZ cJ;go_enter Tryz.func167,Tryz.ntmps167
 go_wp2_with fail
 go_loopw[12,5] (λc7 s5 wr=>∃(k:Nat) (n:Int),k<=l.length/\c7=.int .i64 k/\s5=.int .i64 n/\0<=n/\n<=20001/\j3 K.p (wB K.p) l 0=j3 K.p (wB K.p) (l.drop k) n/\Mk K.bs w wr/\CQ K wr) (λc7 _ _=>l.length - (intOf c7).toNat)
 case atStart=>exact⟨0,0,aH _,rfl,rfl,by decide,by decide,rfl,Mk.refl,HZ.o⟩
 case round =>
  obtain⟨k,n,hk,rfl,rfl,hn,eb,hd,cP,cQ⟩:=hrel;have HD:=ae hd;have HK:=ae cP;have HS:=ae cQ;clear hd cP cQ;have d8:(0:Int)<=(k:Int):=by omega
  by_cases U:k<l.length
  .obtain⟨g,o,eA,hg,hc⟩:=(HK.o.rdTs HM.o HR.o).row.row (by omega)
   have cj:=hc k U;have cH:Hid (j3 K.p (wB K.p) (l.drop k) n=j3 K.p (wB K.p) (l.drop (k+1)) (min (n+OH K.p (wB K.p) l[k]) 20001)):=ae (by rw[dR U,j3]);have cG:=ae ((HK.o.rdTs HM.o HR.o).ok _ (ak U));have cI:=ae (cC.o k U).1;have cA:=ae (cC.o k U).2;have da:=ae (cY.o k U);have ct:=ae (cW.o k U);have dk:=ae (dl.o k U);have dT:(k:Int)<(l.length:Int):=by omega
   clear hc;generalize l[k]=s at *;have k0:=cj 0 _ rfl;rw[bS]at k0;have k1:=cj 1 _ rfl;have k2:wr.cell? ⟨g,o+k*6+2,none⟩=some (.slice s.es.dO s.bf.length s.es.df):=cj 2 _ rfl;have k3:=cj 3 _ rfl;have k4:wr.cell? ⟨g,o+k*6+4,none⟩=some (.slice s.ts.dO s.gy.length s.ts.df):=cj 4 _ rfl;have k5:wr.cell? ⟨g,o+k*6+5,none⟩=some (.slice s.os.dO s.iD.length s.os.df):=cj 5 _ rfl;have al:=jc wr (.cells s.r 43);have cS:=gM wr (.cells s.r 43);have cV:=ae al;have cy:=ae (HS.o.below al);have cD:=ae (HK.o.trans (Mk.of al HS.o.isMap.lt));have am:=ae ((cG.o.stays al).more al.size);have cq:=ae cS;clear cj al cS HS cG cV;rw[eA];clear eA;go_upto_region 5 with fail
   clear k0 k1 k2 k3 k4 k5;generalize wr.alloc (.cells s.r 43)=W5 at *;generalize wr.heap.size=bx at *;have eg:=am.o.xs.row.few;have c3:Hid (dU s.bf<=20000):=ae (by have h1:=dk.o;rw[pz]at h1;omega);have cR:IntKind.i64.wrap (n+1)=n+1:=mo (by omega);go_upto_region 6 with fail
   clear cR;obtain⟨x0,x1,x2,x3,x4,x5⟩:=aR cq.o;go_upto_region 7 with fail
   clear x0 x1 x2 x3 x4 x5;go_loopw[21,5] (λc8 s5 wx=>∃k2:Nat,k2<=s.bf.length/\c8=.int .i64 (k2:Nat)/\s5=.int .i64 (n+1+(dU (s.bf.take k2):Int))/\Below W5.heap.size W5 wx) (λc8 _ _=>s.bf.length - (intOf c8).toNat)
   case atStart=>exact⟨0,aH _,rfl,by first|rfl|(congr 1;show _=n+1+((0:Nat):Int);omega),ag _ _⟩
   case round =>
    obtain⟨k2,dr,rfl,rfl,V⟩:=hrel;have du:(0:Int)<=(k2:Int):=by omega
    by_cases ab:k2<s.bf.length
    .obtain⟨ge,oe,eE,_,hce⟩:=(am.o.xs.row.below V).row (by omega)
     have O:=hce k2 ab;have dj:=ae (Kt s.bf k2 ab);have dq:=Ev s.bf k2;have dp:=Df (ak ab);have cX:=ae (am.o.xs.ok _ (ak ab));generalize s.bf[k2]=e at *;have k0:=O 0 _ rfl;rw[bS]at k0;have k1:=O 1 _ rfl;have dy:=O 2 _ rfl;have k3:=O 3 _ rfl;have k4:=O 4 _ rfl;have k5:wr.cell? ⟨ge,oe+k2*6+5,none⟩=some (.slice e.sp.dO e.cu.length e.sp.df):=O 5 _ rfl;have al:=jc wr (.cells e.r 30);have ck:=V.trans (al.mono V.size);have dv:=c3.o;have d7:(e.pre.length:Int)<=20000:=by omega
     have cT:=gM wr (.cells e.r 30);have cR:IntKind.i64.wrap (n+1+(dU (s.bf.take k2):Int)+(e.pre.length:Int))=n+1+(dU (s.bf.take k2):Int)+(e.pre.length:Int):=mo (by omega);have cL:∀W,Below W5.heap.size W5 W->Calls Tryz.prog 163 #[.agg e.r] W λo w'=>o=.returned (.int .i64 (e.pre.length:Nat))/\Below W.heap.size W w':=λW hW=>by
      have:=He W e ((cX.o.stays hW).more hW.size);rw[Ob (by omega)]at this;exact this
     have dg:=ae cL;have ef:(k2:Int)<(s.bf.length:Int):=by omega
     clear hce O al V cL dq dp dv;rw[eE];clear eE;go_upto_region 9 with fail
     clear k0 k1 dy k3 k4 k5;generalize wr.alloc (.cells e.r 30)=W8 at *;generalize wr.heap.size=d3 at *;obtain⟨x0,x1,x2,x3,x4,x5⟩:=aR cT;clear cT;go_wp2_with fail
     refine(dg.o _ ck).mono ?_;rintro o w9 ⟨rfl,cN⟩;have dc:=ae (ck.trans (cN.mono ck.size));clear cN ck x0 x1 x2 x3 x4 x5;go_wp2_with fail
     exact⟨⟨k2+1,ab,rfl,by rw[dj.o];congr 1;omega,dc.o⟩,by simp only[intOf];omega⟩
    .obtain rfl:k2=s.bf.length:=by omega
     rw[bW];have a1:=ae ((V.block _ (dM cq.o).1).trans cq.o);have aw:=ae (cy.o.below V);have co:=ae (cD.o.trans (Mk.of V cy.o.isMap.lt));have cm:=ae (HB.o.on co.o HM.o (Ne.symm HB.o.ne2));have cp:=ae ((am.o.stays V).more V.size);obtain⟨X,cM⟩:∃x:Int,(dU s.bf:Int)=x:=⟨_,rfl⟩;have d5:0<=X:=by omega
     have d6:X<=20000:=by have:=c3.o;omega
     have d1:(s.bf.length:Int)<=20000:=by have h1:=zz s.bf;have:=c3.o;omega
     have c4:=λi (hi:i<K.p.aA.length)=>q9 dd.o i hi
     have hA:=qz (p:=K.p) (W:=wB K.p) s.gy 0 (by decide) (by decide) λt ht=>xE (λi hi=>(c4 i hi).1) t (ct.o.gy t ht)
     have d4:=qz (p:=K.p) (W:=wB K.p) s.iD 0 (by decide) (by decide) λt ht=>xE (λi hi=>(c4 i hi).1) t (ct.o.iD t ht)
     have c5:OH K.p (wB K.p) s=1+(dU s.bf:Int)+(if s.bI=8 then(s.bf.length:Int) - 1+wB K.p (dG K.p s.aT) else 0)+j3 K.p (wB K.p) s.gy 0+j3 K.p (wB K.p) s.iD 0:=by
      cases s
      rw[OH]
      rfl
     rw[cM]at c5 ⊢;have cn:=ae c5;obtain⟨x0,x1,x2,x3,x4,x5⟩:=aR a1.o;clear V ab dr cM cq cy cD am c5 du;have cx:=ae cp.o.kS;have cw:=ae cp.o.ko;have dt:s.aT.size<=maxLen:=by cases cp.o;assumption
     by_cases cl:s.bI=8
     .have c6:(s.bI == 8)=true:=by simp[cl]
      have ee:=c4 _ (ct.o.own cl);have HG:=ae (da.o cl);rw[if_pos cl]at cn;go_upto_region 12 with fail
      clear x0 x1 x2 x3 x4 x5 c6;refine dK ?_ (Ef (C':=.region 12 opsW12 true) (by kernel_rfl) (TG rfl bx s (n+1+X) rfl rfl rfl (mo (by omega)) (mo (by omega)) (mo (by omega)) dt HG.o a1.o cm.o aw.o));rintro ex a9 w7 ⟨rfl,D,an,ap,h5,ad,cr⟩;obtain⟨F,hF,ao⟩:=nu D an ap rfl [5,33,34,35,36,37,38,39,40,41,42,43,44,45,46,47,48] rfl;rw[ao];simp only[Oz,OA,OB,Oy,OC];have g5:F 5=.int .i64 (n+1+X+((s.bf.length:Int) - 1+wB K.p (dG K.p s.aT))):=(hF 5).trans (bz h5);rw[g5];clear hF ao ap D an g5 h5;have db:=ae (co.o.trans ad);have dn:=ae ((ad.heap (by rintro rfl;obtain⟨_,_,h2⟩:=aw.o.isMap;rw[a1.o]at h2;cases h2) (dM a1.o).1).trans a1.o);have cU:=ae (cm.o.on ad aw.o.isMap (Ne.symm HB.o.ne2));have de:=ae cr;have cF:=ae (ad.rdTs aw.o.isMap cx.o);have cE:=ae (ad.rdTs aw.o.isMap cw.o);clear ad cr co a1 cm aw cx cw cp;go_upto_region 13 with fail
      refine dK ?_ (Ef (C':=.region 13 opsW13 true) (by kernel_rfl) (Qt rfl bx s (n+1+X+((s.bf.length:Int) - 1+wB K.p (dG K.p s.aT))) rfl rfl rfl (mo (by omega)) (mo (by omega)) cI.o cA.o cF.o cE.o dn.o cU.o de.o));rintro ex a9 w8 ⟨rfl,D,an,ap,h5,aq,ar⟩;obtain⟨G,hF,ao⟩:=Cs D;rw[ao,an];simp only[List.range,List.range.loop,List.map];have gk:∀i:Nat,zu i=true->G i=_:=λi hi=>(hF i).trans (bz (ap i hi))
      have g5:G 5=.int .i64 (min (n+1+X+((s.bf.length:Int) - 1+wB K.p (dG K.p s.aT))+j3 K.p (wB K.p) s.gy 0+j3 K.p (wB K.p) s.iD 0) 20001):=(hF 5).trans (bz h5);obtain⟨g0,g1,g2,g3,g4⟩:=TU gk rfl;have g6:=gk 6 rfl;have g7:=gk 7 rfl;have g8:=gk 8 rfl;have g9:=gk 9 rfl;obtain⟨a3,a4,a5,a6,a7,a8,aE,ba,bc,bd⟩:=Sk gk rfl;obtain⟨be,bh,bi,bj,bk,bl,bm,bo,br,bt⟩:=TR gk rfl;obtain⟨bw,b0,b1,b2,b3,b4,b5,b6,b7,b8⟩:=TS gk rfl;obtain⟨b9,bC,ca,cb,cc⟩:=UE gk rfl;have cd:=gk 45 rfl;have ce:=gk 46 rfl;have cf:=gk 47 rfl;have cg:=gk 48 rfl;have ch:=gk 61 rfl;have ci:=gk 62 rfl;simp only[List.getElem?_toArray,bD,dm,iq]at g0 g1 g2 g3 g4 g6 g7 g8 g9 a3 a4 a5 a6 a7 a8 aE ba bc bd be bh bi bj bk bl bm bo br bt bw b0 b1 b2 b3 b4 b5 b6 b7 b8 b9 bC ca cb cc cd ce cf cg ch ci;rw[g5,g0,g1,g2,g3,g4,g6,g7,g8,g9,a3,a4,a5,a6,a7,a8,aE,ba,bc,bd,be,bh,bi,bj,bk,bl,bm,bo,br,bt,bw,b0,b1,b2,b3,b4,b5,b6,b7,b8,b9,bC,ca,cb,cc,cd,ce,cf,cg,ch,ci];clear gk hF ao ap D an g5 h5 g0 g1 g2 g3 g4 g6 g7 g8 g9 a3 a4 a5 a6 a7 a8 aE ba bc bd be bh bi bj bk bl bm bo br bt bw b0 b1 b2 b3 b4 b5 b6 b7 b8 b9 bC ca cb cc cd ce cf cg ch ci;have cv:=ae (db.o.trans aq);have c0:=ae ar;clear aq ar;go_wp2_with fail
      exact⟨⟨k+1,_,U,rfl,rfl,by omega,by omega,by rw[HD.o,cH.o,cn.o];congr 1;omega,cv.o,c0.o⟩,by simp only[intOf];omega⟩
     .have c6:(s.bI == 8)=false:=by simp[cl]
      rw[if_neg cl]at cn;go_upto_region 13 with fail
      clear x0 x1 x2 x3 x4 x5 c6;refine dK ?_ (Ef (C':=.region 13 opsW13 true) (by kernel_rfl) (Qt rfl bx s (n+1+X) rfl rfl rfl (mo (by omega)) (mo (by omega)) cI.o cA.o cx.o cw.o a1.o cm.o aw.o));rintro ex a9 w8 ⟨rfl,D,an,ap,h5,aq,ar⟩;obtain⟨G,hF,ao⟩:=Cs D;rw[ao,an];simp only[List.range,List.range.loop,List.map];have gk:∀i:Nat,zu i=true->G i=_:=λi hi=>(hF i).trans (bz (ap i hi))
      have g5:G 5=.int .i64 (min (n+1+X+j3 K.p (wB K.p) s.gy 0+j3 K.p (wB K.p) s.iD 0) 20001):=(hF 5).trans (bz h5);obtain⟨g0,g1,g2,g3,g4⟩:=TU gk rfl;have g6:=gk 6 rfl;have g7:=gk 7 rfl;have g8:=gk 8 rfl;have g9:=gk 9 rfl;obtain⟨a3,a4,a5,a6,a7,a8,aE,ba,bc,bd⟩:=Sk gk rfl;obtain⟨be,bh,bi,bj,bk,bl,bm,bo,br,bt⟩:=TR gk rfl;obtain⟨bw,b0,b1,b2,b3,b4,b5,b6,b7,b8⟩:=TS gk rfl;obtain⟨b9,bC,ca,cb,cc⟩:=UE gk rfl;have cd:=gk 45 rfl;have ce:=gk 46 rfl;have cf:=gk 47 rfl;have cg:=gk 48 rfl;have ch:=gk 61 rfl;have ci:=gk 62 rfl;simp only[List.getElem?_toArray,bD,dm,iq]at g0 g1 g2 g3 g4 g6 g7 g8 g9 a3 a4 a5 a6 a7 a8 aE ba bc bd be bh bi bj bk bl bm bo br bt bw b0 b1 b2 b3 b4 b5 b6 b7 b8 b9 bC ca cb cc cd ce cf cg ch ci;rw[g5,g0,g1,g2,g3,g4,g6,g7,g8,g9,a3,a4,a5,a6,a7,a8,aE,ba,bc,bd,be,bh,bi,bj,bk,bl,bm,bo,br,bt,bw,b0,b1,b2,b3,b4,b5,b6,b7,b8,b9,bC,ca,cb,cc,cd,ce,cf,cg,ch,ci];clear gk hF ao ap D an g5 h5 g0 g1 g2 g3 g4 g6 g7 g8 g9 a3 a4 a5 a6 a7 a8 aE ba bc bd be bh bi bj bk bl bm bo br bt bw b0 b1 b2 b3 b4 b5 b6 b7 b8 b9 bC ca cb cc cd ce cf cg ch ci;have cv:=ae (co.o.trans aq);have c0:=ae ar;clear aq ar;go_wp2_with fail
      exact⟨⟨k+1,_,U,rfl,rfl,by omega,by omega,by rw[HD.o,cH.o,cn.o];congr 1;omega,cv.o,c0.o⟩,by simp only[intOf];omega⟩
  .obtain rfl:k=l.length:=by omega
   have e0:j3 K.p (wB K.p) l 0=n:=by
    rw[HD.o,fD,j3]
   have E0:=ae e0;clear U e0 hk;go_wp2_with fail
   go_ret
   exact⟨by rw[E0.o];rfl,HK.o,HS.o⟩
theorem Sg{K:jq}(al:fF K.p){i:Nat}(hi:i<K.p.aA.length)(D:qR K (fU K.p i).eY):EM K i:=by
 intro w hB hZ;have hq:fU K.p i=K.p.aA[i]:=by unfold fU;rw[aX hi];rfl
 have bl:K.p.aA.length<=16:=(al.few (λh=>by rw[h]at hi;exact absurd hi (dX _))).1;obtain⟨g,o,eA,hg,hc⟩:=hB.prog.prow.row (by omega);have aq:=hc i hi;have aw:=hB.prog.aA _ (ak hi);have am:wB K.p i=j3 K.p (wB K.p) (fU K.p i).eY 0:=UB al i hi;have bi:=q9 al i hi;rw[hq]at D am;generalize K.p.aA[i]=q at *;have k2:w.cell? ⟨g,o+i*3+2,none⟩=some (.slice q.bs.dO q.eY.length q.bs.df):=aq 2 _ rfl;have an:keyOf Tryz.prog 3 (.int .i64 (i:Int))=some (.int .i64 (i:Int)):=Tp (by
  have:(i:Int)<=1000:=by omega
  simp only[Lit.wf,bg,aU];exact⟨by show(-9223372036854775808:Int)<=i;omega,by show(i:Int)<=9223372036854775807;omega⟩)
 have HM:=ae hZ.isMap;obtain⟨n,f,U,hn,hf⟩:=hZ.ex;have O:=U.look_ok GM Tryz.underlying185 an;have ap:=hB.c13;have bc:=hB.c24;rw[eA]at ap;have bj:(0:Int)<=(i:Int):=by omega
 have bk:(i:Int)<(K.p.aA.length:Int):=by omega
 have HB:=ae hB;have HZ:=ae hZ;have a6:=ae D;have a5:=ae am;have a7:=ae aw.eY;have aE:=ae an;clear hB hZ D am hc aq aw hq an hg;cases hfi:f i with
 |some x =>
  obtain⟨j,hj,_,rfl⟩:=hf _ _ hfi;obtain rfl:i=j:=by omega
  have ad:(Instr.lookup 185 (.map (some K.bs)) (.int .i64 (i:Int)) true).run Tryz.prog w=.ok (.tuple #[.int .i64 (wB K.p i),.bool true]) w:=by
   have e1:mg f (.int .i64 (i:Int))=some (wB K.p i):=hfi;rw[e1]at O;exact O
  clear O hfi hf U hn eA;go_enter Tryz.func201,Tryz.ntmps201
  go_wp2_with fail
  go_ret
  exact⟨rfl,Mk.refl,HZ.o⟩
 |none =>
  have ad:(Instr.lookup 185 (.map (some K.bs)) (.int .i64 (i:Int)) true).run Tryz.prog w=.ok (.tuple #[.int .i64 0,.bool false]) w:=by
   have e1:mg f (.int .i64 (i:Int))=none:=hfi;rw[e1]at O;exact O
  clear O hfi hf U hn eA;go_enter Tryz.func201,Tryz.ntmps201
  go_wp2_with fail
  refine(a6.o w q.bs HB.o HZ.o a7.o).mono ?_;rintro o1 w1 ⟨rfl,ao,a1⟩;have a8:=ae ao;have be:=(HB.o.on ao HM.o (Ne.symm HB.o.ne2)).c24;obtain⟨n1,f1,V,bd,ar⟩:=a1.ex;obtain⟨w2,a3,ab,a4⟩:=V.store GM Tryz.underlying185 (by unfold maxLen;omega) aE.o (wB K.p i);have bh:(Instr.mapUpdate 185 (.map (some K.bs)) (.int .i64 (i:Int)) (.int .i64 (wB K.p i))).run Tryz.prog w1=.ok () w2:=a3;have ba:=ae (CQ.put ar hi ab);have a9:=ae (a8.o.trans (Mk.turned a4));rw[<-a5.o];clear ao a1 V bd ar a3 ab a4 ad ap bc k2;go_wp2_with fail
  go_ret
  exact⟨rfl,a9.o,ba.o⟩
theorem Jo{p:aj}(h:fF p):eF p<=20000:=by
 have D:=h _ (by unfold jf;exact aD ..);unfold kZ at D;by_cases a:p.iF<1\/p.iF>8\/ik p.aS=false
 .rw[if_pos a]at D;cases D
 .rw[if_neg a]at D
  by_cases b:p.fB.length>16\/p.ek.length>16\/(p.gp.length:Int)>jd p 16 256\/p.fP.length>16\/p.aA.length>16\/(eF p:Int)>jd p 2000 20000
  .rw[if_pos b]at D;cases D
  .have e:jd p 2000 20000<=20000:=by
    unfold jd
    split<;>omega
   omega
theorem Na{p:aj}:aV p.eX+aV p.eB<=eF p:=by unfold eF;omega
theorem Ku{p:aj}{q:bG}(hq:q∈p.aA):aV q.eY<=eF p:=by
 have h1:=CE jy p.aA q hq;have D:aV q.eY<=jy q:=by unfold jy;omega
 unfold eF;omega
theorem qH{p:aj}(h:fF p){E:Env}{l:List aa}(hz:∀c∈eH p E l 1,c=0):∀s∈l,CallsIn p s:=λs V x hx hk=>by
 obtain⟨d,O⟩:=zV p E l 1 x (List.mem_flatMap.2 ⟨s,V,hx⟩);obtain⟨j,D,U,_⟩:=Cu (hz _ O) hk;rw[<-U,(uo h j D).1];exact D
theorem QS{K:jq}(D:fF K.p)(s:aa):aV [s]<=20000->CallsIn K.p s->(∀x∈s.pre,x.bI=8->EM K (dG K.p x.aT))->qR K s.gy/\qR K s.iD:=by
 induction s using aa.ind with
 |h k n es ex b ts th os el i1 i2 =>
  intro hl hc V;rw[pz]at hl;have U:∀t∈th,∀x∈t.pre,x∈(aa.mk k n es ex b ts th os el).pre:=λt ht x hx=>by
   rw[aa.pre_eq];exact au _ (cz _ (List.mem_flatMap.2 ⟨t,ht,hx⟩))
  have O:∀t∈el,∀x∈t.pre,x∈(aa.mk k n es ex b ts th os el).pre:=λt ht x hx=>by
   rw[aa.pre_eq];exact au _ (bF _ (List.mem_flatMap.2 ⟨t,ht,hx⟩))
  have own:∀t:aa,t∈t.pre:=λt=>by rw[aa.pre_eq];exact aD ..
  exact⟨Bp D (by omega) hc.gy (λt ht hk=>V t (U t ht t (own t)) hk) λt ht=>i1 t ht (ai (pE _ t ht) (by omega)) (hc.gy t ht) λx hx=>V x (U t ht x hx),
   Bp D (by omega) hc.iD (λt ht hk=>V t (O t ht t (own t)) hk) λt ht=>i2 t ht (ai (pE _ t ht) (by omega)) (hc.iD t ht) λx hx=>V x (O t ht x hx)⟩
theorem F7{K:jq}(D:fF K.p){l:List aa}(hl:aV l<=20000)(hc:∀s∈l,CallsIn K.p s)(U:∀s∈l,∀x∈s.pre,x.bI=8->EM K (dG K.p x.aT)):qR K l :=
 Bp D hl hc (λs O hk=>U s O s (by rw[aa.pre_eq];exact aD ..) hk) λs O=>QS D s (ai (pE l s O) hl) (hc s O) (U s O)
theorem Mv{K:jq}(D:fF K.p):∀(r i:Nat),i<K.p.aA.length->rankP K.p i<r->EM K i
 |0,_,_,h=>absurd h (dX _)
 |r+1,i,hi,h=>by
  have hq:fU K.p i=K.p.aA[i]:=by unfold fU;rw[aX hi];rfl
  refine Sg D hi (F7 D (ai (Ku (by rw[hq];exact ak hi)) (Jo D)) ?_ λs U x hx hk=>?_)
  .rw[hq]
   exact qH D (D.proc i hi).1.eY
  .obtain⟨h1,O⟩:=D.rank i hi x (List.mem_flatMap.2 ⟨s,U,hx⟩) hk
   exact Mv D r _ O (by omega)
theorem JI{K:jq}(D:fF K.p){l:List aa}(hl:aV l<=20000)(hc:∀s∈l,CallsIn K.p s):qR K l :=
 F7 D hl hc λs O x hx hk=>Mv D _ _ (hc s O x hx hk) (bN _)

section
theorem DL(g:uz)(e:ah):bX (Ai g e)=Ai g (bX e):=by
 induction e using ah.ind with
 |h k o v w n sp l O =>
  rw[yC,jW,jW,yC,dw,dw]
  congr 1
  exact dA λs D=>O s D
theorem zF(g h:uz)(s:aa):aJ (tF g h s)=tF g h (aJ s):=by
 induction s using aa.ind with
 |h k n es ex b ts th os el i1 i2 =>
  rw[yB,dS,dS,yB,dw,dw,dw,dw,dw,dw];have O:ex.map (bX ∘ Ai g)=ex.map (Ai g ∘ bX):=dA λe _=>DL g e
  have U:th.map (aJ ∘ tF g h)=th.map (tF g h ∘ aJ):=dA λs D=>i1 s D
  have V:el.map (aJ ∘ tF g h)=el.map (tF g h ∘ aJ):=dA λs D=>i2 s D
  rw[O,U,V]
theorem NS{a b:bG}(hq:gF a=gF b){l m:List aa}(h:l.map aJ=m.map aJ):(Ld a l).map aJ=(Ld b m).map aJ:=by
 have D:a.aT=b.aT:=(congrArg bG.aT hq:(gF a).aT=(gF b).aT);have hp:a.bC=b.bC:=(congrArg bG.bC hq:(gF a).bC=(gF b).bC);have O:∀d,kC a d=kC b d:=λd=>by unfold kC;rw[D]
 have each:∀(ds:List bO) (l m:List aa),l.map aJ=m.map aJ->(ds.foldl (λl d=>l.map (tF (Sz d.aT (kC a d)) (Sy d.aT (kC a d)))) l).map aJ=(ds.foldl (λl d=>l.map (tF (Sz d.aT (kC b d)) (Sy d.aT (kC b d)))) m).map aJ:=λds=>by
  induction ds with
  |nil=>exact λ_ _ h=>h
  |cons d ds U =>
   intro l m h;rw[il,il];refine U _ _ ?_;rw[O d];have e:∀l:List aa,(l.map (tF (Sz d.aT (kC b d)) (Sy d.aT (kC b d)))).map aJ=(l.map aJ).map (tF (Sz d.aT (kC b d)) (Sy d.aT (kC b d))):=λl=>by
    rw[dw,dw];exact dA λs _=>zF _ _ s
   rw[e,e,h]
 unfold Ld;rw[hp];exact each _ _ _ h
theorem Ey{l m:List bG}(h:l.map bG.aT=m.map bG.aT):∀n,numbered bG.aT l n=numbered bG.aT m n:=by
 induction l generalizing m with
 |nil =>
  cases m with
  |nil=>exact λ_=>rfl
  |cons y m=>cases h
 |cons x l D =>
  cases m with
  |nil=>cases h
  |cons y m =>
   rw[ax,ax]at h;injection h with h1 h2;intro n;rw[numbered,numbered,h1,D h2]
section
variable {p q:aj}
theorem zN(h:p.aA.map gF=q.aA.map gF):eG p=eG q:=by
 have:p.aA.map bG.aT=q.aA.map bG.aT:=by
  have e:=congrArg (List.map bG.aT) h;rw[dw,dw]at e;exact e
 exact Ey this 0
theorem uW(h:p.aA.map gF=q.aA.map gF)(i:Nat):gF (fU p i)=gF (fU q i):=by
 have e:=congrArg (λl=>l[i]?) h;simp only[iK]at e;unfold fU;cases h1:p.aA[i]? with
 |none =>
  rw[h1]at e;cases h2:q.aA[i]? with
  |none=>rfl
  |some y=>rw[h2]at e;cases e
 |some x =>
  rw[h1]at e;cases h2:q.aA[i]? with
  |none=>rw[h2]at e;cases e
  |some y=>rw[h2]at e;exact iL e
theorem Lj{a b:bG}(hq:gF a=gF b){l m:List ah}(h:l.map bX=m.map bX):(qO a l).map aJ=(qO b m).map aJ:=by
 have D:a.aT=b.aT:=(congrArg bG.aT hq:(gF a).aT=(gF b).aT);have hp:a.bC=b.bC:=(congrArg bG.bC hq:(gF a).bC=(gF b).bC);have O:∀d,kC a d=kC b d:=λd=>by unfold kC;rw[D]
 unfold qO;rw[hp];generalize b.bC=ds;induction ds generalizing l m with
 |nil=>rfl
 |cons d ds U =>
  cases l with
  |nil =>
   cases m with
   |nil=>rfl
   |cons y m=>cases h
  |cons x l =>
   cases m with
   |nil=>cases h
   |cons y m =>
    rw[ax,ax]at h;injection h with h1 h2;rw[List.zip_cons_cons,List.zip_cons_cons,ax,ax,ax,ax,U h2,O d]
    congr 1
    unfold yH;simp only[dS,ax,dh,h1]
theorem xh{B D:Nat->List aa}:∀(l m:List aa),(∀s∈l,∀t,aJ s=aJ t->(inT p B s).map aJ=(inT q D t).map aJ)->l.map aJ=m.map aJ->(fG p B l).map aJ=(fG q D m).map aJ
 |[],[],_,_=>by rw[fG,fG]
 |[],_::_,_,h=>by cases h
 |_::_,[],_,h=>by cases h
 |s::l,t::m,O,h=>by
  rw[ax,ax]at h;injection h with h1 h2;rw[fG,fG,aO,aO,O s (aD ..) t h1,xh l m (λx hx=>O x (au _ hx)) h2]
theorem PD(h:p.aA.map gF=q.aA.map gF){B U:Nat->List aa}(hB:∀i,(B i).map aJ=(U i).map aJ)(s:aa):∀t,aJ s=aJ t->(inT p B s).map aJ=(inT q U t).map aJ:=by
 have hI:∀n,dG p n=dG q n:=λn=>by unfold dG;rw[zN h]
 induction s using aa.ind with
 |h k n es ex b ts th os el i1 i2 =>
  intro t ht;obtain⟨k',n',V,ab,b',al,O,ad,D⟩:=t;rw[dS,dS]at ht;injection ht with h1 h2 h3 h4 h5 h6 h7 h8 h9;subst h1 h2 h5;rw[inT,inT];by_cases hk:k=8
  .rw[if_pos hk,if_pos hk,aO,aO,hI n,hB,Lj (uW h _) h4]
  .simp only[if_neg hk,ax,dh,dS]
   rw[h4,xh th O i1 h7,xh el D i2 h9]
theorem xg(h:p.aA.map gF=q.aA.map gF){B D:Nat->List aa}(O:∀i,(B i).map aJ=(D i).map aJ){l m:List aa}(hl:l.map aJ=m.map aJ):(fG p B l).map aJ=(fG q D m).map aJ :=
 xh l m (λs _=>PD h O s) hl
theorem yc(h:p.aA.map gF=q.aA.map gF):∀n i,(j5 p n i).map aJ=(j5 q n i).map aJ
 |0,_=>by rw[j5,j5]
 |n+1,i=>by
  rw[j5,j5];exact NS (uW h i) (xg h (yc h n) (congrArg bG.eY (uW h i)))
theorem Fq(h:dx p=dx q):dx (pR p)=dx (pR q):=by
 have hp:p.aA.map gF=q.aA.map gF:=congrArg aj.aA h;have hl:p.aA.length=q.aA.length:=by have:=congrArg List.length hp;simpa using this
 have D:∀i,(eU p i).map aJ=(eU q i).map aJ:=λi=>by unfold eU;rw[hl];exact yc hp _ i
 have U:=xg hp D (congrArg aj.eX h:p.eX.map aJ=q.eX.map aJ);have w2:=xg hp D (congrArg aj.eB h:p.eB.map aJ=q.eB.map aJ);have O:(p.aA.flatMap λa=>a.bC.map (wP a))=q.aA.flatMap λa=>a.bC.map (wP a):=by
  have e:∀l:List bG,(l.flatMap λa=>a.bC.map (wP a))=(l.map gF).flatMap λa=>a.bC.map (wP a):=λl=>by
   rw[List.flatMap_map]
   rfl
  rw[e p.aA,e q.aA,hp]
 unfold dx at h ⊢;unfold pR;injection h;simp only[*]
theorem Ac(h:dx p=dx q)(h1:fF p)(D:fF q):lI p=lI q:=by
 rw[qy h1,qy D,<-qf,Fq h,qf]
end
end
theorem Lg{W:World}{b:Nat}{cs:List Value}{ty:TypeId}(h:W.heap[b]?=some (.cells cs.toArray ty (0,0))):∀r u,cs[r]?=some u->W.cell? ⟨b,r,none⟩=some u:=λr u D=>by simp[World.cell?,h,D]
theorem MQ(w:World)(p:aj)(hp:jT w.heap.size w p)(hl:eF p<=20000)(hi:p.eQ.length<=1000000/\∀x∈p.eQ,x.bv.pre.length<=1000000)(hq:p.aA=[]) :
  Calls Tryz.prog 84 #[.agg p.arr] w λo w'=>∃p':aj,o=.returned (.agg p'.arr)/\dx p'=dx p/\jT w'.heap.size (gP w.heap.size w') p'/\Below w.heap.size w w':=by
 obtain⟨eC,eI,eN,cf⟩:=pX w (.cells p.arr 35) (.cells ed.arr 35);have ce:Calls Tryz.prog 112 #[.agg p.arr] ((w.alloc (.cells p.arr 35)).alloc (.cells ed.arr 35)) _:=Dv _ p (hp.on cf) (by have:=Bo p;omega);rw[aC (show countP p<=20000 by rw[xe hl];omega)]at ce;have a6:=dZ p;have HP:=ae hp;have HL:=ae (IJ hl);have HI:=ae hi;have HQ:=ae hq;have b8:=ae ce;have HB:=ae eC;have HZ:=ae eI;have bd:=ae cf;clear ce eC eI cf hp hl hi hq;obtain⟨cd,a5⟩:∃cd,cd=p.arr:=⟨_,rfl⟩;have ci:=ae a5;rw[<-a5]at b8 HB HZ bd a6 eN ⊢;clear a5;go_enter Tryz.func84,Tryz.ntmps84
 go_wp2_with(first
  |(refine bH rfl 35 _ rfl (w.heap.size) rfl 35 _ (0,0) _ HB.o Tryz.underlying35 rfl a6 ?_)
  |(refine dY (t:=35) rfl rfl (jQ _) ?_)
  |fail)
 refine b8.o.mono ?_;rintro o w2 ⟨rfl,a7⟩;generalize (w.alloc (.cells cd 35)).alloc (.cells ed.arr 35)=w1 at *;have eR:Bx w.heap.size w2 p:=by unfold Bx;rw[<-ci.o];exact(a7.block _ (dM HB.o).1).trans HB.o
 have eY:=(a7.block _ (dM HZ.o).1).trans HZ.o;have eE:=bd.o.trans (a7.mono bd.o.size);have fk:w.heap.size+2<=w2.heap.size:=by have:=a7.size;omega
 have cq:=ae eR;have cA:=ae eY;have b0:=ae eE;clear eR eY eE a7 HB HZ bd b8;go_upto_region 3 with fail
 refine dK ?_ (wS (C':=.region 3 opsC3 true) (by kernel_rfl) (Ud rfl w.heap.size (w.heap.size+2) w.heap.size p (by omega) fk (af _) rfl (HP.o.below b0.o) HL.o.1 cq.o));rintro e a9 w3 ⟨rfl,O,V,D,bj,i1,g1,v1,a1,eS,y0,y1,y2,y3⟩;obtain⟨F,hF,rfl⟩:=y7 O V;have g1:F 1=.pointer (some ⟨w.heap.size,0,none⟩):=(hF 1).trans (bz ((D 1 rfl).trans rfl));have g2:F 2=.pointer (some ⟨w.heap.size+1,0,none⟩):=(hF 2).trans (bz ((D 2 rfl).trans rfl));rw[g1,g2];clear hF g1 g2 O V D;have fx:=bj.size;have cr:=ae eS;have cC:=ae ((bj.heap (b:=w.heap.size+1) (by omega) (by omega)).trans cA.o);have aq:=ae (b0.o.trans (bj.below (af _) (by omega)));have cx:=ae (y0.1 rfl);have cy:=ae (y1.1 rfl);have c7:=ae (y2.1 rfl);have c8:=ae (y3.1 rfl);clear bj eS y0 y1 y2 y3 cq cA b0;go_upto_region 4 with fail
 refine dK ?_ (wS (C':=.region 4 opsC4 true) (by kernel_rfl) (Ue rfl w.heap.size w3.heap.size w.heap.size { p with is:=i1,gs:=g1,vs:=v1,«as»:=a1 } (by omega) (by omega) (af _) rfl (HP.o.irow.below aq.o) (HP.o.prow.below aq.o) ⟨HI.o.1,by show p.aA.length<=_;rw[HQ.o];exact aH _⟩ cr.o));rintro e a9 w4 ⟨rfl,O,V,D,a8,n1,r1,ap,y0,y1⟩;obtain⟨G,hG,rfl⟩:=y7 O V;have g1:G 1=.pointer (some ⟨w.heap.size,0,none⟩):=(hG 1).trans (bz ((D 1 rfl).trans rfl));have g2:G 2=.pointer (some ⟨w.heap.size+1,0,none⟩):=(hG 2).trans (bz ((D 2 rfl).trans rfl));rw[g1,g2];clear hG g1 g2 O V D;have fy:=a8.size;have ba:Bx w.heap.size w4 { p with is:=i1,gs:=g1,vs:=v1,«as»:=a1,ns:=n1,rs:=r1 }:=ap;have a4:=ae ba;obtain⟨sa,sc⟩:=n1;have b9:=ae a8;have b7:=ae (LK.start (p:=p) (sa:=sa) (sc:=sc) a8.size (y0.1 rfl));have fc:=ae (y1.1 rfl);have bi:=ae ((a8.heap (b:=w.heap.size+1) (by omega) (by omega)).trans cC.o);have c12:w4.cell? ⟨w.heap.size,12,none⟩=some (.slice sa p.eQ.length sc):=ba.cell 12 rfl;clear a8 ap ba y0 y1 cr cC;go_upto_region 6 with fail
 clear c12;generalize fs:w4.heap.size=lo2 at b7;go_loopw[38] (λch wr=>∃k cur,k<=p.eQ.length/\ch=.int .i64 (k:Nat)/\LK w3.heap.size lo2 w4 wr p sa sc k cur) (λch _=>p.eQ.length - (intOf ch).toNat)
 case atStart=>exact⟨0,p.eQ,aH _,rfl,b7.o⟩
 case round =>
  obtain⟨k,cur,hk,rfl,hx⟩:=hrel;clear b7;by_cases ab:k<p.eQ.length
  .obtain⟨g,hA,fi,fj,hc⟩:=hx.own.cell (λ_=>rfl) (j:=k) (by rw[hx.len];exact ab)
   subst hA;rw[hx.todo k ab (by rw[hx.len];exact ab) (af _)]at hc;obtain⟨x,bc⟩:∃x,p.eQ[k]=x:=⟨_,rfl⟩;rw[bc]at hc;have ct:=ae bc;have cw:=ae (show mM w.heap.size w x.bv by rw[<-bc];exact(HP.o.eQ _ (ak ab)).bv);have cv:=ae (show x.bv.pre.length<=1000000 by rw[<-bc];exact HI.o.2 _ (ak ab));clear bc;have c0:wr.cell? ⟨g,k*7,none⟩=some (.int .i64 x.block):=hc 0 _ rfl;have c1:wr.cell? ⟨g,k*7+1,none⟩=some (.int .u8 x.bv.bI):=hc 1 _ rfl;have c2:wr.cell? ⟨g,k*7+2,none⟩=some (.int .u8 x.bv.op):=hc 2 _ rfl;have c3:wr.cell? ⟨g,k*7+3,none⟩=some (.int .u32 x.bv.bv):=hc 3 _ rfl;have c4:wr.cell? ⟨g,k*7+4,none⟩=some (.int .i64 x.bv.aS):=hc 4 _ rfl;have c5:wr.cell? ⟨g,k*7+5,none⟩=some (.string x.bv.aT):=hc 5 _ rfl;have c6:wr.cell? ⟨g,k*7+6,none⟩=some (.slice x.bv.sp.dO x.bv.cu.length x.bv.sp.df):=hc 6 _ rfl;have eK:=(ag wr.heap.size wr).alloc (af _) (.cells x.r 149);have U:=ae (hx.on eK);have bw:=ae (gM wr (.cells x.r 149));have ft:g<wr.heap.size:=fj;clear hc hx eK;go_upto_region 8 with fail
   clear c0 c1 c2 c3 c4 c5 c6;generalize wr.alloc (.cells x.r 149)=W5 at *;generalize wr.heap.size=bx at *;have bm:bx<W5.heap.size:=(dM bw.o).1;obtain⟨g',hA',-,-,hc⟩:=U.o.own.cell (λ_=>rfl) (j:=k) (by rw[U.o.len];exact ab);cases hA'
   have cg:=U.o.low;have fg:=U.o.hlo2;have fh:=U.o.lo2W;have bo:W5.cell? ⟨w.heap.size,12,none⟩=some (.slice (some ⟨g,0,none⟩) p.eQ.length sc):=(cg.cell (p:=⟨w.heap.size,12,none⟩) (by show w.heap.size<w3.heap.size;omega)).trans (a4.o.cell 12 rfl);refine dK ?_ (wS (C':=.region 8 opsC8 true) (by kernel_rfl) (Uf rfl w.heap.size g k p.eQ.length sc bx rfl rfl rfl x bo (Lg bw.o) (λW hW=>xq (τ:=id) (λs hs=>hs) (zw w.heap.size w) x.bv cw.o cv.o W (aq.o.trans ((b9.o.below (af _) (by omega)).trans ((cg.trans (hW.mono (by omega))).mono (by omega)))) (by have:=hW.size;omega)) (λr hr=>⟨_,by rw[Nat.add_assoc];exact hc (1+r) _ (by rw[U.o.todo k ab (by rw[U.o.len];exact ab) (af _)];exact aX (by show 1+r<7;omega))⟩) (by omega) (by omega) ab bm (λj=>U.o.own.frozen j)));clear hc bw bo;rintro e a9 w6 ⟨rfl,O,V,D,w5,e',eJ,eM,eL,rfl⟩;obtain⟨I,hI,rfl⟩:=y7 O V;have g0:I 0=G 0:=(hI 0).trans (bz ((D 0 rfl).trans rfl));have g1:I 1=.pointer (some ⟨w.heap.size,0,none⟩):=(hI 1).trans (bz ((D 1 rfl).trans rfl));have g2:I 2=.pointer (some ⟨w.heap.size+1,0,none⟩):=(hI 2).trans (bz ((D 2 rfl).trans rfl));have g3:I 3=.int .i64 (k:Nat):=(hI 3).trans (bz ((D 3 rfl).trans rfl));have g4:I 4=.pointer (some ⟨bx,0,none⟩):=(hI 4).trans (bz ((D 4 rfl).trans rfl));have g5:I 5=G 5:=(hI 5).trans (bz ((D 5 rfl).trans rfl));have g6:I 6=G 6:=(hI 6).trans (bz ((D 6 rfl).trans rfl));have g7:I 7=G 7:=(hI 7).trans (bz ((D 7 rfl).trans rfl));have g8:I 8=G 8:=(hI 8).trans (bz ((D 8 rfl).trans rfl));have g9:I 9=G 9:=(hI 9).trans (bz ((D 9 rfl).trans rfl));have cF:I 10=G 10:=(hI 10).trans (bz ((D 10 rfl).trans rfl));have cG:I 11=G 11:=(hI 11).trans (bz ((D 11 rfl).trans rfl));have cH:I 12=G 12:=(hI 12).trans (bz ((D 12 rfl).trans rfl));have cI:I 13=G 13:=(hI 13).trans (bz ((D 13 rfl).trans rfl));have cJ:I 14=G 14:=(hI 14).trans (bz ((D 14 rfl).trans rfl));have cL:I 15=G 15:=(hI 15).trans (bz ((D 15 rfl).trans rfl));have cM:I 16=G 16:=(hI 16).trans (bz ((D 16 rfl).trans rfl));have cN:I 17=G 17:=(hI 17).trans (bz ((D 17 rfl).trans rfl));have cP:I 18=G 18:=(hI 18).trans (bz ((D 18 rfl).trans rfl));have cQ:I 19=G 19:=(hI 19).trans (bz ((D 19 rfl).trans rfl));have cR:I 20=G 20:=(hI 20).trans (bz ((D 20 rfl).trans rfl));have cS:I 21=G 21:=(hI 21).trans (bz ((D 21 rfl).trans rfl));have cT:I 22=G 22:=(hI 22).trans (bz ((D 22 rfl).trans rfl));have cU:I 23=G 23:=(hI 23).trans (bz ((D 23 rfl).trans rfl));have cV:I 24=G 24:=(hI 24).trans (bz ((D 24 rfl).trans rfl));have cW:I 25=G 25:=(hI 25).trans (bz ((D 25 rfl).trans rfl));have cX:I 26=G 26:=(hI 26).trans (bz ((D 26 rfl).trans rfl));have cY:I 27=G 27:=(hI 27).trans (bz ((D 27 rfl).trans rfl));have da:I 28=G 28:=(hI 28).trans (bz ((D 28 rfl).trans rfl));have db:I 29=G 29:=(hI 29).trans (bz ((D 29 rfl).trans rfl));have dc:I 30=G 30:=(hI 30).trans (bz ((D 30 rfl).trans rfl));have dd:I 31=G 31:=(hI 31).trans (bz ((D 31 rfl).trans rfl));have de:I 32=G 32:=(hI 32).trans (bz ((D 32 rfl).trans rfl));have dg:I 33=G 33:=(hI 33).trans (bz ((D 33 rfl).trans rfl));have dj:I 34=G 34:=(hI 34).trans (bz ((D 34 rfl).trans rfl));have dk:I 35=.pointer (some ⟨w.heap.size,12,none⟩):=(hI 35).trans (bz ((D 35 rfl).trans rfl));have dl:I 36=.slice (some ⟨g,0,none⟩) p.eQ.length sc:=(hI 36).trans (bz ((D 36 rfl).trans rfl));have dn:I 37=.int .i64 (p.eQ.length:Nat):=(hI 37).trans (bz ((D 37 rfl).trans rfl));have dp:I 38=.int .i64 (k:Nat):=(hI 38).trans (bz ((D 38 rfl).trans rfl));have dq:I 52=G 52:=(hI 52).trans (bz ((D 52 rfl).trans rfl));have dr:I 53=G 53:=(hI 53).trans (bz ((D 53 rfl).trans rfl));have dt:I 54=G 54:=(hI 54).trans (bz ((D 54 rfl).trans rfl));have du:I 55=G 55:=(hI 55).trans (bz ((D 55 rfl).trans rfl));have dv:I 56=G 56:=(hI 56).trans (bz ((D 56 rfl).trans rfl));have dy:I 57=G 57:=(hI 57).trans (bz ((D 57 rfl).trans rfl));have d1:I 58=G 58:=(hI 58).trans (bz ((D 58 rfl).trans rfl));have d2:I 59=G 59:=(hI 59).trans (bz ((D 59 rfl).trans rfl));have d3:I 60=G 60:=(hI 60).trans (bz ((D 60 rfl).trans rfl));have d4:I 61=G 61:=(hI 61).trans (bz ((D 61 rfl).trans rfl));have d5:I 62=G 62:=(hI 62).trans (bz ((D 62 rfl).trans rfl));have d6:I 63=G 63:=(hI 63).trans (bz ((D 63 rfl).trans rfl));have d7:I 64=G 64:=(hI 64).trans (bz ((D 64 rfl).trans rfl));have d8:I 65=G 65:=(hI 65).trans (bz ((D 65 rfl).trans rfl));have dT:I 66=G 66:=(hI 66).trans (bz ((D 66 rfl).trans rfl));have eb:I 67=G 67:=(hI 67).trans (bz ((D 67 rfl).trans rfl));have ee:I 68=G 68:=(hI 68).trans (bz ((D 68 rfl).trans rfl));have ef:I 69=G 69:=(hI 69).trans (bz ((D 69 rfl).trans rfl));have eg:I 70=G 70:=(hI 70).trans (bz ((D 70 rfl).trans rfl));have eh:I 71=G 71:=(hI 71).trans (bz ((D 71 rfl).trans rfl));have ei:I 72=G 72:=(hI 72).trans (bz ((D 72 rfl).trans rfl));have ej:I 73=G 73:=(hI 73).trans (bz ((D 73 rfl).trans rfl));have em:I 74=G 74:=(hI 74).trans (bz ((D 74 rfl).trans rfl));have en:I 75=G 75:=(hI 75).trans (bz ((D 75 rfl).trans rfl));have eo:I 76=G 76:=(hI 76).trans (bz ((D 76 rfl).trans rfl));have ep:I 77=G 77:=(hI 77).trans (bz ((D 77 rfl).trans rfl));have eq:I 78=G 78:=(hI 78).trans (bz ((D 78 rfl).trans rfl));have er:I 79=G 79:=(hI 79).trans (bz ((D 79 rfl).trans rfl));have et:I 80=G 80:=(hI 80).trans (bz ((D 80 rfl).trans rfl));have ev:I 81=G 81:=(hI 81).trans (bz ((D 81 rfl).trans rfl));have ew:I 82=G 82:=(hI 82).trans (bz ((D 82 rfl).trans rfl));have ey:I 83=G 83:=(hI 83).trans (bz ((D 83 rfl).trans rfl));have ez:I 84=G 84:=(hI 84).trans (bz ((D 84 rfl).trans rfl));have e0:I 85=G 85:=(hI 85).trans (bz ((D 85 rfl).trans rfl));have e3:I 86=G 86:=(hI 86).trans (bz ((D 86 rfl).trans rfl));have e4:I 87=G 87:=(hI 87).trans (bz ((D 87 rfl).trans rfl));have e5:I 88=G 88:=(hI 88).trans (bz ((D 88 rfl).trans rfl));have e6:I 89=G 89:=(hI 89).trans (bz ((D 89 rfl).trans rfl));have e7:I 90=G 90:=(hI 90).trans (bz ((D 90 rfl).trans rfl));have e8:I 91=G 91:=(hI 91).trans (bz ((D 91 rfl).trans rfl));have e9:I 92=G 92:=(hI 92).trans (bz ((D 92 rfl).trans rfl));have eA:I 93=G 93:=(hI 93).trans (bz ((D 93 rfl).trans rfl));rw[g0,g1,g2,g3,g4,g5,g6,g7,g8,g9,cF,cG,cH,cI,cJ,cL,cM,cN,cP,cQ,cR,cS,cT,cU,cV,cW,cX,cY,da,db,dc,dd,de,dg,dj,dk,dl,dn,dp,dq,dr,dt,du,dv,dy,d1,d2,d3,d4,d5,d6,d7,d8,dT,eb,ee,ef,eg,eh,ei,ej,em,en,eo,ep,eq,er,et,ev,ew,ey,ez,e0,e3,e4,e5,e6,e7,e8,e9,eA];clear hI g0 g1 g2 g3 g4 g5 g6 g7 g8 g9 cF cG cH cI cJ cL cM cN cP cQ cR cS cT cU cV cW cX cY da db dc dd de dg dj dk dl dn dp dq dr dt du dv dy d1 d2 d3 d4 d5 d6 d7 d8 dT eb ee ef eg eh ei ej em en eo ep eq er et ev ew ey ez e0 e3 e4 e5 e6 e7 e8 e9 eA O V D;have bl:=ae ((U.o.on eJ).put fi ab (by rw[ct.o];exact eM) (eL.less U.o.lo2W));have hw:wrap64 ((k:Int)+1)=(k:Int)+1:=IntWalk.wrap64_in _ ⟨by omega,by have:=HI.o.1;omega⟩;have bk:p.eQ.length - ((k:Int)+1).toNat<p.eQ.length - (k:Int).toNat:=by clear hw;omega
   clear U eJ eM eL cw cv ct cg fg fh bm;go_wp2_with fail
   rw[hw];go_roundw
   case rel=>first|exact⟨k+1,_,ab,by first|rfl|(rw[hw];rfl)|go_num,bl.o⟩|((repeat apply Exists.intro);exact⟨⟨k+1,_,ab,by first|rfl|(rw[hw];rfl)|go_num,bl.o⟩,rfl⟩)
   case measure=>first|exact bk|(rw[hw];exact bk)|(simp only[intOf];exact bk)|(simp only[intOf,hw];exact bk)|(simp[intOf];omega)
  .obtain rfl:k=p.eQ.length:=Nat.le_antisymm hk (Nat.le_of_not_lt ab)
   have ar:=ae hx;have an:=hx.low;have fv:=hx.lo2W;have ao:Mk w.heap.size w3 wr:=Below.trans b9.o (bn (by omega) an);have ap:Bx w.heap.size wr { p with is:=i1,gs:=g1,vs:=v1,«as»:=a1,ns:=⟨sa,sc⟩,rs:=r1 }:=(an.block _ (by omega)).trans a4.o;have a4:=ae ap;have bi:=ae ((an.block _ (by omega)).trans bi.o);have be:=ae (aq.o.trans (ao.below (af _) (by omega)));have cm:=ae (cx.o.onM ao (by omega));have cn:=ae (cy.o.onM ao (by omega));have co:=ae (c7.o.onM ao (by omega));have cp:=ae (c8.o.onM ao (by omega));have ff:wr.cell? ⟨w.heap.size,13,none⟩=some (.slice r1.dO 0 r1.df):=by have h:=ap.cell 13 rfl;rw[HQ.o]at h;exact h
   have ad:=ae (And.intro ar.o.own (ar.o.news λx hx=>(HP.o.eQ x hx).block));clear hx hk ab an ao ap b9 aq cx cy c7 c8;go_wp2_with fail
   refine wp_loop_rounds 1 ?_;rw[rounds_succ];go_upto_region 15 with fail
   clear ff;refine dK ?_ (wS (C':=.region 15 opsC15 true) (by kernel_rfl) (Ta rfl w.heap.size (w.heap.size+2) w.heap.size { p with is:=i1,gs:=g1,vs:=v1,«as»:=a1,ns:=⟨sa,sc⟩,rs:=r1 } (by omega) (by omega) (af _) rfl ⟨xq (τ:=id) (λs hs=>hs) (zw w.heap.size wr) p.eD (HP.o.eD.stays be.o) HL.o.2.1,xq (τ:=id) (λs hs=>hs) (zw w.heap.size wr) p.d9 (HP.o.d9.stays be.o) HL.o.2.2.1⟩ a4.o));rintro e a9 w5 ⟨rfl,O,V,D,am,e1,e2,eV,y0,y1⟩;obtain⟨H,hH,rfl⟩:=y7 O V;have g1:H 1=.pointer (some ⟨w.heap.size,0,none⟩):=(hH 1).trans (bz ((D 1 rfl).trans rfl));have g2:H 2=.pointer (some ⟨w.heap.size+1,0,none⟩):=(hH 2).trans (bz ((D 2 rfl).trans rfl));rw[g1,g2];clear hH g1 g2 O V D;have fz:=am.size;have br:Bx w.heap.size w5 { p with is:=i1,gs:=g1,vs:=v1,«as»:=a1,ns:=⟨sa,sc⟩,rs:=r1,eD:=e1,d9:=e2 }:=eV;have U:=ae br;have cD:=ae ((am.heap (b:=w.heap.size+1) (by omega) (by omega)).trans bi.o);have bh:=ae (be.o.trans (am.below (af _) (by omega)));have bC:=ae (cm.o.onM am (by omega));have ca:=ae (cn.o.onM am (by omega));have cb:=ae (co.o.onM am (by omega));have cc:=ae (cp.o.onM am (by omega));have aw:=ae (y0.1 rfl);have a3:=ae (y1.1 rfl);have ad:=ae (And.intro (ad.o.1.onM am (by omega)) λx hx=>And.intro (ad.o.2 x hx).1 ((ad.o.2 x hx).2.on am (by omega)));clear am eV br y0 y1 a4 bi be cm cn co cp;go_upto_region 16 with fail
   refine dK ?_ (wS (C':=.region 16 opsC16 true) (by kernel_rfl) (Td rfl w.heap.size (w.heap.size+2) w.heap.size { p with is:=i1,gs:=g1,vs:=v1,«as»:=a1,ns:=⟨sa,sc⟩,rs:=r1,eD:=e1,d9:=e2 } (by omega) (by omega) (af _) rfl ⟨si (τ:=id) (λs hs=>hs) (zw w.heap.size w5) p.ws p.eX (HP.o.eX.below bh.o) HL.o.2.2.2.1,si (τ:=id) (λs hs=>hs) (zw w.heap.size w5) p.cs p.eB (HP.o.eB.below bh.o) HL.o.2.2.2.2⟩ U.o));rintro e a9 w6 ⟨rfl,O,V,D,al,s1,l1,s2,l2,eW,y0,y1⟩;obtain⟨I,hI,rfl⟩:=y7 O V;have g1:I 1=.pointer (some ⟨w.heap.size,0,none⟩):=(hI 1).trans (bz ((D 1 rfl).trans rfl));have g2:I 2=.pointer (some ⟨w.heap.size+1,0,none⟩):=(hI 2).trans (bz ((D 2 rfl).trans rfl));rw[g1,g2];clear hI g1 g2 O V D;obtain⟨pf,aE⟩:∃pf:aj,pf={ p with is:=i1,gs:=g1,vs:=v1,«as»:=a1,ns:=⟨sa,sc⟩,rs:=r1,eD:=e1,d9:=e2,ws:=s1,eX:=l1,cs:=s2,eB:=l2,eQ:=cur }:=⟨_,rfl⟩;have bt:Bx w.heap.size w6 pf:=by
    have e:pf.arr=({ p with is:=i1,gs:=g1,vs:=v1,«as»:=a1,ns:=⟨sa,sc⟩,rs:=r1,eD:=e1,d9:=e2,ws:=s1,eX:=l1,cs:=s2,eB:=l2 }:aj).arr:=by rw[aE];simp only[aj.arr,aj.cells,ar.o.len]
    unfold Bx;rw[e];exact eW
   have fd:=ae bt;have cE:=ae ((al.heap (b:=w.heap.size+1) (by omega) (by omega)).trans cD.o);have fb:=ae (bh.o.trans (al.below (af _) (by omega)));have bC:=ae (bC.o.onM al (by omega));have ca:=ae (ca.o.onM al (by omega));have cb:=ae (cb.o.onM al (by omega));have cc:=ae (cc.o.onM al (by omega));have aw:=ae (And.intro aw.o.1 (aw.o.2.on al (by omega)));have a3:=ae (And.intro a3.o.1 (a3.o.2.on al (by omega)));have ck:=ae (y0.1 rfl);have cl:=ae (y1.1 rfl);have cj:=ae aE;have ad:=ae (And.intro (ad.o.1.onM al (by omega)) λx hx=>And.intro (ad.o.2 x hx).1 ((ad.o.2 x hx).2.on al (by omega)));clear al eW bt y0 y1 U cD bh aE;go_upto_region 17 with fail
   go_wp2_with(first
    |(refine bH rfl 35 _ rfl w.heap.size rfl 35 _ (0,0) _ fd.o Tryz.underlying35 rfl (dZ _) ?_)
    |(refine aK rfl 35 _ _ rfl (w.heap.size+1) pf.arr (by rfl) (by rfl) 35 ed.arr cE.o (dZ _) (by kernel_rfl) (lX _) ?_)
    |fail)
   have fl:(w6.setRow (w.heap.size+1) pf.arr).heap[w.heap.size+1]?=some (.cells pf.arr 35 (0,0)):=D7 cE.o pf.arr;refine aW (aL rfl _ _ (w.heap.size+1) 35 _ (0,0) _ rfl fl Tryz.underlying35 rfl (dZ _)) rfl ⟨pf,rfl,?_,?_,below_setRow fb.o (ma _)⟩
   .rw[cj.o]
    unfold dx;simp only[aw.o.1,a3.o.1,ck.o.1,cl.o.1,ar.o.bare]
   .have hP:=HP.o
    have hL:=HL.o;have q0:=zJ (wH (g:=w.heap.size+1) (cs:=pf.arr) bC.o (by omega)) hL.1.1;have q1:=zJ (wH (g:=w.heap.size+1) (cs:=pf.arr) ca.o (by omega)) hL.1.2.1;have q2:=zJ (wH (g:=w.heap.size+1) (cs:=pf.arr) cb.o (by omega)) hL.1.2.2.1;have q3:=zJ (wH (g:=w.heap.size+1) (cs:=pf.arr) cc.o (by omega)) hL.1.2.2.2;have r1:=(aw.o.2.set (g:=w.heap.size+1) (cs:=pf.arr) (by omega));have r2:=(a3.o.2.set (g:=w.heap.size+1) (cs:=pf.arr) (by omega));have t1:=(FH (g:=w.heap.size+1) (cs:=pf.arr) ck.o.2 (by omega));have t2:=(FH (g:=w.heap.size+1) (cs:=pf.arr) cl.o.2 (by omega));have fm:=(wH (g:=w.heap.size+1) (cs:=pf.arr) ad.o.1 (by omega)).low (B2:=w.heap.size+2) (λ_=>rfl) (by rw[ar.o.len];have:=HI.o.1;omega) (by omega);have fa:=λx hx=>And.intro (ad.o.2 x hx).1 (((ad.o.2 x hx).2.set (g:=w.heap.size+1) (cs:=pf.arr) (by omega)).less (show w.heap.size+2<=lo2 by omega))
    have fp:=Qm fc.o HQ.o (n:=(w6.setRow (w.heap.size+1) pf.arr).heap.size) (W':=gP (w.heap.size+2) (w6.setRow (w.heap.size+1) pf.arr));have aE:=cj.o;refine jT.cells (W:=gP (w.heap.size+2) (w6.setRow (w.heap.size+1) pf.arr)) ?_ (r9 (by omega));generalize w6.setRow (w.heap.size+1) pf.arr=wf at *;subst aE;obtain⟨b1,b2,b3,b4,b5,b6,_,_,_,_,_,_,_,_⟩:=hP;exact⟨b1,b2,⟨q0,b3.ok⟩,⟨q1,b4.ok⟩,⟨q2,b5.ok⟩,⟨q3,b6.ok⟩,r1,fm,λx hx=>⟨(fa x hx).1,(fa x hx).2⟩,fp,λx hx=>absurd hx (by show ¬x∈p.aA;rw[HQ.o];simp),⟨t1.1,t1.2⟩,⟨t2.1,t2.2⟩,r2⟩
theorem mK.low{K:jq}{w w':World}(h:mK K w)(hb:Below w.heap.size w w'):mK K w' where
 blk:=(hb.block _ (dM h.blk).1).trans h.blk
 idx:=by
  obtain⟨n,D⟩:=h.idx;exact⟨n,D.of_block (hb.block _ D.lt)⟩
 prog:=h.prog.on hb
 ne1:=h.ne1
 ne2:=h.ne2
 ne3:=h.ne3
def ow(p:aj)(l:List aa):List Int:=(jG l).map λs=>(dG p s:Int)
theorem E8(l:List aa):(l.flatMap aa.pre).length<=aV l:=by
 unfold aV lW;generalize l.flatMap aa.pre=m;induction m with
 |nil=>exact af _
 |cons s m D=>rw[ax,bL,aF];omega
theorem DU{W:World}{B O k n:Nat}{t:TypeId}{v:Value}{U:List Value}(h:W.ownsRow B t k v n U)(hb:O<=B):W.ownsRow O t k v n U:=by
 refine⟨h.1,?_⟩;rcases h.2 with h2|⟨g,V,cur,e,D,h3⟩
 .exact .inl h2
 .exact .inr ⟨g,V,cur,e,ai hb D,h3⟩
theorem Gv(K:jq)(w:World)(hB:mK K w)(sp:Sp)(l:List aa)(h:gq w.heap.size w sp l)(hl:aV l<=20000) :
  Calls Tryz.prog 140 #[.pointer (some ⟨K.q,0,none⟩),.slice sp.dO l.length sp.df] w λo w'=>∃v,o=.returned v/\w'.ownsRow w.heap.size 3 1 v (ow K.p l).length ((ow K.p l).map (.int .i64))/\Below w.heap.size w w':=by
 have ad:(l.flatMap aa.pre).length<=20000:=ai (E8 _) hl;have ar:jU (l.flatMap aa.pre) 0<=20000:=by
  rw[rf _ 0 (by unfold aV at hl;omega)];unfold aV at hl;omega
 have hC:=ER w sp l h ar ad;simp only[Sp.val]at hC;have bi:(jG l).length<=20000:=ai (vT (l.flatMap aa.pre)) ad;have aw:∀s∈jG l,s.size<=maxLen:=CY l (λs=>s.size<=maxLen) λx hx=>by
  obtain⟨t,ht,hx⟩:=List.mem_flatMap.1 hx;cases CK (h.ok t ht) x hx with
  |mk _ _ _ n=>exact n
 have HC:=ae hC;have HB:=ae λ(W:World) (hW:Below w.heap.size w W)=>hB.low hW
 have a4:=ae λ(k:Nat) (hk:k<(jG l).length)=>aw _ (ak hk)
 have e0:ow K.p l=(jG l).map λs=>(dG K.p s:Int):=rfl
 rw[e0,cZ,dw];generalize jG l=cs at *;clear h hl ad ar hC hB aw e0;obtain⟨i0,hi,a8,a9,aE⟩:=qD Du;go_enter Tryz.func140,Tryz.ntmps140
 go_wp2_with fail
 refine HC.o.mono ?_;rintro o w1 ⟨v,rfl,al,aq⟩;obtain⟨A,c,rfl⟩:=oN al;have HR:=ae (yF al);have U:=ae aq;clear al aq HC;go_wp2_with fail
 go_loopw[11,5] (λap s5 wr=>∃(k:Nat) (v:Value),k<=cs.length/\ap=.int .i64 k/\s5=v/\Hid (wr.ownsRow w1.heap.size 3 1 v k ((cs.take k).map (Value.int .i64 ∘ λs=>(dG K.p s:Int))))/\Hid (Below w1.heap.size w1 wr)) (λap _ _=>cs.length - (intOf ap).toNat)
 case atStart=>exact⟨0,_,aH _,rfl,rfl,ae ⟨rfl,.inl ⟨rfl,rfl⟩⟩,ae (ag _ _)⟩
 case round =>
  obtain⟨k,v,hk,rfl,rfl,HO,HW⟩:=hrel;obtain⟨Av,cv,rfl⟩:=oN HO.o;by_cases am:k<cs.length
  .obtain⟨A',c',e,V⟩:=HR.o
   obtain⟨b,off,hA,ab⟩:=V (by omega);injection e with e1 _ _;subst e1;subst hA;have O:=ab k am;have be:wr.cell? ⟨b,off+k,none⟩=some (.string cs[k]):=by
    have a5:b<w1.heap.size:=by
     unfold World.cell? at O;cases hh:w1.heap[b]? with
     |none=>simp[hh]at O
     |some o=>exact(dM hh).1
    exact(HW.o.cell a5).trans O
   have a1:=a4.o k am;have HT:Hid (cs.take (k+1)=cs.take k++[cs[k]]):=ae (aG am);have an:=HB.o wr (U.o.trans (HW.o.mono U.o.size));have ba:=an.c22;have D:=an.look a1;rw[xy]at D;generalize cs[k]=s at *;have bc:(0:Int)<=(k:Int):=by omega
   have bd:(k:Int)<(cs.length:Int):=by omega
   have hx:∃x:Int,(dG K.p s:Int)=x:=⟨_,rfl⟩;obtain⟨x,hx⟩:=hx;rw[hx]at D;have HX:=ae hx;have a3:=HW.o.size;have bh:=D;have a6:=cell_one_new wr (.int .i64 x) 3;clear ab V O a1 an hx;go_wp2_with(first|(at_builtin;refine wpList_append_own_at _ rfl _ _ 87 rfl w1.heap.size 3 i0 (.int .i64 0) 1 8 Tryz.underlying87 hi a8 a9 aE rfl (by decide) _ _ _ rfl (HO.o.alloc _) ⟨wr.heap.size,0,none⟩ 1 1 [.int .i64 x] rfl rfl a6 (by simp[Value.oneCell']) (by simp only[maxLen];omega) (by omega) (by simp;omega) ?_;intro v' w2 ao a7 _ _)|fail)
   go_roundw
   case rel =>
    repeat apply Exists.intro
    refine⟨⟨k+1,am,by go_num,ae ?_,ae ?_⟩,rfl,rfl,rfl⟩
    .rw[<-List.map_take,HT.o,aO,ax,dh,Function.comp,HX.o]
     exact ao
    .exact HW.o.grown ((World.grownBy_alloc wr _ _).trans a7) a3 λb hb=>(HO.o.lt b hb).1
   case measure=>simp[intOf];omega
  .obtain rfl:k=cs.length:=by omega
   go_wp2_with fail
   go_ret
   exact⟨_,rfl,DU (by have:=HO.o;rwa [bW]at this) U.o.size,U.o.trans (HW.o.mono U.o.size)⟩
end Go.Proofs.YtepacjkacjabbaaGreatDoor
