import Derived.Test.YtepacjkacjabbaaGreatDoorYAP
import Derived.Test.YtepacjkacjabbaaGreatDoorYAO
set_option linter.all false
set_option maxRecDepth 10000000
set_option maxHeartbeats 64000000
namespace Go.Proofs.YtepacjkacjabbaaGreatDoor
open Go Go.Maps Go.RowKit
section
theorem WX.up{M:jr}{wh:Int}{d:Nat}{wd:Int}{e:ah}(h:WX M wh d wd e):WX M wh (d+1) wd e:=by
 induction h with
 |num h1 D V h4=>exact .num h1 D V h4
 |var h1=>exact .var h1
 |cmp h1 D _ _ O U=>exact .cmp h1 D O U
 |bin h1 D _ _ O U=>exact .bin h1 D O U
 |mux _ _ _ O U i3=>exact .mux O U i3
 |un h1 D _ i=>exact .un h1 D i
 |cast h1 D _ i=>exact .cast h1 D i
 |disk h1 _ i=>exact .disk h1 i
 |elem h1 _ i=>exact .elem h1 i
def zT:Array Value:=#[.int .u8 0,.string ⟨#[]⟩,.slice none 0 0,.int .i64 0,.slice none 0 0,.slice none 0 0]
theorem lN(a b:Int)(s:ByteArray)(x y z:Value):(Tryz.prog.info? 43).map (·.size)=some (#[Value.int .u8 a,.string s,x,.int .i64 b,y,z]:Array Value).size:=by kernel_rfl
theorem oq(a b:Int)(s:ByteArray)(D A2 O:Option Addr)(V c1 n2 c2 n3 U:Nat):(#[Value.int .u8 a,.string s,.slice D V c1,.int .i64 b,.slice A2 n2 c2,.slice O n3 U]:Array Value).all (·.oneCell')=true:=by kernel_rfl
structure Hy(q n:Nat)(lv:Sp)(ls:List Int)(dO:Nat)(p:aj)(M:jr)(w W:World):Prop where
 base:Hu q n lv ls dO p M W
 old:q<w.heap.size
 oldn:n<=w.heap.size
 low:Below w.heap.size (mask q w) (mask q W)
 cr:W.heap[w.heap.size]?=some (.cells zT 43 (0,0))
section
variable {q n:Nat}{lv:Sp}{ls:List Int}{dO at':Nat}{p:aj}{M:jr}{w W W':World}
theorem Hy.size(h:Hy q n lv ls dO p M w W):w.heap.size+1<=W.heap.size:=(dM h.cr).1
theorem Hy.lt(h:Hy q n lv ls dO p M w W):q<W.heap.size:=by have:=h.size;have:=h.old;omega
theorem Hy.next(h:Hy q n lv ls dO p M w W)(D:uy q n lv ls at' p M.iR W')(hb:Below W.heap.size (mask q W) (mask q W')):Hy q n lv ls at' p M w W':=by
 have U:=h.size;have O:=h.old;exact⟨h.base.next D hb,O,h.oldn,h.low.trans (hb.mono (by omega)),(jN hb (by omega) (by omega)).trans h.cr⟩
theorem Hy.on(h:Hy q n lv ls dO p M w W)(hb:Below W.heap.size W W'):Hy q n lv ls dO p M w W':=h.next (h.base.base.on hb) (bn h.base.base.ib hb)
theorem Hy.on1(h:Hy q n lv ls dO p M w W)(hb:Below (w.heap.size+1) W W'):Hy q n lv ls dO p M w W' :=
 have D:=h.oldn;have hm:=bn (B:=n) h.base.base.ib (hb.mono (by omega))
 ⟨⟨h.base.base.low (hb.mono (by omega)),h.base.ok,h.base.std,h.base.aS,h.base.fB,h.base.ek,h.base.gp,h.base.irow.below hm,h.base.grow.below hm,h.base.vrow.below hm⟩,h.old,h.oldn,h.low.trans (bn h.lt (hb.mono (ma _))),(hb.block _ (bN _)).trans h.cr⟩
structure UO(q n:Nat)(lv:Sp)(ls:List Int)(p:aj)(M:jr)(hasP:Bool)(dp:Nat)(w W:World):Prop where
 ex:∃(s:aa) (dO:Nat),W.heap[w.heap.size]?=some (.cells s.r 43)/\WT M hasP dp s/\nk (w.heap.size+1) W s/\Hu q n lv ls dO p M W
 low:Below w.heap.size (mask q w) (mask q W)
theorem Hu.low(h:Hu q n lv ls dO p M W)(hb:Below n W W'):Hu q n lv ls dO p M W' :=
 have hm:=bn h.base.ib hb
 ⟨h.base.low hb,h.ok,h.std,h.aS,h.fB,h.ek,h.gp,h.irow.below hm,h.grow.below hm,h.vrow.below hm⟩
theorem Hy.fin{hasP:Bool}{O:Nat}(h:Hy q n lv ls dO p M w W)(s:aa)(V:WT M hasP O s)(U:nk (w.heap.size+1) W s){cs:Array Value}(D:cs=s.r):UO q n lv ls p M hasP O w (W.setRow w.heap.size cs):=by
 subst D;have hb:=Go.below_setRow (ag w.heap.size W) (af _) s.r;exact⟨⟨s,dO,bM _ _ _ _ _ _ h.cr,V,U.set (bN _),h.base.low (hb.mono h.oldn)⟩,h.low.trans (bn h.lt hb)⟩
theorem zS{W:World}{b i:Nat}{t:TypeId}{cs:Array Value}{v:Value}(h:W.heap[b]?=some (.cells cs t (0,0))):W.setCell ⟨b,i,none⟩ v=W.setRow b (cs.setIfInBounds i v):=by
 refine tZ rfl rfl rfl rfl λk=>?_
 by_cases hk:k=b
 .subst hk
  rw[bM _ _ _ _ _ _ h];simp[World.setCell,cK,h]
 .rw[dQ _ _ _ _ hk]
  exact aN _ _ _ _ hk
theorem RV{W:World}{b:Nat}{cs ds:Array Value}:(W.setRow b cs).setRow b ds=W.setRow b ds:=by
 refine tZ rfl rfl rfl rfl λk=>?_
 simp only[World.setRow,cK];by_cases hk:b=k
 .simp only[hk,if_true]
  cases W.heap[k]? with
  |none=>rfl
  |some o=>cases o<;>rfl
 .simp only[hk,if_false]
theorem lm{W:World}{b i:Nat}{t:TypeId}{D cs:Array Value}{v:Value}(h:W.heap[b]?=some (.cells D t (0,0))):(W.setRow b cs).setCell ⟨b,i,none⟩ v=W.setRow b (cs.setIfInBounds i v):=by
 rw[zS (bM W b D cs t (0,0) h),RV]
theorem R3{W:World}{b:Nat}{t:TypeId}{D O U V v4 v5:Value}(h:W.heap[b]?=some (.cells zT t (0,0))):(((((W.setCell ⟨b,0,none⟩ D).setCell ⟨b,1,none⟩ O).setCell ⟨b,2,none⟩ U).setCell ⟨b,3,none⟩ V).setCell ⟨b,4,none⟩ v4).setCell ⟨b,5,none⟩ v5=W.setRow b #[D,O,U,V,v4,v5]:=by
 rw[zS h,lm h,lm h,lm h,lm h,lm h]
 rfl
theorem Hy.fin1{hasP:Bool}{O:Nat}(h:Hy q n lv ls dO p M w W){k:Int}(hk:k=4\/k=5):UO q n lv ls p M hasP O w (W.setCell ⟨w.heap.size,0,none⟩ (.int .u8 k)):=by
 have hb:=(ag w.heap.size W).setCell (p:=⟨w.heap.size,0,none⟩) (af _) (.int .u8 k);have D:(W.setCell ⟨w.heap.size,0,none⟩ (.int .u8 k)).heap[w.heap.size]?=some (.cells #[.int .u8 k,.string ⟨#[]⟩,.slice none 0 0,.int .i64 0,.slice none 0 0,.slice none 0 0] 43 (0,0)):=by
  simp[World.setCell,cK,h.cr,zT]
 refine⟨⟨yo k,dO,D,.flush hk,jP RowOf.nil (λ_ h=>absurd h (by simp)) gG gG (by omega) (show(Lit.int .i64 0).wf=true by decide) (show(0:Nat)<=maxLen by decide),h.base.low (hb.mono h.oldn)⟩,h.low.trans (bn h.lt hb)⟩
end
def yZ(O:Nat):Prop:=∀(q n:Nat) (lv:Sp) (ls:List Int) (dO:Nat) (p:aj) (M:jr) (hasP:Bool) (w:World),Hu q n lv ls dO p M w->(M.iR=false->hasP=decide (0<p.aA.length))->∀(D:Int),0<=D/\D<=5 ->
 Calls Tryz.prog 100 #[.pointer (some ⟨q,0,none⟩),.int .i64 D,.int .i64 O] w λo w'=>∃(A:Option Addr) (c:Nat) (l:List aa) (at':Nat),o=.returned (.slice A l.length c)/\(l.length:Int)<=D/\dz w.heap.size w' 43 6 aa.cells (.slice A l.length c) l/\(∀s,s∈l->WT M hasP O s)/\(∀s,s∈l->nV w.heap.size (Value.slice A l.length c).ownBlock w' s)/\uy q n lv ls at' p M.iR w'/\Below w.heap.size (mask q w) (mask q w')
theorem PE(w:World):Calls Tryz.prog 158 #[.int .u8 3,.agg #[.int .u8 2,.int .u8 0,.int .u32 0,.int .i64 0,.string ⟨#[99]⟩,.slice none 0 0],.agg #[.int .u8 1,.int .u8 0,.int .u32 1,.int .i64 2,.string ⟨#[]⟩,.slice none 0 0]] w λo w'=>∃b,o=.returned (.agg #[.int .u8 6,.int .u8 3,.int .u32 0,.int .i64 0,.string ⟨#[]⟩,.slice (some ⟨b,0,none⟩) 2 2])/\w.heap.size<=b/\b<w'.heap.size/\w'.heap[b]?=some (.cells ((aZ ⟨#[99]⟩).cells++(cO 1 2).cells).toArray 30 (0,0))/\Below w.heap.size w w' :=
 oZ 3 (aZ ⟨#[99]⟩) (cO 1 2) w
theorem PQ(x:Int)(w:World):Calls Tryz.prog 158 #[.int .u8 15,.agg #[.int .u8 2,.int .u8 0,.int .u32 0,.int .i64 0,.string ⟨#[99]⟩,.slice none 0 0],.agg #[.int .u8 1,.int .u8 0,.int .u32 x,.int .i64 2,.string ⟨#[]⟩,.slice none 0 0]] w λo w'=>∃b,o=.returned (.agg #[.int .u8 6,.int .u8 15,.int .u32 0,.int .i64 0,.string ⟨#[]⟩,.slice (some ⟨b,0,none⟩) 2 2])/\w.heap.size<=b/\b<w'.heap.size/\w'.heap[b]?=some (.cells ((aZ ⟨#[99]⟩).cells++(cO x 2).cells).toArray 30 (0,0))/\Below w.heap.size w w' :=
 oZ 15 (aZ ⟨#[99]⟩) (cO x 2) w
theorem K5(W:World)(x wd:Int)(hx:0<=x/\x<=4294967295)(D:(Lit.int .i64 wd).wf=true):mM 0 W (cO x wd):=
 .mk _ (show(0:Int)<=1/\(1:Int)<=255 by decide) (show(0:Int)<=0/\(0:Int)<=255 by decide) hx D (show(0:Nat)<=maxLen by decide) RowOf.nil (λ_ h=>absurd h (by simp[cO,ah.cu]))
theorem Ec{w W:World}{b:Nat}{k o:Int}{D O:ah}(h:W.heap[b]?=some (.cells (D.cells++O.cells).toArray 30 (0,0)))(hb:w.heap.size<=b)(h1:∀V:World,mM 0 V D)(h2:∀V:World,mM 0 V O)(hk:0<=k/\k<=255)(ho:0<=o/\o<=255):fV w.heap.size W (.mk k o 0 0 ⟨#[]⟩ ⟨some ⟨b,0,none⟩,2⟩ [D,O]):=
 nA (pM (enc:=ah.cells) rfl h) hb (λs U=>by
  simp only[bE,bu,or_false]at U;rcases U with rfl|rfl
  .exact(h1 _).more (aH _)
  .exact(h2 _).more (aH _)) hk ho (show(0:Int)<=0/\(0:Int)<=4294967295 by decide) (show(Lit.int .i64 0).wf=true by decide) (show(⟨#[]⟩:ByteArray).size<=maxLen by decide)
end
section
section
variable {n:Nat}{W W':World}
theorem q8.cells{s:Sp}{l:List bO}(h:q8 n W s l)(hc:∀p u,p.block<n->W.cell? p=some u->W'.cell? p=some u):q8 n W' s l:=⟨h.row.cells hc,h.ok⟩
theorem gq.cells{s:Sp}{l:List aa}(h:gq n W s l)(hc:∀p u,p.block<n->W.cell? p=some u->W'.cell? p=some u):gq n W' s l:=⟨h.row.cells hc,λt ht=>(h.ok t ht).cells hc⟩
theorem jT.cells{p:aj}(h:jT n W p)(hc:∀p u,p.block<n->W.cell? p=some u->W'.cell? p=some u):jT n W' p :=
 ⟨h.iF,h.aS,h.fB.cells hc,h.ek.cells hc,h.gp.cells hc,h.fP.cells hc,h.eD.cells hc,h.irow.cells hc,λi hi=>⟨(h.eQ i hi).block,(h.eQ i hi).bv.cells hc⟩,h.prow.cells hc,λx hx=>⟨(h.aA x hx).aT,(h.aA x hx).bC.cells hc,(h.aA x hx).eY.cells hc⟩,h.eX.cells hc,h.eB.cells hc,h.d9.cells hc⟩
end
def sJ(lo:Nat)(W:World)(p:aj):Prop:=jT W.heap.size (gP lo W) p
section
variable {lo q:Nat}{W W':World}{p:aj}
theorem sJ.on(h:sJ lo W p)(hb:Below W.heap.size (mask q W) (mask q W'))(hq:q<lo):sJ lo W' p:=(jT.cells h (lg hb hq)).more (ja hb)
theorem sJ.below(h:sJ lo W p)(hb:Below W.heap.size W W'):sJ lo W' p :=
 (jT.cells h λ_ _ hp hc=>bJ.2 ⟨(bJ.1 hc).1,(hb.cell hp).trans (bJ.1 hc).2⟩).more hb.size
theorem sJ.less{lo':Nat}(h:sJ lo W p)(hl:lo'<=lo):sJ lo' W p:=jT.cells h (r9 hl)
theorem sJ.set{g:Nat}{cs:Array Value}(h:sJ lo W p)(D:g<lo):sJ lo (W.setRow g cs) p:=by
 unfold sJ;rw[eP];exact jT.cells h (xm D)
end
structure yV(q:Nat)(lv:Sp)(ls:List Int)(dO:Nat)(p:aj)(iR:Bool)(w W:World):Prop where
 iN:uy q (q+1) lv ls dO p iR W
 eq:q=w.heap.size+1
 rd:sJ (q+1) W p
 low:Below w.heap.size w W
 res:W.heap[w.heap.size]?=some (.cells ed.arr 35 (0,0))
section
variable {q:Nat}{lv:Sp}{ls:List Int}{dO at':Nat}{p:aj}{iR:Bool}{w W W':World}
theorem yV.lt(h:yV q lv ls dO p iR w W):q<W.heap.size:=h.iN.ib
theorem uy.raise{n n':Nat}(h:uy q n lv ls dO p iR W)(D:n<=n')(hW:n'<=W.heap.size):uy q n' lv ls dO p iR W :=
 ⟨h.box,h.le,h.few,h.list.more D,h.byte,by have:=h.qn;omega,hW⟩
theorem yV.full(h:yV q lv ls dO p iR w W):uy q W.heap.size lv ls dO p iR W:=h.iN.raise h.iN.nW (af _)
theorem yV.next{n':Nat}(h:yV q lv ls dO p iR w W)(D:uy q n' lv ls at' p iR W')(hb:Below W.heap.size (mask q W) (mask q W')):yV q lv ls at' p iR w W':=by
 have hq:=h.lt;have he:=h.eq;have O:=ja hb;refine⟨⟨D.box,D.le,D.few,h.iN.list.below (hb.mono h.iN.nW),D.byte,bN _,by omega⟩,he,h.rd.on hb (bN _),?_,(jN hb (by omega) (by omega)).trans h.res⟩;exact h.low.trans (nG (by omega) (hb.mono (by omega)))
theorem yV.on(h:yV q lv ls dO p iR w W)(hb:Below W.heap.size W W'):yV q lv ls dO p iR w W':=h.next (h.full.on hb) (bn h.lt hb)
theorem yV.row(h:yV q lv ls dO p iR w W)(p':aj)(D:Bool){cs:Array Value}(hc:cs=(l7 lv ls.length dO p' D).toArray)(O:sJ (q+1) W p'):yV q lv ls dO p' D w (W.setRow q cs):=by
 subst hc;have he:=h.eq;have hb:=Go.below_setRow (ag w.heap.size W) (show w.heap.size<=q by omega) (l7 lv ls.length dO p' D).toArray;have hm:mask q (W.setRow q (l7 lv ls.length dO p' D).toArray)=mask q W:=by
  refine tZ rfl rfl rfl rfl λk=>?_
  by_cases hk:k=q
  .subst hk;rw[mE,mE,eP]
  .rw[gz hk,gz hk,dQ _ _ _ _ hk]
 exact⟨⟨bM _ _ _ _ _ _ h.iN.box,h.iN.le,h.iN.few,by rw[hm];exact h.iN.list,h.iN.byte,bN _,by rw[eP];exact h.iN.nW⟩,he,O.set (bN _),h.low.trans hb,(dQ _ _ _ _ (by omega)).trans h.res⟩
theorem yV.put(h:yV q lv ls dO p iR w W)(p':aj)(D:Bool){i:Nat}{v:Value}(hc:(l7 lv ls.length dO p iR).toArray.setIfInBounds i v=(l7 lv ls.length dO p' D).toArray)(O:sJ (q+1) W p'):yV q lv ls dO p' D w (W.setCell ⟨q,i,none⟩ v):=by
 rw[zS h.iN.box];exact h.row p' D hc O
theorem zU{b i:Nat}{t:TypeId}{cs:Array Value}{D O U V v4 v5:Value}(h:W.heap[b]?=some (.cells cs t (0,0))):(((((W.setCell ⟨b,i,none⟩ D).setCell ⟨b,i+1,none⟩ O).setCell ⟨b,i+2,none⟩ U).setCell ⟨b,i+3,none⟩ V).setCell ⟨b,i+4,none⟩ v4).setCell ⟨b,i+5,none⟩ v5=W.setRow b ((((((cs.setIfInBounds i D).setIfInBounds (i+1) O).setIfInBounds (i+2) U).setIfInBounds (i+3) V).setIfInBounds (i+4) v4).setIfInBounds (i+5) v5):=by
 rw[zS h,lm h,lm h,lm h,lm h,lm h]
theorem yV.mkr(h:yV q lv ls dO p iR w W){M:jr}(hp:iR=M.iR)(O:M.ok)(U:M.N=std)(hw:p.aS=M.w)(hi:p.fB=lG M)(V:p.ek=ry M)(hv:p.gp=BS M):Hu q W.heap.size lv ls dO p M W:=by
 have hc:∀(a:Addr) (u:Value),a.block<W.heap.size->(gP (q+1) W).cell? a=some u->(mask q W).cell? a=some u:=λa u _ hu=>by
  obtain⟨h1,D⟩:=bJ.1 hu;exact(aM (gz (show a.block≠q by omega))).trans D
 subst hp;exact⟨h.full,O,U,hw,hi,V,hv,h.rd.fB.row.cells hc,h.rd.ek.row.cells hc,h.rd.gp.row.cells hc⟩
end
end
section
def P5(p:aj):aj:={ p with ws:=Sp.none,eX:=[] }
structure yP(lo:Nat)(W:World)(A:Option Addr)(c:Nat)(l:List aa)(p:aj):Prop where
 own:dz lo W 43 6 aa.cells (.slice A l.length c) l
 elems:∀s∈l,nV lo (Value.slice A l.length c).ownBlock W s
 rest:jT W.heap.size (gP lo (jZ (Value.slice A l.length c).ownBlock W)) p
section
variable {lo q:Nat}{W W':World}{A:Option Addr}{c:Nat}{l:List aa}{p:aj}
theorem j4.toxW{lo' n:Nat}{g:Option Nat}{sp:Sp}{k:List aa}(h:j4 lo W sp k)(D:∀b,g=some b->b<lo)(hl:lo'<=lo)(O:W.heap.size<=n):gq n (gP lo' (jZ g W)) sp k :=
 ⟨(h.1.cells λp u _ hc=>iJ.2 ⟨by have:=(bJ.1 hc).1;omega,λe=>by have:=D _ e;have:=(bJ.1 hc).1;omega,(bJ.1 hc).2⟩).more O,λs U=>((h.2 s U).cells λp u _ hc=>iJ.2 ⟨by have:=(bJ.1 hc).1;omega,λe=>by have:=D _ e;have:=(bJ.1 hc).1;omega,(bJ.1 hc).2⟩).more O⟩
theorem fV.toxW{lo' n:Nat}{g:Option Nat}{e:ah}(h:fV lo W e)(D:∀b,g=some b->b<lo)(hl:lo'<=lo)(O:W.heap.size<=n):mM n (gP lo' (jZ g W)) e :=
 (mM.cells h λp u _ hc=>iJ.2 ⟨by have:=(bJ.1 hc).1;omega,λe=>by have:=D _ e;have:=(bJ.1 hc).1;omega,(bJ.1 hc).2⟩).more O
theorem yP.start{U:aj}{W0:World}(V:sJ lo W0 U)(hb:Below W0.heap.size (mask q W0) (mask q W))(hq:q<lo)(D:lo<=W0.heap.size)(O:dz W0.heap.size W 43 6 aa.cells (.slice A l.length c) l)
  (hx:∀s∈l,nV W0.heap.size (Value.slice A l.length c).ownBlock W s):yP lo W A c l U :=
 ⟨O.less D,λs hs=>(hx s hs).less D,(jT.cells V λp u hp hc=>iJ.2 ⟨(bJ.1 hc).1,λe=>by have:=(O.iO e).1;omega,(aM (iB hb hp (by have:=(bJ.1 hc).1;omega))).trans (bJ.1 hc).2⟩).more (ja hb)⟩
theorem yP.kept(h:yP lo W A c l p)(O:W.heap.size<=W'.heap.size)(hk:∀b,lo<=b->b<W.heap.size->W'.heap[b]?=W.heap[b]?):yP lo W' A c l p:=by
 have hc:∀(a:Addr) (u:Value),a.block<W.heap.size->(gP lo (jZ (Value.slice A l.length c).ownBlock W)).cell? a=some u->(gP lo (jZ (Value.slice A l.length c).ownBlock W')).cell? a=some u:=λa u ha hc=>by
  obtain⟨h1,U,V⟩:=iJ.1 hc;exact iJ.2 ⟨h1,U,(aM (hk _ h1 ha)).trans V⟩
 exact⟨h.own.kept λg _ _ hg hh=>hk g hg (dM hh).1,λs D=>(lV.cells (h.elems s D) hc).more O,(jT.cells h.rest hc).more O⟩
theorem yP.on(h:yP lo W A c l p)(hb:Below W.heap.size (mask q W) (mask q W'))(hq:q<lo):yP lo W' A c l p:=h.kept (ja hb) λb h1 D=>iB hb D (by omega)
theorem yP.put(h:yP lo W A c l p)(hq:q<lo)(i:Nat)(v:Value):yP lo (W.setCell ⟨q,i,none⟩ v) A c l p:=h.kept (by simp) λb h1 _=>aN _ _ _ _ (by show b≠q;omega)
theorem yP.row(h:yP lo W A c l p)(hq:q<lo)(cs:Array Value):yP lo (W.setRow q cs) A c l p:=h.kept (by rw[eP];exact af _) λb h1 _=>dQ _ _ _ _ (by omega)
theorem yP.eB{lo2:Nat}{sp:Sp}{k:List aa}(h:yP lo W A c l p)(O:j4 lo2 W sp k)(hl:lo<=lo2)(D:∀b,(Value.slice A l.length c).ownBlock=some b->b<lo2):yP lo W A c l { p with cs:=sp,eB:=k } :=
 ⟨h.own,h.elems,{ h.rest with eB:=O.toxW D hl (af _) }⟩
theorem yP.inv{lo2:Nat}{e:ah}(h:yP lo W A c l p)(O:fV lo2 W e)(hl:lo<=lo2)(D:∀b,(Value.slice A l.length c).ownBlock=some b->b<lo2):yP lo W A c l { p with d9:=e } :=
 ⟨h.own,h.elems,{ h.rest with d9:=O.toxW D hl (af _) }⟩
theorem yP.less{lo':Nat}(h:yP lo W A c l p)(hl:lo'<=lo):yP lo' W A c l p:=by
 have hc:∀(a:Addr) (u:Value),a.block<W.heap.size->(gP lo (jZ (Value.slice A l.length c).ownBlock W)).cell? a=some u->(gP lo' (jZ (Value.slice A l.length c).ownBlock W)).cell? a=some u:=λa u _ hc=>iJ.2 ⟨by have:=(iJ.1 hc).1;omega,(iJ.1 hc).2⟩
 exact⟨h.own.less hl,λs D=>lV.cells (h.elems s D) hc,jT.cells h.rest hc⟩
end
structure oV(n B:Nat)(W:World)(p:aj):Prop where
 own:dz B W 43 6 aa.cells (.slice p.ws.dO p.eX.length p.ws.df) p.eX
 elems:∀s∈p.eX,lV n (gP B (jZ (Value.slice p.ws.dO p.eX.length p.ws.df).ownBlock W)) s
 rest:jT n (gP B (jZ (Value.slice p.ws.dO p.eX.length p.ws.df).ownBlock W)) (P5 p)
 full:p.rs.df=p.aA.length
theorem yP.whole{B:Nat}{W:World}{p:aj}(h:yP B W p.ws.dO p.ws.df p.eX (P5 p))(hf:p.rs.df=p.aA.length):oV W.heap.size B W p:=⟨h.own,h.elems,h.rest,hf⟩
theorem oV.below{n B:Nat}{W W':World}{p:aj}(h:oV n B W p)(hn:n<=W.heap.size)(hb:Below W.heap.size W W'):oV n B W' p:=by
 have hc:∀(a:Addr) (u:Value),a.block<n->(gP B (jZ (Value.slice p.ws.dO p.eX.length p.ws.df).ownBlock W)).cell? a=some u->(gP B (jZ (Value.slice p.ws.dO p.eX.length p.ws.df).ownBlock W')).cell? a=some u:=λa u V hc=>by
  obtain⟨h1,D,O⟩:=iJ.1 hc;exact iJ.2 ⟨h1,D,(hb.cell (by omega)).trans O⟩
 exact⟨h.own.on hb,λs U=>lV.cells (h.elems s U) hc,jT.cells h.rest hc,h.full⟩
end
section
def Ia(W:World)(b:Nat):Prop:=W.heap[b]?=some (.cells ed.arr 35 (0,0))
theorem LJ{W:World}{b i:Nat}{u:Value}(hz:Ia W b)(h:W.cell? ⟨b,i,none⟩=some u):u∈ed.cells:=by
 have D:W.heap[b]?=_:=hz;simp only[World.cell?,D]at h;exact mZ (by simpa[aj.arr]using h)
theorem mX{α:Type}{n k b:Nat}{W:World}{sp:Sp}{enc:α->List Value}{l:List α}(hz:Ia W b)(h:RowOf n W sp k enc l)(hne:∀x:α,x∈l->∃(r:Nat) (u:Value),(enc x)[r]?=some u/\u∉ed.cells):RowOf n (mask b W) sp k enc l :=
 ⟨h.df,h.big,h.few,λD=>by
  obtain⟨b',off,e,O,hx⟩:=h.row D;have hb:b'≠b:=λU=>by
   subst U;obtain⟨r,u,h1,V⟩:=hne _ (ak D);exact V (LJ hz (hx 0 D r u h1))
  exact⟨b',off,e,O,λj hj r u hu=>(aM (gz hb)).trans (hx j hj r u hu)⟩⟩
theorem qh{k:Int}(h:k≠0):Value.int .u8 k∉ed.cells:=by
 simp[ed,aj.cells,zeroE,Sp.val,Sp.none,ah.bI,ah.op,ah.aT,h]
theorem Dz{s:ByteArray}(h:s≠⟨#[]⟩):Value.string s∉ed.cells:=by
 simp[ed,aj.cells,zeroE,Sp.val,Sp.none,ah.bI,ah.op,ah.aT,h]
def Ej(e:ah):Prop:=∀x∈e.pre,x.bI≠0
def Gc(s:aa):Prop:=∀x∈s.pre,x.bI≠0/\∀e∈x.bf,Ej e
theorem Ej.own{e:ah}(h:Ej e):e.bI≠0:=h e (by rw[ah.pre_eq];exact aD ..)
theorem Ej.sub{e:ah}(h:Ej e):∀x∈e.cu,Ej x:=λx hx y D=>h y (by rw[ah.pre_eq];exact au _ (List.mem_flatMap.2 ⟨x,hx,D⟩))
theorem Gc.own{s:aa}(h:Gc s):s.bI≠0/\∀e∈s.bf,Ej e:=h s (by rw[aa.pre_eq];exact aD ..)
theorem Gc.gy{s:aa}(h:Gc s):∀t∈s.gy,Gc t:=λt ht x hx=>h x (by rw[aa.pre_eq];exact au _ (cz _ (List.mem_flatMap.2 ⟨t,ht,hx⟩)))
theorem Gc.iD{s:aa}(h:Gc s):∀t∈s.iD,Gc t:=λt ht x hx=>h x (by rw[aa.pre_eq];exact au _ (bF _ (List.mem_flatMap.2 ⟨t,ht,hx⟩)))
theorem PL{k o v w:Int}{n:ByteArray}{sp:Sp}{l:List ah}(h1:k≠0)(D:∀x∈l,Ej x):Ej (.mk k o v w n sp l):=λx hx=>by
 rw[ah.pre_eq]at hx;rcases List.mem_cons.1 hx with rfl|hx
 .exact h1
 .obtain⟨s,O,hx⟩:=List.mem_flatMap.1 hx
  exact D s O x hx
theorem Tn{k b:Int}{n:ByteArray}{es ts os:Sp}{ex:List ah}{th el:List aa}(h1:k≠0)(O:∀x∈ex,Ej x)(U:∀t∈th,Gc t)(V:∀t∈el,Gc t):Gc (.mk k n es ex b ts th os el):=λx hx=>by
 rw[aa.pre_eq]at hx;rcases List.mem_cons.1 hx with rfl|hx
 .exact⟨h1,O⟩
 .rcases List.mem_append.1 hx with hx|hx
  .obtain⟨s,D,hx⟩:=List.mem_flatMap.1 hx
   exact U s D x hx
  .obtain⟨s,D,hx⟩:=List.mem_flatMap.1 hx
   exact V s D x hx
section
variable {n b:Nat}{W:World}(hz:Ia W b)
include hz
theorem mM.avoidB{e:ah}(h:mM n W e):Ej e->mM n (mask b W) e:=by
 induction h with
 |mk e k o v w U row V O=>exact λhe=>.mk e k o v w U (mX hz row λx hx=>⟨0,_,rfl,qh (he.sub x hx).own⟩) λs D=>O s D (he.sub s D)
theorem lV.avoidB{s:aa}(h:lV n W s):Gc s->lV n (mask b W) s:=by
 induction h with
 |mk s k b' nm er ex tr th O el U V =>
  exact λD=>.mk s k b' nm (mX hz er λe he=>⟨0,_,rfl,qh (D.own.2 e he).own⟩) (λe he=>(ex e he).avoidB hz (D.own.2 e he))
   (mX hz tr λt ht=>⟨0,_,rfl,qh (D.gy t ht).own.1⟩) (λt ht=>U t ht (D.gy t ht)) (mX hz O λt ht=>⟨0,_,rfl,qh (D.iD t ht).own.1⟩) (λt ht=>V t ht (D.iD t ht))
theorem gq.avoidB{sp:Sp}{l:List aa}(h:gq n W sp l)(hl:∀s∈l,Gc s):gq n (mask b W) sp l:=⟨mX hz h.row λs D=>⟨0,_,rfl,qh (hl s D).own.1⟩,λs D=>(h.ok s D).avoidB hz (hl s D)⟩
theorem q8.avoidB{sp:Sp}{l:List bO}(h:q8 n W sp l)(hl:∀d∈l,d.aT≠⟨#[]⟩):q8 n (mask b W) sp l:=⟨mX hz h.row λd D=>⟨0,_,rfl,Dz (hl d D)⟩,h.ok⟩
end
structure UG(p:aj):Prop where
 fB:∀d∈p.fB,d.aT≠⟨#[]⟩
 ek:∀d∈p.ek,d.aT≠⟨#[]⟩
 gp:∀d∈p.gp,d.aT≠⟨#[]⟩
 fP:∀d∈p.fP,d.aT≠⟨#[]⟩
 eD:Ej p.eD
 eQ:∀i∈p.eQ,Ej i.bv
 aA:∀q∈p.aA,q.aT≠⟨#[]⟩/\(∀d∈q.bC,d.aT≠⟨#[]⟩)/\∀s∈q.eY,Gc s
 eX:∀s∈p.eX,Gc s
 eB:∀s∈p.eB,Gc s
 d9:Ej p.d9
theorem jT.avoidB{n b:Nat}{W:World}{p:aj}(hz:Ia W b)(h:jT n W p)(k:UG p):jT n (mask b W) p :=
 ⟨h.iF,h.aS,h.fB.avoidB hz k.fB,h.ek.avoidB hz k.ek,h.gp.avoidB hz k.gp,h.fP.avoidB hz k.fP,h.eD.avoidB hz k.eD,
  mX hz h.irow λi hi=>⟨1,_,rfl,qh (k.eQ i hi).own⟩,λi hi=>⟨(h.eQ i hi).block,(h.eQ i hi).bv.avoidB hz (k.eQ i hi)⟩,
  mX hz h.prow λq hq=>⟨0,_,rfl,Dz (k.aA q hq).1⟩,λq hq=>⟨(h.aA q hq).aT,(h.aA q hq).bC.avoidB hz (k.aA q hq).2.1,(h.aA q hq).eY.avoidB hz (k.aA q hq).2.2⟩,
  h.eX.avoidB hz k.eX,h.eB.avoidB hz k.eB,h.d9.avoidB hz k.d9⟩
theorem jT.putB{b:Nat}{W:World}{p:aj}(hz:Ia W b)(h:jT W.heap.size W p)(k:UG p)(cs:Array Value):jT (W.setRow b cs).heap.size (W.setRow b cs) p:=by
 rw[eP];refine jT.cells (h.avoidB hz k) λa u _ hc=>?_
 have hne:a.block≠b:=by
  rintro rfl;simp[World.cell?,mE]at hc
  split at hc<;>simp_all
 rw[aM (gz hne)]at hc;exact(cell_setRow_other _ _ _ _ hne).trans hc
end
section
theorem Cg{P:Program}{α:Type}{k:Nat}{enc:α->List Value}{w:World}{ops:Array Oper}{o:Oper}{a:Act}{K:Act->World->Prop}{Q:Exit->Act->World->Prop}{E:Prop}(ab:o.guard=none)(s x:Operand)(t:TypeId)
  (ho:o.op=.call { callee:=.builtin .append,args:=#[s,x],argTypes:=#[t,t] }) {B:Nat}{e:TypeId}(hE:sN P t e k) (hk:∀x,(enc x).length=k) (h1:∀x:α,∀u∈enc x,u.oneCell'=true) (v:Value) (l:List α) (hs:a.eval s=v) (U:dz B w e k enc v l)
  {n:Nat}(sp:Sp) (l2:List α) (hx:a.eval x=.slice sp.dO l2.length sp.df) (hr:RowOf n w sp k enc l2) (O:l.length+l2.length<=1000000) (hB:B<=w.heap.size)
  (h:∀D w',dz B w' e k enc D (l++l2)->w.grownBy w' v.ownBlock->(D.ownBlock=v.ownBlock\/D.ownBlock=some w.heap.size)->K (a.put o.dst D) w') :
  if Region.wanted o (yielded ops a.tmps)=true then Oper.wp P o a w K Q else E:=by
 have hw:Region.wanted o (yielded ops a.tmps)=true:=by simp[Region.wanted,ab]
 rw[if_pos hw];obtain⟨D,w',V,h2,h3,h4⟩:=sH (P:=P) (ty:=o.type) hE hk h1 U hr O hB;unfold Oper.wp execOp;simp only[ho,resolve,invoke,builtin,Sem.run_bind,Sem.run_pure,Result.andThen_ok,List.map_toArray,ax,dh,hs,hx,V];exact h D w' h2 h3 h4
def qG(lo:Nat)(g:Option Nat)(W:World)(s:ah):Prop:=mM W.heap.size (gP lo (jZ g W)) s
section
variable {lo q:Nat}{g:Option Nat}{W W':World}{s:ah}
theorem qG.newX(h:qG lo g W s):fV lo W s:=mM.cells h λ_ _ _ hc=>bJ.2 ⟨(iJ.1 hc).1,(iJ.1 hc).2.2⟩
theorem qG.on(h:qG lo g W s)(hb:Below W.heap.size (mask q W) (mask q W'))(hq:q<lo):qG lo g W' s :=
 (mM.cells h λp u hp hc=>by
  obtain⟨h1,D,O⟩:=iJ.1 hc;exact iJ.2 ⟨h1,D,(aM (jN hb hp (by omega))).trans O⟩).more (ja hb)
theorem qG.below(h:qG lo g W s)(hb:Below W.heap.size W W'):qG lo g W' s :=
 (mM.cells h λ_ _ hp hc=>iJ.2 ⟨(iJ.1 hc).1,(iJ.1 hc).2.1,(hb.cell hp).trans (iJ.1 hc).2.2⟩).more hb.size
theorem qG.grow{g':Option Nat}(h:qG lo g W s)(U:W.grownBy W' g)(D:g'=g\/g'=some W.heap.size):qG lo g' W' s :=
 (mM.cells h λp u hp hc=>by
  obtain⟨h1,O,V⟩:=iJ.1 hc;refine iJ.2 ⟨h1,?_,(aM (U.block _ hp (λe=>O e.symm))).trans V⟩;rcases D with rfl|rfl
  .exact O
  .intro e
   have:=iL e;omega).more U.size
theorem qG.set{b:Nat}{cs:Array Value}(h:qG lo g W s)(hb:b<lo):qG lo g (W.setRow b cs) s:=by
 unfold qG;rw[eP];refine mM.cells h λp u _ hc=>?_
 obtain⟨h1,D,O⟩:=iJ.1 hc;exact iJ.2 ⟨h1,D,(cell_setRow_other W b cs p (by omega)).trans O⟩
theorem fV.tox{lo':Nat}(h:fV lo W s)(O:∀b,g=some b->b<lo)(hl:lo'<=lo):qG lo' g W s :=
 mM.cells h λp u _ hc=>by
  obtain⟨h1,D⟩:=bJ.1 hc;exact iJ.2 ⟨by omega,λe=>by have:=O _ e;omega,D⟩
end
def xU(p:aj)(A:Option Addr)(c:Nat)(l:List dH):aj:={ p with ns:=⟨A,c⟩,eQ:=l }
structure BX(q:Nat)(lv:Sp)(ls:List Int)(dO:Nat)(p:aj)(M:jr)(s0:Nat)(j:Int)(A:Option Addr)(c:Nat)(l:List dH)(w W:World):Prop where
 iN:uy q (q+1) lv ls dO (xU p A c l) false W
 eq:q=w.heap.size+1
 rd:jT s0 (gP (q+1) W) p
 q0:q+1<=s0
 sW:s0<=W.heap.size
 own:dz s0 W 149 7 dH.cells (.slice A l.length c) l
 vals:∀x∈l,0<=x.block/\x.block<j/\(Lit.int .i64 x.block).wf=true/\WX M 1 1 M.w x.bv/\qG s0 (Value.slice A l.length c).ownBlock W x.bv
 pw:l.Pairwise (λx y=>x.block<y.block)
 len:(l.length:Int)<=j
 low:Below w.heap.size w W
 res:W.heap[w.heap.size]?=some (.cells ed.arr 35 (0,0))
section
variable {q:Nat}{lv:Sp}{ls:List Int}{dO at':Nat}{p:aj}{M:jr}{s0:Nat}{j:Int}{A:Option Addr}{c:Nat}{l:List dH}{w W W':World}
theorem BX.start(h:yV q lv ls dO p false w W)(hp:xU p none 0 []=p):BX q lv ls dO p M W.heap.size 0 none 0 [] w W :=
 ⟨by rw[hp];exact h.iN,h.eq,h.rd,h.lt,af _,dz.nil,λ_ hx=>absurd hx (by simp),.nil,by simp,h.low,h.res⟩
theorem BX.lt(h:BX q lv ls dO p M s0 j A c l w W):q<W.heap.size:=h.iN.ib
theorem BX.next{n':Nat}(h:BX q lv ls dO p M s0 j A c l w W)(D:uy q n' lv ls at' (xU p A c l) false W')(hb:Below W.heap.size (mask q W) (mask q W')):BX q lv ls at' p M s0 j A c l w W':=by
 have hq:=h.lt;have he:=h.eq;have hs:=ja hb;have h1:=h.q0;have h2:=h.sW;refine⟨⟨D.box,D.le,D.few,h.iN.list.below (hb.mono h.iN.nW),D.byte,bN _,by omega⟩,he,h.rd.cells (λa u ha hu=>lg hb (bN _) a u (by omega) hu),h1,by omega,jE h.own hb (by omega),λx hx=>?_,h.pw,h.len,?_,(jN hb (by omega) (by omega)).trans h.res⟩
 .obtain⟨O,a2,U,V,a5⟩:=h.vals x hx
  exact⟨O,a2,U,V,a5.on hb (by omega)⟩
 .exact h.low.trans (nG (by omega) (hb.mono (by omega)))
theorem BX.full(h:BX q lv ls dO p M s0 j A c l w W):uy q W.heap.size lv ls dO (xU p A c l) false W:=h.iN.raise h.iN.nW (af _)
theorem BX.on(h:BX q lv ls dO p M s0 j A c l w W)(hb:Below W.heap.size W W'):BX q lv ls dO p M s0 j A c l w W':=h.next (h.full.on hb) (bn h.lt hb)
theorem BX.mkr(h:BX q lv ls dO p M s0 j A c l w W)(hp:M.iR=false)(O:M.ok)(U:M.N=std)(hw:p.aS=M.w)(hi:p.fB=lG M)(V:p.ek=ry M)(hv:p.gp=BS M):Hu q W.heap.size lv ls dO (xU p A c l) M W:=by
 have hc:∀(a:Addr) (u:Value),a.block<s0->(gP (q+1) W).cell? a=some u->(mask q W).cell? a=some u:=λa u _ hu=>by
  obtain⟨h1,D⟩:=bJ.1 hu;exact(aM (gz (show a.block≠q by omega))).trans D
 exact⟨by rw[hp];exact h.full,O,U,hw,hi,V,hv,(h.rd.fB.row.cells hc).more h.sW,(h.rd.ek.row.cells hc).more h.sW,(h.rd.gp.row.cells hc).more h.sW⟩
theorem BX.skip(h:BX q lv ls dO p M s0 j A c l w W):BX q lv ls dO p M s0 (j+1) A c l w W :=
 { h with vals:=λx hx=>by obtain⟨D,a2,O⟩:=h.vals x hx;exact⟨D,by omega,O⟩,len:=by have:=h.len;omega }
theorem BX.app(h:BX q lv ls dO p M s0 j A c l w W)(hj:0<=j)(ao:(Lit.int .i64 j).wf=true){e:ah}{lo:Nat}(a6:WX M 1 1 M.w e)(aq:fV lo W e)(ap:s0<=lo)(ar:∀b,(Value.slice A l.length c).ownBlock=some b->b<lo)
  {o:Obj}{O:World}{A2:Option Addr}{c2:Nat}(al:dz s0 O 149 7 dH.cells (.slice A2 (l++[(⟨j,e⟩:dH)]).length c2) (l++[(⟨j,e⟩:dH)])) (hg:(W.alloc o).grownBy O (Value.slice A l.length c).ownBlock)
  (ad:(Value.slice A2 (l++[(⟨j,e⟩:dH)]).length c2).ownBlock=(Value.slice A l.length c).ownBlock\/(Value.slice A2 (l++[(⟨j,e⟩:dH)]).length c2).ownBlock=some (W.alloc o).heap.size) :
  BX q lv ls dO p M s0 (j+1) A2 c2 (l++[(⟨j,e⟩:dH)]) w (O.setCell ⟨q,14,none⟩ (.slice A2 (l++[(⟨j,e⟩:dH)]).length c2)):=by
 have V:Below W.heap.size W (W.alloc o):=(ag _ _).alloc (af _) _;have h1:=h.on V;have he:=h.eq;have aw:=h.q0;have a9:=h.sW;have ab:=h1.own;have D:Below s0 (W.alloc o) O:=ab.below hg (af _) (ag _ _) h1.sW;have U:O.heap[q]?=some (.cells (l7 lv ls.length dO (xU p A c l) false).toArray 145 (0,0)):=(D.block q (by omega)).trans h1.iN.box;have am:O.setCell ⟨q,14,none⟩ (.slice A2 (l++[(⟨j,e⟩:dH)]).length c2)=O.setRow q (l7 lv ls.length dO (xU p A2 c2 (l++[(⟨j,e⟩:dH)])) false).toArray:=by
  rw[zS U]
  rfl
 have an:=Go.below_setRow (ag w.heap.size O) (show w.heap.size<=q by omega) (l7 lv ls.length dO (xU p A2 c2 (l++[(⟨j,e⟩:dH)])) false).toArray;have hm:mask q (O.setRow q (l7 lv ls.length dO (xU p A2 c2 (l++[(⟨j,e⟩:dH)])) false).toArray)=mask q O:=by
  refine tZ rfl rfl rfl rfl λk=>?_
  by_cases hk:k=q
  .subst hk;rw[mE,mE,eP]
  .rw[gz hk,gz hk,dQ _ _ _ _ hk]
 rw[am];have a8:=D.size;have a7:=V.size;refine⟨⟨bM _ _ _ _ _ _ U,h.iN.le,h.iN.few,by rw[hm];exact h1.iN.list.below (bn h1.lt (D.mono (by omega))),h.iN.byte,bN _,by rw[eP];omega⟩,he,?_,aw,by rw[eP];omega,?_,λx hx=>?_,?_,?_,(h1.low.trans (D.mono (by omega))).trans an,(dQ _ _ _ _ (by omega)).trans ((D.block _ (by omega)).trans h1.res)⟩
 .refine h1.rd.cells λa u ha hu=>?_
  obtain⟨b1,b2⟩:=bJ.1 hu;exact bJ.2 ⟨b1,(cell_setRow_other _ _ _ _ (by omega)).trans ((D.cell ha).trans b2)⟩
 .exact al.kept λg _ _ hB _=>dQ _ _ _ _ (by omega)
 .rcases List.mem_append.1 hx with hx|hx
  .obtain⟨a1,a2,a3,a4,a5⟩:=h1.vals x hx
   exact⟨a1,by omega,a3,a4,(a5.grow hg ad).set (show q<s0 by omega)⟩
  .rw[List.mem_singleton.1 hx]
   exact⟨hj,by show j<j+1;omega,ao,a6,(((aq.tox ar ap).below V).grow hg ad).set (show q<s0 by omega)⟩
 .rw[List.pairwise_append]
  refine⟨h.pw,by simp,λx hx y hy=>?_⟩;rw[List.mem_singleton.1 hy];exact(h.vals x hx).2.1
 .have:=h.len
  simp only[ay,aF,bK];omega
theorem BX.done(h:BX q lv ls dO p M s0 j A c l w W)(hl:l.length<=1000):yV q lv ls dO (xU p A c l) false w W:=by
 have h1:=h.q0;have D:RowOf W.heap.size (gP (q+1) W) ⟨A,c⟩ 7 dH.cells l:=by
  obtain⟨sp,e,hr,hb⟩:=h.own.row (λ_=>rfl) (by omega);have:sp=⟨A,c⟩:=by
   unfold Sp.val at e;injection e with e1 e2 e3;rw[e1,e3]
  subst this;exact hr.low' λa V=>by have:=(hb a V).1;omega
 have hx:∀x∈l,OQ W.heap.size (gP (q+1) W) x:=λx hx=>by
  obtain⟨_,_,O,_,U⟩:=h.vals x hx;exact⟨O,(U.newX.less h1:fV (q+1) W x.bv)⟩
 exact⟨h.iN,h.eq,{ (h.rd.more h.sW)with irow:=D,eQ:=hx },h.low,h.res⟩
end
end
theorem Bl{d:Nat}(hd:d<=11)(hI:∀e,d=e+1->yZ 0/\yZ e):yZ d:=by
 intro q n lv ls dO p M hasP w h hP cc fS;have eb:=ae hI;have d8:=ae hd;clear hI hd;have c3:=h.base.cell 3 rfl;have H:=ae h;have HP:=ae hP;have bw:Hid (1<=p.aS/\p.aS<=3):=ae (by rw[h.aS];exact⟨h.ok.1,h.ok.2.1⟩);have b1:=ae h.aS;have b2:=ae h.std;have fN:(0:Int)<=cc+1:=by omega
 have fR:cc+1<=6:=by omega
 have ej:=ae (jg q n lv ls dO p M.iR w h.base (cc+1) (by omega) (by omega));have eJ:=h.base.ib;have ff:=ae h.base.nW;clear hP h;go_enter Tryz.func100,Tryz.ntmps100
 go_wp2_with fail
 refine ej.o.mono ?_;rintro o w1 ⟨K,a1,rfl,ez,fz,e9,be⟩;have H1:=ae (H.o.next e9 be);have b6:=ae be;clear e9 be ej c3;obtain⟨Kn,rfl⟩:=jV ez;have gg:(Kn:Int)<=cc:=by omega
 clear fz ez fN fR;go_wp2_with fail
 go_loopw[7,22] (λs7 d3 wr=>∃(j at':Nat) (A:Option Addr) (c:Nat) (l:List aa),j<=Kn/\d3=.int .i64 j/\s7=.slice A l.length c/\l.length=j/\dz w.heap.size wr 43 6 aa.cells (.slice A l.length c) l/\(∀s,s∈l->WT M hasP d s)/\(∀s,s∈l->nV w.heap.size (Value.slice A l.length c).ownBlock wr s)/\Hu q n lv ls at' p M wr/\Below w.heap.size (mask q w) (mask q wr)) (λ_ d3 _=>Kn - (intOf d3).toNat)
 case atStart=>exact⟨0,a1,none,0,[],aH _,rfl,rfl,rfl,dz.nil,λ_ h=>absurd h (by simp),λ_ h=>absurd h (by simp),H1.o,b6.o⟩
 case round =>
  obtain⟨j,at',A,c,l,hj,rfl,rfl,d2,aw,hwt,bd,cj,cJ⟩:=hrel;by_cases gj:j<Kn
  .have HO:=ae aw
   have et:=ae hwt;have ei:=ae bd;have d6:=ae cJ;have dp:=ae d2;have eR:w.heap.size<=wr.heap.size:=ja cJ;have bc:=jc wr (.cells #[.int .u8 0,.string ⟨#[]⟩,.slice none 0 0,.int .i64 0,.slice none 0 0,.slice none 0 0] 43);have hS:Hy q n lv ls at' p M wr (wr.alloc (.cells #[.int .u8 0,.string ⟨#[]⟩,.slice none 0 0,.int .i64 0,.slice none 0 0,.slice none 0 0] 43)):=⟨cj.on bc,cj.base.ib,cj.base.nW,bn cj.base.ib bc,gM _ _⟩;have c8:=ae hS;clear aw hwt bd cj cJ d2 H1 b6 bc hS;go_upto_region 6 with fail
   generalize wr.alloc (.cells #[.int .u8 0,.string ⟨#[]⟩,.slice none 0 0,.int .i64 0,.slice none 0 0,.slice none 0 0] 43)=W0 at *;have z0:=c8.o.base.base.cell 3 rfl;have t0:=c8.o.base.base.cell 24 rfl;go_wp2_with fail
   refine(jg q n lv ls _ p M.iR _ c8.o.base.base 16 (by decide) (by decide)).mono ?_;rintro o W1 ⟨k1,a1,rfl,cM,bt,hm,hb⟩;have ab:=ae (c8.o.next hm hb);clear hm hb c8 z0 t0;have z1:=ab.o.base.base.cell 3 rfl;have t1:=ab.o.base.base.cell 24 rfl
   go_upto_block 2 with fail
   go_cut[12] (λ_ wx=>UO q n lv ls p M hasP d wr wx)
   case first =>
    have e4:(0<=k1/\k1<=4)\/(5<=k1/\k1<=6)\/k1=7\/(8<=k1/\k1<=9)\/k1=10\/(11<=k1/\k1<=12)\/k1=13\/k1=14\/k1=15:=by omega
    clear cM bt;rcases e4 with ⟨cM,bt⟩|⟨cM,bt⟩|rfl|⟨cM,bt⟩|rfl|⟨cM,bt⟩|rfl|rfl|rfl
    .skip
     go_wp2_with fail
     refine(qB 1 (by decide) q n lv ls _ p M _ ab.o.base 2 0 ⟨by decide,by decide⟩).mono ?_;rintro o W2 ⟨e1,a2,rfl,al,ad,hm,hb⟩;have aE:=ae al;have D:=ae (ab.o.next hm hb);have U:=ae (ad.less ab.o.size);clear al ad;clear hm hb ab z1 t1;have z2:=D.o.base.base.cell 3 rfl;have t2:=D.o.base.base.cell 24 rfl;go_wp2_with fail
     refine(qB 2 (by decide) q n lv ls _ p M _ D.o.base p.aS 0 bw.o).mono ?_;rintro o W3 ⟨e2,a3,rfl,al,ad,hm,hb⟩;have bk:=ae al;have O:=ae (D.o.next hm hb);have ao:=ae (U.o.on hb (by have:=D.o.old;omega));have ap:=ae (ad.less D.o.size);clear al ad;clear hm hb D z2 t2 U;have z3:=O.o.base.base.cell 3 rfl;have t3:=O.o.base.base.cell 24 rfl;have hb:=jc W3 (.cells (Co e1 e2) 30);have ar:=bn O.o.lt hb;have am:=ae (O.o.on hb);have a8:=ae ((iX (k:=6) (enc:=ah.cells) (l:=[e1,e2]) (c:=2) (t:=30) (fr:=(0,0)) (λ_=>rfl) rfl (by simp) (gM W3 (.cells (Co e1 e2) 30))).low (lo:=wr.heap.size+1) O.o.size);have ba:Hid (∀e,e∈[e1,e2]->fV (wr.heap.size+1) (W3.alloc (.cells (Co e1 e2) 30)) e):=ae (λe he=>by
      simp only[bE,bu,or_false]at he;rcases he with rfl|rfl
      .exact ao.o.below hb
      .exact ap.o.below hb)
     clear hb ar;go_wp2_with(first|(refine aK rfl 43 _ _ rfl wr.heap.size #[.int .u8 3,.string ⟨#[]⟩,.slice (some ⟨W3.heap.size,0,none⟩) 2 2,.int .i64 0,.slice none 0 0,.slice none 0 0] (by rfl) (by rfl) 43 zT am.o.cr (lN _ _ _ _ _ _) (by rfl) (oq _ _ _ _ _ _ _ _ _ _ _ _) ?_)|fail)
     go_meet
     case rel=>exact am.o.fin (.mk 3 ⟨#[]⟩ ⟨some ⟨W3.heap.size,0,none⟩,2⟩ [e1,e2] 0 Sp.none [] Sp.none []) (.write aE.o (b1.o ▸ bk.o)) (jP a8.o ba.o gG gG ⟨by decide,by decide⟩ (show(Lit.int .i64 0).wf=true by decide) (show(⟨#[]⟩:ByteArray).size<=maxLen by decide)) rfl
    .skip
     have f0:W1.frozen? ⟨wr.heap.size,0,none⟩=false:=by simp[World.frozen?,ab.o.cr]
     have x0:W1.cell? ⟨wr.heap.size,0,none⟩=some (.int .u8 0):=by simp[World.cell?,ab.o.cr,zT]
     go_wp2_with fail
     go_meet
     case rel=>exact ab.o.fin1 (by decide)
    .skip
     have f0:W1.frozen? ⟨wr.heap.size,0,none⟩=false:=by simp[World.frozen?,ab.o.cr]
     have x0:W1.cell? ⟨wr.heap.size,0,none⟩=some (.int .u8 0):=by simp[World.cell?,ab.o.cr,zT]
     go_wp2_with fail
     go_meet
     case rel=>exact ab.o.fin1 (by decide)
    .skip
     have gl:=ab.o.lt;have gr:wr.heap.size<W1.heap.size:=ab.o.size;have hb:=jc W1 (.cells #[.string ⟨#[118]⟩,.int .i64 p.aS,.int .i64 0,.string ⟨#[99]⟩,.int .i64 2,.int .i64 0,.string ⟨#[103]⟩,.int .i64 p.aS,.int .i64 0,.string ⟨#[104]⟩,.int .i64 1,.int .i64 0] 50);have D:=ae (ab.o.on hb);have dj:=ae (gM W1 (.cells #[.string ⟨#[118]⟩,.int .i64 p.aS,.int .i64 0,.string ⟨#[99]⟩,.int .i64 2,.int .i64 0,.string ⟨#[103]⟩,.int .i64 p.aS,.int .i64 0,.string ⟨#[104]⟩,.int .i64 1,.int .i64 0] 50));clear hb ab z1 t1;go_wp2_with fail
     generalize W1.alloc (.cells #[.string ⟨#[118]⟩,.int .i64 p.aS,.int .i64 0,.string ⟨#[99]⟩,.int .i64 2,.int .i64 0,.string ⟨#[103]⟩,.int .i64 p.aS,.int .i64 0,.string ⟨#[104]⟩,.int .i64 1,.int .i64 0] 50)=W2 at *;refine(jg q n lv ls _ p M.iR _ D.o.base.base 4 (by decide) (by decide)).mono ?_;rintro o W3 ⟨k3,a3,rfl,fY,fE,hm,hb⟩;have O:=ae (D.o.next hm hb);have bj:=ae ((jN hb (dM dj.o).1 (by omega)).trans dj.o);clear hm hb D dj;obtain⟨kn,rfl⟩:=jV fY;obtain⟨nm,wd,tt,g0,g1,g2,de,eM,fX,eE⟩:∃(nm:ByteArray) (wd:Int) (tt:gV),W3.cell? ⟨W1.heap.size,kn*3,none⟩=some (.string nm)/\W3.cell? ⟨W1.heap.size,kn*3+1,none⟩=some (.int .i64 wd)/\W3.cell? ⟨W1.heap.size,kn*3+2,none⟩=some (.int .i64 0)/\(nm,tt)∈jo M++mh M/\tt.aS=wd/\(1<=wd/\wd<=3)/\nm.size<=maxLen:=by
      have fL:kn=0\/kn=1\/kn=2\/kn=3:=by omega
      rcases fL with rfl|rfl|rfl|rfl
      .exact⟨⟨#[118]⟩,p.aS,⟨3,M.w⟩,by simp[World.cell?,bj.o],by simp[World.cell?,bj.o],by simp[World.cell?,bj.o],by simp[jo,mh,b2.o,std],b1.o.symm,bw.o,by decide⟩
      .exact⟨⟨#[99]⟩,2,⟨3,2⟩,by simp[World.cell?,bj.o],by simp[World.cell?,bj.o],by simp[World.cell?,bj.o],by simp[jo,mh,b2.o,std],rfl,⟨by decide,by decide⟩,by decide⟩
      .exact⟨⟨#[103]⟩,p.aS,⟨2,M.w⟩,by simp[World.cell?,bj.o],by simp[World.cell?,bj.o],by simp[World.cell?,bj.o],by simp[jo,mh,b2.o,std],b1.o.symm,bw.o,by decide⟩
      .exact⟨⟨#[104]⟩,1,⟨2,1⟩,by simp[World.cell?,bj.o],by simp[World.cell?,bj.o],by simp[World.cell?,bj.o],by simp[jo,mh,b2.o,std],rfl,⟨by decide,by decide⟩,by decide⟩
     have b8:=ae de;have fm:=ae eM;have fd:=ae eE;clear de eM eE bj;have gc:(kn:Int)<4:=fE;have hb:=jc W3 (.cells #[.string nm,.int .i64 wd,.int .i64 0] 50);have aq:=ae (O.o.on hb);have cU:=gM W3 (.cells #[.string nm,.int .i64 wd,.int .i64 0] 50);have gt:wr.heap.size<W3.heap.size:=O.o.size;have gn:=O.o.lt;clear hb O;go_upto_region 16 with fail
     generalize W3.alloc (.cells #[.string nm,.int .i64 wd,.int .i64 0] 50)=W4 at *;clear g0 g1 g2;have d0:W4.cell? ⟨W3.heap.size,0,none⟩=some (.string nm):=by simp[World.cell?,cU]
     have d1:W4.cell? ⟨W3.heap.size,1,none⟩=some (.int .i64 wd):=by simp[World.cell?,cU]
     have d7:=ae cU;have bi:=ae (aq.o.on (ag _ _).drew);clear cU aq;generalize f6:W3.heap.size=b3 at *;clear f6;go_region_with(go_at_call 99;refine(qB 2 (by decide) q n lv ls _ p M _ bi.o.base wd 0 fX).mono ?_;rintro o W6 ⟨e1,a6,rfl,al,ad,hm,hb⟩;have b0:=ae (bi.o.next hm hb);have aE:=ae al;have dk:=ae (ad.less bi.o.size);have dv:=(jN hb (show b3<W4.drew.heap.size from(dM d7.o).1) (show b3≠q by omega)).trans (show W4.drew.heap[b3]?=_ from d7.o);have fy:W6.cell? ⟨b3,0,none⟩=some (.string nm):=(by simp[World.cell?,dv]);have bc:=jc W6 (.cells e1.r 30);have ge:(W6.alloc (.cells e1.r 30)).cell? ⟨b3,0,none⟩=some (.string nm):=(bc.cell (p:=⟨b3,0,none⟩) (dM dv).1).trans fy;have am:=ae (b0.o.on bc);have a8:=ae ((iX (k:=6) (enc:=ah.cells) (l:=[e1]) (c:=1) (t:=30) (fr:=(0,0)) (λ_=>rfl) rfl (by simp) (gM W6 (.cells e1.r 30))).low (lo:=wr.heap.size+1) b0.o.size);have ba:Hid (∀e,e∈[e1]->fV (wr.heap.size+1) (W6.alloc (.cells e1.r 30)) e):=ae (λe he=>(by simp only[bE,bu,or_false]at he;rw[he];exact dk.o.below bc));have x0:(W6.alloc (.cells e1.r 30)).cell? ⟨wr.heap.size,0,none⟩=some (.int .u8 0):=(by simp[World.cell?,am.o.cr,zT]);have x1:(W6.alloc (.cells e1.r 30)).cell? ⟨wr.heap.size,1,none⟩=some (.string ⟨#[]⟩):=(by simp[World.cell?,am.o.cr,zT]);have x2:(W6.alloc (.cells e1.r 30)).cell? ⟨wr.heap.size,2,none⟩=some (.slice none 0 0):=(by simp[World.cell?,am.o.cr,zT]);have x3:(W6.alloc (.cells e1.r 30)).cell? ⟨wr.heap.size,3,none⟩=some (.int .i64 0):=(by simp[World.cell?,am.o.cr,zT]);have x4:(W6.alloc (.cells e1.r 30)).cell? ⟨wr.heap.size,4,none⟩=some (.slice none 0 0):=(by simp[World.cell?,am.o.cr,zT]);have x5:(W6.alloc (.cells e1.r 30)).cell? ⟨wr.heap.size,5,none⟩=some (.slice none 0 0):=(by simp[World.cell?,am.o.cr,zT]);have f0:(W6.alloc (.cells e1.r 30)).frozen? ⟨wr.heap.size,0,none⟩=false:=(by simp[World.frozen?,am.o.cr]);have f1:(W6.alloc (.cells e1.r 30)).frozen? ⟨wr.heap.size,1,none⟩=false:=(by simp[World.frozen?,am.o.cr]);have f2:(W6.alloc (.cells e1.r 30)).frozen? ⟨wr.heap.size,2,none⟩=false:=(by simp[World.frozen?,am.o.cr]);have f3:(W6.alloc (.cells e1.r 30)).frozen? ⟨wr.heap.size,3,none⟩=false:=(by simp[World.frozen?,am.o.cr]);have f4:(W6.alloc (.cells e1.r 30)).frozen? ⟨wr.heap.size,4,none⟩=false:=(by simp[World.frozen?,am.o.cr]);have f5:(W6.alloc (.cells e1.r 30)).frozen? ⟨wr.heap.size,5,none⟩=false:=(by simp[World.frozen?,am.o.cr]);clear al ad hm hb dv bc)
     all_goals
      go_wp2_with fail
      go_meet
      case rel=>rw[R3 am.o.cr];exact am.o.fin (.mk 1 nm ⟨some ⟨W6.heap.size,0,none⟩,1⟩ [e1] 0 Sp.none [] Sp.none []) (.set b8.o (fm.o ▸ aE.o)) (jP a8.o ba.o gG gG ⟨by decide,by decide⟩ (show(Lit.int .i64 0).wf=true by decide) fd.o) rfl
    .have eh:Hid (M.N.a=⟨#[97]⟩):=ae (by rw[b2.o];rfl)
     go_wp2_with fail
     refine(qB 1 (by decide) q n lv ls _ p M _ ab.o.base 2 0 ⟨by decide,by decide⟩).mono ?_;rintro o W2 ⟨e1,a2,rfl,al,ad,hm,hb⟩;have aE:=ae al;have D:=ae (ab.o.next hm hb);have U:=ae (ad.less ab.o.size);clear al ad;clear hm hb ab z1 t1;have z2:=D.o.base.base.cell 3 rfl;have t2:=D.o.base.base.cell 24 rfl;go_wp2_with fail
     refine(qB 1 (by decide) q n lv ls _ p M _ D.o.base p.aS 0 bw.o).mono ?_;rintro o W3 ⟨e2,a3,rfl,al,ad,hm,hb⟩;have bk:=ae al;have O:=ae (D.o.next hm hb);have ao:=ae (U.o.on hb (by have:=D.o.old;omega));have ap:=ae (ad.less D.o.size);clear al ad;clear hm hb D z2 t2 U;have z3:=O.o.base.base.cell 3 rfl;have t3:=O.o.base.base.cell 24 rfl;have hb:=jc W3 (.cells (Co e1 e2) 30);have ar:=bn O.o.lt hb;have am:=ae (O.o.on hb);have a8:=ae ((iX (k:=6) (enc:=ah.cells) (l:=[e1,e2]) (c:=2) (t:=30) (fr:=(0,0)) (λ_=>rfl) rfl (by simp) (gM W3 (.cells (Co e1 e2) 30))).low (lo:=wr.heap.size+1) O.o.size);have ba:Hid (∀e,e∈[e1,e2]->fV (wr.heap.size+1) (W3.alloc (.cells (Co e1 e2) 30)) e):=ae (λe he=>by
      simp only[bE,bu,or_false]at he;rcases he with rfl|rfl
      .exact ao.o.below hb
      .exact ap.o.below hb)
     clear hb ar;go_wp2_with(first|(refine aK rfl 43 _ _ rfl wr.heap.size #[.int .u8 2,.string ⟨#[97]⟩,.slice (some ⟨W3.heap.size,0,none⟩) 2 2,.int .i64 0,.slice none 0 0,.slice none 0 0] (by rfl) (by rfl) 43 zT am.o.cr (lN _ _ _ _ _ _) (by rfl) (oq _ _ _ _ _ _ _ _ _ _ _ _) ?_)|fail)
     go_meet
     case rel=>exact am.o.fin (.mk 2 ⟨#[97]⟩ ⟨some ⟨W3.heap.size,0,none⟩,2⟩ [e1,e2] 0 Sp.none [] Sp.none []) (eh.o ▸ WT.put aE.o (b1.o ▸ bk.o)) (jP a8.o ba.o gG gG ⟨by decide,by decide⟩ (show(Lit.int .i64 0).wf=true by decide) (show(⟨#[97]⟩:ByteArray).size<=maxLen by decide)) rfl
    .cases d with
     |zero =>
      skip
      go_wp2_with fail
      refine(jI q n lv ls _ p M _ ab.o.base 1 0 ⟨by decide,by decide⟩).mono ?_;rintro o W2 ⟨e1,a2,rfl,al,ad,hm,hb⟩;simp only[ah.val,Sp.val];have aE:=ae al;have D:=ae (ab.o.next hm hb);have U:=ae (show fV (wr.heap.size+1) W2 e1 from(ad _).more (aH _));clear al ad;clear hm hb ab z1 t1;have z2:=D.o.base.base.cell 3 rfl;have t2:=D.o.base.base.cell 24 rfl;go_wp2_with fail
      refine(jI q n lv ls _ p M _ D.o.base p.aS 0 bw.o).mono ?_;rintro o W3 ⟨e2,a3,rfl,al,ad,hm,hb⟩;simp only[ah.val,Sp.val];have bk:=ae al;have O:=ae (D.o.next hm hb);have ao:=ae (U.o.on hb (by have:=D.o.old;omega));have ap:=ae (show fV (wr.heap.size+1) W3 e2 from(ad _).more (aH _));clear al ad;clear hm hb D z2 t2 U;have z3:=O.o.base.base.cell 3 rfl;have t3:=O.o.base.base.cell 24 rfl;have hb:=jc W3 (.cells (Co e1 e2) 30);have ar:=bn O.o.lt hb;have am:=ae (O.o.on hb);have a8:=ae ((iX (k:=6) (enc:=ah.cells) (l:=[e1,e2]) (c:=2) (t:=30) (fr:=(0,0)) (λ_=>rfl) rfl (by simp) (gM W3 (.cells (Co e1 e2) 30))).low (lo:=wr.heap.size+1) O.o.size);have ba:Hid (∀e,e∈[e1,e2]->fV (wr.heap.size+1) (W3.alloc (.cells (Co e1 e2) 30)) e):=ae (λe he=>by
       simp only[bE,bu,or_false]at he;rcases he with rfl|rfl
       .exact ao.o.below hb
       .exact ap.o.below hb)
      clear hb ar;go_wp2_with(first|(refine aK rfl 43 _ _ rfl wr.heap.size #[.int .u8 3,.string ⟨#[]⟩,.slice (some ⟨W3.heap.size,0,none⟩) 2 2,.int .i64 0,.slice none 0 0,.slice none 0 0] (by rfl) (by rfl) 43 zT am.o.cr (lN _ _ _ _ _ _) (by rfl) (oq _ _ _ _ _ _ _ _ _ _ _ _) ?_)|fail)
      go_meet
      case rel=>exact am.o.fin (.mk 3 ⟨#[]⟩ ⟨some ⟨W3.heap.size,0,none⟩,2⟩ [e1,e2] 0 Sp.none [] Sp.none []) (.write (aE.o.rise 1) (b1.o ▸ bk.o.rise 2)) (jP a8.o ba.o gG gG ⟨by decide,by decide⟩ (show(Lit.int .i64 0).wf=true by decide) (show(⟨#[]⟩:ByteArray).size<=maxLen by decide)) rfl
     |succ d =>
      obtain⟨cG,cH⟩:=eb.o d rfl;have dT:=ae cG;have dl:=ae cH;clear cG cH;rw[show(((d+1:Nat)):Int)=(d:Int)+1 by omega];have f7:decide ((0:Int)<(d:Int)+1)=true:=aC (by omega);have e3:(d:Int)<=10:=by have:=d8.o;omega
      go_wp2_with fail
      refine(qB 2 (by decide) q n lv ls _ p M _ ab.o.base 1 0 ⟨by decide,by decide⟩).mono ?_;rintro o W2 ⟨e1,a2,rfl,al,ad,hm,hb⟩;have aE:=ae al;have D:=ae (ab.o.next hm hb);have U:=ae (ad.less ab.o.size);clear al ad;clear hm hb ab z1 t1;have z2:=D.o.base.base.cell 3 rfl;have t2:=D.o.base.base.cell 24 rfl;have an:=jc W2 (.cells e1.r 30);have hb:=bn D.o.lt an;have O:=ae (D.o.on an);have ao:=ae (U.o.on hb (by have:=D.o.old;omega));have cX:=ae ((iX (k:=6) (enc:=ah.cells) (l:=[e1]) (c:=1) (t:=30) (fr:=(0,0)) (λ_=>rfl) rfl (by simp) (gM W2 (.cells e1.r 30))).low (lo:=wr.heap.size+1) D.o.size);have dc:Hid (∀e,e∈[e1]->fV (wr.heap.size+1) (W2.alloc (.cells e1.r 30)) e):=ae (λe he=>by
       simp only[bE,bu,or_false]at he;rw[he];exact U.o.below an)
      clear an;have hm:True:=trivial;clear hm hb D z2 t2 U;go_wp2_with fail
      generalize W2.alloc (.cells e1.r 30)=W3 at *;have z3:=O.o.base.base.cell 3 rfl;have t3:=O.o.base.base.cell 24 rfl;refine(dl.o q n lv ls _ p M hasP _ O.o.base HP.o 2 ⟨by decide,by decide⟩).mono ?_;rintro o W4 ⟨A1,c1,l1,a4,rfl,bm,aw,hwt,bd,hm,hb⟩;have b6:=ae bm;have cT:=ae hwt;have aq:=ae (O.o.next hm hb);have cY:=ae ((cX.o.cells (lg hb (by have:=O.o.old;omega))).more (ja hb));have dd:=ae (λe he=>(dc.o e he).on hb (by have:=O.o.old;omega));have bo:=ae (λs hs=>(bd s hs).newT.less O.o.size);have br:=ae (aw.less O.o.size);have fj:=ae (λs hs=>(bd s hs).less O.o.size);clear bm aw hwt bd;clear hm hb O z3 t3 cX dc;have z4:=aq.o.base.base.cell 3 rfl;have t4:=aq.o.base.base.cell 24 rfl;clear fj;go_wp2_with fail
      refine(dl.o q n lv ls _ p M hasP _ aq.o.base HP.o 1 ⟨by decide,by decide⟩).mono ?_;rintro o W5 ⟨A2,c2,l2,a5,rfl,bm,aw,hwt,bd,hm,hb⟩;have cN:=ae bm;have fh:=ae hwt;have bi:=ae (aq.o.next hm hb);have eq:=ae ((cY.o.cells (lg hb (by have:=aq.o.old;omega))).more (ja hb));have ev:=ae (λe he=>(dd.o e he).on hb (by have:=aq.o.old;omega));have cd:=ae (λs hs=>(bo.o s hs).on hb (by have:=aq.o.old;omega));have b7:=ae (jE br.o hb (by have:=aq.o.old;omega));have dn:=ae (λs hs=>(bd s hs).newT.less aq.o.size);have dq:=ae (aw.less aq.o.size);have fk:=ae (λs hs=>(bd s hs).less aq.o.size);clear bm aw hwt bd;clear hm hb aq z4 t4 cY dd bo br;have z5:=bi.o.base.base.cell 3 rfl;have t5:=bi.o.base.base.cell 24 rfl;clear fk;have am:=bi;have e5:l1.length<=2:=by have:=b6.o;omega
      have e6:l2.length<=1:=by have:=cN.o;omega
      have ck:=ae (And.intro e5 e6);clear e5 e6;clear bi;go_wp2_with(first|(refine aK rfl 43 _ _ rfl wr.heap.size #[.int .u8 6,.string ⟨#[]⟩,.slice (some ⟨W2.heap.size,0,none⟩) 1 1,.int .i64 0,.slice A1 l1.length c1,.slice A2 l2.length c2] (by rfl) (by rfl) 43 zT am.o.cr (lN _ _ _ _ _ _) (by rfl) (oq _ _ _ _ _ _ _ _ _ _ _ _) ?_)|fail)
      go_meet
      case rel=>exact am.o.fin (.mk 6 ⟨#[]⟩ ⟨some ⟨W2.heap.size,0,none⟩,1⟩ [e1] 0 ⟨A1,c1⟩ l1 ⟨A2,c2⟩ l2) (.cond aE.o ck.o.1 cT.o ck.o.2 fh.o) (jP eq.o ev.o (qw b7.o cd.o (by have:=ck.o;omega)) (qw dq.o dn.o (by have:=ck.o;omega)) ⟨by decide,by decide⟩ (show(Lit.int .i64 0).wf=true by decide) (show(⟨#[]⟩:ByteArray).size<=maxLen by decide)) rfl
    .cases d with
     |zero =>
      skip
      go_wp2_with fail
      refine(jI q n lv ls _ p M _ ab.o.base 1 0 ⟨by decide,by decide⟩).mono ?_;rintro o W2 ⟨e1,a2,rfl,al,ad,hm,hb⟩;simp only[ah.val,Sp.val];have aE:=ae al;have D:=ae (ab.o.next hm hb);have U:=ae (show fV (wr.heap.size+1) W2 e1 from(ad _).more (aH _));clear al ad;clear hm hb ab z1 t1;have z2:=D.o.base.base.cell 3 rfl;have t2:=D.o.base.base.cell 24 rfl;go_wp2_with fail
      refine(jI q n lv ls _ p M _ D.o.base p.aS 0 bw.o).mono ?_;rintro o W3 ⟨e2,a3,rfl,al,ad,hm,hb⟩;simp only[ah.val,Sp.val];have bk:=ae al;have O:=ae (D.o.next hm hb);have ao:=ae (U.o.on hb (by have:=D.o.old;omega));have ap:=ae (show fV (wr.heap.size+1) W3 e2 from(ad _).more (aH _));clear al ad;clear hm hb D z2 t2 U;have z3:=O.o.base.base.cell 3 rfl;have t3:=O.o.base.base.cell 24 rfl;have hb:=jc W3 (.cells (Co e1 e2) 30);have ar:=bn O.o.lt hb;have am:=ae (O.o.on hb);have a8:=ae ((iX (k:=6) (enc:=ah.cells) (l:=[e1,e2]) (c:=2) (t:=30) (fr:=(0,0)) (λ_=>rfl) rfl (by simp) (gM W3 (.cells (Co e1 e2) 30))).low (lo:=wr.heap.size+1) O.o.size);have ba:Hid (∀e,e∈[e1,e2]->fV (wr.heap.size+1) (W3.alloc (.cells (Co e1 e2) 30)) e):=ae (λe he=>by
       simp only[bE,bu,or_false]at he;rcases he with rfl|rfl
       .exact ao.o.below hb
       .exact ap.o.below hb)
      clear hb ar;go_wp2_with(first|(refine aK rfl 43 _ _ rfl wr.heap.size #[.int .u8 3,.string ⟨#[]⟩,.slice (some ⟨W3.heap.size,0,none⟩) 2 2,.int .i64 0,.slice none 0 0,.slice none 0 0] (by rfl) (by rfl) 43 zT am.o.cr (lN _ _ _ _ _ _) (by rfl) (oq _ _ _ _ _ _ _ _ _ _ _ _) ?_)|fail)
      go_meet
      case rel=>exact am.o.fin (.mk 3 ⟨#[]⟩ ⟨some ⟨W3.heap.size,0,none⟩,2⟩ [e1,e2] 0 Sp.none [] Sp.none []) (.write (aE.o.rise 1) (b1.o ▸ bk.o.rise 2)) (jP a8.o ba.o gG gG ⟨by decide,by decide⟩ (show(Lit.int .i64 0).wf=true by decide) (show(⟨#[]⟩:ByteArray).size<=maxLen by decide)) rfl
     |succ d =>
      obtain⟨cG,cH⟩:=eb.o d rfl;have dT:=ae cG;have dl:=ae cH;clear cG cH;rw[show(((d+1:Nat)):Int)=(d:Int)+1 by omega];have f7:decide ((0:Int)<(d:Int)+1)=true:=aC (by omega);have e3:(d:Int)<=10:=by have:=d8.o;omega
      go_wp2_with fail
      refine(dT.o q n lv ls _ p M hasP _ ab.o.base HP.o 2 ⟨by decide,by decide⟩).mono ?_;rintro o W2 ⟨A1,c1,l1,a2,rfl,bm,aw,hwt,bd,hm,hb⟩;have b6:=ae bm;have cT:=ae hwt;have D:=ae (ab.o.next hm hb);have cp:=ae (λs hs=>(bd s hs).newT.less ab.o.size);have ce:=ae (aw.less ab.o.size);have cC:=ae (λs hs=>(bd s hs).less ab.o.size);clear bm aw hwt bd;clear hm hb ab z1 t1;have z2:=D.o.base.base.cell 3 rfl;have t2:=D.o.base.base.cell 24 rfl;have en:=ae ce.o.iP;have da:=ae D.o.size;have b8:Hid (((⟨#[99]⟩:ByteArray),(⟨3,2⟩:gV))∈jo M++mh M):=ae (by simp[jo,mh,b2.o,std]);have eV:W2.heap.size<=W2.heap.size:=af _;have ew:=ae eV;clear eV;go_wp2_with fail
      refine(yz _ _).mono ?_;rintro o W3 ⟨rfl,an⟩;have hb:=bn D.o.lt an;have O:=ae (D.o.on an);have cq:=ae (λs hs=>(cp.o s hs).on hb (by have:=D.o.old;omega));have cy:=ae (jE ce.o hb (by have:=D.o.old;omega));have cD:=ae (λs hs=>(cC.o s hs).on hb (by have:=D.o.old;omega));have ey:=ae (ai ew.o an.size);clear ew;clear an;have hm:True:=trivial;clear hm hb D z2 t2 cp ce cC;have z3:=O.o.base.base.cell 3 rfl;have t3:=O.o.base.base.cell 24 rfl;go_wp2_with fail
      refine(xu _ _ _).mono ?_;rintro o W4 ⟨rfl,an⟩;have hb:=bn O.o.lt an;have aq:=ae (O.o.on an);have bo:=ae (λs hs=>(cq.o s hs).on hb (by have:=O.o.old;omega));have br:=ae (jE cy.o hb (by have:=O.o.old;omega));have cE:=ae (λs hs=>(cD.o s hs).on hb (by have:=O.o.old;omega));have dt:=ae (ai ey.o an.size);clear ey;clear an;have hm:True:=trivial;clear hm hb O z3 t3 cq cy cD;have z4:=aq.o.base.base.cell 3 rfl;have t4:=aq.o.base.base.cell 24 rfl;go_wp2_with fail
      refine(PE _).mono ?_;rintro o W5 ⟨bI,rfl,bt,dy,cL,an⟩;have hb:=bn aq.o.lt an;have bi:=ae (aq.o.on an);have cd:=ae (λs hs=>(bo.o s hs).on hb (by have:=aq.o.old;omega));have b7:=ae (jE br.o hb (by have:=aq.o.old;omega));have cF:=ae (λs hs=>(cE.o s hs).on hb (by have:=aq.o.old;omega));have co:Hid (fV W2.heap.size W5 (.mk 6 3 0 0 ⟨#[]⟩ ⟨some ⟨bI,0,none⟩,2⟩ [aZ ⟨#[99]⟩,cO 1 2])):=ae ((Ec cL bt (λV=>GV V _ (by decide)) (λV=>K5 V 1 2 (by decide) (by decide)) ⟨by decide,by decide⟩ ⟨by decide,by decide⟩).less dt.o);clear bt dy cL;have fx:=ae (ai dt.o an.size);clear dt;clear an;have hm:True:=trivial;clear hm hb aq z4 t4 bo br cE;have z5:=bi.o.base.base.cell 3 rfl;have t5:=bi.o.base.base.cell 24 rfl;have be:=jc W5 (.cells #[.int .u8 6,.int .u8 3,.int .u32 0,.int .i64 0,.string ⟨#[]⟩,.slice (some ⟨bI,0,none⟩) 2 2] 30);have du:Below (W5.alloc (.cells #[.int .u8 6,.int .u8 3,.int .u32 0,.int .i64 0,.string ⟨#[]⟩,.slice (some ⟨bI,0,none⟩) 2 2] 30)).heap.size (W5.alloc (.cells #[.int .u8 6,.int .u8 3,.int .u32 0,.int .i64 0,.string ⟨#[]⟩,.slice (some ⟨bI,0,none⟩) 2 2] 30)) ((W5.alloc (.cells #[.int .u8 6,.int .u8 3,.int .u32 0,.int .i64 0,.string ⟨#[]⟩,.slice (some ⟨bI,0,none⟩) 2 2] 30)).alloc (.cells #[.int .u8 1,.string ⟨#[99]⟩,.slice (some ⟨W5.heap.size,0,none⟩) 1 1,.int .i64 0,.slice none 0 0,.slice none 0 0] 43)):=(ag _ _).alloc (af _) _;have ca:=be.trans (du.mono be.size);have eK:=(row_one (k:=6) (enc:=ah.cells) (x:=(.mk 6 3 0 0 ⟨#[]⟩ ⟨some ⟨bI,0,none⟩,2⟩ [aZ ⟨#[99]⟩,cO 1 2])) (t:=30) (fr:=(0,0)) (gM W5 (.cells #[.int .u8 6,.int .u8 3,.int .u32 0,.int .i64 0,.string ⟨#[]⟩,.slice (some ⟨bI,0,none⟩) 2 2] 30))).low (lo:=W2.heap.size) fx.o;have eC:fV W2.heap.size (W5.alloc (.cells #[.int .u8 6,.int .u8 3,.int .u32 0,.int .i64 0,.string ⟨#[]⟩,.slice (some ⟨bI,0,none⟩) 2 2] 30)) (.mk 6 3 0 0 ⟨#[]⟩ ⟨some ⟨bI,0,none⟩,2⟩ [aZ ⟨#[99]⟩,cO 1 2]):=co.o.below be;have eI:nk W2.heap.size ((W5.alloc (.cells #[.int .u8 6,.int .u8 3,.int .u32 0,.int .i64 0,.string ⟨#[]⟩,.slice (some ⟨bI,0,none⟩) 2 2] 30)).alloc (.cells #[.int .u8 1,.string ⟨#[99]⟩,.slice (some ⟨W5.heap.size,0,none⟩) 1 1,.int .i64 0,.slice none 0 0,.slice none 0 0] 43)) (.mk 1 ⟨#[99]⟩ ⟨some ⟨W5.heap.size,0,none⟩,1⟩ [(.mk 6 3 0 0 ⟨#[]⟩ ⟨some ⟨bI,0,none⟩,2⟩ [aZ ⟨#[99]⟩,cO 1 2])] 0 Sp.none [] Sp.none []):=(jP eK (λe he=>by rw[List.mem_singleton.1 he];exact eC) gG gG ⟨by decide,by decide⟩ (show(Lit.int .i64 0).wf=true by decide) (show(⟨#[99]⟩:ByteArray).size<=maxLen by decide)).below du;have cW:=ae (eI.tox (lo':=wr.heap.size+1) en.o da.o);have am:=ae (bi.o.on ca);have cf:=ae (b7.o.on ca);have er:=ae (λx hx=>(cF.o x hx).below ca);have c7:=ae (row_one (enc:=aa.cells) (x:=(.mk 1 ⟨#[99]⟩ ⟨some ⟨W5.heap.size,0,none⟩,1⟩ [(.mk 6 3 0 0 ⟨#[]⟩ ⟨some ⟨bI,0,none⟩,2⟩ [aZ ⟨#[99]⟩,cO 1 2])] 0 Sp.none [] Sp.none [])) (k:=6) (gM (W5.alloc (.cells #[.int .u8 6,.int .u8 3,.int .u32 0,.int .i64 0,.string ⟨#[]⟩,.slice (some ⟨bI,0,none⟩) 2 2] 30)) (.cells #[.int .u8 1,.string ⟨#[99]⟩,.slice (some ⟨W5.heap.size,0,none⟩) 1 1,.int .i64 0,.slice none 0 0,.slice none 0 0] 43)));simp only[di]at c7;have cR:Hid (l1.length+1<=1000000):=ae (by have:=b6.o;omega);have dr:Hid (wr.heap.size+1<=((W5.alloc (.cells #[.int .u8 6,.int .u8 3,.int .u32 0,.int .i64 0,.string ⟨#[]⟩,.slice (some ⟨bI,0,none⟩) 2 2] 30)).alloc (.cells #[.int .u8 1,.string ⟨#[99]⟩,.slice (some ⟨W5.heap.size,0,none⟩) 1 1,.int .i64 0,.slice none 0 0,.slice none 0 0] 43)).heap.size):=ae (ai bi.o.size ca.size);clear be du ca eK eC eI co cd b7 cF bi en da;go_wp2_with(first|(at_builtin;refine gQ rfl (.tmp 111) (.tmp 117) 33 rfl xQ (λ_=>rfl) mV _ l1 rfl cf.o ⟨some ⟨W5.heap.size+1,0,none⟩,1⟩ [(.mk 1 ⟨#[99]⟩ ⟨some ⟨W5.heap.size,0,none⟩,1⟩ [(.mk 6 3 0 0 ⟨#[]⟩ ⟨some ⟨bI,0,none⟩,2⟩ [aZ ⟨#[99]⟩,cO 1 2])] 0 Sp.none [] Sp.none [])] rfl c7.o cR.o dr.o ?_)|fail)
      intro v2 W6 bh cb b4;obtain⟨A3,c3,rfl⟩:=bh.form;have b5:=cf.o.below cb (af _) (ag _ _) dr.o;have b0:=ae (am.o.on1 b5);have c0:=ae bh;have ct:Hid (∀x,x∈l1++[(.mk 1 ⟨#[99]⟩ ⟨some ⟨W5.heap.size,0,none⟩,1⟩ [(.mk 6 3 0 0 ⟨#[]⟩ ⟨some ⟨bI,0,none⟩,2⟩ [aZ ⟨#[99]⟩,cO 1 2])] 0 Sp.none [] Sp.none [])]->nk (wr.heap.size+1) W6 x):=ae (λx hx=>by
       rcases List.mem_append.1 hx with hx|hx
       .exact((er.o x hx).grow cb (by simp only[di];exact b4)).newT
       .rw[List.mem_singleton.1 hx];exact(cW.o.grow cb (by simp only[di];exact b4)).newT)
      have fi:Hid (∀x,x∈l1++[(.mk 1 ⟨#[99]⟩ ⟨some ⟨W5.heap.size,0,none⟩,1⟩ [(.mk 6 3 0 0 ⟨#[]⟩ ⟨some ⟨bI,0,none⟩,2⟩ [aZ ⟨#[99]⟩,cO 1 2])] 0 Sp.none [] Sp.none [])]->WT M hasP 0 x):=ae (λx hx=>by
       rcases List.mem_append.1 hx with hx|hx
       .exact cT.o x hx
       .rw[List.mem_singleton.1 hx];exact .set b8.o (WX.up (WX.bin (wd:=2) (by decide) (by decide) (WX.var (zR b8.o).1) (WX.num (by decide) (by decide) (by decide) (by decide)))))
      have d4:Hid ((l1++[((.mk 1 ⟨#[99]⟩ ⟨some ⟨W5.heap.size,0,none⟩,1⟩ [(.mk 6 3 0 0 ⟨#[]⟩ ⟨some ⟨bI,0,none⟩,2⟩ [aZ ⟨#[99]⟩,cO 1 2])] 0 Sp.none [] Sp.none []):aa)]).length<=3):=ae (by have:=b6.o;simp;omega);clear bh cb b4 b5 am cf er cW c7 cT b6 cR dr;generalize l1++[(.mk 1 ⟨#[99]⟩ ⟨some ⟨W5.heap.size,0,none⟩,1⟩ [(.mk 6 3 0 0 ⟨#[]⟩ ⟨some ⟨bI,0,none⟩,2⟩ [aZ ⟨#[99]⟩,cO 1 2])] 0 Sp.none [] Sp.none [])]=l3 at *;have z6:=b0.o.base.base.cell 3 rfl;have t6:=b0.o.base.base.cell 24 rfl;go_wp2_with fail
      refine(jg q n lv ls _ p M.iR _ b0.o.base.base 3 (by decide) (by decide)).mono ?_;rintro o W7 ⟨k7,a7,rfl,gv,gh,hm,hb⟩;have cg:=ae (b0.o.next hm hb);have cv:=ae (λs hs=>(ct.o s hs).on hb (by have:=b0.o.old;omega));have c4:=ae (jE c0.o hb (by have:=b0.o.old;omega));clear hm hb b0 z6 t6 ct c0;have z7:=cg.o.base.base.cell 3 rfl;have t7:=cg.o.base.base.cell 24 rfl;go_wp2_with fail
      refine(yz _ _).mono ?_;rintro o W8 ⟨rfl,an⟩;have hb:=bn cg.o.lt an;have ch:=ae (cg.o.on an);have cw:=ae (λs hs=>(cv.o s hs).on hb (by have:=cg.o.old;omega));have c5:=ae (jE c4.o hb (by have:=cg.o.old;omega));clear an;have hm:True:=trivial;clear hm hb cg z7 t7 cv c4;have z8:=ch.o.base.base.cell 3 rfl;have t8:=ch.o.base.base.cell 24 rfl;go_wp2_with fail
      refine(jg q n lv ls _ p M.iR _ ch.o.base.base 3 (by decide) (by decide)).mono ?_;rintro o W9 ⟨k9,a9,rfl,gw,gi,hm,hb⟩;have ci:=ae (ch.o.next hm hb);have cx:=ae (λs hs=>(cw.o s hs).on hb (by have:=ch.o.old;omega));have c6:=ae (jE c5.o hb (by have:=ch.o.old;omega));clear hm hb ch z8 t8 cw c5;have z9:=ci.o.base.base.cell 3 rfl;have t9:=ci.o.base.base.cell 24 rfl;go_wp2_with fail
      refine(xu _ _ _).mono ?_;rintro o gd ⟨rfl,an⟩;have hb:=bn ci.o.lt an;have bl:=ae (ci.o.on an);have cl:=ae (λs hs=>(cx.o s hs).on hb (by have:=ci.o.old;omega));have cm:=ae (jE c6.o hb (by have:=ci.o.old;omega));clear an;have hm:True:=trivial;clear hm hb ci z9 t9 cx c6;have gb:=bl.o.base.base.cell 3 rfl;have ga:=bl.o.base.base.cell 24 rfl;go_wp2_with fail
      refine(PQ _ _).mono ?_;rintro o cn ⟨bC,rfl,bt,dy,cL,an⟩;have hb:=bn bl.o.lt an;have b9:=ae (bl.o.on an);have cQ:=ae (λs hs=>(cl.o s hs).on hb (by have:=bl.o.old;omega));have cS:=ae (jE cm.o hb (by have:=bl.o.old;omega));have cP:Hid (fV (wr.heap.size+1) cn (.mk 6 15 0 0 ⟨#[]⟩ ⟨some ⟨bC,0,none⟩,2⟩ [aZ ⟨#[99]⟩,cO (1+k9) 2])):=ae ((Ec cL bt (λV=>GV V _ (by decide)) (λV=>K5 V _ 2 ⟨by omega,by omega⟩ (by decide)) ⟨by decide,by decide⟩ ⟨by decide,by decide⟩).less bl.o.size);clear bt dy cL;clear an;have hm:True:=trivial;clear hm hb bl gb ga cl cm;have g3:=b9.o.base.base.cell 3 rfl;have gx:=b9.o.base.base.cell 24 rfl;have be:=jc cn (.cells #[.int .u8 6,.int .u8 15,.int .u32 0,.int .i64 0,.string ⟨#[]⟩,.slice (some ⟨bC,0,none⟩) 2 2] 30);have ar:=bn b9.o.lt be;have am:=ae (b9.o.on be);have a8:=ae ((row_one (k:=6) (enc:=ah.cells) (x:=(.mk 6 15 0 0 ⟨#[]⟩ ⟨some ⟨bC,0,none⟩,2⟩ [aZ ⟨#[99]⟩,cO (1+k9) 2])) (t:=30) (fr:=(0,0)) (gM cn (.cells #[.int .u8 6,.int .u8 15,.int .u32 0,.int .i64 0,.string ⟨#[]⟩,.slice (some ⟨bC,0,none⟩) 2 2] 30))).low (lo:=wr.heap.size+1) b9.o.size);have ba:Hid (∀e,e∈[((.mk 6 15 0 0 ⟨#[]⟩ ⟨some ⟨bC,0,none⟩,2⟩ [aZ ⟨#[99]⟩,cO (1+k9) 2]):ah)]->fV (wr.heap.size+1) (cn.alloc (.cells #[.int .u8 6,.int .u8 15,.int .u32 0,.int .i64 0,.string ⟨#[]⟩,.slice (some ⟨bC,0,none⟩) 2 2] 30)) e):=ae (λe he=>by rw[List.mem_singleton.1 he];exact cP.o.below be);have fl:=ae (qw (cS.o.on be) (λx hx=>(cQ.o x hx).below be) (by have:=d4.o;omega));have h4:(2:Int) ^ (2:Int).toNat=4:=by decide
      have fs:Hid (WX M 0 1 1 (.mk 6 15 0 0 ⟨#[]⟩ ⟨some ⟨bC,0,none⟩,2⟩ [aZ ⟨#[99]⟩,cO (1+k9) 2])):=ae (WX.cmp (wd:=2) (by decide) (by decide) (WX.var (zR b8.o).1) (WX.num (by omega) (by rw[h4];omega) (by decide) (by decide)));clear h4;have dg:Hid (1<=1+k7/\1+k7<=3):=ae ⟨by omega,by omega⟩;clear be ar;go_wp2_with(first|(refine aK rfl 43 _ _ rfl wr.heap.size #[.int .u8 7,.string ⟨#[]⟩,.slice (some ⟨cn.heap.size,0,none⟩) 1 1,.int .i64 (1+k7),.slice A3 l3.length c3,.slice none 0 0] (by rfl) (by rfl) 43 zT am.o.cr (lN _ _ _ _ _ _) (by rfl) (oq _ _ _ _ _ _ _ _ _ _ _ _) ?_)|fail)
      go_meet
      case rel=>exact am.o.fin (.mk 7 ⟨#[]⟩ ⟨some ⟨cn.heap.size,0,none⟩,1⟩ [(.mk 6 15 0 0 ⟨#[]⟩ ⟨some ⟨bC,0,none⟩,2⟩ [aZ ⟨#[99]⟩,cO (1+k9) 2])] (1+k7) ⟨A3,c3⟩ l3 Sp.none []) (.loop dg.o.1 dg.o.2 fs.o d4.o fi.o) (jP a8.o ba.o fl.o gG ⟨by decide,by decide⟩ (ut dg.o) (show(⟨#[]⟩:ByteArray).size<=maxLen by decide)) rfl
    .cases hp:M.iR with
     |true =>
      rw[hp]at t1;clear hp;go_wp2_with fail
      refine(jI q n lv ls _ p M _ ab.o.base 1 0 ⟨by decide,by decide⟩).mono ?_;rintro o W2 ⟨e1,a2,rfl,al,ad,hm,hb⟩;simp only[ah.val,Sp.val];have aE:=ae al;have D:=ae (ab.o.next hm hb);have U:=ae (show fV (wr.heap.size+1) W2 e1 from(ad _).more (aH _));clear al ad;clear hm hb ab z1 t1;have z2:=D.o.base.base.cell 3 rfl;have t2:=D.o.base.base.cell 24 rfl;go_wp2_with fail
      refine(jI q n lv ls _ p M _ D.o.base p.aS 0 bw.o).mono ?_;rintro o W3 ⟨e2,a3,rfl,al,ad,hm,hb⟩;simp only[ah.val,Sp.val];have bk:=ae al;have O:=ae (D.o.next hm hb);have ao:=ae (U.o.on hb (by have:=D.o.old;omega));have ap:=ae (show fV (wr.heap.size+1) W3 e2 from(ad _).more (aH _));clear al ad;clear hm hb D z2 t2 U;have z3:=O.o.base.base.cell 3 rfl;have t3:=O.o.base.base.cell 24 rfl;have hb:=jc W3 (.cells (Co e1 e2) 30);have ar:=bn O.o.lt hb;have am:=ae (O.o.on hb);have a8:=ae ((iX (k:=6) (enc:=ah.cells) (l:=[e1,e2]) (c:=2) (t:=30) (fr:=(0,0)) (λ_=>rfl) rfl (by simp) (gM W3 (.cells (Co e1 e2) 30))).low (lo:=wr.heap.size+1) O.o.size);have ba:Hid (∀e,e∈[e1,e2]->fV (wr.heap.size+1) (W3.alloc (.cells (Co e1 e2) 30)) e):=ae (λe he=>by
       simp only[bE,bu,or_false]at he;rcases he with rfl|rfl
       .exact ao.o.below hb
       .exact ap.o.below hb)
      clear hb ar;go_wp2_with(first|(refine aK rfl 43 _ _ rfl wr.heap.size #[.int .u8 3,.string ⟨#[]⟩,.slice (some ⟨W3.heap.size,0,none⟩) 2 2,.int .i64 0,.slice none 0 0,.slice none 0 0] (by rfl) (by rfl) 43 zT am.o.cr (lN _ _ _ _ _ _) (by rfl) (oq _ _ _ _ _ _ _ _ _ _ _ _) ?_)|fail)
      go_meet
      case rel=>exact am.o.fin (.mk 3 ⟨#[]⟩ ⟨some ⟨W3.heap.size,0,none⟩,2⟩ [e1,e2] 0 Sp.none [] Sp.none []) (.write (aE.o.rise 1) (b1.o ▸ bk.o.rise 2)) (jP a8.o ba.o gG gG ⟨by decide,by decide⟩ (show(Lit.int .i64 0).wf=true by decide) (show(⟨#[]⟩:ByteArray).size<=maxLen by decide)) rfl
     |false =>
      have eo:=ae (HP.o hp);have ep:=ae hp;rw[hp]at t1;clear hp;have u1:=ab.o.base.base.cell 15 rfl;simp only[Sp.val]at u1;by_cases h0:0<p.aA.length
      .have e0:decide (0<p.aA.length)=true:=aC h0
       have eY:Hid (hasP=true):=ae (by rw[eo.o,e0]);clear eo;go_wp2_with fail
       refine(qB 1 (by decide) q n lv ls _ p M _ ab.o.base p.aS 0 bw.o).mono ?_;rintro o W2 ⟨e1,a2,rfl,al,ad,hm,hb⟩;have aE:=ae al;have D:=ae (ab.o.next hm hb);have U:=ae (ad.less ab.o.size);clear al ad;clear hm hb ab z1 t1 u1;have z2:=D.o.base.base.cell 3 rfl;have t2:=D.o.base.base.cell 24 rfl;have hb:=jc W2 (.cells e1.r 30);have ar:=bn D.o.lt hb;have am:=ae (D.o.on hb);have a8:=ae ((iX (k:=6) (enc:=ah.cells) (l:=[e1]) (c:=1) (t:=30) (fr:=(0,0)) (λ_=>rfl) rfl (by simp) (gM W2 (.cells e1.r 30))).low (lo:=wr.heap.size+1) D.o.size);have ba:Hid (∀e,e∈[e1]->fV (wr.heap.size+1) (W2.alloc (.cells e1.r 30)) e):=ae (λe he=>by
        simp only[bE,bu,or_false]at he;rw[he];exact U.o.below hb)
       clear hb ar;go_wp2_with(first|(refine aK rfl 43 _ _ rfl wr.heap.size #[.int .u8 8,.string ⟨#[112]⟩,.slice (some ⟨W2.heap.size,0,none⟩) 1 1,.int .i64 0,.slice none 0 0,.slice none 0 0] (by rfl) (by rfl) 43 zT am.o.cr (lN _ _ _ _ _ _) (by rfl) (oq _ _ _ _ _ _ _ _ _ _ _ _) ?_)|fail)
       go_meet
       case rel=>exact am.o.fin (.mk 8 ⟨#[112]⟩ ⟨some ⟨W2.heap.size,0,none⟩,1⟩ [e1] 0 Sp.none [] Sp.none []) (.call ep.o eY.o (b1.o ▸ aE.o)) (jP a8.o ba.o gG gG ⟨by decide,by decide⟩ (show(Lit.int .i64 0).wf=true by decide) (show(⟨#[112]⟩:ByteArray).size<=maxLen by decide)) rfl
      .have e0:decide (0<p.aA.length)=false:=az h0
       go_wp2_with fail
       refine(jI q n lv ls _ p M _ ab.o.base 1 0 ⟨by decide,by decide⟩).mono ?_;rintro o W2 ⟨e1,a2,rfl,al,ad,hm,hb⟩;simp only[ah.val,Sp.val];have aE:=ae al;have D:=ae (ab.o.next hm hb);have U:=ae (show fV (wr.heap.size+1) W2 e1 from(ad _).more (aH _));clear al ad;clear hm hb ab z1 t1 u1;have z2:=D.o.base.base.cell 3 rfl;have t2:=D.o.base.base.cell 24 rfl;go_wp2_with fail
       refine(jI q n lv ls _ p M _ D.o.base p.aS 0 bw.o).mono ?_;rintro o W3 ⟨e2,a3,rfl,al,ad,hm,hb⟩;simp only[ah.val,Sp.val];have bk:=ae al;have O:=ae (D.o.next hm hb);have ao:=ae (U.o.on hb (by have:=D.o.old;omega));have ap:=ae (show fV (wr.heap.size+1) W3 e2 from(ad _).more (aH _));clear al ad;clear hm hb D z2 t2 U;have z3:=O.o.base.base.cell 3 rfl;have t3:=O.o.base.base.cell 24 rfl;have hb:=jc W3 (.cells (Co e1 e2) 30);have ar:=bn O.o.lt hb;have am:=ae (O.o.on hb);have a8:=ae ((iX (k:=6) (enc:=ah.cells) (l:=[e1,e2]) (c:=2) (t:=30) (fr:=(0,0)) (λ_=>rfl) rfl (by simp) (gM W3 (.cells (Co e1 e2) 30))).low (lo:=wr.heap.size+1) O.o.size);have ba:Hid (∀e,e∈[e1,e2]->fV (wr.heap.size+1) (W3.alloc (.cells (Co e1 e2) 30)) e):=ae (λe he=>by
        simp only[bE,bu,or_false]at he;rcases he with rfl|rfl
        .exact ao.o.below hb
        .exact ap.o.below hb)
       clear hb ar;go_wp2_with(first|(refine aK rfl 43 _ _ rfl wr.heap.size #[.int .u8 3,.string ⟨#[]⟩,.slice (some ⟨W3.heap.size,0,none⟩) 2 2,.int .i64 0,.slice none 0 0,.slice none 0 0] (by rfl) (by rfl) 43 zT am.o.cr (lN _ _ _ _ _ _) (by rfl) (oq _ _ _ _ _ _ _ _ _ _ _ _) ?_)|fail)
       go_meet
       case rel=>exact am.o.fin (.mk 3 ⟨#[]⟩ ⟨some ⟨W3.heap.size,0,none⟩,2⟩ [e1,e2] 0 Sp.none [] Sp.none []) (.write (aE.o.rise 1) (b1.o ▸ bk.o.rise 2)) (jP a8.o ba.o gG gG ⟨by decide,by decide⟩ (show(Lit.int .i64 0).wf=true by decide) (show(⟨#[]⟩:ByteArray).size<=maxLen by decide)) rfl
    .skip
     go_wp2_with fail
     refine(jI q n lv ls _ p M _ ab.o.base 1 0 ⟨by decide,by decide⟩).mono ?_;rintro o W2 ⟨e1,a2,rfl,al,ad,hm,hb⟩;simp only[ah.val,Sp.val];have aE:=ae al;have D:=ae (ab.o.next hm hb);have U:=ae (show fV (wr.heap.size+1) W2 e1 from(ad _).more (aH _));clear al ad;clear hm hb ab z1 t1;have z2:=D.o.base.base.cell 3 rfl;have t2:=D.o.base.base.cell 24 rfl;go_wp2_with fail
     refine(jI q n lv ls _ p M _ D.o.base p.aS 0 bw.o).mono ?_;rintro o W3 ⟨e2,a3,rfl,al,ad,hm,hb⟩;simp only[ah.val,Sp.val];have bk:=ae al;have O:=ae (D.o.next hm hb);have ao:=ae (U.o.on hb (by have:=D.o.old;omega));have ap:=ae (show fV (wr.heap.size+1) W3 e2 from(ad _).more (aH _));clear al ad;clear hm hb D z2 t2 U;have z3:=O.o.base.base.cell 3 rfl;have t3:=O.o.base.base.cell 24 rfl;have hb:=jc W3 (.cells (Co e1 e2) 30);have ar:=bn O.o.lt hb;have am:=ae (O.o.on hb);have a8:=ae ((iX (k:=6) (enc:=ah.cells) (l:=[e1,e2]) (c:=2) (t:=30) (fr:=(0,0)) (λ_=>rfl) rfl (by simp) (gM W3 (.cells (Co e1 e2) 30))).low (lo:=wr.heap.size+1) O.o.size);have ba:Hid (∀e,e∈[e1,e2]->fV (wr.heap.size+1) (W3.alloc (.cells (Co e1 e2) 30)) e):=ae (λe he=>by
      simp only[bE,bu,or_false]at he;rcases he with rfl|rfl
      .exact ao.o.below hb
      .exact ap.o.below hb)
     clear hb ar;go_wp2_with(first|(refine aK rfl 43 _ _ rfl wr.heap.size #[.int .u8 3,.string ⟨#[]⟩,.slice (some ⟨W3.heap.size,0,none⟩) 2 2,.int .i64 0,.slice none 0 0,.slice none 0 0] (by rfl) (by rfl) 43 zT am.o.cr (lN _ _ _ _ _ _) (by rfl) (oq _ _ _ _ _ _ _ _ _ _ _ _) ?_)|fail)
     go_meet
     case rel=>exact am.o.fin (.mk 3 ⟨#[]⟩ ⟨some ⟨W3.heap.size,0,none⟩,2⟩ [e1,e2] 0 Sp.none [] Sp.none []) (.write (aE.o.rise 1) (b1.o ▸ bk.o.rise 2)) (jP a8.o ba.o gG gG ⟨by decide,by decide⟩ (show(Lit.int .i64 0).wf=true by decide) (show(⟨#[]⟩:ByteArray).size<=maxLen by decide)) rfl
   case rest =>
    obtain⟨⟨s,a9,eS,eN,eA,e8⟩,cI⟩:=hcut;have fv:=ae eS;have fp:=ae eN;have fW:q<wr.heap.size:=ab.o.old;have e7:=HO.o.iP;have eL:wr.heap.size<=wc.heap.size:=ja cI;have bc:=jc wc (.cells s.r 43);have ar:=bn (aI fW eL) bc;have cf:=ae ((jE HO.o cI (by omega)).on bc);have cV:Hid (∀x,x∈l++[s]->nV w.heap.size (Value.slice A l.length c).ownBlock (wc.alloc (.cells s.r 43)) x):=ae (λx hx=>by
     rcases List.mem_append.1 hx with hx|hx
     .exact(((ei.o x hx).on cI eJ).below bc)
     .rw[List.mem_singleton.1 hx];exact(eA.tox (λb hb=>by have:=e7 b hb;omega) (by omega)).below bc)
    have db:Hid (∀x,x∈l++[s]->WT M hasP d x):=ae (λx hx=>by
     rcases List.mem_append.1 hx with hx|hx
     .exact et.o x hx
     .rw[List.mem_singleton.1 hx];exact fp.o)
    have ef:=ae (e8.on bc);have d5:=ae ((d6.o.trans (cI.mono eR)).trans (ar.mono (by omega)));have c7:=ae (row_one (enc:=aa.cells) (x:=s) (k:=6) (gM wc (.cells s.r 43)));have df:w.heap.size<=(wc.alloc (.cells s.r 43)).heap.size:=ai eR (ai eL bc.size);have cA:=ae df;have cR:Hid (l.length+1<=1000000):=ae (by have:=dp.o;omega);clear eS eN eA e8 cI bc ar e7 df HO ei et d6;go_wp2_with(first
     |(refine bH rfl 43 _ rfl wr.heap.size rfl 43 _ (0,0) _ fv.o Tryz.underlying43 rfl (lN _ _ _ _ _ _) ?_)
     |(at_builtin;refine gQ rfl (.tmp 156) (.tmp 158) 33 rfl xQ (λ_=>rfl) mV _ l rfl cf.o ⟨some ⟨wc.heap.size,0,none⟩,1⟩ [s] rfl c7.o cR.o cA.o ?_)
     |fail)
    intro v2 w2 bh cb b4;obtain⟨A2,c2,rfl⟩:=bh.form;have em:=ae bh;have b5:=cf.o.below cb (af _) (ag w.heap.size _) cA.o;have eg:=ae (λx hx=>(cV.o x hx).grow (g':=(Value.slice A2 (l++[s]).length c2).ownBlock) cb (by rw[di];exact b4));have ee:=ae (ef.o.low (b5.mono ff.o));have cN:=ae (d5.o.trans (bn (aI eJ cA.o) b5));clear bh cb b4 b5 cf cV ef d5;go_wp2_with fail
    go_roundw
    case rel=>first|exact⟨j+1,a9,A2,c2,l++[s],by omega,by go_num,rfl,by simp[dp.o],em.o,db.o,eg.o,ee.o,cN.o⟩|((repeat apply Exists.intro);exact⟨⟨j+1,a9,A2,c2,l++[s],by omega,by go_num,rfl,by simp[dp.o],em.o,db.o,eg.o,ee.o,cN.o⟩,rfl⟩)
    case measure=>simp[intOf];omega
  .have fg:=ae aw
   have ft:=ae hwt;have fc:=ae bd;have fb:=ae cj;have eW:=ae cJ;have fa:Hid ((l.length:Int)<=cc):=ae (by omega);clear aw hwt bd cj cJ d2 H1 b6;go_wp2_with fail
   go_ret
   exact⟨A,c,l,at',rfl,fa.o,fg.o,ft.o,fc.o,fb.o.base,eW.o⟩
theorem D8(d:Nat)(D:d<=11):yZ d:=by
 induction d with
 |zero=>exact Bl (by omega) λe h=>by omega
 |succ d O =>
  refine Bl D λe h=>?_
  obtain rfl:d=e:=by omega
  exact⟨Bl (by omega) λe h=>by omega,O (by omega)⟩
end Go.Proofs.YtepacjkacjabbaaGreatDoor
