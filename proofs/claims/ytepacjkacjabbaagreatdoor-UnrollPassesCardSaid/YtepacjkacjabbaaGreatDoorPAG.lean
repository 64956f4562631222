import Derived.Test.YtepacjkacjabbaaGreatDoorPAA
import Derived.Test.YtepacjkacjabbaaGreatDoorPAF
import Derived.Test.YtepacjkacjabbaaGreatDoorPAE
import Derived.RegionTactic
import Derived.Below
import Derived.Test.YtepacjkacjabbaaGreatDoorPAB
import Derived.Maps.AppendAt
import Derived.OneCell
import Derived.RangeFuncRecord
import Derived.Laws.Rows
import Derived.Laws.Tables
import Derived.Laws.CopyOwn
namespace Go.Proofs.YtepacjkacjabbaaGreatDoor
section
open Go Go.RowKit
theorem mH {q B b:Nat} {W W':World} (h:Below B (mask q W) (mask q W')) (hb:b<B) (hq:b≠q):W'.heap[b]? = W.heap[b]? := by
 have:=h.block b hb
 rwa [bP hq,bP hq] at this
theorem RowOf.low' {α:Type} {n k lo:Nat} {W:World} {sp:Sp} {enc:α→List Value} {l:List α} (h:RowOf n W sp k enc l) (hb:∀a,sp.at_=some a→lo≤a.block):RowOf n (dK lo W) sp k enc l :=
 ⟨h.cap,h.big,h.few,fun h0=>by
  obtain ⟨b,off,e,hlt,hc⟩:=h.row h0;exact ⟨b,off,e,hlt,fun j hj r u hu=>az.2 ⟨(by have:=hb _ e;exact this),hc j hj r u hu⟩⟩⟩
theorem yj {lo:Nat} {W:World} {k bd:Int} {nm:ByteArray} {es ts os:Sp} {ex:List ae} {th el:List aa} (he:RowOf W.heap.size (dK lo W) es 6 ae.cells ex) (hx:∀e,e∈ex→gM lo W e) (ht:bQ lo W ts th) (ho:bQ lo W os el) (hk:0≤k∧k≤255) (hb:(Lit.int .i64 bd).wf=true) (hn:nm.size≤maxLen):iE lo W (.mk k nm es ex bd ts th os el) :=
 .mk _ hk hb hn he hx ht.1 ht.2 ho.1 ho.2
theorem yl {lo:Nat} {W:World}:bQ lo W Sp.none []:=⟨RowOf.nil,fun _ h=>absurd h (by simp)⟩
theorem iE.set {lo g:Nat} {W:World} {s:aa} {cs:Array Value} (h:iE lo W s) (hg:g<lo):iE lo (W.setRow g cs) s:=by
 unfold iE;rw [size_setRow];exact eu.cells h (ry hg)
theorem iE.below {lo:Nat} {W W':World} {s:aa} (h:iE lo W s) (hb:Below W.heap.size W W'):iE lo W' s :=
 (eu.cells h fun _ _ hp hc=>az.2 ⟨(az.1 hc).1,(hb.cell hp).trans (az.1 hc).2⟩).more hb.size
theorem gM.below {lo:Nat} {W W':World} {s:ae} (h:gM lo W s) (hb:Below W.heap.size W W'):gM lo W' s :=
 (iw.cells h fun _ _ hp hc=>az.2 ⟨(az.1 hc).1,(hb.cell hp).trans (az.1 hc).2⟩).more hb.size
theorem bQ.below {lo:Nat} {W W':World} {sp:Sp} {l:List aa} (h:bQ lo W sp l) (hb:Below W.heap.size W W'):bQ lo W' sp l :=
 ⟨(h.1.cells fun _ _ hp hc=>az.2 ⟨(az.1 hc).1,(hb.cell hp).trans (az.1 hc).2⟩).more hb.size,fun s hs=>(h.2 s hs).below hb⟩
def gK (g:Option Nat) (W:World):World:=match g with | some b=>mask b W | none=>W
theorem lD {g:Option Nat} {W:World} {p:Addr} {u:Value}:(gK g W).cell? p=some u↔g≠some p.block∧W.cell? p=some u:=by
 cases g with
 | none=>simp [gK]
 | some b =>
  by_cases h:p.block=b
  ·constructor
   ·intro hc
    exfalso
    simp only [gK,World.cell?,h,nu] at hc
    split at hc
    ·next hh =>
     split at hh
     ·cases hh
      split at hc
      ·cases hc
      ·simp at hc
     ·cases hh
    ·cases hc
   ·rintro ⟨h1,_⟩
    exact absurd (by rw [h]) h1
  ·have e:(gK (some b) W).cell? p=W.cell? p:=World.cell?_of_block (bP h)
   rw [e];exact ⟨fun hc=>⟨fun e=>h (Option.some.inj e).symm,hc⟩,fun hc=>hc.2⟩
def dH (lo:Nat) (g:Option Nat) (W:World) (s:aa):Prop:=eu W.heap.size (dK lo (gK g W)) s
theorem dZ {lo:Nat} {g:Option Nat} {W:World} {p:Addr} {u:Value}:(dK lo (gK g W)).cell? p=some u↔lo≤p.block∧g≠some p.block∧W.cell? p=some u:=by rw [az,lD]
section
variable {lo q:Nat} {g:Option Nat} {W W':World} {s:aa}
theorem dH.newT (h:dH lo g W s):iE lo W s:=eu.cells h fun _ _ _ hc=>az.2 ⟨(dZ.1 hc).1,(dZ.1 hc).2.2⟩
theorem dH.on (h:dH lo g W s) (hb:Below W.heap.size (mask q W) (mask q W')) (hq:q<lo):dH lo g W' s :=
 (eu.cells h fun p u hp hc=>by
  obtain ⟨h1,h2,h3⟩:=dZ.1 hc;exact dZ.2 ⟨h1,h2,(World.cell?_of_block (mH hb hp (by omega))).trans h3⟩).more (kL hb)
theorem dH.below (h:dH lo g W s) (hb:Below W.heap.size W W'):dH lo g W' s :=
 (eu.cells h fun _ _ hp hc=>dZ.2 ⟨(dZ.1 hc).1,(dZ.1 hc).2.1,(hb.cell hp).trans (dZ.1 hc).2.2⟩).more hb.size
theorem dH.less {lo':Nat} (h:dH lo g W s) (hl:lo'≤lo):dH lo' g W s :=
 eu.cells h fun _ _ _ hc=>dZ.2 ⟨by have:=(dZ.1 hc).1;omega,(dZ.1 hc).2⟩
theorem dH.grow {g':Option Nat} (h:dH lo g W s) (hg:W.grownBy W' g) (hat:g'=g∨g'=some W.heap.size):dH lo g' W' s :=
 (eu.cells h fun p u hp hc=>by
  obtain ⟨h1,h2,h3⟩:=dZ.1 hc;refine dZ.2 ⟨h1,?_,(World.cell?_of_block (hg.block _ hp (fun e=>h2 e.symm))).trans h3⟩;rcases hat with rfl | rfl
  ·exact h2
  ·intro e
   have:=Option.some.inj e;omega).more hg.size
theorem iE.tox {lo':Nat} (h:iE lo W s) (hg:∀b,g=some b→b<lo) (hl:lo'≤lo):dH lo' g W s :=
 eu.cells h fun p u _ hc=>by
  obtain ⟨h1,h2⟩:=az.1 hc;exact dZ.2 ⟨by omega,fun e=>by have:=hg _ e;omega,h2⟩
end
theorem aI.old_block {α:Type} {k B:Nat} {enc:α→List Value} {e:TypeId} {v:Value} {l:List α} {W:World} (h:aI B W e k enc v l):∀b,v.ownBlock=some b→b<W.heap.size:=fun b hb=>by
 obtain ⟨_,cs,fr,hh⟩:=h.own_type hb;exact (zgs hh).1
end
section
open Go
mutual
def av:ae→ae
 | .mk k o v w n _ l=>.mk k o v w n Sp.none (qU l)
def qU:List ae→List ae
 | []=>[]
 | e::l=>av e::qU l
end
theorem qV:∀l:List ae,qU l=l.map av
 | []=>by rw [qU];rfl
 | e::l=>by rw [qU,qV l];rfl
theorem dA (k o v w:Int) (n:ByteArray) (sp:Sp) (l:List ae):av (.mk k o v w n sp l)=.mk k o v w n Sp.none (l.map av):=by rw [av,qV]
mutual
def ah:aa→aa
 | .mk k n _ ex b _ th _ el=>.mk k n Sp.none (qU ex) b Sp.none (qQ th) Sp.none (qQ el)
def qQ:List aa→List aa
 | []=>[]
 | s::l=>ah s::qQ l
end
theorem qR:∀l:List aa,qQ l=l.map ah
 | []=>by rw [qQ];rfl
 | e::l=>by rw [qQ,qR l];rfl
theorem bC (k b:Int) (n:ByteArray) (es ts os:Sp) (ex:List ae) (th el:List aa):ah (.mk k n es ex b ts th os el)=.mk k n Sp.none (ex.map av) b Sp.none (th.map ah) Sp.none (el.map ah):=by rw [ah,qV,qR,qR]
def su (i:bn):bn:=⟨i.block,av i.value⟩
def jA (q:aK):aK:=⟨q.name,Sp.none,q.params,Sp.none,q.body.map ah⟩
def aD (p:af):af :=
 { blocks:=p.blocks,width:=p.width,is:=Sp.none,inputs:=p.inputs,gs:=Sp.none,ghosts:=p.ghosts,vs:=Sp.none,vars:=p.vars,«as»:=Sp.none,arrays:=p.arrays,require:=av p.require,ns:=Sp.none,inits:=p.inits.map su,rs:=Sp.none,procs:=p.procs.map jA,ws:=Sp.none,work:=p.work.map ah,cs:=Sp.none,recover:=p.recover.map ah,invariant:=av p.invariant }
section
variable (e:ae) (s:aa)
theorem kW:(av e).kind=e.kind:=by cases e;rw [dA];rfl
theorem Ah:(av e).op=e.op:=by cases e;rw [dA];rfl
theorem sD:(av e).value=e.value:=by cases e;rw [dA];rfl
theorem mg:(av e).width=e.width:=by cases e;rw [dA];rfl
theorem oD:(av e).name=e.name:=by cases e;rw [dA];rfl
theorem jM:(av e).subs=e.subs.map av:=by cases e;rw [dA];rfl
theorem gD:(ah s).kind=s.kind:=by cases s;rw [bC];rfl
theorem jL:(ah s).name=s.name:=by cases s;rw [bC];rfl
theorem jl:(ah s).bound=s.bound:=by cases s;rw [bC];rfl
theorem gB:(ah s).exprs=s.exprs.map av:=by cases s;rw [bC];rfl
theorem iV:(ah s).thn=s.thn.map ah:=by cases s;rw [bC];rfl
theorem kz:(ah s).els=s.els.map ah:=by cases s;rw [bC];rfl
end
section
variable (p:af) (E:Env)
theorem vC (s:ByteArray):aJ (aD p) E s=aJ p E s:=rfl
theorem xg (k op wd:Int) (nm:ByteArray) (s0 s1:Int):dP (aD p) E k op wd nm s0 s1=dP p E k op wd nm s0 s1:=rfl
end
theorem ae.ind {M:ae→Prop} (h:∀k o v w n sp l,(∀s∈l,M s)→M (.mk k o v w n sp l)):∀e,M e:=fun e=>by
 refine ae.rec (motive_1:=M) (motive_2:=fun l=>∀s∈l,M s) (fun k o v w n sp l ih=>h k o v w n sp l ih) (fun s hs=>by cases hs) (fun a l ha hl s hs=>?_) e;rcases List.mem_cons.1 hs with rfl | hs
 ·exact ha
 ·exact hl s hs
theorem aa.ind {M:aa→Prop} (h:∀k n es ex b ts th os el,(∀s∈th,M s)→(∀s∈el,M s)→M (.mk k n es ex b ts th os el)):∀s,M s:=fun s=>by
 refine aa.rec (motive_1:=M) (motive_2:=fun l=>∀s∈l,M s) (fun k n es ex b ts th os el i1 i2=>h k n es ex b ts th os el i1 i2) (fun s hs=>by cases hs) (fun a l ha hl s hs=>?_) s;rcases List.mem_cons.1 hs with rfl | hs
 ·exact ha
 ·exact hl s hs
theorem bZ {α β:Type} {f g:α→List β}:∀{l:List α},(∀x∈l,f x=g x)→l.flatMap f=l.flatMap g
 | [],_=>rfl
 | x::l,h=>by rw [List.flatMap_cons,List.flatMap_cons,h x (List.mem_cons_self ..),bZ fun y hy=>h y (List.mem_cons_of_mem _ hy)]
theorem cu {α β:Type} {f g:α→β} {l:List α} (h:∀x∈l,f x=g x):l.map f=l.map g:=List.map_congr_left h
section
variable (p:af) (E:Env)
theorem wG {l:List ae} (h:∀s∈l,bu (aD p) E (av s)=bu p E s) (i:Nat):bF (aD p) E (l.map av) i=bF p E l i:=by
 unfold bF;rw [List.getElem?_map];cases hi:l[i]? with
 | none=>rfl
 | some x=>exact h x (List.mem_of_getElem? hi)
theorem mR (e:ae):bu (aD p) E (av e)=bu p E e:=by
 induction e using ae.ind with
 | h k o v w n sp l ih =>
  rw [rX,rX,kW,Ah,mg,oD,jM,xg,wG (l:=(ae.mk k o v w n sp l).subs) p E ih,wG (l:=(ae.mk k o v w n sp l).subs) p E ih]
theorem kP (l:List ae) (i:Nat):bF (aD p) E (l.map av) i=bF p E l i:=wG p E (fun s _=>mR p E s) i
theorem BI (e:ae):jT (av e)=jT e:=by
 unfold jT;rw [kW,Ah,sD,mg,oD,jM,List.length_map]
theorem zQ (e:ae):bO (aD p) E (av e)=bO p E e:=by
 unfold bO;rw [kW,sD,mg,jM,List.length_map,kP,kP,kP]
theorem j3 (a b:Int):dx (aD p) a b=dx p a b:=by
 unfold dx;rw [show (aD p).procs.length=p.procs.length from List.length_map _]
theorem CO (wh:Int) (e:ae) (d:Nat):iR (aD p) E wh (av e) d=iR p E wh e d:=by
 unfold iR dL;rw [kW,oD,BI,zQ,j3,vC]
theorem lh (wh:Int) (e:ae):∀d,fC (aD p) E wh (av e) d=fC p E wh e d:=by
 induction e using ae.ind with
 | h k o v w n sp l ih =>
  intro d;rw [kD,kD,CO,bU,bU,jM,List.flatMap_map]
  congr 1
  exact bZ fun s hs=>ih s hs (d+1)
theorem AO (wh:Int) (l:List ae) (d:Nat):bI (aD p) E wh (l.map av) d=bI p E wh l d:=by
 rw [bU,bU,List.flatMap_map];exact bZ fun s _=>lh p E wh s d
theorem CV (s:aa):jB (ah s)=jB s:=by
 unfold jB;rw [gD,jl,jL,gB,iV,kz,List.length_map,List.length_map,List.length_map]
theorem qm {α β:Type} (f:β→ByteArray) (g:α→β):∀(l:List α) (n:Nat),numbered f (l.map g) n=numbered (fun x=>f (g x)) l n
 | [],_=>rfl
 | x::l,n=>by rw [List.map_cons,numbered,numbered,qm f g l]
theorem qB:cz (aD p)=cz p:=by
 unfold cz;rw [show (aD p).procs=p.procs.map jA from rfl,qm]
 rfl
theorem xy (s:aa):(ah s).pre=s.pre.map ah:=by
 induction s using aa.ind with
 | h k n es ex b ts th os el i1 i2 =>
  rw [aa.pre_eq,aa.pre_eq,List.map_cons,List.map_append,iV,kz,List.flatMap_map,List.flatMap_map,List.map_flatMap,List.map_flatMap]
  congr 2
  ·exact bZ fun s hs=>i1 s hs
  ·exact bZ fun s hs=>i2 s hs
theorem nE (l:List aa):(l.map ah).flatMap aa.pre=(l.flatMap aa.pre).map ah:=by
 rw [List.flatMap_map,List.map_flatMap];exact bZ fun s _=>xy s
theorem Al (l:List aa):iJ (l.map ah)=iJ l:=by
 unfold iJ;rw [nE,List.foldl_map];simp only [gD,jL]
theorem vO (i:Nat):fD (aD p) i=fD p i:=by
 unfold fD;rw [qB,show (aD p).procs[i]? = (p.procs[i]?).map jA from List.getElem?_map];cases p.procs[i]? with
 | none=>rfl
 | some q=>simp only [Option.map_some];rw [show (jA q).body=q.body.map ah from rfl,Al]
theorem mF (tgt:Nat):∀(n:Nat) (seen todo:List Nat),eO (aD p) tgt n seen todo=eO p tgt n seen todo
 | 0,_,_=>rfl
 | _+1,_,[]=>rfl
 | n+1,seen,i::todo=>by
  rw [eO,eO,mF tgt n,mF tgt n,vO]
theorem Bf (a b:Nat):ja (aD p) a b=ja p a b:=by
 unfold ja mD;rw [mF,show (aD p).procs.length=p.procs.length from List.length_map _];simp only [vO]
theorem uK:∀(ds:List aG) (l:List ae),ky (aD p) E ds (l.map av)=ky p E ds l
 | [],_=>by simp [ky]
 | _::_,[]=>by simp [ky]
 | d::ds,e::l=>by rw [List.map_cons,ky,ky,mR,uK ds l]
theorem Cr (i:Nat) (l:List ae):lU (aD p) E i (l.map av)=lU p E i l:=by
 unfold lU;rw [show (aD p).procs[i]? = (p.procs[i]?).map jA from List.getElem?_map];cases p.procs[i]? with
 | none=>rfl
 | some q =>
  simp only [Option.map_some,List.length_map];rw [show (jA q).params=q.params from rfl,uK]
theorem Ca (s:aa):eF (aD p) E (ah s)=eF p E s:=by
 unfold eF;rw [gD,jL,jl,gB,kP,kP,qB,vC];simp only [Cr,Bf]
 rfl
theorem DU (s:aa) (d:Nat):jo (aD p) E (ah s) d=jo p E s d:=by
 unfold jo;rw [CV,Ca,j3]
theorem DT (s:aa):∀d,kM (aD p) E (ah s) d=kM p E s d:=by
 induction s using aa.ind with
 | h k n es ex b ts th os el i1 i2 =>
  intro d;rw [kN,kN,DU,gB,iV,kz,AO,bA,bA,bA,bA,List.flatMap_map,List.flatMap_map]
  congr 2
  congr 1
  ·exact bZ fun s hs=>i1 s hs (d+1)
  ·exact bZ fun s hs=>i2 s hs (d+1)
theorem mO (l:List aa) (d:Nat):aH (aD p) E (l.map ah) d=aH p E l d:=by
 rw [bA,bA,List.flatMap_map];exact bZ fun s _=>DT p E s d
theorem vL (s:List UInt8):ig (aD p) s=ig p s:=by
 unfold ig;rw [show (aD p).procs.length=p.procs.length from List.length_map _]
theorem CK (before:List ByteArray) (a:Bool) (d:aG):mo (aD p) before a d=mo p before a d:=by
 unfold mo;rw [vL]
theorem iA (a:Bool):∀(l:List aG) (before:List ByteArray),bB (aD p) a l before=bB p a l before
 | [],_=>rfl
 | d::l,before=>by rw [bB,bB,CK,iA a l]
theorem Bb (i:Nat):inside (aD p) i=inside p i:=by
 unfold inside;rw [show (aD p).procs[i]? = (p.procs[i]?).map jA from List.getElem?_map];cases p.procs[i]? <;> rfl
theorem DD (before:List ByteArray) (i:Nat) (q:aK):jS (aD p) before i (jA q)=jS p before i q:=by
 unfold jS vU;rw [vL,iA,Bb,show (jA q).body=q.body.map ah from rfl,mO]
 rfl
theorem sW:∀(l:List aK) (i:Nat) (before:List ByteArray),bV (aD p) (l.map jA) i before=bV p l i before
 | [],_,_=>rfl
 | q::l,i,before=>by rw [List.map_cons,bV,bV,DD,sW l];rfl
theorem sN:∀(l:List bn) (before:List Int),cO (aD p) (l.map su) before=cO p l before
 | [],_=>rfl
 | x::l,before=>by
  rw [List.map_cons,cO,cO,sN l];have e1:sM (aD p) before (su x)=sM p before x:=by
   unfold sM;rw [show (su x).value=av x.value from rfl,mR]
   rfl
  rw [e1,show (su x).value=av x.value from rfl,lh]
  rfl
theorem xe (k:Int):gL (aD p) k=gL p k:=by
 unfold gL;rw [j3,j3,show (aD p).procs.length=p.procs.length from List.length_map _]
 rfl
theorem sI (k:Int):bK (aD p) k=bK p k:=by
 unfold bK;rw [xe,iA,iA,iA,iA];rw [show (aD p).require=av p.require from rfl,show (aD p).invariant=av p.invariant from rfl,show (aD p).inits=p.inits.map su from rfl,show (aD p).procs=p.procs.map jA from rfl,show (aD p).work=p.work.map ah from rfl,show (aD p).recover=p.recover.map ah from rfl];rw [lh,lh,sN,sW,mO,mO]
 rfl
end
end
section
open Go
section
variable {P:Program} {md:Region.Mode} {ops:Array Oper} {Q:Exit→Act→World→Prop}
def tF (ops:Array Oper) (listed:Array Bool):List Nat:=(List.range ops.size).filter fun i=>!listed.getD i true
theorem F9 {listed:Array Bool} {i:Nat} (h:i∈tF ops listed):(tF ops (listed.setIfInBounds i true)).length<(tF ops listed).length:=by
 have e:tF ops (listed.setIfInBounds i true)=(tF ops listed).filter fun j=>decide (j≠i):=by
  unfold tF;rw [List.filter_filter];refine List.filter_congr fun j _=>?_
  by_cases hj:j=i
  ·subst hj
   have hlt:j<listed.size:=by
    have h2:=(List.mem_filter.1 h).2;rcases Nat.lt_or_ge j listed.size with h3 | h3
    ·exact h3
    ·simp [Array.getD,Nat.not_lt.2 h3] at h2
   simp [Array.getD,hlt]
  ·have:(listed.setIfInBounds i true).getD j true=listed.getD j true:=by
    rw [Array.getD_eq_getD_getElem?,Array.getD_eq_getD_getElem?,Array.getElem?_setIfInBounds_ne (Ne.symm hj)]
   rw [this];simp [hj]
 rw [e];exact List.length_filter_lt_length_iff_exists.2 ⟨i,h,by simp⟩
theorem vY {listed:Array Bool} {i:Nat} (h:i∈Region.ready md ops listed):i∈tF ops listed:=by
 unfold Region.ready at h;obtain ⟨h1,h2⟩:=List.mem_filter.1 h;rw [Bool.and_eq_true] at h2;exact List.mem_filter.2 ⟨h1,h2.1⟩
theorem yJ (I:Array Bool→Act→World→Prop) (hstep:∀listed a w i,I listed a w→i∈Region.ready md ops listed→wpOp P ops Q i (I (listed.setIfInBounds i true)) a w)
  (hdone:∀listed a w,I listed a w→Region.ready md ops listed=[]→Q .normal a w) :
  ∀(fuel:Nat) (listed:Array Bool) (a:Act) (w:World),(tF ops listed).length≤fuel→I listed a w→wpAny P md ops Q fuel listed a w
 | 0,listed,a,w,hf,hI=>by
  have hr:Region.ready md ops listed=[]:=by
   refine List.eq_nil_iff_forall_not_mem.2 fun i hi=>?_
   have h1:=vY hi;have h2:=List.eq_nil_of_length_eq_zero (Nat.le_zero.1 hf);rw [h2] at h1;cases h1
  exact ⟨hr,hdone _ _ _ hI hr⟩
 | fuel+1,listed,a,w,hf,hI=>⟨fun hr=>hdone _ _ _ hI hr,fun i hi=>wpOp_mono (fun a' w' h'=>yJ I hstep hdone fuel _ a' w' (by have:=F9 (vY hi);omega) h') (hstep listed a w i hI hi)⟩
theorem kr {id:Nat} {a:Act} {w:World} (hm:P.follows .mixedOrders=true) (I:Array Bool→Act→World→Prop)
  (hstep:∀listed a w i,I listed a w→i∈Region.ready .any ops listed→wpOp P ops Q i (I (listed.setIfInBounds i true)) a w)
  (hdone:∀listed a w,I listed a w→Region.ready .any ops listed=[]→Q .normal a w) (h0:I (Array.replicate ops.size false) a w.drew):(Code.region id ops true).wp P Q a w:=by
 refine wp_region_any hm (yJ I hstep hdone _ _ _ _ ?_ h0);refine Nat.le_trans (List.length_filter_le _ _) ?_;simp
theorem eval_put_same {a:Act} {d:Nat} {v:Value} (h:d<a.tmps.size):(a.put (some d) v).eval (.tmp d)=v:=by
 simp [Act.put,Act.eval,h]
theorem aA {a:Act} {d j:Nat} {v:Value} (h:d≠j):(a.put (some d) v).eval (.tmp j)=a.eval (.tmp j):=by
 simp [Act.put,Act.eval,Array.getElem?_setIfInBounds_ne h]
theorem size_put {a:Act} {d:Option Nat} {v:Value}:(a.put d v).tmps.size=a.tmps.size:=by
 cases d <;> simp [Act.put]
end
end
section
open Go Go.RowKit
section
variable {P:Program} {ops:Array Oper} {Q:Exit→Act→World→Prop}
def jr (L:Nat→Bool) (i:Nat):Nat→Bool:=fun j=>if j=i then true else L j
theorem aC {L:Nat→Bool} {i:Nat}:jr L i i=true:=by simp [jr]
theorem ai {L:Nat→Bool} {i j:Nat} (h:j≠i):jr L i j=L j:=by simp [jr,h]
def gP (listed:Array Bool):Nat→Bool:=fun j=>listed.getD j false
theorem zi {listed:Array Bool} {i:Nat} (h:i<listed.size):gP (listed.setIfInBounds i true)=jr (gP listed) i:=by
 funext j
 unfold gP jr;by_cases hj:j=i
 ·subst hj;simp [h]
 ·rw [if_neg hj,getD_set_ne false (Ne.symm hj)]
theorem rE {listed:Array Bool} (hls:listed.size=ops.size) (hback:∀(i:Nat) (o:Oper),ops[i]? = some o→∀e∈o.after,Region.binds .any e=true→e.on<i) (hr:Region.ready .any ops listed=[]):∀i,i<ops.size→gP listed i=true:=by
 intro i;induction i using Nat.strongRecOn with
 | _ i ih =>
  intro hi;cases hc:gP listed i with
  | true=>rfl
  | false =>
   exfalso
   have h0:listed.getD i true=false:=by
    unfold gP at hc;rw [←hls] at hi;simp [Array.getD,hi] at hc ⊢;exact hc
   have hm:i∈Region.ready .any ops listed:=by
    rw [mem_ready];exact ⟨h0,ops[i],Array.getElem?_eq_getElem hi,fun e he hb=>ih e.on (hback i _ (Array.getElem?_eq_getElem hi) e he hb) (Nat.lt_trans (hback i _ (Array.getElem?_eq_getElem hi) e he hb) hi)⟩
   rw [hr] at hm;cases hm
def jV (F:Nat→Oper→Prop):Nat→List Oper→Prop
 | _,[]=>True
 | i,o::l=>F i o∧jV F (i+1) l
theorem jV.at_ {F:Nat→Oper→Prop}:∀{l:List Oper} {k:Nat},jV F k l→∀{i:Nat} {o:Oper},l[i]? = some o→F (k+i) o
 | [],_,_,i,o,h=>by simp at h
 | x::l,k,hA,0,o,h=>by
  simp at h;subst h;exact hA.1
 | x::l,k,hA,i+1,o,h=>by
  have:=jV.at_ hA.2 (i:=i) (o:=o) (by simpa using h)
  rwa [show k+1+i=k+(i+1) by omega] at this
theorem jV.all {F:Nat→Oper→Prop} {ops:Array Oper} (h:jV F 0 ops.toList) (i:Nat) (o:Oper) (ho:ops[i]? = some o):F i o:=by
 have:=jV.at_ h (i:=i) (o:=o) (by simpa using ho)
 rwa [Nat.zero_add] at this
def iW (o:Oper) (j:Nat):Bool:=o.after.toList.any fun e=>Region.binds .any e && Nat.beq e.on j
theorem jV.cons {F:Nat→Oper→Prop} {i:Nat} {o:Oper} {l:List Oper} (h:F i o) (t:jV F (i+1) l):jV F i (o::l):=⟨h,t⟩
theorem Oper.wp_value {o:Oper} {a:Act} {w w':World} {v:Value} {K:Act→World→Prop} (h:(execOp a.eval o).run P w=.ok (.value v) w') (hk:K (a.put o.dst v) w'):o.wp P a w K Q:=by
 unfold Oper.wp;rw [h];exact hk
theorem Oper.wp_enter {o:Oper} {a:Act} {w w':World} {f:FuncId} {args:Array Value} {K:Act→World→Prop} (h:(execOp a.eval o).run P w=.ok (.enter f args) w') (hc:Calls P f args w' fun e w''=>∃v,e=.returned v∧K (a.put o.dst v) w''):o.wp P a w K Q:=by
 unfold Oper.wp;rw [h];refine Calls.mono hc fun e w'' he=>?_
 obtain ⟨v,rfl,hk⟩:=he;exact hk
def opsOf (n:Nat):Code→Option (Array Oper)
 | .region id ops _=>if id=n then some ops else none
 | .seq a b=>match opsOf n a with
  | some c=>some c
  | none=>opsOf n b
 | .loop c=>opsOf n c
 | .block _ c=>opsOf n c
 | .scope c=>opsOf n c
 | .cond _ a b=>match opsOf n a with
  | some c=>some c
  | none=>opsOf n b
 | _=>none
theorem aj {a:Act} {n:Nat} {v:Value} (h:a.eval (.tmp n)=v):a.tmps[n]?.getD undef=v:=by
 rw [←h];simp [Act.eval]
theorem mf {a:Act} {n:Nat} (h:a.tmps.size=n) (hd:a.defers=[]):a=⟨((List.range n).map fun t=>a.eval (.tmp t)).toArray,[]⟩:=by
 obtain ⟨ts,ds⟩:=a;subst hd;subst h
 congr 1
 apply Array.ext
 ·simp
 ·intro i h1 h2
  simp [Act.eval,h1]
end
end
section
open Go Go.RowKit
def dB (x w:Int):ae:=.mk 1 0 x w ⟨#[]⟩ Sp.none []
def ik (s:ByteArray):ae:=.mk 2 0 0 0 s Sp.none []
def rJ (sp:Sp) (s:ByteArray) (e:ae):aa:=.mk 1 s sp [e] 0 Sp.none [] Sp.none []
def LM (sp:Sp) (b e:ae):aa:=.mk 3 ⟨#[]⟩ sp [b,e] 0 Sp.none [] Sp.none []
def KW (sp:Sp) (s:ByteArray) (l:List ae):aa:=.mk 8 s sp l 0 Sp.none [] Sp.none []
def xB:ByteArray:=⟨#[120]⟩
end
section
open Go Go.RowKit
theorem row_one {α:Type} {W:World} {b k:Nat} {t:TypeId} {fr:Nat × Nat} {enc:α→List Value} {x:α} (h:W.heap[b]? = some (.cells (enc x).toArray t fr)):RowOf W.heap.size W ⟨some ⟨b,0,none⟩,1⟩ k enc [x]:=by
 refine ⟨Nat.le_refl _,by simp [maxLen],by simp,fun _=>⟨b,0,rfl,(zgs h).1,fun j hj r u hu=>?_⟩⟩;have:j=0:=by simp at hj;omega
 subst this;simp only [List.getElem_cons_zero] at hu;simp [World.cell?,h,hu]
theorem JO {α:Type} {W:World} {b k:Nat} {t:TypeId} {fr:Nat × Nat} {enc:α→List Value} {x y:α} (hk:(enc x).length=k) (h:W.heap[b]? = some (.cells (enc x++enc y).toArray t fr)):RowOf W.heap.size W ⟨some ⟨b,0,none⟩,2⟩ k enc [x,y]:=by
 refine ⟨Nat.le_refl _,by simp [maxLen],by simp,fun _=>⟨b,0,rfl,(zgs h).1,fun j hj r u hu=>?_⟩⟩;have hj2:j=0∨j=1:=by simp at hj;omega
 rcases hj2 with rfl | rfl
 ·simp only [List.getElem_cons_zero] at hu
  have hr:r<(enc x).length:=(List.getElem?_eq_some_iff.1 hu).1;simp [World.cell?,h,List.getElem?_append_left hr,hu]
 ·simp only [List.getElem_cons_succ,List.getElem_cons_zero] at hu
  have e:(enc x++enc y)[k+r]? = some u:=by rw [List.getElem?_append_right (by omega)];rw [hk,Nat.add_sub_cancel_left];exact hu
  simp [World.cell?,h,e]
def uE (W:World) (e:ae):Prop:=iw W.heap.size W e
def nP (W:World) (s:aa):Prop:=eu W.heap.size W s
theorem uE.on {W W':World} {e:ae} (h:uE W e) (hb:Below W.heap.size W W'):uE W' e:=(iw.stays h hb).more hb.size
theorem nP.on {W W':World} {s:aa} (h:nP W s) (hb:Below W.heap.size W W'):nP W' s:=(eu.stays h hb).more hb.size
theorem nA (W:World) (x wd:Int) (hx:0≤x∧x≤4294967295) (hw:(Lit.int .i64 wd).wf=true):uE W (dB x wd) :=
 .mk _ (show (0:Int)≤1∧(1:Int)≤255 by decide) (show (0:Int)≤0∧(0:Int)≤255 by decide) hx hw (show (0:Nat)≤maxLen by decide) RowOf.nil (fun _ h=>absurd h (by simp [dB,ae.subs]))
theorem Bl (W:World) (s:ByteArray) (hs:s.size≤maxLen):uE W (ik s) :=
 .mk _ (show (0:Int)≤2∧(2:Int)≤255 by decide) (show (0:Int)≤0∧(0:Int)≤255 by decide) (show (0:Int)≤0∧(0:Int)≤4294967295 by decide) (show (Lit.int .i64 0).wf=true by decide) hs RowOf.nil (fun _ h=>absurd h (by simp [ik,ae.subs]))
theorem gY (w:World) (o1 o2:Obj):((w.alloc o1).alloc o2).heap[w.heap.size]? = some o1∧((w.alloc o1).alloc o2).heap[w.heap.size+1]? = some o2∧((w.alloc o1).alloc o2).heap.size=w.heap.size+2∧Below w.heap.size w ((w.alloc o1).alloc o2):=by
 have h1:=zan w o1;have h2:=zan (w.alloc o1) o2;rw [World.size_alloc] at h2;refine ⟨(Below.heap_alloc _ _ _ (by simp)).trans h1,h2,by simp,((Below.refl _ _).alloc (Nat.le_refl _) _).alloc (by simp) _⟩
theorem uJ (w:World) (o1 o2 o3:Obj):(((w.alloc o1).alloc o2).alloc o3).heap[w.heap.size]? = some o1∧(((w.alloc o1).alloc o2).alloc o3).heap[w.heap.size+1]? = some o2∧(((w.alloc o1).alloc o2).alloc o3).heap[w.heap.size+1+1]? = some o3∧(((w.alloc o1).alloc o2).alloc o3).heap.size=w.heap.size+3∧Below w.heap.size w (((w.alloc o1).alloc o2).alloc o3):=by
 obtain ⟨h1,h2,h3,h4⟩:=gY w o1 o2;have h5:=zan ((w.alloc o1).alloc o2) o3;rw [h3] at h5;refine ⟨(Below.heap_alloc _ _ _ (by omega)).trans h1,(Below.heap_alloc _ _ _ (by omega)).trans h2,h5,by simp,h4.alloc (by omega) _⟩
theorem Ku (w:World) (o1 o2 o3 o4:Obj):((((w.alloc o1).alloc o2).alloc o3).alloc o4).heap[w.heap.size]? = some o1∧((((w.alloc o1).alloc o2).alloc o3).alloc o4).heap[w.heap.size+1]? = some o2∧((((w.alloc o1).alloc o2).alloc o3).alloc o4).heap[w.heap.size+1+1]? = some o3∧((((w.alloc o1).alloc o2).alloc o3).alloc o4).heap[w.heap.size+1+1+1]? = some o4∧((((w.alloc o1).alloc o2).alloc o3).alloc o4).heap.size=w.heap.size+4∧Below w.heap.size w ((((w.alloc o1).alloc o2).alloc o3).alloc o4):=by
 obtain ⟨h1,h2,h3,h4,h6⟩:=uJ w o1 o2 o3;have h5:=zan (((w.alloc o1).alloc o2).alloc o3) o4;rw [h4] at h5;refine ⟨(Below.heap_alloc _ _ _ (by omega)).trans h1,(Below.heap_alloc _ _ _ (by omega)).trans h2,(Below.heap_alloc _ _ _ (by omega)).trans h3,h5,by simp,h6.alloc (by omega) _⟩
theorem bX.on {W W':World} {sp:Sp} {l:List aa} (h:bX W.heap.size W sp l) (hb:Below W.heap.size W W'):bX W'.heap.size W' sp l:=(h.below hb).more hb.size
theorem jW.on {W W':World} {p:af} (h:jW W.heap.size W p) (hb:Below W.heap.size W W'):jW W'.heap.size W' p:=(h.below hb).more hb.size
end
section
open Go Go.RowKit
section
variable {P:Program} {α:Type} {k:Nat} {enc:α→List Value} {w:World}
theorem Oper.wp_append {o:Oper} {a:Act} {K:Act→World→Prop} {Q:Exit→Act→World→Prop} (s x:Operand) (t:TypeId)
  (ho:o.op=.call { callee:=.builtin .append,args:=#[s,x],argTypes:=#[t,t] }) {B:Nat} {e:TypeId} (hE:uC P t e k) (hk:∀x,(enc x).length=k) (h1:∀x:α,∀u∈enc x,u.oneCell'=true) (v:Value) (l:List α) (hs:a.eval s=v) (hown:aI B w e k enc v l)
  {n:Nat} (sp:Sp) (l2:List α) (hx:a.eval x=.slice sp.at_ l2.length sp.cap) (hr:RowOf n w sp k enc l2) (hlen:l.length+l2.length≤1000000) (hB:B≤w.heap.size)
  (h:∀v' w',aI B w' e k enc v' (l++l2)→w.grownBy w' v.ownBlock→(v'.ownBlock=v.ownBlock∨v'.ownBlock=some w.heap.size)→K (a.put o.dst v') w'):o.wp P a w K Q:=by
 obtain ⟨v',w',hrun,h2,h3,h4⟩:=mK (P:=P) (ty:=o.type) hE hk h1 hown hr hlen hB;unfold Oper.wp execOp;simp only [ho,resolve,invoke,builtin,Sem.run_bind,Sem.run_pure,Result.andThen_ok,List.map_toArray,List.map_cons,List.map_nil,hs,hx,hrun];exact h v' w' h2 h3 h4
theorem below_setRow {n:Nat} {w0 w:World} (h:Below n w0 w) {g:Nat} {cs:Array Value} (hg:n≤g):Below n w0 (w.setRow g cs):=by
 refine h.trans ⟨rfl,rfl,rfl,by simp,fun k hk=>?_⟩;exact setRow_other w g k cs (by omega)
theorem Oper.wp_skip {o:Oper} {a:Act} {w w':World} {K:Act→World→Prop} {Q:Exit→Act→World→Prop} (h:(execOp a.eval o).run P w=.ok .skip w') (hk:K (a.put o.dst undef) w'):o.wp P a w K Q:=by
 unfold Oper.wp;rw [h];exact hk
end
end
section
open Go Go.RowKit
def ae.cellsR (e:ae):List Value:=[.int .i64 e.kind,.int .i64 e.op,.int .i64 e.value,.int .i64 e.width,.string e.name,e.sp.val e.subs.length]
def ae.valR (e:ae):Value:=.agg #[.int .i64 e.kind,.int .i64 e.op,.int .i64 e.value,.int .i64 e.width,.string e.name,e.sp.val e.subs.length]
def aa.cellsR (s:aa):List Value:=[.int .i64 s.kind,.string s.name,s.es.val s.exprs.length,.int .i64 s.bound,s.ts.val s.thn.length,s.os.val s.els.length]
def aa.valR (s:aa):Value:=.agg #[.int .i64 s.kind,.string s.name,s.es.val s.exprs.length,.int .i64 s.bound,s.ts.val s.thn.length,s.os.val s.els.length]
inductive l6 (n₀:Nat) (W:World):ae→Prop
 | mk (e:ae) (row:RowOf n₀ W e.sp 6 ae.cellsR e.subs) (subs:∀s,s∈e.subs→l6 n₀ W s):l6 n₀ W e
inductive j5 (n₀:Nat) (W:World):aa→Prop
 | mk (s:aa) (erow:RowOf n₀ W s.es 6 ae.cellsR s.exprs) (exprs:∀e,e∈s.exprs→l6 n₀ W e) (trow:RowOf n₀ W s.ts 6 aa.cellsR s.thn) (thn:∀t,t∈s.thn→j5 n₀ W t)
   (orow:RowOf n₀ W s.os 6 aa.cellsR s.els) (els:∀t,t∈s.els→j5 n₀ W t):j5 n₀ W s
theorem l6.row {n:Nat} {W:World} {e:ae} (h:l6 n W e):RowOf n W e.sp 6 ae.cellsR e.subs:=by cases h;assumption
theorem l6.sub {n:Nat} {W:World} {e:ae} (h:l6 n W e):∀s,s∈e.subs→l6 n W s:=by cases h;assumption
theorem l6.cells {n n':Nat} {W W':World} {e:ae} (h:l6 n W e) (hn:n≤n') (hc:∀p u,p.block<n→W.cell? p=some u→W'.cell? p=some u):l6 n' W' e:=by
 induction h with
 | mk e row _ ih=>exact .mk e ((row.cells hc).more hn) ih
theorem j5.cells {n n':Nat} {W W':World} {s:aa} (h:j5 n W s) (hn:n≤n') (hc:∀p u,p.block<n→W.cell? p=some u→W'.cell? p=some u):j5 n' W' s:=by
 induction h with
 | mk s er ex tr _ or _ ih1 ih2=>exact .mk s ((er.cells hc).more hn) (fun e he=>(ex e he).cells hn hc) ((tr.cells hc).more hn) ih1 ((or.cells hc).more hn) ih2
structure nU (n₀:Nat) (W:World) (s:Sp) (l:List aa):Prop where
 row:RowOf n₀ W s 6 aa.cellsR l
 ok:∀t∈l,j5 n₀ W t
structure Ac (n₀:Nat) (W:World) (s:Sp) (l:List ae):Prop where
 row:RowOf n₀ W s 6 ae.cellsR l
 ok:∀t∈l,l6 n₀ W t
theorem l6.xs {n:Nat} {W:World} {e:ae} (h:l6 n W e):Ac n W e.sp e.subs:=by cases h with | mk _ r s=>exact ⟨r,s⟩
theorem j5.xs {n:Nat} {W:World} {s:aa} (h:j5 n W s):Ac n W s.es s.exprs:=by cases h with | mk _ a b=>exact ⟨a,b⟩
theorem j5.then_ {n:Nat} {W:World} {s:aa} (h:j5 n W s):nU n W s.ts s.thn:=by cases h with | mk _ _ _ a b=>exact ⟨a,b⟩
theorem j5.else_ {n:Nat} {W:World} {s:aa} (h:j5 n W s):nU n W s.os s.els:=by cases h with | mk _ _ _ _ _ a b=>exact ⟨a,b⟩
theorem nU.cells {n n':Nat} {W W':World} {sp:Sp} {l:List aa} (h:nU n W sp l) (hn:n≤n') (hc:∀p u,p.block<n→W.cell? p=some u→W'.cell? p=some u):nU n' W' sp l:=⟨(h.row.cells hc).more hn,fun t ht=>(h.ok t ht).cells hn hc⟩
theorem Ac.cells {n n':Nat} {W W':World} {sp:Sp} {l:List ae} (h:Ac n W sp l) (hn:n≤n') (hc:∀p u,p.block<n→W.cell? p=some u→W'.cell? p=some u):Ac n' W' sp l:=⟨(h.row.cells hc).more hn,fun t ht=>(h.ok t ht).cells hn hc⟩
theorem mh {n:Nat} {W W':World} (hb:Below n W W'):∀(p:Addr) (u:Value),p.block<n→W.cell? p=some u→W'.cell? p=some u:=fun _ _ hp hc=>(hb.cell hp).trans hc
def tN (lo:Nat) (g:Option Nat) (W:World) (e:ae):Prop:=l6 W.heap.size (dK lo (gK g W)) e
def Kk (lo:Nat) (g:Option Nat) (W:World) (s:aa):Prop:=j5 W.heap.size (dK lo (gK g W)) s
structure wQ {α:Type} (El:Nat→Option Nat→World→α→Prop):Prop where
 move:∀{lo lo':Nat} {g g':Option Nat} {W W':World} {x:α},El lo g W x→W.heap.size≤W'.heap.size→(∀b:Nat,lo≤b→g≠some b→b<W.heap.size→lo'≤b∧g'≠some b∧W'.heap[b]? = W.heap[b]?)→El lo' g' W' x
theorem jc {lo lo':Nat} {g g':Option Nat} {W W':World} (hm:∀b:Nat,lo≤b→g≠some b→b<W.heap.size→lo'≤b∧g'≠some b∧W'.heap[b]? = W.heap[b]?) :
  ∀(p:Addr) (u:Value),p.block<W.heap.size→(dK lo (gK g W)).cell? p=some u→(dK lo' (gK g' W')).cell? p=some u:=fun p u hp hc=>by
 obtain ⟨h1,h2,h3⟩:=dZ.1 hc;obtain ⟨h4,h5,h6⟩:=hm _ h1 h2 hp;exact dZ.2 ⟨h4,h5,(World.cell?_of_block h6).trans h3⟩
theorem tQ:wQ tN:=⟨fun h hs hm=>l6.cells h hs (jc hm)⟩
theorem Jz:wQ Kk:=⟨fun h hs hm=>j5.cells h hs (jc hm)⟩
section
variable {α:Type} {El:Nat→Option Nat→World→α→Prop} (hE:wQ El) {lo lo':Nat} {g g':Option Nat} {W W':World} {x:α}
include hE
theorem wQ.below (h:El lo g W x) (hb:Below W.heap.size W W'):El lo g W' x:=hE.move h hb.size fun b h1 h2 h3=>⟨h1,h2,hb.block b h3⟩
theorem wQ.less (h:El lo g W x) (hl:lo'≤lo):El lo' g W x:=hE.move h (Nat.le_refl _) fun _ h1 h2 _=>⟨Nat.le_trans hl h1,h2,rfl⟩
theorem wQ.grow (h:El lo g W x) (hg:W.grownBy W' g) (hat:g'=g∨g'=some W.heap.size):El lo g' W' x:=hE.move h hg.size fun b h1 h2 h3=>⟨h1,by
 rcases hat with rfl | rfl
 ·exact h2
 ·intro e
  have:=Option.some.inj e;omega,hg.block b h3 (fun e=>h2 e.symm)⟩
theorem wQ.far (h:El lo none W x) (hg:∀b,g=some b→b<lo) (hl:lo'≤lo):El lo' g W x:=hE.move h (Nat.le_refl _) fun b h1 _ _=>⟨by omega,fun e=>by have:=hg _ e;omega,rfl⟩
theorem wQ.open_ (h:El lo g W x):El lo none W x:=hE.move h (Nat.le_refl _) fun _ h1 _ _=>⟨h1,by simp,rfl⟩
theorem wQ.set (h:El lo g W x) {q:Nat} (hq:q<lo) (i:Nat) (v:Value):El lo g (W.setCell ⟨q,i,none⟩ v) x:=hE.move h (by simp) fun b h1 h2 _=>⟨h1,h2,Below.heap_setCell _ _ _ _ (by show b≠q;omega)⟩
end
structure gX {α:Type} (El:Nat→Option Nat→World→α→Prop) (ty:TypeId) (enc:α→List Value) (lo:Nat) (W:World) (A:Option Addr) (c:Nat) (l:List α):Prop where
 own:aI lo W ty 6 enc (.slice A l.length c) l
 elems:∀x∈l,El lo (Value.slice A l.length c).ownBlock W x
section
variable {α:Type} {El:Nat→Option Nat→World→α→Prop} (hE:wQ El) {ty:TypeId} {enc:α→List Value} {lo:Nat} {W W':World} {A:Option Addr} {c:Nat} {l:List α}
theorem gX.nil:gX El ty enc lo W none 0 ([]:List α):=⟨aI.nil,fun _ h=>absurd h (by simp)⟩
include hE
theorem gX.on (h:gX El ty enc lo W A c l) (hb:Below W.heap.size W W'):gX El ty enc lo W' A c l:=⟨h.own.on hb,fun x hx=>hE.below (h.elems x hx) hb⟩
theorem gX.set (h:gX El ty enc lo W A c l) {q:Nat} (hq:q<lo) (i:Nat) (v:Value):gX El ty enc lo (W.setCell ⟨q,i,none⟩ v) A c l :=
 ⟨h.own.kept fun g _ _ hg _=>Below.heap_setCell _ _ _ _ (by show g≠q;omega),fun x hx=>hE.set (h.elems x hx) hq i v⟩
theorem gX.push (h:gX El ty enc lo W A c l) {y:α} (hy:El lo (Value.slice A l.length c).ownBlock W y) {v':Value} (ho:aI lo W' ty 6 enc v' (l++[y])) (hg:W.grownBy W' (Value.slice A l.length c).ownBlock)
  (hat:v'.ownBlock=(Value.slice A l.length c).ownBlock∨v'.ownBlock=some W.heap.size):∃A' c',v'=.slice A' (l++[y]).length c'∧gX El ty enc lo W' A' c' (l++[y]):=by
 obtain ⟨A',c',rfl⟩:=ho.form;refine ⟨A',c',rfl,ho,fun x hx=>?_⟩;rcases List.mem_append.1 hx with h1 | h1
 ·exact hE.grow (h.elems x h1) hg hat
 ·rw [List.mem_singleton.1 h1]
  exact hE.grow hy hg hat
theorem gX.row (h:gX El ty enc lo W A c l) (hk:∀x,(enc x).length=6) (hl:l.length≤1000000):RowOf W.heap.size (dK lo W) ⟨A,c⟩ 6 enc l∧∀x∈l,El lo none W x:=by
 obtain ⟨sp,e,hr,hb⟩:=h.own.row hk (by omega);have:sp=⟨A,c⟩:=by
  unfold Sp.val at e;injection e with e1 e2 e3;rw [e1,e3]
 subst this;exact ⟨hr.low' fun a ha=>(hb a ha).1,fun x hx=>hE.open_ (h.elems x hx)⟩
end
end
end Go.Proofs.YtepacjkacjabbaaGreatDoor
