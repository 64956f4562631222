import Derived.Test.YtepacjkacjabbaaGreatDoorPAB
import Derived.RangeFuncRecord
import Derived.Test.YtepacjkacjabbaaGreatDoorPAA
import Derived.Laws.OwnMore
import Derived.RangeFuncNested
import Derived.RangeFuncLeaves
import Derived.Shelf.Abstract
import Derived.WalkKit
import Derived.OwnWalkIn
import Derived.TacticsInMore
import Derived.LoopNIn
import Derived.LoopIn
import Derived.Test.YtepacjkacjabbaaGreatDoorProg
import Derived.Lib.Hide
namespace Go.Proofs.YtepacjkacjabbaaGreatDoor
section
open Go Go.RowKit
def mask (q:Nat) (W:World):World:=W.putObj q (.cells #[] 0)
section
variable {q:Nat} {W W':World}
theorem bE:(mask q W).heap.size=W.heap.size:=by simp [mask,World.putObj]
theorem bP {k:Nat} (h:k≠q):(mask q W).heap[k]? = W.heap[k]? := by
 simp only [mask,World.putObj];rw [Array.getElem?_setIfInBounds,if_neg (fun e=>h e.symm)]
theorem nu:(mask q W).heap[q]? = if q<W.heap.size then some (.cells #[] 0) else none:=by
 simp only [mask,World.putObj];rw [Array.getElem?_setIfInBounds,if_pos rfl]
theorem AZ {A B:World} (h1:A.os=B.os) (h2:A.tape=B.tape) (h3:A.output=B.output) (h4:A.drawn=B.drawn) (h5:∀k:Nat,A.heap[k]? = B.heap[k]?):A=B:=by
 obtain ⟨h,_,_,_,_⟩:=A;obtain ⟨h',_,_,_,_⟩:=B;simp only at h1 h2 h3 h4 h5;have:h=h':=by
  apply Array.ext_getElem?
  exact h5
 subst this h1 h2 h3 h4
 rfl
theorem jF (i:Nat) (v:Value):mask q (W.setCell ⟨q,i,none⟩ v)=mask q W:=by
 refine AZ rfl rfl rfl rfl fun k=>?_
 by_cases h:k=q
 ·subst h
  rw [nu,nu];simp
 ·rw [bP h,bP h]
  exact Below.heap_setCell _ _ _ _ h
theorem Fe {a:Addr} {u:Value} (h:(mask q W).cell? a=some u):W.cell? a=some u:=by
 by_cases e:a.block=q
 ·simp only [World.cell?,e,nu] at h
  split at h
  ·next hh =>
   split at hh
   ·cases hh
    split at h
    ·cases h
    ·simp at h
   ·cases hh
  ·cases h
 ·rw [World.cell?_of_block (w:=mask q W) (bP e).symm];exact h
theorem gF {B:Nat} (hq:q<W.heap.size) (h:Below B W W'):Below B (mask q W) (mask q W'):=by
 refine ⟨h.os,h.tape,h.output,by rw [bE,bE];exact h.size,fun k hk=>?_⟩;by_cases e:k=q
 ·subst e
  rw [nu,nu,if_pos hq,if_pos (Nat.lt_of_lt_of_le hq h.size)]
 ·rw [bP e,bP e];exact h.block k hk
theorem lQ {B:Nat} (hB:B≤q) (h:Below B (mask q W) (mask q W')):Below B W W':=by
 refine ⟨h.os,h.tape,h.output,by have:=h.size;rw [bE,bE] at this;exact this,fun k hk=>?_⟩;have:=h.block k hk;rw [bP (by omega),bP (by omega)] at this;exact this
theorem RowOf.unmask {α:Type} {n k:Nat} {s:Sp} {enc:α→List Value} {l:List α} (h:RowOf n (mask q W) s k enc l):RowOf n W s k enc l :=
 ⟨h.cap,h.big,h.few,fun h0=>by
  obtain ⟨b,off,e,hlt,hc⟩:=h.row h0;exact ⟨b,off,e,hlt,fun j hj r u hu=>Fe (hc j hj r u hu)⟩⟩
theorem iw.unmask {n:Nat} {e:ae} (h:iw n (mask q W) e):iw n W e:=by
 induction h with
 | mk e k o v w n row _ ih=>exact .mk e k o v w n row.unmask ih
theorem eu.unmask {n:Nat} {s:aa} (h:eu n (mask q W) s):eu n W s:=by
 induction h with
 | mk s k b n er ex tr _ or _ ih1 ih2=>exact .mk s k b n er.unmask (fun e he=>(ex e he).unmask) tr.unmask ih1 or.unmask ih2
theorem nQ.unmask {n:Nat} {s:Sp} {l:List aG} (h:nQ n (mask q W) s l):nQ n W s l:=⟨h.row.unmask,h.ok⟩
theorem bX.unmask {n:Nat} {s:Sp} {l:List aa} (h:bX n (mask q W) s l):bX n W s l:=⟨h.row.unmask,fun t ht=>(h.ok t ht).unmask⟩
theorem jW.unmask {n:Nat} {p:af} (h:jW n (mask q W) p):jW n W p :=
 ⟨h.blocks,h.width,h.inputs.unmask,h.ghosts.unmask,h.vars.unmask,h.arrays.unmask,h.require.unmask,h.irow.unmask,fun i hi=>⟨(h.inits i hi).block,(h.inits i hi).value.unmask⟩,h.prow.unmask,fun x hx=>⟨(h.procs x hx).name,(h.procs x hx).params.unmask,(h.procs x hx).body.unmask⟩,h.work.unmask,h.recover.unmask,h.invariant.unmask⟩
theorem RowOf.mask {α:Type} {n k b off:Nat} {c:Nat} {enc:α→List Value} {l:List α} (h:RowOf n W ⟨some ⟨b,off,none⟩,c⟩ k enc l) (hb:b≠q):RowOf n (mask q W) ⟨some ⟨b,off,none⟩,c⟩ k enc l :=
 ⟨h.cap,h.big,h.few,fun h0=>by
  obtain ⟨b',off',e,hlt,hc⟩:=h.row h0;have e2:b=b':=by have:=Option.some.inj e;exact (Addr.mk.inj this).1
  exact ⟨b',off',e,hlt,fun j hj r u hu=>(World.cell?_of_block (w:=W) (a:=⟨b',off'+j*k+r,none⟩) (bP (by rw [←e2];exact hb))).trans (hc j hj r u hu)⟩⟩
end
end
section
open Go Go.RowKit
section
variable {α:Type} {k:Nat} {enc:α→List Value}
theorem gN (hk:∀x,(enc x).length=k):∀l:List α,(l.flatMap enc).length=l.length*k
 | []=>by simp
 | x::l=>by rw [List.flatMap_cons,List.length_append,gN hk l,hk,List.length_cons,Nat.add_mul];omega
theorem vD (hk:∀x,(enc x).length=k):∀(l:List α) (j:Nat) (u:Value),(l.flatMap enc)[j]? = some u→∃i r,∃hi:i<l.length,j=i*k+r∧(enc (l[i]))[r]? = some u
 | [],j,u,h=>by simp at h
 | x::l,j,u,h=>by
  rw [List.flatMap_cons] at h;by_cases hj:j<k
  ·rw [List.getElem?_append_left (by rw [hk];exact hj)] at h
   exact ⟨0,j,by simp,by omega,h⟩
  ·rw [List.getElem?_append_right (by rw [hk];omega),hk] at h
   obtain ⟨i,r,hi,e,h2⟩:=vD hk l (j - k) u h;refine ⟨i+1,r,by simp;omega,?_,by simpa using h2⟩;rw [Nat.add_mul];omega
theorem zh (hk:∀x,(enc x).length=k):∀(l:List α) (i r:Nat) (u:Value) (hi:i<l.length),(enc (l[i]))[r]? = some u→(l.flatMap enc)[i*k+r]? = some u
 | [],i,r,u,hi,_=>by simp at hi
 | x::l,0,r,u,hi,h=>by
  have hr:=(List.getElem?_eq_some_iff.1 h).1;rw [List.flatMap_cons,Nat.zero_mul,Nat.zero_add,List.getElem?_append_left (by simpa using hr)];exact h
 | x::l,i+1,r,u,hi,h=>by
  rw [List.flatMap_cons,List.getElem?_append_right (by rw [hk,Nat.add_mul];omega),hk];have:=zh hk l i r u (by simpa using hi) (by simpa using h);rw [←this]
  congr 1
  rw [Nat.add_mul];omega
def aI (B:Nat) (W:World) (t:TypeId) (k:Nat) (enc:α→List Value) (v:Value) (l:List α):Prop:=W.ownsRow B t k v l.length (l.flatMap enc)
variable {B n:Nat} {W W':World} {t:TypeId} {v:Value} {l:List α}
theorem aI.kept (h:aI B W t k enc v l) (hk:∀g cs fr,B≤g→W.heap[g]? = some (.cells cs t fr)→W'.heap[g]? = W.heap[g]?):aI B W' t k enc v l:=by
 obtain ⟨hlen,ho⟩:=h;refine ⟨hlen,?_⟩;rcases ho with h0 | ⟨g,cap,cur,rfl,h1,h2,h3⟩
 ·exact .inl h0
 ·exact .inr ⟨g,cap,cur,rfl,h1,(hk g _ _ h1 h2).trans h2,h3⟩
theorem aI.on (h:aI B W t k enc v l) (hb:Below W.heap.size W W'):aI B W' t k enc v l:=h.kept fun g _ _ _ hg=>hb.block g (zgs hg).1
theorem aI.less {C:Nat} (h:aI C W t k enc v l) (hB:B≤C):aI B W t k enc v l:=by
 obtain ⟨hlen,ho⟩:=h;refine ⟨hlen,?_⟩;rcases ho with h0 | ⟨g,cap,cur,rfl,h1,h2⟩
 ·exact .inl h0
 ·exact .inr ⟨g,cap,cur,rfl,Nat.le_trans hB h1,h2⟩
theorem aI.nil:aI B W t k enc (.slice none 0 0) ([]:List α):=⟨by simp,.inl ⟨rfl,rfl⟩⟩
theorem aI.slice (h:aI B W t k enc v l):∃sp:Sp,v=sp.val l.length:=by
 rcases h.2 with ⟨rfl,h0⟩ | ⟨g,cap,cur,rfl,_⟩
 ·exact ⟨Sp.none,by simp [Sp.val,Sp.none,h0]⟩
 ·exact ⟨⟨some ⟨g,0,none⟩,cap⟩,rfl⟩
theorem aI.row (h:aI B W t k enc v l) (hk:∀x,(enc x).length=k) (hfew:l.length≤4398046511104):∃sp:Sp,v=sp.val l.length∧RowOf W.heap.size W sp k enc l∧(∀a,sp.at_=some a→B≤a.block∧a.off=0∧a.spot=none):=by
 rcases h.2 with ⟨rfl,h0⟩ | ⟨g,cap,cur,rfl,h1,h2,h3,h4,h5,h6⟩
 ·have:l=[]:=List.eq_nil_of_length_eq_zero h0
  subst this;exact ⟨Sp.none,rfl,RowOf.nil,fun a ha=>by cases ha⟩
 ·refine ⟨⟨some ⟨g,0,none⟩,cap⟩,rfl,⟨h3,h4,hfew,fun _=>⟨g,0,rfl,(zgs h2).1,fun j hj r u hu=>?_⟩⟩,fun a ha=>by cases ha;exact ⟨h1,rfl,rfl⟩⟩
  have e:=zh hk l j r u hj hu;have hlt:=(List.getElem?_eq_some_iff.1 e).1;have e2:(cur.toList.take (l.length*k))[j*k+r]? = some u:=by rw [h6];exact e
  have hlt2:j*k+r<l.length*k:=by rw [←gN hk l];exact hlt
  rw [List.getElem?_take_of_lt hlt2,Array.getElem?_toList] at e2;simp only [World.cell?,h2,Nat.zero_add];exact e2
theorem RowOf.news {sp:Sp} (h:RowOf n W sp k enc l) (hk:∀x,(enc x).length=k) (h0:0<l.length):∃b off,sp.at_=some ⟨b,off,none⟩∧b<n∧∀j u,(l.flatMap enc)[j]? = some u→W.cell? ((⟨b,off,none⟩:Addr).add j)=some u:=by
 obtain ⟨b,off,e,hb,hc⟩:=h.row h0;refine ⟨b,off,e,hb,fun j u hj=>?_⟩;obtain ⟨i,r,hi,rfl,hu⟩:=vD hk l j u hj;rw [Addr.add_lit,show off+(i*k+r)=off+i*k+r by omega];exact hc i hi r u hu
theorem aI.mask {q:Nat} (h:aI B W t k enc v l) (hq:q<B):aI B (mask q W) t k enc v l:=by
 obtain ⟨hlen,ho⟩:=h;refine ⟨hlen,?_⟩;rcases ho with h0 | ⟨g,cap,cur,rfl,h1,h2,h3⟩
 ·exact .inl h0
 ·exact .inr ⟨g,cap,cur,rfl,h1,(bP (by omega)).trans h2,h3⟩
end
theorem Ib:∀x:aG,∀u∈x.cells,u.oneCell'=true:=by
 intro x u hu;simp [aG.cells] at hu;rcases hu with rfl | rfl | rfl <;> rfl
theorem qo:∀x:aa,∀u∈x.cells,u.oneCell'=true:=by
 intro x u hu;simp [aa.cells,Sp.val] at hu;rcases hu with rfl | rfl | rfl | rfl | rfl | rfl <;> rfl
theorem Bq:∀x:ae,∀u∈x.cells,u.oneCell'=true:=by
 intro x u hu;simp [ae.cells,Sp.val] at hu;rcases hu with rfl | rfl | rfl | rfl | rfl | rfl <;> rfl
theorem Ih:∀x:aK,∀u∈x.cells,u.oneCell'=true:=by
 intro x u hu;simp [aK.cells,Sp.val] at hu;rcases hu with rfl | rfl | rfl <;> rfl
theorem Ie:∀x:bn,∀u∈x.cells,u.oneCell'=true:=by
 intro x u hu;simp only [bn.cells,List.mem_cons] at hu;rcases hu with rfl | hu
 ·rfl
 ·exact Bq _ u hu
theorem kJ {α:Type} {enc:α→List Value} (h:∀x:α,∀u∈enc x,u.oneCell'=true) (l:List α):∀u∈l.flatMap enc,u.oneCell'=true:=by
 intro u hu;obtain ⟨x,_,hx⟩:=List.mem_flatMap.1 hu;exact h x u hx
end
section
open Go Go.RowKit
structure ax (T:TypeId→Bool) (B:Nat) (W W':World):Prop where
 size:W.heap.size≤W'.heap.size
 same:∀(k:Nat) (o:Obj),B≤k→W.heap[k]? = some o→o.isCells=false→W'.heap[k]? = some o
 cells:∀(k:Nat) (cs:Array Value) (t:TypeId) (fr:Nat × Nat),W.heap[k]? = some (.cells cs t fr)→T t=true→W'.heap[k]? = some (.cells cs t fr)
section
variable {T:TypeId→Bool} {B C:Nat} {X Y Z:World}
theorem ax.refl (T:TypeId→Bool) (B:Nat) (W:World):ax T B W W:=⟨Nat.le_refl _,fun _ _ _ h _=>h,fun _ _ _ _ h _=>h⟩
theorem ax.trans (h:ax T B X Y) (k:ax T B Y Z):ax T B X Z :=
 ⟨Nat.le_trans h.size k.size,fun i o hB hi ho=>k.same i o hB (h.same i o hB hi ho) ho,fun i cs t fr hi ht=>k.cells i cs t fr (h.cells i cs t fr hi ht) ht⟩
theorem ax.up (h:ax T B X Y) (hBC:B≤C):ax T C X Y:=⟨h.size,fun k o hk=>h.same k o (by omega),h.cells⟩
theorem ax.put {l:Nat} {W:World} {o1:Obj} (o:Obj) (h:l<B) (hl:W.heap[l]? = some o1) (hc:o1.isCells=false):ax T B W (W.putObj l o) :=
 ⟨by simp,fun k o' hk h1 _=>(World.putObj_heap_other (by omega)).trans h1,fun k cs t fr h1 _=>(World.putObj_heap_other (fun e=>by
  subst e;rw [hl] at h1;cases h1
  cases hc)).trans h1⟩
theorem ax.of_below (h:Below X.heap.size X Y):ax T B X Y :=
 ⟨h.size,fun k _ _ hk _=>(h.block k (zgs hk).1).trans hk,fun k _ _ _ hk _=>(h.block k (zgs hk).1).trans hk⟩
theorem ax.alloc (W:World) (o:Obj):ax T B W (W.alloc o):=.of_below ((Below.refl _ W).alloc (Nat.le_refl _) o)
theorem ax.set {a:Addr} {cs:Array Value} {t:TypeId} {fr:Nat × Nat} {W:World} (hb:W.heap[a.block]? = some (.cells cs t fr)) (ht:T t=false) (v:Value):ax T B W (W.setCell a v) :=
 ⟨by simp,fun k o _ hk ho=>(Below.heap_setCell _ _ _ k (fun e=>by subst e;rw [hb] at hk;cases hk;cases ho)).trans hk,
  fun k cs' t' fr' hk h2=>(Below.heap_setCell _ _ _ k (fun e=>by subst e;rw [hb] at hk;cases hk;rw [ht] at h2;cases h2)).trans hk⟩
end
def Jq {α:Type} (F:Fence) (n:Nat) (P:Program) (g:Nat) (lb:Array Value) (encs:α→Array Value) (T:TypeId→Bool) (n₀:Nat) (S Sp:List α→Prop) (N:Nat) (w:World):Prop :=
 ∀(l:Nat) (J Jx:List α→World→Prop) (W:World),Below w.heap.size w W→OwnFrom W.heap.size J→OwnFrom W.heap.size Jx →
  (∀pre x W1,J pre W1→pre.length<N→Sp (pre++[x])→YieldAt F (n - 1) P l (encs x) W1 fun e W' =>
   (e=.returned (.bool true)∧J (pre++[x]) W'∧ax T W.heap.size W1 W'∧Below n₀ W1 W')∨(e=.returned (.bool false)∧Jx (pre++[x]) W'∧ax T W.heap.size W1 W')) →
  J [] W →
  CallsIn F n P g (#[.func (.yield l) #[] #[]]++lb) W fun e W'=>(∃v,e=.returned v)∧((∃xs,S xs∧J xs W')∨(∃pre,Sp pre∧Jx pre W'))
def JH {α:Type} (T:TypeId→Bool) (B n₀:Nat) (I:List α→World→Prop) (Ix:Code→List α→World→Prop) (xs:List α) (W:World):Exit→Act→World→Prop
 | .normal,_,W'=>ax T B W W'∧Below n₀ W W'∧I xs W'
 | .ret,_,W'=>ax T B W W'∧Ix .ret xs W'
 | .exit id,_,W'=>ax T B W W'∧Ix (.exit id) xs W'
 | .goto t,_,W'=>ax T B W W'∧Ix (.goto t) xs W'
 | _,_,_=>False
theorem bD {n₀ l:Nat} (W:World) (o:Obj) (h:n₀≤l):Below n₀ W (W.putObj l o) :=
 ⟨rfl,rfl,rfl,by simp,fun k hk=>World.putObj_heap_other (by omega)⟩
variable {F:Fence} {n:Nat} {P:Program} {w:World}
theorem bi {α:Type} {g:Operand} {ps:Array Tmp} {assign body:Code} {Q:Exit→Act→World→Prop} {a:Act} {w:World}
  (hro:F.round=none) (h1:F.depth.isSome=true→1≤n) {gf:Nat} {lb:Array Value} (hg:a.eval g=.func (.func gf) #[] lb) (hFg:F.fn gf) (eg:∀args w,(callFunc gf args).run P w=.ok (.enter gf args) w)
  {encs:α→Array Value} {T:TypeId→Bool} {n₀:Nat} {S Sp:List α→Prop} {N:Nat} {w0:World} (hseq:Jq F (n - 1) P gf lb encs T n₀ S Sp N w0) (hn₀:n₀≤w.heap.size) (hb0:Below w0.heap.size w0 w) (hps:∀x,(encs x).size=ps.size)
  (I:List α→World→Prop) (Ix:Code→List α→World→Prop) (hI:OwnFrom w.heap.size I) (hIx:∀c,OwnFrom w.heap.size (Ix c)) (h0:I [] w) (Ax:α→Act→World→Prop) (hAx:∀x a',OwnFrom w.heap.size (fun (_:Unit) W=>Ax x a' W))
  (hassign:∀(l:Nat) (pre:List α) (x:α) (W:World) (K:Act→World→Prop),I pre W→(∀a' W',ax T w.heap.size W W'→Below n₀ W W'→I pre W'→Ax x a' W'→K a' W') →
   assign.wpIn (F.inRound l) (n - 1 - 1) P (Exit.then K (fun _ _ _=>False)) { tmps:=(ps.zip (encs x)).foldl (fun t (p,v)=>t.setIfInBounds p v) a.tmps,defers:=[] } W)
  (hbody:∀(l:Nat) (pre:List α) (x:α) (a':Act) (W:World),w.heap.size≤l→I pre W→Ax x a' W→pre.length<N→Sp (pre++[x])→body.wpIn (F.inRound l) (n - 1 - 1) P (JH T w.heap.size n₀ I Ix (pre++[x]) W) a' W)
  (hdone:∀(D:Nat) (xs:List α) (W:World),w.heap.size≤D→S xs→I xs W→W.heap[D]? = some (.deferred (some []))→Q .normal { a with defers:={ target:=.collected D,args:=#[] }::a.defers } W)
  (hstop:∀(D:Nat) (c:Code) (pre:List α) (W:World),w.heap.size≤D→Sp pre→Ix c pre W→W.heap[D]? = some (.deferred (some []))→c.wpIn F n P Q { a with defers:={ target:=.collected D,args:=#[] }::a.defers } W) :
  (Code.rangeFunc g ps assign body).wpIn F n P Q a w:=by
 refine wpIn_rangeFunc ?_;intro fn hfn;rw [hro];obtain ⟨rec,hrec⟩:∃rec:LoopState→Option Code→Loop,rec=fun st pe=>{ state:=st,pending:=pe,fn,tmps:=a.tmps,params:=ps,assign,body,defers:=w.heap.size }:=⟨_,rfl⟩
 obtain ⟨W1,hW1⟩:∃W1,(w.alloc (.deferred (some []))).alloc (.loop (rec .ready none))=W1:=⟨_,rfl⟩;have hL1:W1.heap[w.heap.size+1]? = some (.loop (rec .ready none)):=by
  rw [←hW1];have:=zan (w.alloc (.deferred (some []))) (.loop (rec .ready none));rwa [World.size_alloc] at this
 have hK1:W1.heap[w.heap.size]? = some (.deferred (some [])):=by
  rw [←hW1];exact (Below.heap_alloc _ _ _ (by simp)).trans (zan w _)
 have hI1:I [] W1:=by rw [←hW1];exact hI.alloc _ (hI.alloc _ h0)
 have hsz1:W1.heap.size=w.heap.size+2:=by rw [←hW1];simp
 have hbw:Below w.heap.size w W1:=by rw [←hW1];exact ((Below.refl _ w).alloc (Nat.le_refl _) _).alloc (by simp) _
 have hb1:Below w0.heap.size w0 W1:=hb0.trans (hbw.mono hb0.size);refine ⟨w.heap.size+1,[{ target:=.collected w.heap.size,args:=#[] }],W1,{ target:=.fn (.func gf) lb,args:=#[.func (.yield (w.heap.size+1)) #[] #[]] },W1,gf,
  #[.func (.yield (w.heap.size+1)) #[] #[]]++lb,W1,?_,?_,?_,?_,h1,?_⟩
 ·rw [←hW1,hrec];exact run_enterLoop_outer _ _ _ _ _
 ·simp only [resolve,hg]
  simp [go_sem]
 ·intro f' hf';simp [Target.leads] at hf';subst hf';exact hFg
 ·simp [invoke,go_sem,eg]
 ·have hrow:∀{A:World} {row:Option Nat},(∀r,row=some r→W1.heap.size≤r∧∃o:Obj,A.heap[r]? = some o∧o.isCells=false)→(∀r,row=some r→w.heap.size≤r∧∃o:Obj,A.heap[r]? = some o∧o.isCells=false) :=
   fun hr r e=>⟨by have:=(hr r e).1;omega,(hr r e).2⟩
  have hstay:∀{A B:World} {row:Option Nat} {k:Nat} {o:Obj},k<W1.heap.size→A.heap[k]? = some o→A.grownBy B row→(∀r,row=some r→W1.heap.size≤r∧∃o:Obj,A.heap[r]? = some o∧o.isCells=false)→B.heap[k]? = some o :=
   fun {A B row k o} hk h hg' hr=>(hg'.block k (zgs h).1 (fun e=>by have:=(hr k e.symm).1;omega)).trans h
  refine (hseq (w.heap.size+1)
   (fun pre W=>I pre W∧W.heap[w.heap.size+1]? = some (.loop (rec .ready none))∧W.heap[w.heap.size]? = some (.deferred (some [])))
   (fun pre W=>∃c,Ix c pre W∧W.heap[w.heap.size+1]? = some (.loop (rec .done (some c)))∧W.heap[w.heap.size]? = some (.deferred (some [])))
   W1 hb1
   (fun s A B row hs hg' hr=>⟨hI s A B row hs.1 hg' (hrow hr),hstay (by omega) hs.2.1 hg' hr,hstay (by omega) hs.2.2 hg' hr⟩)
   (fun s A B row hs hg' hr=>by
    obtain ⟨c,hc,hl,hk⟩:=hs;exact ⟨c,hIx c s A B row hc hg' (hrow hr),hstay (by omega) hl hg' hr,hstay (by omega) hk hg' hr⟩)
   ?_ ⟨hI1,hL1,hK1⟩).mono ?_
  ·rintro pre x W ⟨hi,hl,hk⟩ hlen hsp
   have hlt:w.heap.size+1<W.heap.size:=(zgs hl).1;have hy:=run_yield (P:=P) (args:=encs x) hl (by rw [hrec];exact hps x);rw [hrec] at hy;refine ⟨fn,_,assign,body,hy,roundIn_of_wpIn hfn (hassign _ pre x W _ hi ?_)⟩;clear hy;intro a' Wa hka hba hia hax
   replace hl:=hka.same _ _ (by omega) hl rfl
   replace hk:=hka.same _ _ (Nat.le_refl _) hk rfl
   replace hlt:w.heap.size+1<Wa.heap.size:=(zgs hl).1
   clear hi;refine ⟨_,run_beginRound hl (by rw [hrec]),?_⟩;have hl2:(Wa.putObj (w.heap.size+1) (.loop { rec .ready none with state:=.busy })).heap[w.heap.size+1]? = some (.loop { rec .ready none with state:=.busy }):=World.putObj_heap_same hlt;have hk2:(Wa.putObj (w.heap.size+1) (.loop { rec .ready none with state:=.busy })).heap[w.heap.size]? = some (.deferred (some [])):=(World.putObj_heap_other (by omega)).trans hk;refine wpIn_mono (hbody _ pre x a' _ (by omega) (hI.putObj _ hia (by omega) hl rfl) ((hAx x a').putObj (s:=()) _ hax (by omega) hl rfl) hlen hsp) ?_;have fin:∀(jump:Option Code) (W3:World),ax T w.heap.size (Wa.putObj (w.heap.size+1) (.loop { rec .ready none with state:=.busy })) W3 →
     ∃W4,(Instr.endRound (w.heap.size+1) jump).run P W3=.ok (.bool jump.isNone) W4∧W4=W3.putObj (w.heap.size+1) (.loop (rec (if jump.isNone then .ready else .done) jump)) ∧
     W3.heap[w.heap.size+1]? = some (.loop { rec .ready none with state:=.busy }) ∧
     W4.heap[w.heap.size+1]? = some (.loop (rec (if jump.isNone then .ready else .done) jump))∧W4.heap[w.heap.size]? = some (.deferred (some []))∧ax T W1.heap.size W W4:=fun jump W3 hk3=>by
    have hl3:=hk3.same _ _ (by omega) hl2 rfl;have hr:=run_endRound (P:=P) jump hl3;rw [hrec] at hr;refine ⟨_,hr,by rw [hrec],by rw [hrec] at hl3;rw [hrec];exact hl3,?_,(World.putObj_heap_other (by omega)).trans (hk3.same _ _ (Nat.le_refl _) hk2 rfl),?_⟩
    ·rw [hrec];exact World.putObj_heap_same (zgs hl3).1
    ·exact ((hka.up (by omega)).trans (ax.put _ (by omega) hl rfl)).trans ((hk3.up (by omega)).trans (ax.put _ (by omega) hl3 rfl))
   rintro e a3 W3 hp;cases e with
   | normal =>
    obtain ⟨hk3,hb3,hi3⟩:=hp;obtain ⟨W4,hr,rfl,hl3,hl4,hk4,hkf⟩:=fin none W3 hk3;exact ⟨_,_,hr,.inl ⟨rfl,⟨hI.putObj _ hi3 (by omega) hl3 rfl,hl4,hk4⟩,hkf,(hba.trans ((bD Wa _ (by omega)).trans hb3)).trans (bD W3 _ (by omega))⟩⟩
   | ret =>
    obtain ⟨hk3,hi3⟩:=hp;obtain ⟨W4,hr,rfl,hl3,hl4,hk4,hkf⟩:=fin (some .ret) W3 hk3;exact ⟨_,_,hr,.inr ⟨rfl,⟨.ret,(hIx _).putObj _ hi3 (by omega) hl3 rfl,hl4,hk4⟩,hkf⟩⟩
   | exit id =>
    obtain ⟨hk3,hi3⟩:=hp;obtain ⟨W4,hr,rfl,hl3,hl4,hk4,hkf⟩:=fin (some (.exit id)) W3 hk3;exact ⟨_,_,hr,.inr ⟨rfl,⟨.exit id,(hIx _).putObj _ hi3 (by omega) hl3 rfl,hl4,hk4⟩,hkf⟩⟩
   | goto t =>
    obtain ⟨hk3,hi3⟩:=hp;obtain ⟨W4,hr,rfl,hl3,hl4,hk4,hkf⟩:=fin (some (.goto t)) W3 hk3;exact ⟨_,_,hr,.inr ⟨rfl,⟨.goto t,(hIx _).putObj _ hi3 (by omega) hl3 rfl,hl4,hk4⟩,hkf⟩⟩
   | panic ch=>exact hp.elim
   | outgrown=>exact hp.elim
  ·rintro e W2 ⟨⟨v,rfl⟩,(⟨xs,hS,hi,hl,hk⟩ | ⟨pre,hSp,c,hi,hl,hk⟩)⟩
   ·exact ⟨none,_,by have:=run_endLoop (P:=P) hl (by rw [hrec];simp);rw [hrec] at this;exact this,
     hdone w.heap.size xs _ (Nat.le_refl _) hS (hI.putObj _ hi (by omega) hl rfl) ((World.putObj_heap_other (by omega)).trans hk)⟩
   ·exact ⟨some c,_,by have:=run_endLoop (P:=P) hl (by rw [hrec];simp);rw [hrec] at this;exact this,
     hstop w.heap.size c pre _ (Nat.le_refl _) hSp ((hIx c).putObj _ hi (by omega) hl rfl) ((World.putObj_heap_other (by omega)).trans hk)⟩
def bz (B:Nat):List Deferred→World→Prop
 | [],_=>True
 | d::ds,W=>∃D,d={ target:=.collected D,args:=#[] }∧B≤D∧W.heap[D]? = some (.deferred (some []))∧(∀d'∈ds,d'.target≠.collected D)∧bz B ds W
theorem bz.keeps {B:Nat} {W W':World} (h:∀D,B≤D→W.heap[D]? = some (.deferred (some []))→W'.heap[D]? = some (.deferred (some []))):∀{ds:List Deferred},bz B ds W→bz B ds W'
 | [],_=>trivial
 | _::_,⟨D,e,hB,hD,hn,hr⟩=>⟨D,e,hB,h D hB hD,hn,bz.keeps h hr⟩
theorem bz.keepsIn {B:Nat} {W W':World}:∀{ds:List Deferred},(∀d∈ds,∀D,d.target=.collected D→B≤D→W.heap[D]? = some (.deferred (some []))→W'.heap[D]? = some (.deferred (some [])))→bz B ds W→bz B ds W'
 | [],_,_=>trivial
 | d::_,h,⟨D,e,hB,hD,hn,hr⟩=>⟨D,e,hB,h d (by simp) D (by rw [e]) hB hD,hn,bz.keepsIn (fun d' hd'=>h d' (by simp [hd'])) hr⟩
theorem bz.lt {B:Nat} {W:World}:∀{ds:List Deferred},bz B ds W→∀d'∈ds,∃D,d'.target=.collected D∧D<W.heap.size
 | _::_,⟨D,e,_,hD,_,hr⟩,d',hd'=>by
  rcases List.mem_cons.1 hd' with rfl | hd'
  ·exact ⟨D,by rw [e],(zgs hD).1⟩
  ·exact bz.lt hr d' hd'
theorem bz.put {B l:Nat} {W:World} (o:Obj):∀{ds:List Deferred},bz B ds W→(∀d'∈ds,d'.target≠.collected l)→bz B ds (W.putObj l o)
 | [],_,_=>trivial
 | _::_,⟨D,e,hB,hD,hn,hr⟩,hl=>⟨D,e,hB,(World.putObj_heap_other (fun e'=>hl { target:=.collected D,args:=#[] } (by simp [e]) (by rw [e']))).trans hD,hn,bz.put o hr (fun d' hd'=>hl d' (by simp [hd']))⟩
theorem fM {F:Fence} {n:Nat} {P:Program} {fn:Func} {tmps:Array Value} {R:Ending→World→Prop} {B:Nat} (K:World→Prop)
  (hK:∀W l o o',K W→B≤l→W.heap[l]? = some o→o.isCells=false→K (W.putObj l o')) (fin:∀W,K W→LeavesInM F n P fn tmps R [] .returning W) :
  ∀(ds:List Deferred) (W:World),bz B ds W→K W→LeavesInM F n P fn tmps R ds .returning W
 | [],W,_,h=>fin W h
 | d::ds,W,⟨D,e,hB,hD,hn,hr⟩,h=>by
  subst e;exact ⟨by simp,.inl ⟨D,W.putObj D (.deferred none),rfl,run_takeDeferred hD,fM K hK fin ds _ (hr.put _ hn) (hK W D _ _ h hB hD rfl)⟩⟩
end
section
open Go Go.RowKit
attribute [local go_sem] Oper.semAt_some
theorem Kj (k:Nat):Fence.wide.room k:=fun d h=>by cases h
theorem wm {m:Nat} (m' l2:Nat) {P:Program} {l:Nat} {f:FuncId} {tmps:Array Value} {assign body:Code} {w:World} {R:Ending→World→Prop} (h:RoundIn Fence.wide m P l f tmps assign body w R) :
  RoundIn (Fence.wide.inRound l2) m' P l f tmps assign body w R:=⟨h.1,fun c cs _=>h.2 c cs (Kj _)⟩
theorem YieldAt.any {m:Nat} (m':Nat) {P:Program} {l:Nat} {args:Array Value} {W:World} {R:Ending→World→Prop} (h:YieldAt Fence.wide m P l args W R):YieldAt Fence.wide m' P l args W R:=by
 obtain ⟨fn,tmps,assign,body,hy,hR⟩:=h;exact ⟨fn,tmps,assign,body,hy,hR.1,fun c cs _=>hR.2 c cs (Kj _)⟩
def TT (t:TypeId):Bool:=t == 30 || t == 33 || t == 43 || t == 194 || t == 58
theorem vT {β:Type} {B C:Nat} {I:β→World→Prop} (h:OwnFrom B I) (hBC:B≤C):OwnFrom C I:=fun s W W' row hs hg hr=>h s W W' row hs hg (fun r e=>⟨by have:=(hr r e).1;omega,(hr r e).2⟩)
theorem xQ (e:ae) (w:World) :
  Calls Tryz.prog 87 #[e.val] w fun o w'=>o=.returned (.func (.func 152) #[] #[.pointer (some ⟨w.heap.size,0,none⟩)])∧w'=w.alloc (.cells e.cells.toArray 30):=by
 simp only [ae.val,ae.cells,Sp.val];go_enter Tryz.func87,Tryz.ntmps87
 go_wp2
 go_ret
 exact ⟨rfl,rfl⟩
theorem ag {W:World} {b:Nat} {t:TypeId} {fr:Nat × Nat} {v0 v1 v2 v3 v4 v5:Value} (h:W.heap[b]? = some (.cells #[v0,v1,v2,v3,v4,v5] t fr)) :
  W.cell? ⟨b,0,none⟩=some v0∧W.cell? ⟨b,1,none⟩=some v1∧W.cell? ⟨b,2,none⟩=some v2∧W.cell? ⟨b,3,none⟩=some v3∧W.cell? ⟨b,4,none⟩=some v4∧W.cell? ⟨b,5,none⟩=some v5:=by
 simp [World.cell?,h]
theorem one_cell {W:World} {b:Nat} {t:TypeId} {fr:Nat × Nat} {v0:Value} (h:W.heap[b]? = some (.cells #[v0] t fr)):W.cell? ⟨b,0,none⟩=some v0:=by
 simp [World.cell?,h]
set_option maxRecDepth 1000000 in
set_option maxHeartbeats 2000000 in
theorem EO {n₀:Nat} {W0:World} {e:ae} (h:iw n₀ W0 e):∀(n:Nat) (w:World) (Bs:Nat),Below n₀ W0 w→n₀≤w.heap.size→w.heap[Bs]? = some (.cells e.cells.toArray 30 (0,0)) →
  Jq Fence.wide n Tryz.prog 152 #[.pointer (some ⟨Bs,0,none⟩)] (fun x:ae=>#[x.val]) TT n₀ (fun ys=>ys=e.pre) (fun pre=>pre <+: e.pre) e.pre.length w:=by
 induction h with
 | mk e k o v wd nm row subs ih =>
  intro n w Bs hb0 hn₀ hBs l J Jx W hW hJ hJx hY h0;have IH:=zhd ih;have SUBS:=zhd subs;clear ih subs;have hpre:=ae.pre_eq e;simp only [ae.cells,Sp.val] at hBs;have HY:Hid (∀pre x W1,J pre W1→pre.length<e.pre.length→pre++[x] <+: e.pre→YieldAt Fence.wide (n - 1) Tryz.prog l #[x.val] W1 fun o W' =>
   (o=.returned (.bool true)∧J (pre++[x]) W'∧ax TT W.heap.size W1 W'∧Below n₀ W1 W')∨(o=.returned (.bool false)∧Jx (pre++[x]) W'∧ax TT W.heap.size W1 W')):=zhd hY
  clear hY;have hBW:W.heap[Bs]? = some (.cells #[.int .u8 e.kind,.int .u8 e.op,.int .u32 e.value,.int .i64 e.width,.string e.name,.slice e.sp.at_ e.subs.length e.sp.cap] 30 (0,0)):=(hW.block Bs (zgs hBs).1).trans hBs;have hbl:=(zgs hBW).1;have hB1:=(Below.heap_alloc W (.cells #[.func (.yield l) #[] #[]] 194) Bs hbl).trans hBW;have hy1:=zan W (.cells #[.func (.yield l) #[] #[]] 194);have hb01:Below n₀ W0 (W.alloc (.cells #[.func (.yield l) #[] #[]] 194)):=(hb0.trans (hW.mono hn₀)).alloc (by have:=hW.size;omega) _;obtain ⟨c0,c1,c2,c3,c4,c5⟩:=ag hB1;have d0:=one_cell hy1;obtain ⟨fn,tmps,assign,body,hy,hR⟩:=HY.out [] e (W.alloc (.cells #[.func (.yield l) #[] #[]] 194)) (hJ.alloc _ h0) (by rw [hpre];simp) (by rw [hpre];exact ⟨_,rfl⟩)
  dsimp only [ae.val,Sp.val] at hy
  have HB1:=zhd hB1;have HY1:=zhd hy1;have HPRE:=zhd hpre;clear hB1 hy1 hBW hBs hpre;refine callsIn_of_wp_marks Tryz.func152 rfl trivial ?_ rfl;simp only [Tryz.ntmps152,List.size_toArray,List.length_cons,List.length_nil,Nat.reduceAdd,Nat.reduceSub,Array.replicate_succ,Array.replicate_zero,List.push_toArray,List.append_toArray,List.nil_append,List.cons_append]
  gi_wp2
  refine ⟨fun h=>by (cases h),?_⟩;refine hR.mono ?_;clear hR hy c0 c1 c2 c3 c4 c5 d0;have hszW:(W.alloc (.cells #[.func (.yield l) #[] #[]] 194)).heap.size=W.heap.size+1:=by simp
  rintro o3 W3 (⟨rfl,hJ3,hk3,hb3⟩ | ⟨rfl,hJ3,hk3⟩)
  ·have hB3:=hk3.cells _ _ _ _ HB1.out rfl
   have hy3:=hk3.cells _ _ _ _ HY1.out rfl;obtain ⟨c0,c1,c2,c3,c4,c5⟩:=ag hB3;have HY3:=zhd hy3;have hb03:=hb01.trans hb3;have HJ3:=zhd hJ3;have hsz3:=hk3.size;clear hB3 hy3 hk3 hb3 hJ3 HB1 HY1 hb01
   gi_wp2
   refine wpIn_loop (fun a wr=>∃(j:Nat) (u4 u5 u14 u15 u16 u17 u18 u20 u21 u22 u23 u24:Value) (ds:List Deferred),a={ tmps:=#[.func (.yield l) #[] #[],.pointer (some ⟨Bs,0,none⟩),.pointer (some ⟨W.heap.size,0,none⟩),undef,u4,u5,.func (.yield l) #[] #[],.agg #[.int .u8 e.kind,.int .u8 e.op,.int .u32 e.value,.int .i64 e.width,.string e.name,.slice e.sp.at_ e.subs.length e.sp.cap],.bool true,.bool false,.pointer (some ⟨Bs,5,none⟩),.slice e.sp.at_ e.subs.length e.sp.cap,.int .i64 e.subs.length,.int .i64 j,u14,u15,u16,u17,u18,undef,u20,u21,u22,u23,u24],defers:=ds } ∧
    j≤e.subs.length∧J (e::(e.subs.take j).flatMap ae.pre) wr∧Below n₀ W0 wr∧W.heap.size<wr.heap.size∧wr.heap[W.heap.size]? = some (.cells #[.func (.yield l) #[] #[]] 194 (0,0))∧bz W.heap.size ds wr)
    (fun a _=>e.subs.length - (intOf (a.tmps.getD 13 undef)).toNat) ?atStart ?round
   case atStart=>exact ⟨0,_,_,_,_,_,_,_,_,_,_,_,_,[],rfl,Nat.zero_le _,by simpa using HJ3.out,hb03,by omega,HY3.out,trivial⟩
   case round =>
    rintro a wr ⟨j,u4,u5,u14,u15,u16,u17,u18,u20,u21,u22,u23,u24,ds,rfl,hj,hJj,hbj,hszj,hyj,hmj⟩;have HJJ:=zhd hJj;have HYJ:=zhd hyj;have HMJ:=zhd hmj;clear hJj hyj hmj HJ3 HY3 c0 c1 c2 c3 c4 c5;by_cases hlt:j<e.subs.length
    ·obtain ⟨b,off,eA,hbn,hcell⟩:=(row.below hbj).row (by omega)
     have hxs:e.subs.take (j+1)=e.subs.take j++[e.subs[j]]:=List.take_succ_eq_append_getElem hlt;have hmem:e.subs[j]∈e.subs:=List.getElem_mem hlt;have k0:wr.cell? ⟨b,off+j*6,none⟩=some (.int .u8 e.subs[j].kind):=hcell j hlt 0 _ rfl;have k1:wr.cell? ⟨b,off+j*6+1,none⟩=some (.int .u8 e.subs[j].op):=hcell j hlt 1 _ rfl;have k2:wr.cell? ⟨b,off+j*6+2,none⟩=some (.int .u32 e.subs[j].value):=hcell j hlt 2 _ rfl;have k3:wr.cell? ⟨b,off+j*6+3,none⟩=some (.int .i64 e.subs[j].width):=hcell j hlt 3 _ rfl;have k4:wr.cell? ⟨b,off+j*6+4,none⟩=some (.string e.subs[j].name):=hcell j hlt 4 _ rfl;have k5:wr.cell? ⟨b,off+j*6+5,none⟩=some (.slice e.subs[j].sp.at_ e.subs[j].subs.length e.subs[j].sp.cap):=hcell j hlt 5 _ rfl;have HXS:=zhd hxs;have HIX:=zhd (IH.out _ hmem);generalize e.subs[j]=x at *;have hE:=xQ x;simp only [ae.val,Sp.val,ae.cells] at hE;have hj0:(0:Int)≤(j:Int):=by omega
     have hjm:(j:Int)+1≤9223372036854775807:=by
      have h1:=row.cap;have h2:=row.big;simp only [maxLen] at h2;omega
     have hj1:(j:Int)<(e.subs.length:Int):=by omega
     have HE:=zhd hE;have EA:=zhd eA;clear hcell hxs hmem hE;rw [eA];clear eA
     gi_wp2_with (refine ⟨trivial,fun h=>(by cases h),?_⟩;gi_at_call 87;refine (callsIn_wide.2 (HE.out _)).mono ?_;rintro o4 w4 ⟨rfl,rfl⟩)
     have hbw5:Below wr.heap.size wr ((wr.alloc (.cells #[.int .u8 x.kind,.int .u8 x.op,.int .u32 x.value,.int .i64 x.width,.string x.name,.slice x.sp.at_ x.subs.length x.sp.cap] 30)).alloc (.cells #[.int .u8 x.kind,.int .u8 x.op,.int .u32 x.value,.int .i64 x.width,.string x.name,.slice x.sp.at_ x.subs.length x.sp.cap] 30)):=((Below.refl _ wr).alloc (Nat.le_refl _) _).alloc (by simp) _;have hB5:=zan (wr.alloc (.cells #[.int .u8 x.kind,.int .u8 x.op,.int .u32 x.value,.int .i64 x.width,.string x.name,.slice x.sp.at_ x.subs.length x.sp.cap] 30)) (.cells #[.int .u8 x.kind,.int .u8 x.op,.int .u32 x.value,.int .i64 x.width,.string x.name,.slice x.sp.at_ x.subs.length x.sp.cap] 30);rw [World.size_alloc] at hB5;have hJ5:J (e::(e.subs.take j).flatMap ae.pre) ((wr.alloc (.cells #[.int .u8 x.kind,.int .u8 x.op,.int .u32 x.value,.int .i64 x.width,.string x.name,.slice x.sp.at_ x.subs.length x.sp.cap] 30)).alloc (.cells #[.int .u8 x.kind,.int .u8 x.op,.int .u32 x.value,.int .i64 x.width,.string x.name,.slice x.sp.at_ x.subs.length x.sp.cap] 30)):=hJ.alloc _ (hJ.alloc _ HJJ.out);generalize (wr.alloc (.cells #[.int .u8 x.kind,.int .u8 x.op,.int .u32 x.value,.int .i64 x.width,.string x.name,.slice x.sp.at_ x.subs.length x.sp.cap] 30)).alloc (.cells #[.int .u8 x.kind,.int .u8 x.op,.int .u32 x.value,.int .i64 x.width,.string x.name,.slice x.sp.at_ x.subs.length x.sp.cap] 30)=w5 at *;have hs5:=hbw5.size;have hs0:=hW.size;have hb5:Below n₀ W0 w5:=hbj.trans (hbw5.mono (by omega));have hY5:=(hbw5.block W.heap.size hszj).trans HYJ.out;have hM5:bz W.heap.size ds w5:=HMJ.out.keeps (fun D _ hD=>(hbw5.block D (zgs hD).1).trans hD);have HLT:Hid (∀d∈ds,∀D,d.target=.collected D→D<w5.heap.size):=zhd fun d hd D hD=>by
      obtain ⟨D',e',hlt'⟩:=hM5.lt d hd;rw [hD] at e';cases e'
      exact hlt'
     clear k0 k1 k2 k3 k4 k5 HE;have hxl:x.pre.length+(e::(e.subs.take j).flatMap ae.pre).length≤e.pre.length:=by
      rw [HPRE.out];have h1:e.subs.take (j+1) <+: e.subs:=List.take_prefix _ _;obtain ⟨r,hr⟩:=h1;have h2:(e.subs.flatMap ae.pre).length=((e.subs.take (j+1)).flatMap ae.pre).length+(r.flatMap ae.pre).length:=by
       rw [←List.length_append,←List.flatMap_append,hr]
      rw [HXS.out,List.flatMap_append,List.length_append] at h2;simp only [List.flatMap_cons,List.flatMap_nil,List.append_nil] at h2;simp only [List.length_cons];omega
     have hpfx:∀pre,pre <+: x.pre→(e::(e.subs.take j).flatMap ae.pre)++pre <+: e.pre:=by
      intro pre hpre;rw [HPRE.out];obtain ⟨r1,hr1⟩:=hpre;obtain ⟨r,hr⟩:e.subs.take (j+1) <+: e.subs:=List.take_prefix _ _;refine ⟨r1++r.flatMap ae.pre,?_⟩
      conv=>rhs;rw [←hr,HXS.out]
      simp only [List.flatMap_append,List.flatMap_cons,List.flatMap_nil,List.cons_append,List.append_assoc];rw [←hr1];simp [List.append_assoc]
     refine bi (T:=TT) rfl (fun h=>by cases h) (gf:=152) (lb:=#[.pointer (some ⟨wr.heap.size+1,0,none⟩)]) rfl trivial (enters_of Tryz.func152 (by kernel_rfl) rfl)
      (HIX.out (n - 1) w5 (wr.heap.size+1) hb5 (by omega) hB5) (by omega) (Below.refl _ _) (fun _=>rfl)
      (fun pre W'=>(J ((e::(e.subs.take j).flatMap ae.pre)++pre) W'∧W'.heap[W.heap.size]? = some (.cells #[.func (.yield l) #[] #[]] 194 (0,0))∧bz W.heap.size ds W')∧Below n₀ W0 W'∧w5.heap.size≤W'.heap.size)
      (fun c pre W'=>c=.ret∧Jx ((e::(e.subs.take j).flatMap ae.pre)++pre) W'∧bz W.heap.size ds W')
      ?hI ?hIx ⟨⟨by simpa using hJ5,hY5,hM5⟩,hb5,Nat.le_refl _⟩
      (fun y a' W'=>∃by5,W'.heap[by5]? = some (.cells y.cells.toArray 30 (0,0))∧a'={ tmps:=#[.func (.yield l) #[] #[],.pointer (some ⟨Bs,0,none⟩),.pointer (some ⟨W.heap.size,0,none⟩),undef,.pointer (some ⟨wr.heap.size,0,none⟩),.pointer (some ⟨by5,0,none⟩),.func (.yield l) #[] #[],.agg #[.int .u8 e.kind,.int .u8 e.op,.int .u32 e.value,.int .i64 e.width,.string e.name,.slice (some ⟨b,off,none⟩) e.subs.length e.sp.cap],.bool true,.bool false,.pointer (some ⟨Bs,5,none⟩),.slice (some ⟨b,off,none⟩) e.subs.length e.sp.cap,.int .i64 e.subs.length,.int .i64 j,.bool true,.pointer (some ⟨b,off+j*6,none⟩),.agg #[.int .u8 x.kind,.int .u8 x.op,.int .u32 x.value,.int .i64 x.width,.string x.name,.slice x.sp.at_ x.subs.length x.sp.cap],.agg #[.int .u8 x.kind,.int .u8 x.op,.int .u32 x.value,.int .i64 x.width,.string x.name,.slice x.sp.at_ x.subs.length x.sp.cap],.func (.func 152) #[] #[.pointer (some ⟨wr.heap.size+1,0,none⟩)],y.val,u20,u21,u22,u23,u24],defers:=[] })
      ?hAx ?assign ?body ?done ?stop
     case hI =>
      rintro s X Y rw ⟨⟨h1,h2,h3⟩,h4,h5⟩ hg hr;refine ⟨⟨vT hJ (by omega) _ X Y rw h1 hg hr,(hg.block W.heap.size (by omega) (fun e'=>by have:=(hr _ e'.symm).1;omega)).trans h2,h3.keepsIn (fun d hd D hD _ hX=>(hg.block D (zgs hX).1 (fun e'=>?_)).trans hX)⟩,h4.grown hg (by omega) (fun q hq=>by have:=(hr q hq).1;omega),Nat.le_trans h5 hg.size⟩;have h6:=(hr _ e'.symm).1;have h7:=HLT.out d hd D hD;omega
     case hIx =>
      rintro c s X Y rw ⟨hc,h1,h3⟩ hg hr;refine ⟨hc,vT hJx (by omega) _ X Y rw h1 hg hr,h3.keepsIn (fun d hd D hD _ hX=>(hg.block D (zgs hX).1 (fun e'=>?_)).trans hX)⟩;have h6:=(hr _ e'.symm).1;have h7:=HLT.out d hd D hD;omega
     case hAx =>
      rintro y a' _ X Y rw ⟨by5,h1,h2⟩ hg hr;refine ⟨by5,(hg.block by5 (zgs h1).1 (fun e'=>?_)).trans h1,h2⟩;obtain ⟨_,o',ho,hc⟩:=hr by5 e'.symm;rw [h1] at ho;cases ho
      cases hc
     case assign =>
      rintro l2 pre y Wc K ⟨⟨h1,h2,h3⟩,h4,h5⟩ hK;have H1:=zhd h1;have H2:=zhd h2;have H3:=zhd h3;clear h1 h2 h3;simp only [ae.val,Sp.val] at hK ⊢
      gi_wp2
      have hba:=zba Wc (.cells #[.int .u8 y.kind,.int .u8 y.op,.int .u32 y.value,.int .i64 y.width,.string y.name,.slice y.sp.at_ y.subs.length y.sp.cap] 30);exact hK _ _ (ax.of_below hba) (hba.mono (by omega)) ⟨⟨hJ.alloc _ H1.out,(hba.block W.heap.size (by omega)).trans H2.out,H3.out.keeps (fun D _ hD=>(hba.block D (zgs hD).1).trans hD)⟩,h4.trans (hba.mono (by omega)),by have:=hba.size;omega⟩ ⟨_,zan _ _,rfl⟩
     case body =>
      rintro l2 pre y a' Wc hl2 ⟨⟨h1,h2,h3⟩,h4,h5⟩ ⟨by5,hby,rfl⟩ hlen hsp;simp only [ae.cells,Sp.val] at hby
      have d0:=one_cell h2;obtain ⟨q0,q1,q2,q3,q4,q5⟩:=ag hby
      obtain ⟨fn2,tmps2,assign2,body2,hy,hR⟩:=HY.out _ y Wc h1 (by rw [List.length_append];omega) (by rw [List.append_assoc];exact hpfx _ hsp)
      dsimp only [ae.val,Sp.val] at hy
      have H1:=zhd h1;have H2:=zhd h2;have H3:=zhd h3;clear h1 h2 h3 hby
      simp only [ae.val,Sp.val]
      gi_wp2
      refine ⟨fun h=>by (cases h),(wm _ _ hR).mono ?_⟩;clear hR hy;rintro o6 W6 (⟨rfl,hJ6,hk6,hb6⟩ | ⟨rfl,hJ6,hk6⟩)
      ·have HJ6:=zhd hJ6
       clear hJ6
       gi_wp2
       exact ⟨hk6.up (by omega),hb6,⟨by rw [←List.append_assoc];exact HJ6.out,hk6.cells _ _ _ _ H2.out rfl,H3.out.keeps (fun D hB hD=>hk6.same D _ hB hD rfl)⟩,h4.trans hb6,Nat.le_trans h5 hk6.size⟩
      ·have HJ6:=zhd hJ6
       clear hJ6
       gi_wp2
       exact ⟨hk6.up (by omega),rfl,by rw [←List.append_assoc];exact HJ6.out,H3.out.keeps (fun D hB hD=>hk6.same D _ hB hD rfl)⟩
     case done =>
      rintro Dq ys Wd hD rfl ⟨⟨h1,h2,h3⟩,h4,h5⟩ hK;have H1:=zhd h1;have H2:=zhd h2;have H3:=zhd h3;have HKq:=zhd hK;clear h1 h2 h3 hK
      gi_wp2
      refine ⟨⟨j+1,_,_,_,_,_,_,_,_,_,_,_,_,{ target:=.collected Dq,args:=#[] }::ds,rfl,by omega,?_,h4,by omega,H2.out,Dq,rfl,by omega,HKq.out,fun d' hd' e'=>by have:=HLT.out d' hd' Dq e';omega,H3.out⟩,by simp [intOf];omega⟩;rw [HXS.out,List.flatMap_append]
      simpa using H1.out
     case stop =>
      rintro Dq c pre Wd hD hp ⟨rfl,h1,h3⟩ hK;have H1:=zhd h1;have H3:=zhd h3;have HKq:=zhd hK;clear h1 h3 hK
      gi_wp2
      refine fM (B:=W.heap.size) (fun W'=>Jx ((e::(e.subs.take j).flatMap ae.pre)++pre) W') (fun W' l' o' o'' h hB hl hc=>hJx.putObj o'' h hB hl hc) (fun W' h=>⟨_,results_none rfl _ _ _,⟨_,rfl⟩,.inr ⟨_,hpfx pre hp,h⟩⟩) _ Wd ⟨Dq,rfl,by omega,HKq.out,fun d' hd' e'=>by have:=HLT.out d' hd' Dq e';omega,H3.out⟩ H1.out
    ·obtain rfl:j=e.subs.length:=by omega
     gi_wp2
     refine fM (B:=W.heap.size) (fun W'=>J e.pre W') (fun W' l' o' o'' h hB hl hc=>hJ.putObj o'' h hB hl hc) (fun W' h=>⟨_,results_none rfl _ _ _,⟨_,rfl⟩,.inl ⟨_,rfl,h⟩⟩) ds wr HMJ.out ?_;have:=HJJ.out;rw [List.take_length,←HPRE.out] at this;exact this
  ·gi_wp2
   exact ⟨_,results_none rfl _ _ _,⟨_,rfl⟩,.inr ⟨[e],by rw [HPRE.out];exact ⟨_,rfl⟩,hJ3⟩⟩
end
end Go.Proofs.YtepacjkacjabbaaGreatDoor
