import Derived.Test.YtepacjkacjabbaaGreatDoorPAL
import Derived.Test.YtepacjkacjabbaaGreatDoorPAE
import Derived.Test.YtepacjkacjabbaaGreatDoorPAA
import Derived.Test.YtepacjkacjabbaaGreatDoorPAJ
import Derived.Test.YtepacjkacjabbaaGreatDoorPAG
import Derived.Laws.Rows
import Derived.Laws.Tables
import Derived.IntWalk
namespace Go.Proofs.YtepacjkacjabbaaGreatDoor
section
open Go
theorem lc {n:Nat} {b:Int} (hn:0<n) (h:dF n b≤20000):dF n b=b+n:=by
 unfold dF at h ⊢
 split <;> omega
theorem mZ {n:Nat} {b:Int} (h:b+n≤20000):dF n b=b+n:=by
 unfold dF;rw [if_pos h]
def aF (l:List ae):Nat:=(l.map fun e=>e.pre.length).sum
def gJ (l:List aa):Nat:=(l.map fun s=>1+aF s.exprs).sum
theorem sK:∀(l:List ae) (b:Int),0≤b→b≤20000→l.foldl (fun b e=>dF e.pre.length b) b≤20000→l.foldl (fun b e=>dF e.pre.length b) b=b+aF l
 | [],b,_,_,_=>by simp [aF]
 | e::l,b,h0,hb,h=>by
  rw [List.foldl_cons] at h ⊢;have h1:=kZ e.pre.length (gu e) b h0;have h2:=uw l (dF e.pre.length b) (by omega);have h3:=lc (gu e) (b:=b) (by omega);have ih:=sK l (dF e.pre.length b) (by omega) (by omega) h;rw [ih,h3];simp [aF];omega
theorem AY:∀(l:List ae) (b:Int),b+aF l≤20000→l.foldl (fun b e=>dF e.pre.length b) b=b+aF l
 | [],b,_=>by simp [aF]
 | e::l,b,h=>by
  have e1:aF (e::l)=e.pre.length+aF l:=by simp [aF]
  rw [e1] at h ⊢;rw [List.foldl_cons,mZ (by omega),AY l _ (by omega)];omega
theorem BL {s:aa} {b:Int} (h0:0≤b) (h:stepT s b≤20000):stepT s b=b+(1+aF s.exprs:Nat):=by
 unfold stepT at h ⊢;have:=uw s.exprs (b+1) (by omega);rw [sK s.exprs (b+1) (by omega) (by omega) h];omega
theorem IX {s:aa} {b:Int} (h:b+(1+aF s.exprs:Nat)≤20000):stepT s b=b+(1+aF s.exprs:Nat):=by
 unfold stepT;rw [AY _ _ (by omega)];omega
theorem jN:∀(l:List aa) (b:Int),0≤b→bS l b≤20000→bS l b=b+gJ l
 | [],b,_,_=>by simp [bS,gJ]
 | s::l,b,h0,h=>by
  have e1:gJ (s::l)=1+aF s.exprs+gJ l:=by simp [gJ]
  have h1:=rR s b h0;rw [bS] at h ⊢;by_cases hs:stepT s b>20000
  ·rw [if_pos hs] at h;omega
  ·rw [if_neg hs] at h ⊢
   have h3:=BL (s:=s) (b:=b) h0 (by omega);rw [jN l _ (by omega) h,e1];omega
theorem jE:∀(l:List aa) (b:Int),b+gJ l≤20000→bS l b=b+gJ l
 | [],b,_=>by simp [bS,gJ]
 | s::l,b,h=>by
  have e1:gJ (s::l)=1+aF s.exprs+gJ l:=by simp [gJ]
  rw [e1] at h ⊢;have h3:=IX (s:=s) (b:=b) (by omega);have h4:¬stepT s b>20000:=by omega
  rw [bS,if_neg h4,jE l _ (by omega)];omega
def ay (l:List aa):Nat:=gJ (l.flatMap aa.pre)
def ic (q:aK):Nat:=1+q.params.length+ay q.body
def aR (p:af):Nat :=
 (p.inputs.length+p.ghosts.length+p.vars.length+p.arrays.length+1)+p.require.pre.length+(p.inits.map fun i=>1+i.value.pre.length).sum+(p.procs.map ic).sum+ay p.work+ay p.recover+p.invariant.pre.length
theorem qb:∀(l:List bn) (b:Int),0≤b→dJ l b≤20000→dJ l b=b+((l.map fun i=>1+i.value.pre.length).sum:Nat)
 | [],b,_,_=>by simp [dJ]
 | i::l,b,h0,h=>by
  have e:dJ (i::l) b=dJ l (dF i.value.pre.length (b+1)):=rfl;rw [e] at h ⊢;have h1:=kZ i.value.pre.length (gu i.value) (b+1) (by omega);have h2:=rq l (dF i.value.pre.length (b+1)) (by omega);have h3:=lc (gu i.value) (b:=b+1) (by omega);rw [qb l _ (by omega) h,h3];simp;omega
theorem qC:∀(l:List aK) (b:Int),0≤b→dN l b≤20000→dN l b=b+((l.map ic).sum:Nat)
 | [],b,_,_=>by simp [dN]
 | q::l,b,h0,h=>by
  have e:dN (q::l) b=dN l (bS (q.body.flatMap aa.pre) (b+1+q.params.length)):=rfl;rw [e] at h ⊢;have h1:=lg (q.body.flatMap aa.pre) (b+1+q.params.length) (by omega);have h2:=rD l (bS (q.body.flatMap aa.pre) (b+1+q.params.length)) (by omega);have h3:=jN (q.body.flatMap aa.pre) (b+1+q.params.length) (by omega) (by omega);rw [qC l _ (by omega) h,h3];simp only [List.map_cons,List.sum_cons,ic,ay];omega
theorem yZ {p:af} (h:countP p≤20000):countP p=aR p:=by
 unfold countP at h ⊢;have d0:(0:Int)≤gZ p:=by unfold gZ;omega
 have a1:=kZ p.require.pre.length (gu _) (gZ p) d0;generalize hA:dF p.require.pre.length (gZ p)=A at *;have a2:=rq p.inits A (by omega);generalize hB:dJ p.inits A=B at *;have a3:=rD p.procs B (by omega);generalize hC:dN p.procs B=C at *;have a4:=lg (p.work.flatMap aa.pre) C (by omega);generalize hD:bS (p.work.flatMap aa.pre) C=D at *;have a5:=lg (p.recover.flatMap aa.pre) D (by omega);generalize hE:bS (p.recover.flatMap aa.pre) D=E at *;have a6:=kZ p.invariant.pre.length (gu _) E (by omega);have b1:=lc (gu p.require) (b:=gZ p) (by omega);have b2:=qb p.inits A (by omega) (by omega);have b3:=qC p.procs B (by omega) (by omega);have b4:=jN (p.work.flatMap aa.pre) C (by omega) (by omega);have b5:=jN (p.recover.flatMap aa.pre) D (by omega) (by omega);have b6:=lc (gu p.invariant) (b:=E) h;rw [b6];unfold aR ay;have e:gZ p=(p.inputs.length+p.ghosts.length+p.vars.length+p.arrays.length+1:Nat):=by unfold gZ;omega
 omega
theorem kK (e:ae):e.pre.length=1+aF e.subs:=by
 rw [ae.pre_eq,List.length_cons,List.length_flatMap];unfold aF;omega
theorem jO (s:aa) (l:List aa):ay (s::l)=(1+aF s.exprs)+ay s.thn+ay s.els+ay l:=by
 unfold ay gJ;rw [List.flatMap_cons,aa.pre_eq];simp [List.map_append,List.sum_append];omega
mutual
theorem qZ (p:af) (E:Env) (wh:Int):∀(e:ae) (d:Nat),(fC p E wh e d).length=e.pre.length
 | .mk k op v wd nm sp subs,d=>by
  rw [fC,List.length_cons,oI p E wh subs (d+1),kK];exact Nat.add_comm _ _
theorem oI (p:af) (E:Env) (wh:Int):∀(l:List ae) (d:Nat),(bI p E wh l d).length=aF l
 | [],_=>by rw [bI];rfl
 | e::l,d=>by
  rw [bI,List.length_append,qZ p E wh e d,oI p E wh l d];simp [aF]
end
mutual
theorem F3 (p:af) (E:Env):∀(s:aa) (d:Nat),(kM p E s d).length=1+aF s.exprs+ay s.thn+ay s.els
 | .mk k nm es ex b ts th os el,d=>by
  rw [kM,List.length_cons,List.length_append,List.length_append,oI,jU p E th (d+1),jU p E el (d+1)];show _=1+aF ex+ay th+ay el;omega
theorem jU (p:af) (E:Env):∀(l:List aa) (d:Nat),(aH p E l d).length=ay l
 | [],_=>by rw [aH];rfl
 | s::l,d=>by
  rw [aH,List.length_append,F3 p E s d,jU p E l d,jO]
end
theorem fJ (p:af) (a:Bool):∀(l:List aG) (b:List ByteArray),(bB p a l b).length=l.length
 | [],_=>by rw [bB];rfl
 | d::l,b=>by rw [bB,List.length_cons,fJ p a l _];rfl
theorem lL (p:af):∀(l:List aK) (i:Nat) (b:List ByteArray),(bV p l i b).length=(l.map ic).sum
 | [],_,_=>by rw [bV];rfl
 | q::l,i,b=>by
  rw [bV,List.length_append,lL p l _ _,jS,List.length_cons,List.length_append,fJ,jU];simp [ic];omega
theorem lq (p:af):∀(l:List bn) (b:List Int),(cO p l b).length=(l.map fun i=>1+i.value.pre.length).sum
 | [],_=>by rw [cO];rfl
 | x::l,b=>by
  rw [cO,List.length_append,List.length_cons,lq p l _,qZ];simp;omega
theorem fG (p:af) (n:Int):(bK p n).length=aR p:=by
 unfold bK;simp only [List.length_cons,List.length_append,fJ,qZ,lq,lL,jU];unfold aR;omega
theorem JX {α:Type} (f:α→Nat) (l:List α) (x:α) (h:x∈l):f x≤(l.map f).sum:=by
 induction l with
 | nil=>cases h
 | cons y l ih =>
  simp only [List.map_cons,List.sum_cons];rcases List.mem_cons.1 h with e | h
  ·rw [e];omega
  ·have:=ih h;omega
theorem EW {p:af} (h:aR p≤20000) {q:aK} (hq:q∈p.procs):bS (q.body.flatMap aa.pre) 0≤20000:=by
 have h1:=JX ic p.procs q hq;have h2:gJ (q.body.flatMap aa.pre)≤ic q:=by unfold ic ay;omega
 unfold aR at h;rw [jE _ _ (by omega)];omega
theorem jP {α:Type} (f:α→Nat) (hf:∀x,1≤f x) (l:List α):l.length≤(l.map f).sum:=by
 induction l with
 | nil=>simp
 | cons y l ih=>simp only [List.map_cons,List.sum_cons,List.length_cons];have:=hf y;omega
theorem oL {p:af} (h:aR p≤20000):p.procs.length≤20000:=by
 have:=jP ic (fun q=>by unfold ic;omega) p.procs;unfold aR at h;omega
theorem xW (l:List aa):l.length≤gJ l:=jP _ (fun s=>by omega) l
theorem ou {α:Type} (f:α→Nat):∀l:List α,((List.range l.length).map fun i=>(l[i]?.map f).getD 0).sum=(l.map f).sum
 | []=>rfl
 | x::l=>by
  rw [List.length_cons,List.range_succ_eq_map,List.map_cons,List.map_map,List.sum_cons,List.map_cons,List.sum_cons,←ou f l]
  rfl
theorem pg {α:Type} (f g:α→Nat) (l:List α) (h:∀x∈l,f x≤g x):(l.map f).sum≤(l.map g).sum:=by
 induction l with
 | nil=>simp
 | cons y l ih =>
  simp only [List.map_cons,List.sum_cons];have:=h y (List.mem_cons_self ..);have:=ih fun x hx=>h x (List.mem_cons_of_mem _ hx)
  omega
theorem CY {p:af} (h:aR p≤20000):mD p≤20002:=by
 have h1:((List.range p.procs.length).map fun i=>(fD p i).length).sum≤((List.range p.procs.length).map fun i=>(p.procs[i]?.map ic).getD 0).sum:=by
  refine pg _ _ _ fun i hi=>?_
  have hi:=List.mem_range.1 hi;rw [List.getElem?_eq_getElem hi];refine Nat.le_trans (ym p i hi) ?_;have:=xW (p.procs[i].body.flatMap aa.pre);simp only [Option.map_some,Option.getD_some,ic,ay];omega
 rw [ou] at h1;unfold mD;unfold aR at h;omega
end
section
open Go
theorem zz {α:Type} (f:α→Nat):∀(l:List α) (x:α),x∈l→f x≤(l.map f).sum
 | y::l,x,h=>by
  rw [List.map_cons,List.sum_cons];rcases List.mem_cons.1 h with rfl | h
  ·omega
  ·have:=zz f l x h;omega
theorem Eo {e s:ae} (h:s∈e.subs):s.pre.length≤e.pre.length:=by
 rw [kK e];have:=zz (fun x:ae=>x.pre.length) e.subs s h;unfold aF;omega
theorem vw {l:List ae} {e:ae} (h:e∈l):e.pre.length≤aF l:=zz (fun x:ae=>x.pre.length) l e h
theorem uy (l:List ae):l.length≤aF l:=jP _ (fun e=>gu e) _
theorem bR (s:aa):ay [s]=1+aF s.exprs+ay s.thn+ay s.els:=by
 rw [jO];have:ay []=0:=rfl;omega
theorem bM:∀(l:List aa) (s:aa),s∈l→ay [s]≤ay l
 | y::l,s,h=>by
  rw [bR,jO];rcases List.mem_cons.1 h with rfl | h
  ·omega
  ·have:=bM l s h
   rw [bR] at this;omega
theorem fo:∀l:List aa,l.length≤ay l
 | []=>by simp
 | s::l=>by
  rw [jO,List.length_cons];have:=fo l;omega
end
section
open Go Go.RowKit Go.Maps
theorem Gv {a:Act} (h:a.tmps.size=36):∃F:Nat→Value,(∀i:Nat,F i=a.eval (.tmp i))∧a=⟨(F 0::F 1::F 2::F 3::F 4::F 5::F 6::F 7::F 8::F 9::F 10::F 11::F 12::F 13::F 14::F 15::F 16::F 17::F 18::F 19::F 20::F 21::F 22::F 23::F 24::F 25::F 26::F 27::F 28::F 29::F 30::F 31::F 32::F 33::F 34::F 35::[]).toArray,a.defers⟩:=by
 obtain ⟨tm,df⟩:=a;have h2:(⟨tm,[]⟩:Act).tmps.size=36:=h;have e:=mf h2 rfl;refine ⟨fun i=>(⟨tm,df⟩:Act).eval (.tmp i),fun _=>rfl,?_⟩;have e2:tm=((fun i=>(⟨tm,[]⟩:Act).eval (.tmp i)) 0::(fun i=>(⟨tm,[]⟩:Act).eval (.tmp i)) 1::(fun i=>(⟨tm,[]⟩:Act).eval (.tmp i)) 2::(fun i=>(⟨tm,[]⟩:Act).eval (.tmp i)) 3::(fun i=>(⟨tm,[]⟩:Act).eval (.tmp i)) 4::(fun i=>(⟨tm,[]⟩:Act).eval (.tmp i)) 5::(fun i=>(⟨tm,[]⟩:Act).eval (.tmp i)) 6::(fun i=>(⟨tm,[]⟩:Act).eval (.tmp i)) 7::(fun i=>(⟨tm,[]⟩:Act).eval (.tmp i)) 8::(fun i=>(⟨tm,[]⟩:Act).eval (.tmp i)) 9::(fun i=>(⟨tm,[]⟩:Act).eval (.tmp i)) 10::(fun i=>(⟨tm,[]⟩:Act).eval (.tmp i)) 11::(fun i=>(⟨tm,[]⟩:Act).eval (.tmp i)) 12::(fun i=>(⟨tm,[]⟩:Act).eval (.tmp i)) 13::(fun i=>(⟨tm,[]⟩:Act).eval (.tmp i)) 14::(fun i=>(⟨tm,[]⟩:Act).eval (.tmp i)) 15::(fun i=>(⟨tm,[]⟩:Act).eval (.tmp i)) 16::(fun i=>(⟨tm,[]⟩:Act).eval (.tmp i)) 17::(fun i=>(⟨tm,[]⟩:Act).eval (.tmp i)) 18::(fun i=>(⟨tm,[]⟩:Act).eval (.tmp i)) 19::(fun i=>(⟨tm,[]⟩:Act).eval (.tmp i)) 20::(fun i=>(⟨tm,[]⟩:Act).eval (.tmp i)) 21::(fun i=>(⟨tm,[]⟩:Act).eval (.tmp i)) 22::(fun i=>(⟨tm,[]⟩:Act).eval (.tmp i)) 23::(fun i=>(⟨tm,[]⟩:Act).eval (.tmp i)) 24::(fun i=>(⟨tm,[]⟩:Act).eval (.tmp i)) 25::(fun i=>(⟨tm,[]⟩:Act).eval (.tmp i)) 26::(fun i=>(⟨tm,[]⟩:Act).eval (.tmp i)) 27::(fun i=>(⟨tm,[]⟩:Act).eval (.tmp i)) 28::(fun i=>(⟨tm,[]⟩:Act).eval (.tmp i)) 29::(fun i=>(⟨tm,[]⟩:Act).eval (.tmp i)) 30::(fun i=>(⟨tm,[]⟩:Act).eval (.tmp i)) 31::(fun i=>(⟨tm,[]⟩:Act).eval (.tmp i)) 32::(fun i=>(⟨tm,[]⟩:Act).eval (.tmp i)) 33::(fun i=>(⟨tm,[]⟩:Act).eval (.tmp i)) 34::(fun i=>(⟨tm,[]⟩:Act).eval (.tmp i)) 35::[]).toArray:=congrArg Act.tmps e;exact congrArg (fun t=>(⟨t,df⟩:Act)) e2
theorem qL {P:Program} {Q:Exit→Act→World→Prop} {a:Act} {w:World} {C C':Code} (h:C=C') (h2:C'.wp P Q a w):C.wp P Q a w:=by subst h;exact h2
structure Lm (b0:Nat) (w wr:World) (e:ae) (k:Nat) (A:Option Addr) (c:Nat) (cur:List ae):Prop where
 low:Below b0 w wr
 box:wr.heap[b0+2]? = some (.cells #[.int .i64 e.kind,.int .i64 e.op,.int .i64 e.value,.int .i64 e.width,.string e.name,.slice A cur.length c] 101 (0,0))
 res:wr.heap[b0+1]? = some (.cells #[.int .i64 0,.int .i64 0,.int .i64 0,.int .i64 0,.string ⟨#[]⟩,.slice none 0 0] 101 (0,0))
 acc:gX tN 101 ae.cellsR (b0+3) wr A c cur
 size:b0+3≤wr.heap.size
 eq:cur.map av=(e.subs.take k).map av
def Ck (n0:Nat) (W0:World) (e:ae):Prop:=∀W,Below n0 W0 W→n0≤W.heap.size →
 Calls Tryz.prog 93 #[.agg #[.int .u8 e.kind,.int .u8 e.op,.int .u32 e.value,.int .i64 e.width,.string e.name,.slice e.sp.at_ e.subs.length e.sp.cap]] W fun o w'=>∃y:ae,o=.returned y.valR∧av y=av e∧tN W.heap.size none w' y∧Below W.heap.size W w'
theorem oG (y:ae):(Tryz.prog.info? 101).map (·.size)=some y.cellsR.toArray.size:=by kernel_rfl
theorem EN (y:ae):y.cellsR.toArray.all (·.oneCell')=true:=by kernel_rfl
theorem wrap_u8 {x:Int} (h:0≤x∧x≤255):wrap64 x=x:=IntWalk.wrap64_in _ ⟨by omega,by omega⟩
theorem wrap_u32 {x:Int} (h:0≤x∧x≤4294967295):wrap64 x=x:=IntWalk.wrap64_in _ ⟨by omega,by omega⟩
set_option maxRecDepth 1000000 in
set_option maxHeartbeats 4000000 in
theorem FK {n0:Nat} {W0:World} {e:ae} (hr:iw n0 W0 e) (hfew:e.subs.length≤900000) (ih:∀s∈e.subs,Ck n0 W0 s):Ck n0 W0 e:=by
 intro w hw0 hn0;obtain ⟨hkd,hop,hvl⟩:=(match hr with | .mk _ a b c _ _ _ _=>⟨a,b,c⟩:_∧_∧_);have HR:=zhd ((hr.stays hw0).more hn0);have HIH:=zhd fun (i:Nat) (hi:i<e.subs.length) (W:World) (hW:Below w.heap.size w W)=>ih _ (List.getElem_mem hi) W (hw0.trans (hW.mono hn0)) (Nat.le_trans hn0 hW.size)
 have hcap:=hr.row.cap;have hbig:=hr.row.big;have hw1:=wrap_u8 hkd;have hw2:=wrap_u8 hop;have hw3:=wrap_u32 hvl;have HFEW:=zhd hfew;clear hr ih hw0 hkd hop hvl hfew;go_enter Tryz.func93,Tryz.ntmps93
 go_upto_region 2 with fail
 clear hw1 hw2 hw3;obtain ⟨a1,a2,a3,a4,a5⟩:=uJ w (.cells #[.int .u8 e.kind,.int .u8 e.op,.int .u32 e.value,.int .i64 e.width,.string e.name,.slice e.sp.at_ e.subs.length e.sp.cap] 30) (.cells #[.int .i64 0,.int .i64 0,.int .i64 0,.int .i64 0,.string ⟨#[]⟩,.slice none 0 0] 101) (.cells #[.int .i64 e.kind,.int .i64 e.op,.int .i64 e.value,.int .i64 e.width,.string e.name,.slice none 0 0] 101);have x5:(((w.alloc (.cells #[.int .u8 e.kind,.int .u8 e.op,.int .u32 e.value,.int .i64 e.width,.string e.name,.slice e.sp.at_ e.subs.length e.sp.cap] 30)).alloc (.cells #[.int .i64 0,.int .i64 0,.int .i64 0,.int .i64 0,.string ⟨#[]⟩,.slice none 0 0] 101)).alloc (.cells #[.int .i64 e.kind,.int .i64 e.op,.int .i64 e.value,.int .i64 e.width,.string e.name,.slice none 0 0] 101)).cell? ⟨w.heap.size,5,none⟩=some (.slice e.sp.at_ e.subs.length e.sp.cap):=(ag a1).2.2.2.2.2;have HST:Hid (Lm w.heap.size w (((w.alloc (.cells #[.int .u8 e.kind,.int .u8 e.op,.int .u32 e.value,.int .i64 e.width,.string e.name,.slice e.sp.at_ e.subs.length e.sp.cap] 30)).alloc (.cells #[.int .i64 0,.int .i64 0,.int .i64 0,.int .i64 0,.string ⟨#[]⟩,.slice none 0 0] 101)).alloc (.cells #[.int .i64 e.kind,.int .i64 e.op,.int .i64 e.value,.int .i64 e.width,.string e.name,.slice none 0 0] 101)) e 0 none 0 []):=zhd ⟨a5,a3,a2,gX.nil,by simp,rfl⟩;clear a1 a2 a3 a4 a5;generalize (((w.alloc (.cells #[.int .u8 e.kind,.int .u8 e.op,.int .u32 e.value,.int .i64 e.width,.string e.name,.slice e.sp.at_ e.subs.length e.sp.cap] 30)).alloc (.cells #[.int .i64 0,.int .i64 0,.int .i64 0,.int .i64 0,.string ⟨#[]⟩,.slice none 0 0] 101)).alloc (.cells #[.int .i64 e.kind,.int .i64 e.op,.int .i64 e.value,.int .i64 e.width,.string e.name,.slice none 0 0] 101))=W3 at *;go_wp2_with fail
 clear x5;generalize hb0:w.heap.size=b0 at *;have HB0:=zhd hb0;clear hb0;go_loopw [23] (fun s23 wr=>∃(k:Nat) (A:Option Addr) (c:Nat) (cur:List ae),k≤e.subs.length∧s23=.int .i64 k∧Lm b0 w wr e k A c cur) (fun s23 _=>e.subs.length - (intOf s23).toNat)
 case atStart=>exact ⟨0,none,0,[],Nat.zero_le _,rfl,HST.out⟩
 case round =>
  clear HST;obtain ⟨k,A,c,cur,hk,rfl,hst⟩:=hrel;have HS:=zhd hst;clear hst;have hk0:(0:Int)≤(k:Int):=by omega
  by_cases hlt:k<e.subs.length
  ·obtain ⟨g,o,eA,hg,hc⟩:=(HR.out.row.below HS.out.low).row (by omega)
   have hc2:=hc k hlt;have HEQ:Hid (e.subs.take (k+1)=e.subs.take k++[e.subs[k]]):=zhd (List.take_succ_eq_append_getElem hlt);have HCALL:=zhd (HIH.out k hlt);have hk1:(k:Int)<(e.subs.length:Int):=by omega
   have hcl:cur.length≤900000:=by
    have h1:=congrArg List.length HS.out.eq;rw [List.length_map,List.length_map,List.length_take] at h1;have:=HFEW.out;omega
   have HCL:=zhd hcl;clear hc hcl;generalize e.subs[k]=x at *;have k0:=hc2 0 _ rfl;rw [Nat.add_zero] at k0;have k1:=hc2 1 _ rfl;have k2:=hc2 2 _ rfl;have k3:=hc2 3 _ rfl;have k4:=hc2 4 _ rfl;have k5:wr.cell? ⟨g,o+k*6+5,none⟩=some (.slice x.sp.at_ x.subs.length x.sp.cap):=hc2 5 _ rfl;have hba:=zba wr (.cells #[.int .u8 x.kind,.int .u8 x.op,.int .u32 x.value,.int .i64 x.width,.string x.name,.slice x.sp.at_ x.subs.length x.sp.cap] 30);have hxa:=zan wr (.cells #[.int .u8 x.kind,.int .u8 x.op,.int .u32 x.value,.int .i64 x.width,.string x.name,.slice x.sp.at_ x.subs.length x.sp.cap] 30);have hsz:=HS.out.size;have HS5:Hid (Lm b0 w (wr.alloc (.cells #[.int .u8 x.kind,.int .u8 x.op,.int .u32 x.value,.int .i64 x.width,.string x.name,.slice x.sp.at_ x.subs.length x.sp.cap] 30)) e k A c cur):=zhd ⟨HS.out.low.trans (hba.mono (by omega)),(hba.block _ (by omega)).trans HS.out.box,(hba.block _ (by omega)).trans HS.out.res,HS.out.acc.on tQ hba,Nat.le_trans hsz hba.size,HS.out.eq⟩;have HXA:=zhd hxa;clear hc2 hba hxa HS hsz;rw [eA];go_upto_region 5 with fail
   clear k0 k1 k2 k3 k4 k5;generalize wr.alloc (.cells #[.int .u8 x.kind,.int .u8 x.op,.int .u32 x.value,.int .i64 x.width,.string x.name,.slice x.sp.at_ x.subs.length x.sp.cap] 30)=W5 at *;generalize wr.heap.size=bx at *;refine Code.wp_mono ?_ (qL (C':=.region 5 opsRX true) (by kernel_rfl) (La rfl (b0+2) bx (b0+3) W5 x A c cur e rfl rfl HS5.out.box HXA.out (fun W hW=>HCALL.out W (HS5.out.low.trans (hW.mono (by have:=HS5.out.size;omega)))) HS5.out.acc HS5.out.size (by omega) HS5.out.size (Below.refl _ _) HCL.out));rintro ex a9 w9 ⟨rfl,hsz9,hd9,hkp,hlow9,y,A',c',hbx9,hbare,hacc9⟩;obtain ⟨F,hF,hfr⟩:=Gv hsz9;rw [hfr,hd9];have gk:∀i:Nat,zu i=true→F i=_:=fun i hi=>(hF i).trans (au (hkp i hi))
   have g0:=gk 0 rfl;have g1:=gk 1 rfl;have g2:=gk 2 rfl;have g3:=gk 3 rfl;have g4:=gk 4 rfl;have g5:=gk 5 rfl;have g6:=gk 6 rfl;have g7:=gk 7 rfl;have g8:=gk 8 rfl;have g9:=gk 9 rfl;have g10:=gk 10 rfl;have g11:=gk 11 rfl;have g12:=gk 12 rfl;have g13:=gk 13 rfl;have g14:=gk 14 rfl;have g15:=gk 15 rfl;have g16:=gk 16 rfl;have g17:=gk 17 rfl;have g18:=gk 18 rfl;have g19:=gk 19 rfl;have g20:=gk 20 rfl;have g21:=gk 21 rfl;have g22:=gk 22 rfl;have g23:=gk 23 rfl;have g24:=gk 24 rfl;have g25:=gk 25 rfl;have g26:=gk 26 rfl;have g34:=gk 34 rfl;have g35:=gk 35 rfl;rw [g0,g1,g2,g3,g4,g5,g6,g7,g8,g9,g10,g11,g12,g13,g14,g15,g16,g17,g18,g19,g20,g21,g22,g23,g24,g25,g26,g34,g35];clear gk hF hfr hkp hsz9 hd9 g0 g1 g2 g3 g4 g5 g6 g7 g8 g9 g10 g11 g12 g13 g14 g15 g16 g17 g18 g19 g20 g21 g22 g23 g24 g25 g26 g34 g35;have HS9:Hid (Lm b0 w w9 e (k+1) A' c' (cur++[y])):=zhd ⟨HS5.out.low.trans (lQ (q:=b0+2) (by omega) (hlow9.mono (by omega))),hbx9,(mH hlow9 (show b0+1<b0+3 by omega) (by omega)).trans HS5.out.res,hacc9,Nat.le_trans HS5.out.size (by have:=hlow9.size;rw [bE,bE] at this;exact this),by rw [HEQ.out,List.map_append,List.map_append,HS5.out.eq,List.map_cons,List.map_cons,hbare]⟩;clear hlow9 hbx9 hbare hacc9 HS5 HXA HCALL HEQ HCL;go_wp2_with fail
   have hw:wrap64 ((k:Int)+1)=(k:Int)+1:=IntWalk.wrap64_in _ ⟨by omega,by have:=HFEW.out;omega⟩;rw [hw];clear hw;go_roundw
   case rel =>
    repeat apply Exists.intro
    exact ⟨⟨k+1,A',c',cur++[y],hlt,by go_num,HS9.out⟩,rfl⟩
   case measure=>simp [intOf];omega
  ·obtain rfl:k=e.subs.length:=by omega
   have hcl:cur.length=e.subs.length:=by
    have h1:=congrArg List.length HS.out.eq;rw [List.length_map,List.length_map,List.length_take] at h1;omega
   have heq:cur.map av=e.subs.map av:=by rw [HS.out.eq,List.take_length]
   obtain ⟨hrw,hel⟩:=HS.out.acc.row tQ (fun _=>rfl) (by rw [hcl];have:=HFEW.out;omega);have hy:ae.cellsR (.mk e.kind e.op e.value e.width e.name ⟨A,c⟩ cur)=[.int .i64 e.kind,.int .i64 e.op,.int .i64 e.value,.int .i64 e.width,.string e.name,.slice A cur.length c]:=rfl;have HY:Hid (av (.mk e.kind e.op e.value e.width e.name ⟨A,c⟩ cur)=av e):=zhd (by
    cases e
    rw [dA,dA];exact congrArg _ heq)
   have HEL:Hid (tN (b0+3) none wr (.mk e.kind e.op e.value e.width e.name ⟨A,c⟩ cur)):=zhd (.mk _ (show RowOf wr.heap.size (dK (b0+3) (gK none wr)) ⟨A,c⟩ 6 ae.cellsR cur from hrw) hel);have HBX:Hid (wr.heap[b0+2]? = some (.cells (ae.cellsR (.mk e.kind e.op e.value e.width e.name ⟨A,c⟩ cur)).toArray 101 (0,0))):=zhd HS.out.box;have HRS:=zhd HS.out.res;have HLW:=zhd HS.out.low;have hv:ae.valR (.mk e.kind e.op e.value e.width e.name ⟨A,c⟩ cur)=.agg (ae.cellsR (.mk e.kind e.op e.value e.width e.name ⟨A,c⟩ cur)).toArray:=rfl;have HV:=zhd hv;clear hy hv hrw hel heq hcl HS;generalize ae.mk e.kind e.op e.value e.width e.name ⟨A,c⟩ cur=y at *;go_wp2_with (first
    | (refine wpList_load_row rfl 101 _ rfl (b0+2) rfl 101 y.cellsR.toArray (0,0) _ HBX.out Tryz.underlying101 rfl (oG y) ?_)
    | (refine wpList_store_row rfl 101 _ _ rfl (b0+1) y.cellsR.toArray (by rfl) (by rfl) 101 #[.int .i64 0,.int .i64 0,.int .i64 0,.int .i64 0,.string ⟨#[]⟩,.slice none 0 0] HRS.out (oG y) (by kernel_rfl) (EN y) ?_)
    | fail)
   have hz:=setRow_heap wr (b0+1) #[.int .i64 0,.int .i64 0,.int .i64 0,.int .i64 0,.string ⟨#[]⟩,.slice none 0 0] y.cellsR.toArray 101 (0,0) HRS.out;refine bodyPost_ret (results_cell_row rfl _ _ (b0+1) 101 _ (0,0) _ rfl hz Tryz.underlying101 rfl (oG y)) rfl ⟨y,by rw [HV.out],HY.out,?_,by rw [HB0.out];exact below_setRow HLW.out (by omega)⟩;exact tQ.move HEL.out (by rw [size_setRow];exact Nat.le_refl _) fun b h1 h2 _=>⟨by rw [HB0.out];omega,h2,setRow_other _ _ _ _ (by omega)⟩
theorem II {n0:Nat} {W0:World} {e:ae} (hr:iw n0 W0 e):e.pre.length≤900000→Ck n0 W0 e:=by
 induction hr with
 | mk e k o v w n row subs ih =>
  intro hl;have h1:=uy e.subs;have h2:=kK e;exact FK (.mk e k o v w n row subs) (by omega) fun s hs=>ih s hs (Nat.le_trans (Eo hs) hl)
end
section
open Go Go.RowKit Go.Maps
def Cm (n0:Nat) (W0:World) (a b:aa):Prop:=∀W,Below n0 W0 W→n0≤W.heap.size →
 Calls Tryz.prog 96 #[.agg #[.int .u8 a.kind,.string a.name,.slice a.es.at_ a.exprs.length a.es.cap,.int .i64 a.bound,.slice a.ts.at_ a.thn.length a.ts.cap,.slice a.os.at_ a.els.length a.os.cap],.agg #[.int .u8 b.kind,.string b.name,.slice b.es.at_ b.exprs.length b.es.cap,.int .i64 b.bound,.slice b.ts.at_ b.thn.length b.ts.cap,.slice b.os.at_ b.els.length b.os.cap]] W fun o w'=>o=.returned (.bool (Gi a b))∧Below W.heap.size W w'
def um (n0:Nat) (W0:World) (sa sb:Sp) (la lb:List aa):Prop:=∀W,Below n0 W0 W→n0≤W.heap.size →
 Calls Tryz.prog 95 #[.slice sa.at_ la.length sa.cap,.slice sb.at_ lb.length sb.cap,.func (.func 96) #[] #[]] W fun o w'=>o=.returned (.bool (dw la lb))∧Below W.heap.size W w'
theorem xP (la lb:List aa) (h:la.length=lb.length) (k:Nat) (hk:k<la.length):dw (la.drop k) (lb.drop k)=(Gi la[k] (lb[k]'(by omega)) && dw (la.drop (k+1)) (lb.drop (k+1))):=by
 rw [List.drop_eq_getElem_cons hk,List.drop_eq_getElem_cons (by omega:k<lb.length),dw]
theorem AC {la lb:List aa} (h:la.length≠lb.length):dw la lb=false:=by
 cases e:dw la lb with
 | false=>rfl
 | true=>exact absurd (by simpa using congrArg List.length ((AB la lb).1 e)) h
set_option maxRecDepth 1000000 in
set_option maxHeartbeats 8000000 in
theorem oU {n0:Nat} {W0:World} {sa sb:Sp} {la lb:List aa} (ra:RowOf n0 W0 sa 6 aa.cells la) (rb:RowOf n0 W0 sb 6 aa.cells lb) (ih:∀a∈la,∀b∈lb,Cm n0 W0 a b):um n0 W0 sa sb la lb:=by
 intro w hw hn;have HRA:=zhd ((ra.below hw).more hn);have HRB:=zhd ((rb.below hw).more hn);have HIH:=zhd fun (i:Nat) (hi:i<la.length) (hj:i<lb.length) (W:World) (hW:Below w.heap.size w W)=>ih _ (List.getElem_mem hi) _ (List.getElem_mem hj) W (hw.trans (hW.mono hn)) (Nat.le_trans hn hW.size)
 have ca:=ra.cap;have ba:=ra.big;have fa:=ra.few;have cb:=rb.cap;have bb:=rb.big;have fb:=rb.few;clear ra rb ih hw;go_enter Tryz.func95,Tryz.ntmps95
 by_cases hl:la.length=lb.length
 ·have hd:((la.length:Int) == (lb.length:Int))=true:=by simp [hl]
  have hd2:((la.length:Int) != (lb.length:Int))=false:=by simp [hl]
  have HL:=zhd hl;clear hl;go_wp2_with fail
  go_loopw [17] (fun v wr=>∃k:Nat,k≤la.length∧v=.int .i64 k∧dw la lb=dw (la.drop k) (lb.drop k)∧Below w.heap.size w wr) (fun v _=>la.length - (intOf v).toNat)
  case atStart=>exact ⟨0,Nat.zero_le _,rfl,rfl,Below.refl _ _⟩
  case round =>
   obtain ⟨k,hk,rfl,har,hb⟩:=hrel;have HAR:=zhd har;have HBR:=zhd hb;clear har hb;by_cases hlt:k<la.length
   ·have hlb:k<lb.length:=by have:=HL.out;omega
    obtain ⟨ga,oa,eA,hga,hca⟩:=(HRA.out.below HBR.out).row (by omega);obtain ⟨gb,ob,eB,hgb,hcb⟩:=(HRB.out.below HBR.out).row (by omega);have hca2:=hca k hlt;have hcb2:=hcb k hlb;have HST:=zhd (HAR.out.trans (xP la lb HL.out k hlt));have HCALL:=zhd (HIH.out k hlt hlb);clear hca hcb;generalize la[k]=x at *;generalize lb[k]=y at *;have a0:=hca2 0 _ rfl;rw [Nat.add_zero] at a0;have a1:=hca2 1 _ rfl;have a2:wr.cell? ⟨ga,oa+k*6+2,none⟩=some (.slice x.es.at_ x.exprs.length x.es.cap):=hca2 2 _ rfl;have a3:=hca2 3 _ rfl;have a4:wr.cell? ⟨ga,oa+k*6+4,none⟩=some (.slice x.ts.at_ x.thn.length x.ts.cap):=hca2 4 _ rfl;have a5:wr.cell? ⟨ga,oa+k*6+5,none⟩=some (.slice x.os.at_ x.els.length x.os.cap):=hca2 5 _ rfl;have b0:=hcb2 0 _ rfl;rw [Nat.add_zero] at b0;have b1:=hcb2 1 _ rfl;have b2:wr.cell? ⟨gb,ob+k*6+2,none⟩=some (.slice y.es.at_ y.exprs.length y.es.cap):=hcb2 2 _ rfl;have b3:=hcb2 3 _ rfl;have b4:wr.cell? ⟨gb,ob+k*6+4,none⟩=some (.slice y.ts.at_ y.thn.length y.ts.cap):=hcb2 4 _ rfl;have b5:wr.cell? ⟨gb,ob+k*6+5,none⟩=some (.slice y.os.at_ y.els.length y.os.cap):=hcb2 5 _ rfl;have hk0:(0:Int)≤(k:Int):=by omega
    have hk1:(k:Int)<(la.length:Int):=by omega
    have hk2:(k:Int)<(lb.length:Int):=by omega
    have hk3:decide (k<lb.length)=true:=decide_eq_true hlb;clear hca2 hcb2;rw [eA,eB];clear eA eB;go_upto_region 6 with fail
    have hba:=zba wr (.cells #[.int .u8 x.kind,.string x.name,.slice x.es.at_ x.exprs.length x.es.cap,.int .i64 x.bound,.slice x.ts.at_ x.thn.length x.ts.cap,.slice x.os.at_ x.els.length x.os.cap] 43);have hxa:=zan wr (.cells #[.int .u8 x.kind,.string x.name,.slice x.es.at_ x.exprs.length x.es.cap,.int .i64 x.bound,.slice x.ts.at_ x.thn.length x.ts.cap,.slice x.os.at_ x.els.length x.os.cap] 43);have hszw:=HBR.out.size;have hgb2:gb<wr.heap.size:=by omega
    replace b0:=(hba.cell (p:=⟨gb,ob+k*6,none⟩) hgb2).trans b0
    replace b1:=(hba.cell (p:=⟨gb,ob+k*6+1,none⟩) hgb2).trans b1
    replace b2:=(hba.cell (p:=⟨gb,ob+k*6+2,none⟩) hgb2).trans b2
    replace b3:=(hba.cell (p:=⟨gb,ob+k*6+3,none⟩) hgb2).trans b3
    replace b4:=(hba.cell (p:=⟨gb,ob+k*6+4,none⟩) hgb2).trans b4
    replace b5:=(hba.cell (p:=⟨gb,ob+k*6+5,none⟩) hgb2).trans b5
    generalize wr.alloc (.cells #[.int .u8 x.kind,.string x.name,.slice x.es.at_ x.exprs.length x.es.cap,.int .i64 x.bound,.slice x.ts.at_ x.thn.length x.ts.cap,.slice x.os.at_ x.els.length x.os.cap] 43)=W5 at *;have hsz5:=hba.size;generalize wr.heap.size=bx at *;obtain ⟨x0,x1,x2,x3,x4,x5⟩:=ag hxa;have HXA:=zhd hxa;have HBA:=zhd hba;clear a0 a1 a2 a3 a4 a5 hxa hba;go_upto_region 7 with fail
    have hbc:=zba W5 (.cells #[.int .u8 y.kind,.string y.name,.slice y.es.at_ y.exprs.length y.es.cap,.int .i64 y.bound,.slice y.ts.at_ y.thn.length y.ts.cap,.slice y.os.at_ y.els.length y.os.cap] 43);have hyc:=zan W5 (.cells #[.int .u8 y.kind,.string y.name,.slice y.es.at_ y.exprs.length y.es.cap,.int .i64 y.bound,.slice y.ts.at_ y.thn.length y.ts.cap,.slice y.os.at_ y.els.length y.os.cap] 43);have hxc:=(hbc.block bx (zgs HXA.out).1).trans HXA.out;have HLO0:=HBR;have hlow:=HLO0.out.trans ((HBA.out.trans (hbc.mono hsz5)).mono hszw);clear x0 x1 x2 x3 x4 x5 b0 b1 b2 b3 b4 b5 HXA HBA;generalize W5.alloc (.cells #[.int .u8 y.kind,.string y.name,.slice y.es.at_ y.exprs.length y.es.cap,.int .i64 y.bound,.slice y.ts.at_ y.thn.length y.ts.cap,.slice y.os.at_ y.els.length y.os.cap] 43)=W7 at *;generalize W5.heap.size=bx2 at *;obtain ⟨x0,x1,x2,x3,x4,x5⟩:=ag hxc;obtain ⟨y0,y1,y2,y3,y4,y5⟩:=ag hyc;have HLOW:=zhd hlow;have hend:=HLOW.out.size;clear hxc hyc hbc hlow;obtain ⟨bv,hbv⟩:∃b,Gi x y=b:=⟨_,rfl⟩;have HBV:=zhd hbv;rw [hbv] at HCALL;clear hbv;cases bv with
    | false =>
     go_wp2_with (go_at_call 96;refine (HCALL.out W7 HLOW.out).mono ?_;rintro o W8 ⟨rfl,hb8⟩;have HB8:=zhd hb8;clear hb8)
     go_ret
     exact ⟨by rw [HST.out,HBV.out];rfl,HLOW.out.trans (HB8.out.mono hend)⟩
    | true =>
     go_wp2_with (go_at_call 96;refine (HCALL.out W7 HLOW.out).mono ?_;rintro o W8 ⟨rfl,hb8⟩;have HB8:=zhd hb8;clear hb8)
     exact ⟨⟨k+1,hlt,rfl,by rw [HST.out,HBV.out];rfl,HLOW.out.trans (HB8.out.mono hend)⟩,by simp only [intOf];omega⟩
   ·obtain rfl:k=la.length:=by omega
    have e0:dw la lb=true:=by
     rw [HAR.out,List.drop_length,HL.out,List.drop_length]
     rfl
    have E0:=zhd e0;clear hlt e0;go_wp2_with fail
    go_ret
    exact ⟨by rw [E0.out];rfl,HBR.out⟩
 ·have hd:((la.length:Int) == (lb.length:Int))=false:=by simp;omega
  have hd2:((la.length:Int) != (lb.length:Int))=true:=by simp;omega
  rw [AC hl];clear hl;go_wp2_with fail
  go_ret
  exact ⟨rfl,Below.refl _ _⟩
set_option maxRecDepth 1000000 in
set_option maxHeartbeats 8000000 in
theorem ww {n0:Nat} {W0:World} {a b:aa} (ihx:yO n0 W0 a.es b.es a.exprs b.exprs) (iht:um n0 W0 a.ts b.ts a.thn b.thn) (ihe:um n0 W0 a.os b.os a.els b.els):Cm n0 W0 a b:=by
 intro w hw hn;have HX:=zhd fun (W:World) (hW:Below w.heap.size w W)=>ihx W (hw.trans (hW.mono hn)) (Nat.le_trans hn hW.size)
 have HT:=zhd fun (W:World) (hW:Below w.heap.size w W)=>iht W (hw.trans (hW.mono hn)) (Nat.le_trans hn hW.size)
 have HE:=zhd fun (W:World) (hW:Below w.heap.size w W)=>ihe W (hw.trans (hW.mono hn)) (Nat.le_trans hn hW.size)
 obtain ⟨k,n,es,ex,bd,ts,th,os,el⟩:=a;obtain ⟨k',n',es',ex',bd',ts',th',os',el'⟩:=b;have hb2:Below w.heap.size w ((w.alloc (.cells #[.int .u8 k,.string n,.slice es.at_ ex.length es.cap,.int .i64 bd,.slice ts.at_ th.length ts.cap,.slice os.at_ el.length os.cap] 43)).alloc (.cells #[.int .u8 k',.string n',.slice es'.at_ ex'.length es'.cap,.int .i64 bd',.slice ts'.at_ th'.length ts'.cap,.slice os'.at_ el'.length os'.cap] 43)):=((Below.refl _ _).alloc (Nat.le_refl _) _).alloc (by simp) _;have e0:Gi (.mk k n es ex bd ts th os el) (.mk k' n' es' ex' bd' ts' th' os' el')=(decide (k=k'∧n=n'∧bd=bd') && (dG ex ex' && (dw th th' && dw el el'))):=by rw [Gi];rfl
 rw [e0];clear ihx iht ihe hw;simp only [aa.kind,aa.name,aa.bound,aa.es,aa.exprs,aa.ts,aa.thn,aa.os,aa.els] at *;go_enter Tryz.func96,Tryz.ntmps96
 obtain ⟨hx2,hz2,hs2,_⟩:=gY w (.cells #[.int .u8 k,.string n,.slice es.at_ ex.length es.cap,.int .i64 bd,.slice ts.at_ th.length ts.cap,.slice os.at_ el.length os.cap] 43) (.cells #[.int .u8 k',.string n',.slice es'.at_ ex'.length es'.cap,.int .i64 bd',.slice ts'.at_ th'.length ts'.cap,.slice os'.at_ el'.length os'.cap] 43);have HB2:=zhd hb2;have HSZ:=zhd hb2.size;have HX2:=zhd hx2;have HZ2:=zhd hz2;clear hb2 hx2 hz2 hs2;by_cases h1:k=k'
 ·by_cases h2:n=n'
  ·by_cases h3:bd=bd'
   ·subst h1 h2 h3
    have e2:(decide (k=k∧n=n∧bd=bd) && (dG ex ex' && (dw th th' && dw el el')))=(dG ex ex' && (dw th th' && dw el el')):=by simp
    rw [e2];clear e0 e2;go_wp2_with fail
    refine (HX.out _ HB2.out).mono ?_;rintro o W8 ⟨rfl,hb8⟩;obtain ⟨bx,hbx⟩:∃b,dG ex ex'=b:=⟨_,rfl⟩;have HBX:=zhd hbx;rw [hbx];clear hbx;have HB8:=zhd (HB2.out.trans (hb8.mono HSZ.out));have hx8:=(hb8.block _ (zgs HX2.out).1).trans HX2.out;have hz8:=(hb8.block _ (zgs HZ2.out).1).trans HZ2.out;obtain ⟨x0,x1,x2,x3,x4,x5⟩:=ag hx8;obtain ⟨y0,y1,y2,y3,y4,y5⟩:=ag hz8;have HX8:=zhd hx8;have HZ8:=zhd hz8;clear hb8 HX hx8 hz8 HX2 HZ2;cases bx with
    | false =>
     go_wp2_with fail
     go_ret
     exact ⟨by rw [HBX.out];rfl,HB8.out⟩
    | true =>
     go_wp2_with fail
     refine (HT.out _ HB8.out).mono ?_;rintro o W9 ⟨rfl,hb9⟩;obtain ⟨bt,hbt⟩:∃b,dw th th'=b:=⟨_,rfl⟩;have HBT:=zhd hbt;rw [hbt];clear hbt;have HB9:=zhd (HB8.out.trans (hb9.mono HB8.out.size));have hx9:=(hb9.block _ (zgs HX8.out).1).trans HX8.out;have hz9:=(hb9.block _ (zgs HZ8.out).1).trans HZ8.out;clear x0 x1 x2 x3 x4 x5 y0 y1 y2 y3 y4 y5;obtain ⟨x0,x1,x2,x3,x4,x5⟩:=ag hx9;obtain ⟨y0,y1,y2,y3,y4,y5⟩:=ag hz9;clear hb9 HT hx9 hz9 HX8 HZ8;cases bt with
     | false =>
      go_wp2_with fail
      go_ret
      exact ⟨by rw [HBX.out,HBT.out];rfl,HB9.out⟩
     | true =>
      go_wp2_with fail
      refine (HE.out _ HB9.out).mono ?_;rintro o W10 ⟨rfl,hb10⟩;have HB10:=zhd (HB9.out.trans (hb10.mono HB9.out.size));clear hb10 HE;go_wp2_with fail
      go_ret
      exact ⟨by rw [HBX.out,HBT.out];rfl,HB10.out⟩
   ·have hd:(bd == bd')=false:=by simp [h3]
    have e1:(decide (k=k'∧n=n'∧bd=bd') && (dG ex ex' && (dw th th' && dw el el')))=false:=by simp [h3]
    rw [e1];subst h1 h2;clear h3 e1 e0;go_wp2_with fail
    go_ret
    exact ⟨rfl,HB2.out⟩
  ·have hd:(n.toList == n'.toList)=false:=beq_eq_false_iff_ne.2 fun e=>h2 (toList_inj e)
   have e1:(decide (k=k'∧n=n'∧bd=bd') && (dG ex ex' && (dw th th' && dw el el')))=false:=by simp [h2]
   rw [e1];subst h1;clear h2 e1 e0;go_wp2_with fail
   go_ret
   exact ⟨rfl,HB2.out⟩
 ·have hd:(k == k')=false:=by simp [h1]
  have e1:(decide (k=k'∧n=n'∧bd=bd') && (dG ex ex' && (dw th th' && dw el el')))=false:=by simp [h1]
  rw [e1];clear h1 e1 e0;go_wp2_with fail
  go_ret
  exact ⟨rfl,HB2.out⟩
theorem FO {n0:Nat} {W0:World} (a:aa):∀b,eu n0 W0 a→eu n0 W0 b→Cm n0 W0 a b:=by
 induction a using aa.ind with
 | h k n es ex bd ts th os el i1 i2 =>
  intro b ha hb;exact ww (yB ha.xs.row hb.xs.row fun x hx y hy=>FN x y (ha.xs.ok x hx) (hb.xs.ok y hy)) (oU ha.then_.row hb.then_.row fun x hx y hy=>i1 x hx y (ha.then_.ok x hx) (hb.then_.ok y hy)) (oU ha.else_.row hb.else_.row fun x hx y hy=>i2 x hx y (ha.else_.ok x hx) (hb.else_.ok y hy))
theorem DK {n0:Nat} {W0:World} {sa sb:Sp} {la lb:List aa} (ha:bX n0 W0 sa la) (hb:bX n0 W0 sb lb):um n0 W0 sa sb la lb:=oU ha.row hb.row fun x hx y hy=>FO x y (ha.ok x hx) (hb.ok y hy)
end
section
open Go Go.RowKit
theorem Eb {a:Act} {n:Nat} (h:a.tmps.size=n):∃F:Nat→Value,(∀i,F i=a.eval (.tmp i))∧a=⟨((List.range n).map F).toArray,a.defers⟩:=by
 obtain ⟨t,d⟩:=a;refine ⟨fun i=>(⟨t,d⟩:Act).eval (.tmp i),fun _=>rfl,?_⟩;change t.size=n at h;refine congrArg (fun x=>(⟨x,d⟩:Act)) (Array.ext (by simp [h]) fun i h1 h2=>?_);simp [Act.eval,h1]
end
end Go.Proofs.YtepacjkacjabbaaGreatDoor
