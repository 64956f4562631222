import Derived.Test.YtepacjkacjabbaaGreatDoorPAM
import Derived.Test.YtepacjkacjabbaaGreatDoorPAG
import Derived.Test.YtepacjkacjabbaaGreatDoorPAA
import Derived.Test.YtepacjkacjabbaaGreatDoorPAI
import Derived.Deep.RegionWith
import Derived.IntWalk
import Derived.Test.YtepacjkacjabbaaGreatDoorPAH
import Derived.Test.YtepacjkacjabbaaGreatDoorPAE
namespace Go.Proofs.YtepacjkacjabbaaGreatDoor
section
open Go
mutual
def fw:ae→Int→Int
 | .mk _ _ _ _ n _ l,m=>iB l m (1+(n.size:Int))
def iB:List ae→Int→Int→Int
 | [],_,n=>n
 | e::l,m,n=>if n>m then n else iB l m (n+fw e (m - n))
end
def dX:List ae→Int→Int→Int × Bool
 | [],_,n=>(n,false)
 | e::l,m,n=>if n>m then (n,true) else dX l m (n+fw e (m - n))
mutual
def iQ:aa→Int→Int→Int × Bool
 | .mk _ s _ ex _ _ th _ el,m,n0 =>
  let a:=dX ex m (n0+1+(s.size:Int))
  if a.2=true then (a.1,true)
  else if a.1>m then (a.1,true)
  else
   let n:=a.1+aB th (m - a.1) 0
   if n>m then (n,true) else (n+aB el (m - n) 0,false)
def aB:List aa→Int→Int→Int
 | [],_,n=>n
 | s::l,m,n=>if (iQ s m n).2=true then (iQ s m n).1 else aB l m (iQ s m n).1
end
def BV (e:ae):Nat:=(e.pre.map fun x=>1+x.name.size).sum
def fQ (l:List ae):Nat:=(l.map BV).sum
theorem JY (e:ae):BV e=1+e.name.size+fQ e.subs:=by
 unfold fQ BV;rw [ae.pre_eq,List.map_cons,List.sum_cons]
 congr 1
 induction e.subs with
 | nil=>rfl
 | cons x l ih =>
  rw [List.flatMap_cons,List.map_append,List.sum_append,List.map_cons,List.sum_cons,ih]
def fF:List aa→Nat:=fun l=>((l.flatMap aa.pre).map fun x=>1+x.name.size+fQ x.exprs).sum
theorem pu (s:aa) (l:List aa):fF (s::l)=1+s.name.size+fQ s.exprs+fF s.thn+fF s.els+fF l:=by
 unfold fF;rw [List.flatMap_cons,aa.pre_eq];simp only [List.cons_append,List.map_cons,List.sum_cons,List.map_append,List.sum_append];omega
theorem yG:fF []=0:=rfl
theorem vB:∀(l:List ae),(∀e∈l,∀m,1≤fw e m)→∀m n,n≤iB l m n
 | [],_,m,n=>by rw [iB];omega
 | e::l,h,m,n=>by
  rw [iB]
  split
  ·omega
  ·have h1:=h e (List.mem_cons_self ..) (m - n)
   have h2:=vB l (fun x hx=>h x (List.mem_cons_of_mem _ hx)) m (n+fw e (m - n));omega
theorem p9 (e:ae):∀m,1≤fw e m:=by
 induction e using ae.ind with
 | h k o v w n sp l ih =>
  intro m;rw [fw];have:=vB l ih m (1+(n.size:Int));omega
theorem ER (l:List ae) (m n:Int):n≤iB l m n:=vB l (fun e _=>p9 e) m n
theorem ng:∀(l:List ae) (m n:Int),n≤(dX l m n).1
 | [],m,n=>by rw [dX];exact Int.le_refl _
 | e::l,m,n=>by
  rw [dX]
  split
  ·exact Int.le_refl _
  ·have h1:=p9 e (m - n)
   have h2:=ng l m (n+fw e (m - n));omega
theorem xR:∀(l:List ae),(∀e∈l,∀m,fw e m≤m→fw e m=BV e)→∀m n,iB l m n≤m→iB l m n=n+fQ l
 | [],_,m,n,_=>by rw [iB];show n=n+((0:Nat):Int);omega
 | e::l,h,m,n,hl=>by
  rw [iB] at hl ⊢;have e1:fQ (e::l)=BV e+fQ l:=by unfold fQ;rw [List.map_cons,List.sum_cons]
  split at hl
  ·omega
  ·next hn =>
   rw [if_neg hn];have h1:=ER l m (n+fw e (m - n));have h2:=h e (List.mem_cons_self ..) (m - n) (by omega);have h3:=xR l (fun x hx=>h x (List.mem_cons_of_mem _ hx)) m (n+fw e (m - n)) hl;rw [h3,e1];omega
theorem GY (e:ae):∀m,fw e m≤m→fw e m=BV e:=by
 induction e using ae.ind with
 | h k o v w n sp l ih =>
  intro m hm;rw [fw] at hm ⊢;rw [xR l ih m _ hm,JY];show 1+(n.size:Int)+(fQ l:Nat)=((1+n.size+fQ l:Nat):Int);omega
theorem q8:∀(l:List ae) (m n:Int),(dX l m n).1≤m→(dX l m n)=(n+fQ l,false)
 | [],m,n,_=>by rw [dX];show (n,false)=(n+((0:Nat):Int),false);rw [show n+((0:Nat):Int)=n by omega]
 | e::l,m,n,hl=>by
  rw [dX] at hl ⊢;have e1:fQ (e::l)=BV e+fQ l:=by unfold fQ;rw [List.map_cons,List.sum_cons]
  split at hl
  ·omega
  ·next hn =>
   rw [if_neg hn];have h1:=ng l m (n+fw e (m - n));have h2:=GY e (m - n) (by omega);rw [q8 l m (n+fw e (m - n)) hl,h2,e1]
   congr 1
   omega
theorem JB (s:aa) (h1:∀m n,n≤aB s.thn m n) (h2:∀m n,n≤aB s.els m n) (m n:Int):n+1≤(iQ s m n).1:=by
 obtain ⟨k,nm,es,ex,b,ts,th,os,el⟩:=s;have h3:=ng ex m (n+1+(nm.size:Int));change ∀m n,n≤aB th m n at h1;change ∀m n,n≤aB el m n at h2;rw [iQ];obtain ⟨a,ha⟩:∃a,dX ex m (n+1+(nm.size:Int))=a:=⟨_,rfl⟩;rw [ha] at h3;simp only [ha];by_cases c1:a.2=true
 ·simp only [c1,if_true]
  omega
 ·simp only [c1]
  by_cases c2:a.1>m
  ·simp only [c2,if_true]
   show n+1≤a.1;omega
  ·simp only [c2,if_false]
   have h4:=h1 (m - a.1) 0;by_cases c3:a.1+aB th (m - a.1) 0>m
   ·simp only [c3,if_true]
    show n+1≤a.1+aB th (m - a.1) 0;omega
   ·simp only [c3,if_false]
    have h5:=h2 (m - (a.1+aB th (m - a.1) 0)) 0;show n+1≤a.1+aB th (m - a.1) 0+aB el _ 0;omega
theorem p8:∀(l:List aa),(∀s∈l,∀m n,n+1≤(iQ s m n).1)→∀m n,n≤aB l m n
 | [],_,m,n=>by rw [aB];omega
 | s::l,h,m,n=>by
  rw [aB];have h1:=h s (List.mem_cons_self ..) m n
  split
  ·omega
  ·have h2:=p8 l (fun x hx=>h x (List.mem_cons_of_mem _ hx)) m (iQ s m n).1
   omega
theorem vz (s:aa):∀m n,n+1≤(iQ s m n).1:=by
 induction s using aa.ind with
 | h k nm es ex b ts th os el i1 i2=>exact JB _ (p8 th i1) (p8 el i2)
theorem jH (l:List aa) (m n:Int):n≤aB l m n:=p8 l (fun s _=>vz s) m n
def zO (s:aa):Nat:=1+s.name.size+fQ s.exprs+fF s.thn+fF s.els
theorem GV (s:aa) (h1:∀m n,aB s.thn m n≤m→aB s.thn m n=n+fF s.thn) (h2:∀m n,aB s.els m n≤m→aB s.els m n=n+fF s.els) (m n:Int) (hm:(iQ s m n).1≤m):iQ s m n=(n+zO s,false):=by
 obtain ⟨k,nm,es,ex,b,ts,th,os,el⟩:=s;change ∀m n,aB th m n≤m→aB th m n=n+fF th at h1;change ∀m n,aB el m n≤m→aB el m n=n+fF el at h2;rw [iQ] at hm ⊢;have h6:∀c d:Int,c≤c+aB th d 0:=fun c d=>by have:=jH th d 0;omega
 have h7:∀c d:Int,c≤c+aB el d 0:=fun c d=>by have:=jH el d 0;omega
 by_cases c1:(dX ex m (n+1+(nm.size:Int))).2=true
 ·simp only [c1,if_true] at hm
  have:=q8 ex m (n+1+(nm.size:Int)) hm;rw [this] at c1;cases c1
 ·simp only [c1] at hm ⊢
  by_cases c2:(dX ex m (n+1+(nm.size:Int))).1>m
  ·simp only [c2,if_true] at hm
   exact absurd hm (by simp;omega)
  ·simp only [c2,if_false] at hm ⊢
   have e1:=q8 ex m (n+1+(nm.size:Int)) (by omega);rw [e1] at hm ⊢;simp only at hm ⊢;by_cases c3:n+1+(nm.size:Int)+(fQ ex:Int)+aB th (m - (n+1+(nm.size:Int)+(fQ ex:Int))) 0>m
   ·simp only [c3,if_true] at hm
    exact absurd hm (by simp;omega)
   ·simp only [c3,if_false] at hm ⊢
    have e2:=h1 (m - (n+1+(nm.size:Int)+(fQ ex:Int))) 0 (by show aB th _ 0≤_;omega);change aB th _ 0=_ at e2;rw [e2] at hm ⊢;change _+aB el _ 0≤m at hm;have e3:=h2 (m - (n+1+(nm.size:Int)+(fQ ex:Int)+(0+(fF th:Int)))) 0 (by show aB el _ 0≤_;omega);change aB el _ 0=_ at e3;show (n+1+(nm.size:Int)+(fQ ex:Int)+(0+(fF th:Int))+aB el _ 0,false)=_;rw [e3]
    congr 1
    show n+1+(nm.size:Int)+(fQ ex:Int)+(0+(fF th:Int))+(0+(fF el:Int))=n+((1+nm.size+fQ ex+fF th+fF el:Nat):Int);omega
theorem lm:∀(l:List aa),(∀s∈l,∀m n,(iQ s m n).1≤m→iQ s m n=(n+zO s,false))→∀m n,aB l m n≤m→aB l m n=n+fF l
 | [],_,m,n,_=>by rw [aB,yG];omega
 | s::l,h,m,n,hl=>by
  rw [aB] at hl ⊢;have hs:=h s (List.mem_cons_self ..) m n;have e1:fF (s::l)=zO s+fF l:=pu s l
  split at hl
  ·next hb =>
   rw [hs hl] at hb;cases hb
  ·next hb =>
   rw [if_neg hb];have h1:=jH l m (iQ s m n).1;have h2:=hs (by omega);have h3:=lm l (fun x hx=>h x (List.mem_cons_of_mem _ hx)) m _ hl;rw [h3,h2,e1];show n+(zO s:Int)+(fF l:Int)=_;omega
theorem EP (s:aa):∀m n,(iQ s m n).1≤m→iQ s m n=(n+zO s,false):=by
 induction s using aa.ind with
 | h k nm es ex b ts th os el i1 i2=>exact GV _ (lm th i1) (lm el i2)
theorem EQ (l:List aa) (m n:Int) (h:aB l m n≤m):aB l m n=n+fF l:=lm l (fun s _=>EP s) m n h
def pO (e:ae):Prop:=∀y∈e.pre,y.name.size≤140737488355328
def kV (s:aa):Prop:=∀x∈s.pre,x.name.size≤140737488355328∧∀e∈x.exprs,pO e
theorem pO.sub {e:ae} (h:pO e):∀s∈e.subs,pO s:=fun s hs y hy=>h y (by rw [ae.pre_eq];exact List.mem_cons_of_mem _ (List.mem_flatMap.2 ⟨s,hs,hy⟩))
theorem pO.own {e:ae} (h:pO e):e.name.size≤140737488355328:=h e (by rw [ae.pre_eq];exact List.mem_cons_self ..)
theorem kV.thn {s:aa} (h:kV s):∀t∈s.thn,kV t:=fun t ht x hx=>h x (by
 rw [aa.pre_eq];exact List.mem_cons_of_mem _ (List.mem_append_left _ (List.mem_flatMap.2 ⟨t,ht,hx⟩)))
theorem kV.els {s:aa} (h:kV s):∀t∈s.els,kV t:=fun t ht x hx=>h x (by
 rw [aa.pre_eq];exact List.mem_cons_of_mem _ (List.mem_append_right _ (List.mem_flatMap.2 ⟨t,ht,hx⟩)))
theorem kV.own {s:aa} (h:kV s):s.name.size≤140737488355328∧∀e∈s.exprs,pO e:=h s (by rw [aa.pre_eq];exact List.mem_cons_self ..)
theorem AU:∀(l:List ae),(∀e∈l,∀m:Int,0≤m→fw e m≤m+140737488355329)→∀m n:Int,n≤m+140737488355329→iB l m n≤m+140737488355329
 | [],_,m,n,hn=>by rw [iB];exact hn
 | e::l,h,m,n,hn=>by
  rw [iB]
  split
  ·exact hn
  ·have h1:=h e (List.mem_cons_self ..) (m - n) (by omega)
   exact AU l (fun x hx=>h x (List.mem_cons_of_mem _ hx)) m _ (by omega)
theorem zg (e:ae):pO e→∀m:Int,0≤m→fw e m≤m+140737488355329:=by
 induction e using ae.ind with
 | h k o v w n sp l ih =>
  intro h m hm;rw [fw];have h1:n.size≤140737488355328:=h.own;exact AU l (fun e he=>ih e he (h.sub e he)) m _ (by omega)
theorem AR (X m:Int) (hX:m+140737488355329≤X):∀(l:List ae),(∀e∈l,pO e)→∀n:Int,n≤X→(dX l m n).1≤X
 | [],_,n,hn=>by rw [dX];exact hn
 | e::l,h,n,hn=>by
  rw [dX]
  split
  ·exact hn
  ·have h1:=zg e (h e (List.mem_cons_self ..)) (m - n) (by omega)
   exact AR X m hX l (fun x hx=>h x (List.mem_cons_of_mem _ hx)) _ (by omega)
theorem Ee (s:aa) (hs:kV s) (m n:Int) (hm:0≤m) (h0:0≤n) (hn:n≤m+m*140737488355329)
  (h1:∀d:Int,0≤d→d<m→aB s.thn d 0≤d+(d+1)*140737488355329) (h2:∀d:Int,0≤d→d<m→aB s.els d 0≤d+(d+1)*140737488355329) :
  (iQ s m n).1≤m+(m+1)*140737488355329∧((iQ s m n).2=false→(iQ s m n).1≤m+m*140737488355329):=by
 obtain ⟨k,nm,es,ex,b,ts,th,os,el⟩:=s;have hnm:nm.size≤140737488355328:=hs.own.1;have h3:=AR (m+(m+1)*140737488355329) m (by omega) ex hs.own.2 (n+1+(nm.size:Int)) (by omega);have h4:=ng ex m (n+1+(nm.size:Int));change ∀d:Int,0≤d→d<m→aB th d 0≤d+(d+1)*140737488355329 at h1;change ∀d:Int,0≤d→d<m→aB el d 0≤d+(d+1)*140737488355329 at h2;rw [iQ];obtain ⟨a,ha⟩:∃a,dX ex m (n+1+(nm.size:Int))=a:=⟨_,rfl⟩;rw [ha] at h3 h4;simp only [ha];by_cases c1:a.2=true
 ·simp only [c1,if_true]
  exact ⟨h3,fun h=>by cases h⟩
 ·simp only [c1]
  by_cases c2:a.1>m
  ·simp only [c2,if_true]
   exact ⟨h3,fun h=>by cases h⟩
  ·simp only [c2,if_false]
   have h5:=h1 (m - a.1) (by omega) (by omega);have h6:=jH th (m - a.1) 0;by_cases c3:a.1+aB th (m - a.1) 0>m
   ·simp only [c3,if_true]
    exact ⟨by show a.1+aB th (m - a.1) 0≤_;omega,fun h=>by cases h⟩
   ·simp only [c3,if_false]
    have h7:=h2 (m - (a.1+aB th (m - a.1) 0)) (by omega) (by omega);exact ⟨by show a.1+aB th (m - a.1) 0+aB el _ 0≤_;omega,fun _=>by show a.1+aB th (m - a.1) 0+aB el _ 0≤_;omega⟩
theorem kE:∀(k:Nat) (l:List aa),(∀s∈l,kV s)→∀m:Int,0≤m→m≤k→∀n:Int,0≤n→n≤m+m*140737488355329→aB l m n≤m+(m+1)*140737488355329
 | _,[],_,m,hm,_,n,_,hn=>by rw [aB];omega
 | 0,s::l,h,m,hm,hk,n,h0,hn=>by
  rw [aB];have hb:=Ee s (h s (List.mem_cons_self ..)) m n hm h0 hn (fun d h1 h2=>by omega) fun d h1 h2=>by omega
  have hp:=vz s m n
  split
  ·exact hb.1
  ·next hc =>
   exact kE 0 l (fun x hx=>h x (List.mem_cons_of_mem _ hx)) m hm hk _ (by omega) (hb.2 (by simpa using hc))
 | k+1,s::l,h,m,hm,hk,n,h0,hn=>by
  rw [aB];have hs:=h s (List.mem_cons_self ..);have hb:=Ee s hs m n hm h0 hn (fun d h1 h2=>kE k s.thn hs.thn d h1 (by omega) 0 (by omega) (by omega)) fun d h1 h2=>kE k s.els hs.els d h1 (by omega) 0 (by omega) (by omega)
  have hp:=vz s m n
  split
  ·exact hb.1
  ·next hc =>
   exact kE (k+1) l (fun x hx=>h x (List.mem_cons_of_mem _ hx)) m hm hk _ (by omega) (hb.2 (by simpa using hc))
termination_by k l=>(k,l.length)
theorem uu (s:aa) (m n:Int):iQ s m n=(let a:=dX s.exprs m (n+1+(s.name.size:Int))
  if a.2=true then (a.1,true)
  else if a.1>m then (a.1,true)
  else
   let n:=a.1+aB s.thn (m - a.1) 0
   if n>m then (n,true) else (n+aB s.els (m - n) 0,false)):=by cases s;rw [iQ];rfl
theorem CR {s:aa} {m n a:Int} (h:dX s.exprs m (n+1+(s.name.size:Int))=(a,true)):iQ s m n=(a,true):=by
 rw [uu,h];rfl
theorem CS {s:aa} {m n a:Int} (h:dX s.exprs m (n+1+(s.name.size:Int))=(a,false)) (h2:a>m):iQ s m n=(a,true):=by
 rw [uu,h];simp only;rw [if_neg (by decide),if_pos h2]
theorem CU {s:aa} {m n a:Int} (h:dX s.exprs m (n+1+(s.name.size:Int))=(a,false)) (h2:¬a>m) (h3:a+aB s.thn (m - a) 0>m):iQ s m n=(a+aB s.thn (m - a) 0,true):=by
 rw [uu,h];simp only;rw [if_neg (by decide),if_neg h2,if_pos h3]
theorem JC {s:aa} {m n a:Int} (h:dX s.exprs m (n+1+(s.name.size:Int))=(a,false)) (h2:¬a>m) (h3:¬a+aB s.thn (m - a) 0>m):iQ s m n=(a+aB s.thn (m - a) 0+aB s.els (m - (a+aB s.thn (m - a) 0)) 0,false):=by
 rw [uu,h];simp only;rw [if_neg (by decide),if_neg h2,if_neg h3]
theorem oJ {s:aa} {l:List aa} {m n a:Int} (h:iQ s m n=(a,true)):aB (s::l) m n=a:=by rw [aB,h];rfl
theorem GX {s:aa} {l:List aa} {m n a:Int} (h:iQ s m n=(a,false)):aB (s::l) m n=aB l m a:=by rw [aB,h];rfl
end
section
open Go Go.RowKit Go.Maps
theorem fu {x:Int} (h:-9000000000000000000≤x∧x≤9000000000000000000):wrap64 x=x:=IntWalk.wrap64_in _ ⟨by omega,by omega⟩
def Cj (n0:Nat) (W0:World) (e:ae):Prop:=∀W,Below n0 W0 W→n0≤W.heap.size→∀m:Int,0≤m→m≤60000 →
 Calls Tryz.prog 154 #[.agg #[.int .u8 e.kind,.int .u8 e.op,.int .u32 e.value,.int .i64 e.width,.string e.name,.slice e.sp.at_ e.subs.length e.sp.cap],.int .i64 m] W fun o w'=>o=.returned (.int .i64 (fw e m))∧Below W.heap.size W w'
theorem JD (e:ae) (m:Int):fw e m=iB e.subs m (1+(e.name.size:Int)):=by cases e;rw [fw];rfl
set_option maxRecDepth 1000000 in
set_option maxHeartbeats 1600000 in
theorem G5 {n0:Nat} {W0:World} {e:ae} (hr:iw n0 W0 e) (hn:pO e) (ih:∀s∈e.subs,Cj n0 W0 s):Cj n0 W0 e:=by
 intro w hw0 hn0 m hm0 hm1;have HR:=zhd ((hr.stays hw0).more hn0);have HIH:=zhd fun (i:Nat) (hi:i<e.subs.length) (W:World) (hW:Below w.heap.size w W)=>ih _ (List.getElem_mem hi) W (hw0.trans (hW.mono hn0)) (Nat.le_trans hn0 hW.size)
 have HSN:=zhd fun (i:Nat) (hi:i<e.subs.length)=>hn.sub _ (List.getElem_mem hi)
 have hfew:=hr.row.few;have hcap:=hr.row.cap;have hbig:=hr.row.big;have hnm:=hn.own;have hst:=JD e m;have HST:=zhd hst;clear hr hn ih hw0 hst;have hw1:wrap64 (1+(e.name.size:Int))=1+(e.name.size:Int):=fu (by omega);go_enter Tryz.func154,Tryz.ntmps154
 go_wp2_with fail
 clear hw1;have hb0:=zba w (.cells #[.int .u8 e.kind,.int .u8 e.op,.int .u32 e.value,.int .i64 e.width,.string e.name,.slice e.sp.at_ e.subs.length e.sp.cap] 30);go_loopw [15,5] (fun s15 s5 wr=>∃(k:Nat) (n:Int),k≤e.subs.length∧s15=.int .i64 k∧s5=.int .i64 n∧0≤n∧n≤m+140737488355329∧fw e m=iB (e.subs.drop k) m n∧Below w.heap.size w wr) (fun s15 _ _=>e.subs.length - (intOf s15).toNat)
 case atStart=>exact ⟨0,_,Nat.zero_le _,rfl,rfl,by omega,by omega,HST.out,hb0⟩
 case round =>
  clear hb0;obtain ⟨k,n,hk,rfl,rfl,hp,hq,hd,hb⟩:=hrel;have HD:=zhd hd;have HB:=zhd hb;clear hd hb;have hk0:(0:Int)≤(k:Int):=by omega
  by_cases hlt:k<e.subs.length
  ·obtain ⟨g,o,eA,hg,hc⟩:=(HR.out.row.below HB.out).row (by omega)
   have hc2:=hc k hlt;have HSTE:Hid (iB (e.subs.drop k) m n=if n>m then n else iB (e.subs.drop (k+1)) m (n+fw e.subs[k] (m - n))):=zhd (by rw [List.drop_eq_getElem_cons hlt,iB]);have HCALL:=zhd (HIH.out k hlt);have HSNK:=zhd (HSN.out k hlt);have hk1:(k:Int)<(e.subs.length:Int):=by omega
   clear hc;generalize e.subs[k]=s at *;have k0:=hc2 0 _ rfl;rw [Nat.add_zero] at k0;have k1:=hc2 1 _ rfl;have k2:=hc2 2 _ rfl;have k3:=hc2 3 _ rfl;have k4:=hc2 4 _ rfl;have k5:wr.cell? ⟨g,o+k*6+5,none⟩=some (.slice s.sp.at_ s.subs.length s.sp.cap):=hc2 5 _ rfl;have hba:=zba wr (.cells #[.int .u8 s.kind,.int .u8 s.op,.int .u32 s.value,.int .i64 s.width,.string s.name,.slice s.sp.at_ s.subs.length s.sp.cap] 30);have HBA:=zhd (HB.out.trans (hba.mono HB.out.size));have hxa:=zan wr (.cells #[.int .u8 s.kind,.int .u8 s.op,.int .u32 s.value,.int .i64 s.width,.string s.name,.slice s.sp.at_ s.subs.length s.sp.cap] 30);clear hc2 hba;rw [eA];go_upto_region 5 with fail
   clear k0 k1 k2 k3 k4 k5;generalize wr.alloc (.cells #[.int .u8 s.kind,.int .u8 s.op,.int .u32 s.value,.int .i64 s.width,.string s.name,.slice s.sp.at_ s.subs.length s.sp.cap] 30)=W5 at *;generalize wr.heap.size=bx at *;obtain ⟨x0,x1,x2,x3,x4,x5⟩:=ag hxa;clear hxa;by_cases hgt:n>m
   ·have HE:Hid (fw e m=n):=zhd (by rw [HD.out,HSTE.out,if_pos hgt])
    have hgt2:m<n:=hgt;clear hgt;go_wp2_with fail
    go_ret
    exact ⟨by rw [HE.out];rfl,HBA.out⟩
   ·have hgt2:¬m<n:=hgt
    have HE:Hid (fw e m=iB (e.subs.drop (k+1)) m (n+fw s (m - n))):=zhd (by rw [HD.out,HSTE.out,if_neg hgt]);have h1:=zg s HSNK.out (m - n) (by omega);have h2:=p9 s (m - n);have hw2:wrap64 (m - n)=m - n:=fu (by omega);have hw3:wrap64 (n+fw s (m - n))=n+fw s (m - n):=fu (by omega);have HC:=zhd (HCALL.out W5 HBA.out (m - n) (by omega) (by omega));have HQ:Hid (0≤n+fw s (m - n)∧n+fw s (m - n)≤m+140737488355329):=zhd ⟨by omega,by omega⟩;clear h1 h2 hgt HSTE HD;generalize fw s (m - n)=f at *;go_wp2_with fail
    refine HC.out.mono ?_;rintro o w6 ⟨rfl,hb6⟩;have HB6:=zhd (HBA.out.trans (hb6.mono HBA.out.size));clear hb6 HC;go_wp2_with fail
    rw [hw3];clear hw3;go_roundw
    case rel=>exact ⟨k+1,_,hlt,by go_num,rfl,HQ.out.1,HQ.out.2,HE.out,HB6.out⟩
    case measure=>simp [intOf];omega
  ·obtain rfl:k=e.subs.length:=by omega
   have HE:Hid (fw e m=n):=zhd (by rw [HD.out,List.drop_length,iB]);go_wp2_with fail
   go_ret
   exact ⟨by rw [HE.out];rfl,HB.out⟩
theorem JE {n0:Nat} {W0:World} {e:ae} (hr:iw n0 W0 e):pO e→Cj n0 W0 e:=by
 induction hr with
 | mk e k o v w n row subs ih=>exact fun h=>G5 (.mk e k o v w n row subs) h fun s hs=>ih s hs (h.sub s hs)
def mW (n0:Nat) (W0:World) (sp:Sp) (l:List aa):Prop:=∀W,Below n0 W0 W→n0≤W.heap.size→∀m:Int,0≤m→m≤60000 →
 Calls Tryz.prog 91 #[.slice sp.at_ l.length sp.cap,.int .i64 m] W fun o w'=>o=.returned (.int .i64 (aB l m 0))∧Below W.heap.size W w'
set_option maxRecDepth 1000000 in
set_option maxHeartbeats 1600000 in
theorem q9 {n0:Nat} {W0:World} {sp:Sp} {l:List aa} (hr:bX n0 W0 sp l) (hn:∀s∈l,kV s) (ih:∀s∈l,mW n0 W0 s.ts s.thn∧mW n0 W0 s.os s.els):mW n0 W0 sp l:=by
 intro w hw0 hn0 m hm0 hm1;have HR:=zhd ((hr.below hw0).more hn0);have HIH:=zhd fun (i:Nat) (hi:i<l.length) (W:World) (hW:Below w.heap.size w W)=>And.intro ((ih _ (List.getElem_mem hi)).1 W (hw0.trans (hW.mono hn0)) (Nat.le_trans hn0 hW.size)) ((ih _ (List.getElem_mem hi)).2 W (hw0.trans (hW.mono hn0)) (Nat.le_trans hn0 hW.size))
 have HXS:=zhd fun (i:Nat) (hi:i<l.length) (x:ae) (hx:x∈l[i].exprs) (W:World) (hW:Below w.heap.size w W)=>JE (((hr.ok _ (List.getElem_mem hi)).xs.ok x hx)) ((hn _ (List.getElem_mem hi)).own.2 x hx) W (hw0.trans (hW.mono hn0)) (Nat.le_trans hn0 hW.size)
 have HNT:=zhd fun (i:Nat) (hi:i<l.length)=>hn _ (List.getElem_mem hi)
 have hfew:=hr.row.few;have hcap:=hr.row.cap;have hbig:=hr.row.big;clear hr hn ih hw0;go_enter Tryz.func91,Tryz.ntmps91
 go_wp2_with fail
 go_loopw [12,5] (fun s12 s5 wr=>∃(k:Nat) (n:Int),k≤l.length∧s12=.int .i64 k∧s5=.int .i64 n∧0≤n∧n≤m+m*140737488355329∧aB l m 0=aB (l.drop k) m n∧Below w.heap.size w wr) (fun s12 _ _=>l.length - (intOf s12).toNat)
 case atStart=>exact ⟨0,0,Nat.zero_le _,rfl,rfl,by omega,by omega,rfl,Below.refl _ _⟩
 case round =>
  obtain ⟨k,n,hk,rfl,rfl,hp,hq,hd,hb⟩:=hrel;have HD:=zhd hd;have HB:=zhd hb;clear hd hb;have hk0:(0:Int)≤(k:Int):=by omega
  by_cases hlt:k<l.length
  ·obtain ⟨g,o,eA,hg,hc⟩:=(HR.out.row.below HB.out).row (by omega)
   have hc2:=hc k hlt;have HDR:Hid (l.drop k=l[k]::l.drop (k+1)):=zhd (List.drop_eq_getElem_cons hlt);have HS:=zhd (HR.out.ok _ (List.getElem_mem hlt));have HTH:=zhd fun (W:World) (hW:Below w.heap.size w W)=>(HIH.out k hlt W hW).1
   have HEL:=zhd fun (W:World) (hW:Below w.heap.size w W)=>(HIH.out k hlt W hW).2
   have HXX:=zhd fun (j:Nat) (hj:j<l[k].exprs.length)=>HXS.out k hlt _ (List.getElem_mem hj)
   have HNK:=zhd (HNT.out k hlt);have hk1:(k:Int)<(l.length:Int):=by omega
   clear hc;generalize l[k]=s at *;have k0:=hc2 0 _ rfl;rw [Nat.add_zero] at k0;have k1:=hc2 1 _ rfl;have k2:wr.cell? ⟨g,o+k*6+2,none⟩=some (.slice s.es.at_ s.exprs.length s.es.cap):=hc2 2 _ rfl;have k3:=hc2 3 _ rfl;have k4:wr.cell? ⟨g,o+k*6+4,none⟩=some (.slice s.ts.at_ s.thn.length s.ts.cap):=hc2 4 _ rfl;have k5:wr.cell? ⟨g,o+k*6+5,none⟩=some (.slice s.os.at_ s.els.length s.os.cap):=hc2 5 _ rfl;have hba:=zba wr (.cells #[.int .u8 s.kind,.string s.name,.slice s.es.at_ s.exprs.length s.es.cap,.int .i64 s.bound,.slice s.ts.at_ s.thn.length s.ts.cap,.slice s.os.at_ s.els.length s.os.cap] 43);have hbl:=HB.out.trans (hba.mono HB.out.size);have hxa:=zan wr (.cells #[.int .u8 s.kind,.string s.name,.slice s.es.at_ s.exprs.length s.es.cap,.int .i64 s.bound,.slice s.ts.at_ s.thn.length s.ts.cap,.slice s.os.at_ s.els.length s.os.cap] 43);have HRX:=zhd ((eu.stays HS.out hbl).xs.more hbl.size);have HBA:=zhd hbl;clear hc2 hba hbl;rw [eA];go_upto_region 5 with fail
   clear k0 k1 k2 k3 k4 k5;generalize wr.alloc (.cells #[.int .u8 s.kind,.string s.name,.slice s.es.at_ s.exprs.length s.es.cap,.int .i64 s.bound,.slice s.ts.at_ s.thn.length s.ts.cap,.slice s.os.at_ s.els.length s.os.cap] 43)=W5 at *;generalize wr.heap.size=bx at *;obtain ⟨x0,x1,x2,x3,x4,x5⟩:=ag hxa;have HXA:=zhd hxa;have hnm:=HNK.out.own.1;have hxcap:=HRX.out.row.cap;have hxbig:=HRX.out.row.big;have hxfew:=HRX.out.row.few;obtain ⟨a0,ha0⟩:∃a0,a0=n+1+(s.name.size:Int):=⟨_,rfl⟩;have hA0:0<a0∧a0≤m+(m+1)*140737488355329:=by omega
   have hb1:-9000000000000000000≤1+(s.name.size:Int)∧1+(s.name.size:Int)≤9000000000000000000:=by omega
   have hb2:-9000000000000000000≤a0∧a0≤9000000000000000000:=by omega
   have he0:n+(1+(s.name.size:Int))=a0:=by omega
   have hw1:wrap64 (1+(s.name.size:Int))=1+(s.name.size:Int):=fu hb1;have hw2:wrap64 (n+(1+(s.name.size:Int)))=a0:=by rw [he0];exact fu hb2
   have HA0:=zhd ha0;have HA1:=zhd hA0;clear hxa hb1 hb2 he0 ha0 hnm hp hq hA0 hxcap hxbig hxfew;go_upto_region 6 with fail
   rw [hw2];clear hw1 hw2;have hA0:=HA1.out;have hxcap:=HRX.out.row.cap;have hxbig:=HRX.out.row.big;have hxfew:=HRX.out.row.few;go_wp2_with fail
   go_loopw [25,5] (fun s25 s5 wq=>∃(j:Nat) (c:Int),j≤s.exprs.length∧s25=.int .i64 j∧s5=.int .i64 c∧0<c∧c≤m+(m+1)*140737488355329∧dX s.exprs m a0=dX (s.exprs.drop j) m c∧Below W5.heap.size W5 wq) (fun s25 _ _=>s.exprs.length - (intOf s25).toNat)
   case atStart=>exact ⟨0,a0,Nat.zero_le _,rfl,rfl,hA0.1,hA0.2,rfl,Below.refl _ _⟩
   case round =>
    clear hA0;obtain ⟨wq,rfl⟩:∃wq:World,wq=wr:=⟨_,rfl⟩;obtain ⟨j,c,hj,rfl,rfl,hp,hq,he,hbq⟩:=hrel;have HE:=zhd he;have HBQ:=zhd hbq;have HL:=zhd (HBA.out.trans (hbq.mono HBA.out.size));clear he hbq;have hj0:(0:Int)≤(j:Int):=by omega
    by_cases hltj:j<s.exprs.length
    ·obtain ⟨g2,o2,eB,hg2,hcx⟩:=(HRX.out.row.below HBQ.out).row (by omega)
     have hcx2:=hcx j hltj;have HSTE:Hid (dX (s.exprs.drop j) m c=if c>m then (c,true) else dX (s.exprs.drop (j+1)) m (c+fw s.exprs[j] (m - c))):=zhd (by rw [List.drop_eq_getElem_cons hltj,dX]);have HCALL:=zhd (HXX.out j hltj);have HOX:=zhd (HNK.out.own.2 _ (List.getElem_mem hltj));have hj1:(j:Int)<(s.exprs.length:Int):=by omega
     clear hcx;generalize s.exprs[j]=x at *;have k0:=hcx2 0 _ rfl;rw [Nat.add_zero] at k0;have k1:=hcx2 1 _ rfl;have k2:=hcx2 2 _ rfl;have k3:=hcx2 3 _ rfl;have k4:=hcx2 4 _ rfl;have k5:wq.cell? ⟨g2,o2+j*6+5,none⟩=some (.slice x.sp.at_ x.subs.length x.sp.cap):=hcx2 5 _ rfl;have hba:=zba wq (.cells #[.int .u8 x.kind,.int .u8 x.op,.int .u32 x.value,.int .i64 x.width,.string x.name,.slice x.sp.at_ x.subs.length x.sp.cap] 30);have HBA2:=zhd (HL.out.trans (hba.mono HL.out.size));have HBQ2:=zhd (HBQ.out.trans (hba.mono HBQ.out.size));have hxa:=zan wq (.cells #[.int .u8 x.kind,.int .u8 x.op,.int .u32 x.value,.int .i64 x.width,.string x.name,.slice x.sp.at_ x.subs.length x.sp.cap] 30);clear hcx2 hba;rw [eB];go_upto_region 9 with fail
     clear k0 k1 k2 k3 k4 k5;generalize wq.alloc (.cells #[.int .u8 x.kind,.int .u8 x.op,.int .u32 x.value,.int .i64 x.width,.string x.name,.slice x.sp.at_ x.subs.length x.sp.cap] 30)=W9 at *;generalize wq.heap.size=by_ at *;obtain ⟨y0,y1,y2,y3,y4,y5⟩:=ag hxa;clear hxa;by_cases hgt:c>m
     ·have HF:Hid (aB l m 0=c):=zhd (by rw [HD.out,HDR.out];exact oJ (CR (by rw [←HA0.out,HE.out,HSTE.out,if_pos hgt])))
      have hgt2:m<c:=hgt;clear hgt;go_wp2_with fail
      go_ret
      exact ⟨by rw [HF.out];rfl,HBA2.out⟩
     ·have hgt2:¬m<c:=hgt
      have HF:Hid (dX s.exprs m a0=dX (s.exprs.drop (j+1)) m (c+fw x (m - c))):=zhd (by rw [HE.out,HSTE.out,if_neg hgt]);have h1:=zg x HOX.out (m - c) (by omega);have h2:=p9 x (m - c);have hw2:wrap64 (m - c)=m - c:=fu (by omega);have hw3:wrap64 (c+fw x (m - c))=c+fw x (m - c):=fu (by omega);have HC:=zhd (HCALL.out W9 HBA2.out (m - c) (by omega) (by omega));have HQ:Hid (0<c+fw x (m - c)∧c+fw x (m - c)≤m+(m+1)*140737488355329):=zhd ⟨by omega,by omega⟩;clear h1 h2 hgt HSTE HE;generalize fw x (m - c)=f at *;go_wp2_with fail
      refine HC.out.mono ?_;rintro o w6 ⟨rfl,hb6⟩;have HB6:=zhd (HBQ2.out.trans (hb6.mono HBQ2.out.size));clear hb6 HC;go_wp2_with fail
      rw [hw3];clear hw3;go_roundw
      case rel=>exact ⟨j+1,_,hltj,by go_num,rfl,HQ.out.1,HQ.out.2,HF.out,HB6.out⟩
      case measure=>simp [intOf];omega
    ·obtain rfl:j=s.exprs.length:=by omega
     have HF:Hid (dX s.exprs m (n+1+(s.name.size:Int))=(c,false)):=zhd (by rw [←HA0.out,HE.out,List.drop_length,dX]);have hX:=(HBQ.out.block _ (zgs HXA.out).1).trans HXA.out;clear x0 x1 x2 x3 x4 x5;obtain ⟨x0,x1,x2,x3,x4,x5⟩:=ag hX;clear hX HE HA0;by_cases hgt:c>m
     ·have HG:Hid (aB l m 0=c):=zhd (by rw [HD.out,HDR.out];exact oJ (CS HF.out hgt))
      have hgt2:m<c:=hgt;clear hgt;go_wp2_with fail
      go_ret
      exact ⟨by rw [HG.out];rfl,HL.out⟩
     ·have hgt2:¬m<c:=hgt
      have h1:=kE (m - c).toNat s.thn HNK.out.thn (m - c) (by omega) (by omega) 0 (by omega) (by omega);have h2:=jH s.thn (m - c) 0;have hw2:wrap64 (m - c)=m - c:=fu (by omega);have hw3:wrap64 (c+aB s.thn (m - c) 0)=c+aB s.thn (m - c) 0:=fu (by omega);have HC:=zhd (HTH.out wq HL.out (m - c) (by omega) (by omega));have HST3:=zhd (fun h=>CU HF.out hgt (h:c+aB s.thn (m - c) 0>m));have HST4:=zhd (fun h=>JC HF.out hgt (h:¬c+aB s.thn (m - c) 0>m));clear hgt;generalize aB s.thn (m - c) 0=f at *;go_wp2_with fail
      refine HC.out.mono ?_;rintro o w7 ⟨rfl,hb7⟩;have HL7:=zhd (HL.out.trans (hb7.mono HL.out.size));have HX7:=(hb7.block _ (by have:=(zgs HXA.out).1;have:=HBQ.out.size;omega)).trans ((HBQ.out.block _ (zgs HXA.out).1).trans HXA.out);clear x0 x1 x2 x3 x4 x5 hb7 HC;obtain ⟨x0,x1,x2,x3,x4,x5⟩:=ag HX7;clear HX7;go_upto_region 16 with fail
      clear hw3;obtain ⟨d,hd⟩:∃d,d=c+f:=⟨_,rfl⟩;rw [←hd] at HST3 HST4 ⊢;have hdp:0<d∧d≤m+m*140737488355329:=by omega
      clear h1 h2 hd;by_cases hgt:d>m
      ·have HG:Hid (aB l m 0=d):=zhd (by rw [HD.out,HDR.out];exact oJ (HST3.out (by omega)))
       have hgt2:m<d:=hgt;clear hgt HST3 HST4;go_wp2_with fail
       go_ret
       exact ⟨by rw [HG.out];rfl,HL7.out⟩
      ·have hgt3:¬m<d:=hgt
       have h1:=kE (m - d).toNat s.els HNK.out.els (m - d) (by omega) (by omega) 0 (by omega) (by omega);have h2:=jH s.els (m - d) 0;have hw2:wrap64 (m - d)=m - d:=fu (by omega);have hw3:wrap64 (d+aB s.els (m - d) 0)=d+aB s.els (m - d) 0:=fu (by omega);have HC:=zhd (HEL.out w7 HL7.out (m - d) (by omega) (by omega));have HG:Hid (aB l m 0=aB (l.drop (k+1)) m (d+aB s.els (m - d) 0)):=zhd (by rw [HD.out,HDR.out];exact GX (HST4.out (by omega)));have HQ:Hid (0≤d+aB s.els (m - d) 0∧d+aB s.els (m - d) 0≤m+m*140737488355329):=zhd ⟨by omega,by omega⟩;clear hgt HST3 HST4 h1 h2;generalize aB s.els (m - d) 0=f2 at *;go_wp2_with fail
       refine HC.out.mono ?_;rintro o w8 ⟨rfl,hb8⟩;have HL8:=zhd (HL7.out.trans (hb8.mono HL7.out.size));clear hb8 HC;go_wp2_with fail
       rw [hw3];clear hw3;go_roundw
       case rel=>exact ⟨k+1,_,hlt,by go_num,rfl,HQ.out.1,HQ.out.2,HG.out,HL8.out⟩
       case measure=>simp [intOf];omega
  ·obtain rfl:k=l.length:=by omega
   have HE:Hid (aB l m 0=n):=zhd (by rw [HD.out,List.drop_length,aB]);go_wp2_with fail
   go_ret
   exact ⟨by rw [HE.out];rfl,HB.out⟩
theorem ze {n0:Nat} {W0:World} (sp:Sp) (l:List aa) (hr:bX n0 W0 sp l) (hn:∀s∈l,kV s):mW n0 W0 sp l:=by
 have one:∀s:aa,eu n0 W0 s→kV s→mW n0 W0 s.ts s.thn∧mW n0 W0 s.os s.els:=fun s hr=>by
  induction hr with
  | mk s k b n er ex tr th orow el ih1 ih2=>exact fun h=>⟨q9 ⟨tr,th⟩ h.thn fun t ht=>ih1 t ht (h.thn t ht),q9 ⟨orow,el⟩ h.els fun t ht=>ih2 t ht (h.els t ht)⟩
 exact q9 hr hn fun s hs=>one s (hr.ok s hs) (hn s hs)
theorem AQ (w:World) (sp:Sp) (l:List aa) (hr:bX w.heap.size w sp l) (hn:∀s∈l,kV s) (m:Int) (hm0:0≤m) (hm1:m≤60000) :
  Calls Tryz.prog 25 #[.slice sp.at_ l.length sp.cap,.int .i64 m] w fun o w'=>o=.returned (.bool (decide (aB l m 0≤m)))∧Below w.heap.size w w':=by
 have HC:=zhd (ze sp l hr hn w (Below.refl _ _) (Nat.le_refl _) m hm0 hm1);clear hr hn;go_enter Tryz.func25,Tryz.ntmps25
 go_wp2_with fail
 refine HC.out.mono ?_;rintro o w' ⟨rfl,hb⟩;go_wp2_with fail
 go_ret
 exact ⟨rfl,hb⟩
end
section
open Go Go.RowKit Go.Maps
theorem vo (a b c d:Int) (s:ByteArray) (x:Value):(Tryz.prog.info? 30).map (·.size)=some (#[Value.int .u8 a,.int .u8 b,.int .u32 c,.int .i64 d,.string s,x]:Array Value).size:=by kernel_rfl
def uH (F:Nat) (bs:Array Value) (τ:ByteArray→ByteArray) (n0:Nat) (W0:World):Prop:=(∀(args:Array Value) (W:World),Sem.run Tryz.prog (callFunc F args) W=.ok (.enter F args) W)∧∀W,Below n0 W0 W→n0≤W.heap.size→∀s:ByteArray,s.size≤maxLen →
 Calls Tryz.prog F (#[.string s]++bs) W fun o w'=>o=.returned (.string (τ s))∧w'=W
def xx (F:Nat) (bs:Array Value) (τ:ByteArray→ByteArray) (n0:Nat) (W0:World) (e:ae):Prop:=∀W,Below n0 W0 W→n0≤W.heap.size →
 Calls Tryz.prog 149 #[.agg #[.int .u8 e.kind,.int .u8 e.op,.int .u32 e.value,.int .i64 e.width,.string e.name,.slice e.sp.at_ e.subs.length e.sp.cap],.func (.func F) #[] bs] W fun o w'=>∃e':ae,o=.returned (.agg #[.int .u8 e'.kind,.int .u8 e'.op,.int .u32 e'.value,.int .i64 e'.width,.string e'.name,.slice e'.sp.at_ e'.subs.length e'.sp.cap])∧Co (tX τ) e e'∧gM W.heap.size w' e'∧Below W.heap.size W w'
set_option maxRecDepth 1000000 in
set_option maxHeartbeats 8000000 in
theorem Ht (F:Nat) (bs:Array Value) (τ:ByteArray→ByteArray) (hτ:∀s,s.size≤maxLen→(τ s).size≤maxLen) (n0:Nat) (W0:World) (hT:uH F bs τ n0 W0) (e:ae) (hrd:iw n0 W0 e) (hfew:e.subs.length≤1000000) (ih:∀s,s∈e.subs→xx F bs τ n0 W0 s):xx F bs τ n0 W0 e:=by
 intro w hw0 hn0;have hr:iw w.heap.size w e:=(hrd.stays hw0).more hn0;have HRD:=zhd hr;have HIH:=zhd fun (i:Nat) (hi:i<e.subs.length) (W:World) (hW:Below w.heap.size w W)=>ih _ (List.getElem_mem hi) W (hw0.trans (hW.mono hn0)) (Nat.le_trans hn0 hW.size)
 have HT:=zhd fun (W:World) (hW:Below w.heap.size w W)=>hT.2 W (hw0.trans (hW.mono hn0)) (Nat.le_trans hn0 hW.size)
 have HFEW:=zhd hfew;have hen:=hT.1;obtain ⟨hkd,hop,hvl,hwd,hnm⟩:=(match hr with | .mk _ a b c d e _ _=>⟨a,b,c,d,e⟩:_∧_∧_∧_∧_);have hcap:=hr.row.cap;have hbig:=hr.row.big;clear hrd hw0 ih hfew hr hT;go_enter Tryz.func149,Tryz.ntmps149
 have HFIN:=zhd (fun (W:World) (sa:Option Addr) (sc lo:Nat) (cur:List ae) (h:Gl (tX τ) w W e sa sc lo e.subs.length cur)=>h.fin HRD.out (fun k s hs=>by unfold tX;split;exact hτ s hs;exact hs));obtain ⟨nm',hnm'⟩:∃s,tX τ e.kind e.name=s:=⟨_,rfl⟩;have HNM:=zhd hnm';clear hnm';go_upto_region 1 with fail
 go_cut [14] (fun s14 wx=>s14=.bool (decide (e.kind=2∨e.kind=3))∧((w.alloc (.cells #[.int .u8 e.kind,.int .u8 e.op,.int .u32 e.value,.int .i64 e.width,.string e.name,.slice e.sp.at_ e.subs.length e.sp.cap] 30)).alloc (.cells #[.int .u8 0,.int .u8 0,.int .u32 0,.int .i64 0,.string ⟨#[]⟩,.slice none 0 0] 30))=wx)
 case first =>
  by_cases k2:e.kind=2
  ·have g1:(e.kind == 2)=true:=by simp [k2]
   have g2:(e.kind == 3)=false:=by simp [k2]
   have HD:Hid (decide (e.kind=2∨e.kind=3)=true):=zhd (decide_eq_true (.inl k2));clear k2;go_wp2_with fail
   go_meet
   case rel=>exact ⟨by rw [HD.out],rfl⟩
  ·have g1:(e.kind == 2)=false:=by simp [k2]
   by_cases k3:e.kind=3
   ·have g2:(e.kind == 3)=true:=by simp [k3]
    have HD:Hid (decide (e.kind=2∨e.kind=3)=true):=zhd (decide_eq_true (.inr k3));clear k2 k3;go_wp2_with fail
    go_meet
    case rel=>exact ⟨by rw [HD.out],rfl⟩
   ·have g2:(e.kind == 3)=false:=by simp [k3]
    have HD:Hid (decide (e.kind=2∨e.kind=3)=false):=zhd (decide_eq_false (fun h=>h.elim k2 k3));clear k2 k3;go_wp2_with fail
    go_meet
    case rel=>exact ⟨by rw [HD.out],rfl⟩
 case rest =>
  obtain ⟨h14,hW1⟩:=hcut;subst hW1;have H14:=zhd h14;clear h14
  go_upto_if 14 with fail
  go_cut [18] (fun _ wx=>((w.alloc (.cells #[.int .u8 e.kind,.int .u8 e.op,.int .u32 e.value,.int .i64 e.width,.string nm',.slice e.sp.at_ e.subs.length e.sp.cap] 30)).alloc (.cells #[.int .u8 0,.int .u8 0,.int .u32 0,.int .i64 0,.string ⟨#[]⟩,.slice none 0 0] 30))=wx)
  case first =>
   have hb12:Below w.heap.size w ((w.alloc (.cells #[.int .u8 e.kind,.int .u8 e.op,.int .u32 e.value,.int .i64 e.width,.string e.name,.slice e.sp.at_ e.subs.length e.sp.cap] 30)).alloc (.cells #[.int .u8 0,.int .u8 0,.int .u32 0,.int .i64 0,.string ⟨#[]⟩,.slice none 0 0] 30)):=((Below.refl _ _).alloc (Nat.le_refl _) _).alloc (by simp) _;have HCL:=zhd (HT.out _ hb12 e.name hnm);clear hb12;by_cases hk:e.kind=2∨e.kind=3
   ·have HD:Hid (decide (e.kind=2∨e.kind=3)=true):=zhd (decide_eq_true hk)
    have e14:=H14.out;rw [HD.out] at e14;subst e14;have e1:τ e.name=nm':=by rw [←HNM.out];exact (if_pos hk).symm
    rw [e1] at HCL;clear hk e1 H14;go_wp2_with fail
    refine HCL.out.mono ?_;rintro o w' ⟨rfl,rfl⟩;go_wp2_with fail
    go_meet
    case rel=>rfl
   ·have HD:Hid (decide (e.kind=2∨e.kind=3)=false):=zhd (decide_eq_false hk)
    have e14:=H14.out;rw [HD.out] at e14;subst e14;have e1:e.name=nm':=by rw [←HNM.out];exact (if_neg hk).symm
    have E1:=zhd e1;clear hk e1 H14;go_wp2_with fail
    go_meet
    case rel=>rw [←E1.out]
  case rest =>
   subst hcut;obtain ⟨hx2,hz2,hs2,hb2⟩:=gY w (.cells #[.int .u8 e.kind,.int .u8 e.op,.int .u32 e.value,.int .i64 e.width,.string nm',.slice e.sp.at_ e.subs.length e.sp.cap] 30) (.cells #[.int .u8 0,.int .u8 0,.int .u32 0,.int .i64 0,.string ⟨#[]⟩,.slice none 0 0] 30);generalize (w.alloc (.cells #[.int .u8 e.kind,.int .u8 e.op,.int .u32 e.value,.int .i64 e.width,.string nm',.slice e.sp.at_ e.subs.length e.sp.cap] 30)).alloc (.cells #[.int .u8 0,.int .u8 0,.int .u32 0,.int .i64 0,.string ⟨#[]⟩,.slice none 0 0] 30)=W2 at *;obtain ⟨x0,x1,x2,x3,x4,x5⟩:=ag hx2;have HX2:=zhd hx2;have HZ2:=zhd hz2;have HB2:=zhd hb2;have HROW:=zhd (RowOf.more (RowOf.below HRD.out.row hb2) hb2.size);clear hx2 hz2 hb2 x0 x1 x2 x3 x4 hcap hbig;go_wp2_with fail
   refine (sH W2 e.sp e.subs W2.heap.size HROW.out HFEW.out).mono ?_;clear x5 HROW;rintro o W3 ⟨⟨⟨sa,sc⟩,rfl,hown,_⟩,hb3⟩;have hx3:=(hb3.block _ (zgs HX2.out).1).trans HX2.out;have hz3:=(hb3.block _ (zgs HZ2.out).1).trans HZ2.out;have hl3:=(zgs hx3).1;have hb3w:=HB2.out.trans (hb3.mono HB2.out.size);have x5:W3.cell? ⟨w.heap.size,5,none⟩=some (.slice e.sp.at_ e.subs.length e.sp.cap):=(ag hx3).2.2.2.2.2;have f5:W3.frozen? ⟨w.heap.size,5,none⟩=false:=by simp [World.frozen?,hx3]
   have hst:Gl (tX τ) w (W3.setCell ⟨w.heap.size,5,none⟩ (.slice sa e.subs.length sc)) e sa sc W3.heap.size 0 e.subs:=by
    refine ⟨hb3w.setCell (p:=⟨w.heap.size,5,none⟩) (Nat.le_refl _) _,by have:=hb3.size;omega,by simp,fun a ha=>?_,?_,(Below.heap_setCell _ _ _ _ (by simp)).trans hz3,(hown.less (by omega)).kept fun g _ _ hg _=>Below.heap_setCell _ _ _ _ (by show g≠w.heap.size;omega),rfl,fun i _ _ h=>absurd h (Nat.not_lt_zero _),fun i _ _ _=>rfl⟩
    ·subst ha
     exact (World.ownsRow.lt hown _ rfl).2
    ·rw [World.setCell,Array.getElem?_modify,if_pos rfl,hx3,HNM.out]
     rfl
   have HST:=zhd hst;clear hx3 hz3 hl3 hb3w hst hown hb3 HX2 HZ2 HB2;go_upto_region 5 with fail
   generalize W3.heap.size=lo at *;generalize W3.setCell ⟨w.heap.size,5,none⟩ (.slice sa e.subs.length sc)=W4 at *;clear x5 f5;go_loopw [27] (fun s22 wr=>∃k cur,k≤e.subs.length∧s22=.int .i64 (k:Nat)∧Gl (tX τ) w wr e sa sc lo k cur) (fun s22 _=>e.subs.length - (intOf s22).toNat)
   case atStart=>exact ⟨0,e.subs,Nat.zero_le _,rfl,HST.out⟩
   case round =>
    obtain ⟨k,cur,hk,rfl,hx⟩:=hrel;clear HST;by_cases hlt:k<e.subs.length
    ·as_aux_lemma =>
     obtain ⟨g,hA,hg2,hgl,hc⟩:=hx.own.cell (fun _=>rfl) (j:=k) (by rw [hx.len];exact hlt);subst hA;rw [hx.todo k hlt (by rw [hx.len];exact hlt) (Nat.le_refl _)] at hc;obtain ⟨x,hxe⟩:∃x,e.subs[k]=x:=⟨_,rfl⟩;rw [hxe] at hc;have HXE:=zhd hxe;have HCALL:=zhd (HIH.out k hlt);rw [hxe] at HCALL;clear hxe;have c0:wr.cell? ⟨g,k*6,none⟩=some (.int .u8 x.kind):=hc 0 _ rfl;have c1:wr.cell? ⟨g,k*6+1,none⟩=some (.int .u8 x.op):=hc 1 _ rfl;have c2:wr.cell? ⟨g,k*6+2,none⟩=some (.int .u32 x.value):=hc 2 _ rfl;have c3:wr.cell? ⟨g,k*6+3,none⟩=some (.int .i64 x.width):=hc 3 _ rfl;have c4:wr.cell? ⟨g,k*6+4,none⟩=some (.string x.name):=hc 4 _ rfl;have c5:wr.cell? ⟨g,k*6+5,none⟩=some (.slice x.sp.at_ x.subs.length x.sp.cap):=hc 5 _ rfl;have HX:=zhd hx;have hbA:=(Below.refl wr.heap.size wr).alloc (Nat.le_refl _) (.cells #[.int .u8 x.kind,.int .u8 x.op,.int .u32 x.value,.int .i64 x.width,.string x.name,.slice x.sp.at_ x.subs.length x.sp.cap] 30);have HX5:=zhd (hx.on hbA);have HA5:=zhd (zan wr (.cells #[.int .u8 x.kind,.int .u8 x.op,.int .u32 x.value,.int .i64 x.width,.string x.name,.slice x.sp.at_ x.subs.length x.sp.cap] 30));clear hc hx;go_upto_region 7 with fail
     generalize wr.alloc (.cells #[.int .u8 x.kind,.int .u8 x.op,.int .u32 x.value,.int .i64 x.width,.string x.name,.slice x.sp.at_ x.subs.length x.sp.cap] 30)=W5 at *;have x5:W5.cell? ⟨w.heap.size,5,none⟩=some (.slice (some ⟨g,0,none⟩) e.subs.length sc):=(ag HX5.out.box).2.2.2.2.2;obtain ⟨a0,a1,a2,a3,a4,a5⟩:=ag HA5.out;have HX5d:=zhd (HX5.out.on (Below.refl _ _).drew);clear c0 c1 c2 c3 c4 c5 HX HX5 HA5 hbA;go_region_with (go_at_call 149;refine (HCALL.out W5.drew HX5d.out.low).mono ?_;rintro o W6 ⟨e1,rfl,hren,hnew,hb⟩;have HX6:=zhd (HX5d.out.on hb);have HR6:=zhd hren;have HN6:=zhd (hnew.less HX5d.out.loW);have x5b:=(ag HX6.out.box).2.2.2.2.2;obtain ⟨g',hA',_,_,hc⟩:=HX6.out.own.cell (fun _=>rfl) (j:=k) (by rw [HX6.out.len];exact hlt);cases hA';have y0:=hc 0 _ rfl;rw [Nat.add_zero] at y0;have y1:=hc 1 _ rfl;have y2:=hc 2 _ rfl;have y3:=hc 3 _ rfl;have y4:=hc 4 _ rfl;have y5:=hc 5 _ rfl;have fz:=fun j=>HX6.out.own.frozen j;have f0:=fz (k*6);have f1:=fz (k*6+1);have f2:=fz (k*6+2);have f3:=fz (k*6+3);have f4:=fz (k*6+4);have f5:=fz (k*6+5);clear hren hnew hb hc fz)
     all_goals
      go_wp2_with fail
      have hw:wrap64 ((k:Int)+1)=(k:Int)+1:=IntWalk.wrap64_in _ ⟨by omega,by have:=HFEW.out;omega⟩;rw [hw];clear hw;have hput:=HX6.out.put hlt (by rw [HXE.out];exact HR6.out) HN6.out hg2;have hms:e.subs.length - ((k:Int)+1).toNat<e.subs.length - (k:Int).toNat:=by clear hput;omega
      exact ⟨⟨k+1,cur.set k e1,hlt,rfl,hput⟩,hms⟩
    ·as_aux_lemma =>
     obtain rfl:k=e.subs.length:=by omega
     clear hlt hk;have HX:=zhd hx;obtain ⟨x0,x1,x2,x3,x4,x5⟩:=ag hx.box;obtain ⟨z0,z1,z2,z3,z4,z5⟩:=ag hx.res;have fz:∀j,wr.frozen? ⟨w.heap.size+1,j,none⟩=false:=fun j=>by simp [World.frozen?,hx.res]
     have f0:=fz 0;have f1:=fz 1;have f2:=fz 2;have f3:=fz 3;have f4:=fz 4;have f5:=fz 5;clear hx fz;go_wp2_with fail
     exact bodyPost_ret (results_cell_row rfl _ _ (w.heap.size+1) 30 _ (0,0) _ rfl (nH HX.out.res _ _ _ _ _ _) Tryz.underlying30 rfl (vo _ _ _ _ _ _)) rfl ⟨Lp (tX τ) e sa sc cur,by have hl:(Lp (tX τ) e sa sc cur).subs.length=e.subs.length:=HX.out.len;rw [hl];rfl,(HFIN.out wr sa sc lo cur HX.out).1,(HFIN.out wr sa sc lo cur HX.out).2.1,(HFIN.out wr sa sc lo cur HX.out).2.2⟩
end
section
open Go Go.RowKit Go.Maps
theorem ny {F:Nat} {bs:Array Value} {τ:ByteArray→ByteArray} (hτ:∀s,s.size≤maxLen→(τ s).size≤maxLen) {n0:Nat} {W0:World} (hT:uH F bs τ n0 W0) (e:ae) (hr:iw n0 W0 e):e.pre.length≤1000000→xx F bs τ n0 W0 e:=by
 induction hr with
 | mk e k o v w n row subs ih =>
  intro hl;have h1:=uy e.subs;have h2:=kK e;exact Ht F bs τ hτ n0 W0 hT e (.mk e k o v w n row subs) (by omega) fun s hs=>ih s hs (Nat.le_trans (Eo hs) hl)
theorem Hm (s:ByteArray) (w:World):Calls Tryz.prog 150 #[.string s] w fun o w'=>o=.returned (.string s)∧w'=w:=by
 go_enter Tryz.func150,Tryz.ntmps150
 go_wp2_with fail
 go_ret
 exact ⟨rfl,rfl⟩
theorem ni (n0:Nat) (W0:World):uH 150 #[] id n0 W0:=⟨fun args W=>by simp [go_sem],fun W _ _ s _=>Hm s W⟩
end
end Go.Proofs.YtepacjkacjabbaaGreatDoor
