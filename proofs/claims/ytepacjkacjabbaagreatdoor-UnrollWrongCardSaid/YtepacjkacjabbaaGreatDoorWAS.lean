import Derived.Test.YtepacjkacjabbaaGreatDoorWAR
import Derived.Test.YtepacjkacjabbaaGreatDoorWAG
import Derived.Test.YtepacjkacjabbaaGreatDoorWAE
namespace Go.Proofs.YtepacjkacjabbaaGreatDoor
section
open Go
theorem Gm (e:ae):(aK e).pre=e.pre.map aK:=by
 induction e using ae.ind with
 | h k o v w n sp l ih =>
  rw [ae.pre_eq,ae.pre_eq,List.map_cons,kX,List.flatMap_map,List.map_flatMap]
  congr 1
  exact eF fun s hs=>ih s hs
theorem pz (e:ae):(aK e).pre.length=e.pre.length:=by rw [Gm,List.length_map]
theorem xe (l:List ae):aN (l.map aK)=aN l:=by
 unfold aN;rw [List.map_map];exact congrArg List.sum (List.map_congr_left fun e _=>pz e)
theorem D5 (l:List aa):gU (l.map ag)=gU l:=by
 unfold gU;rw [List.map_map];refine congrArg List.sum (List.map_congr_left fun s _=>?_);show 1+aN (ag s).exprs=_;rw [iJ,xe]
theorem eQ (l:List aa):ay (l.map ag)=ay l:=by
 unfold ay;rw [lW,D5]
theorem iH (p:af):aP (aH p)=aP p:=by
 unfold aP;rw [show (aH p).require=aK p.require from rfl,show (aH p).invariant=aK p.invariant from rfl,show (aH p).inits=p.inits.map vE from rfl,show (aH p).procs=p.procs.map kI from rfl,show (aH p).work=p.work.map ag from rfl,show (aH p).recover=p.recover.map ag from rfl,pz,pz,eQ,eQ,List.map_map,List.map_map];have e1:(fun i:aQ=>1+i.value.pre.length) ∘ vE=fun i=>1+i.value.pre.length:=by funext i;exact congrArg (1+·) (pz i.value)
 have e2:gI ∘ kI=gI:=by
  funext q
  show 1+q.params.length+ay (q.body.map ag)=_;rw [eQ]
  rfl
 rw [e1,e2]
 rfl
theorem Dr {p:af} (h:dP p):dP (aH p) :=
 ⟨h.decls,fun q hq=>by
  obtain ⟨q0,h0,rfl⟩:=List.mem_map.1 hq;exact h.procs q0 h0⟩
theorem yF {p:af} (h:dP (aH p)):dP p :=
 ⟨h.decls,fun q hq=>h.procs (kI q) (List.mem_map_of_mem hq)⟩
theorem JN {p q:af} (h:aH p=aH q) (hp:dP q) (hl:aP q≤20000):Fit p :=
 LC (by rw [gY]) (by rw [←iH,h,iH];exact hl) (yF (by rw [h];exact Dr hp))
theorem D7 {p q:af} (h:aH p=aH q) (k:Int):bJ p k=bJ q k:=by rw [←uH,h,uH]
end
section
open Go
def aW (x:aa):Prop:=x.kind=7→1≤x.bound∧x.bound≤16∧x.exprs.length=1∧x.els=[]
theorem oU {s:aa} (h:fK s=true):uX s=lV (fun last=>fV s.exprs (aZ s.thn++[last])) s.bound.toNat (fV s.exprs [eG]):=by
 cases s
 rw [uX,if_pos h]
 rfl
theorem wR {s:aa} (h:fK s=false):uX s=.mk s.kind s.name Sp.none s.exprs s.bound Sp.none (aZ s.thn) Sp.none (aZ s.els):=by
 cases s
 rw [uX,if_neg (by rw [h];decide)]
 rfl
theorem tK {α:Type} (P:Nat→α→Prop) (f:α→α) (step:∀k y,P k y→P (k+1) (f y)):∀(n k:Nat) (x:α),P k x→P (k+n) (lV f n x)
 | 0,k,x,h=>h
 | n+1,k,x,h=>by
  rw [lV,show k+(n+1)=(k+1)+n by omega];exact tK P f step n (k+1) (f x) (step k x h)
theorem DN {s:aa} (h:s.kind≠7):fK s=false:=by unfold fK;rw [decide_eq_false h];rfl
theorem oG {s:aa} (h:fK s=true):s.kind=7:=by
 unfold fK at h;rw [Bool.and_eq_true] at h;exact of_decide_eq_true h.1
theorem zo (ex:List ae) (th:List aa):(fV ex th).pre=fV ex th::th.flatMap aa.pre:=by
 rw [aa.pre_eq];show fV ex th::(th.flatMap aa.pre++[])=_;rw [List.append_nil]
def C8 (s:aa):Nat:=1+aN s.exprs+ay s.thn+ay s.els
theorem lu (s:aa) (l:List aa):ay (s::l)=C8 s+ay l:=jf s l
theorem Ai:C8 eG=2:=by
 show 1+aN [.mk 1 0 1 1 ⟨#[]⟩ Sp.none []]+ay []+ay []=2;rw [fC];unfold aN;rw [List.map_cons,mf]
 rfl
theorem Eh (a b:List aa):ay (a++b)=ay a+ay b:=by
 unfold ay gU;rw [List.flatMap_append,List.map_append,List.sum_append]
theorem Cn {α:Type} {l:List α} (h:l.length=1):l.take 1=l:=List.take_of_length_le (by omega)
theorem aW.thn {s:aa} (h:∀x∈s.pre,aW x):∀t∈s.thn,∀x∈t.pre,aW x:=fun t ht x hx=>h x (by
 rw [aa.pre_eq];exact List.mem_cons_of_mem _ (List.mem_append_left _ (List.mem_flatMap.2 ⟨t,ht,hx⟩)))
theorem aW.els {s:aa} (h:∀x∈s.pre,aW x):∀t∈s.els,∀x∈t.pre,aW x:=fun t ht x hx=>h x (by
 rw [aa.pre_eq];exact List.mem_cons_of_mem _ (List.mem_append_right _ (List.mem_flatMap.2 ⟨t,ht,hx⟩)))
theorem aW.own {s:aa} (h:∀x∈s.pre,aW x):aW s:=h s (by rw [aa.pre_eq];exact List.mem_cons_self ..)
theorem pU:∀(l:List aa),(∀s∈l,uj s=C8 (uX s)∨(20000<uj s∧20000<C8 (uX s)))→∀n:Int,0≤n→n≤20000→(eT l n=n+ay (aZ l)∧n+ay (aZ l)≤20000)∨(eT l n=20001∧20000<n+ay (aZ l))
 | [],_,n,h0,h1=>by rw [eT,aZ,fC];left;omega
 | s::l,h,n,h0,h1=>by
  rw [eT,aZ,lu];have hs:=h s (List.mem_cons_self ..);by_cases hb:n+uj s>20000
  ·rw [if_pos hb]
   right
   omega
  ·rw [if_neg hb]
   have e:uj s=C8 (uX s):=by
    rcases hs with e | ⟨h2,_⟩
    ·exact e
    ·omega
   rw [e] at hb ⊢;have:=pU l (fun t ht=>h t (List.mem_cons_of_mem _ ht)) (n+C8 (uX s)) (by omega) (by omega);omega
theorem FE {b x:Int} (hb:1≤b) (hx:0≤x):x≤b*x:=by
 have:=Int.mul_nonneg (show 0≤b - 1 by omega) hx;rw [Int.sub_mul,Int.one_mul] at this;omega
theorem KV {s:aa} (h:fK s=true) (hx:s.exprs.length=1):(C8 (uX s):Int)=(s.bound.toNat:Int)*(1+(aN s.exprs:Int)+ay (aZ s.thn))+(1+(aN s.exprs:Int))+2:=by
 rw [oU h];have h1:=tK (fun k y=>(C8 y:Int)=(k:Int)*(1+(aN s.exprs:Int)+ay (aZ s.thn))+(1+(aN s.exprs:Int))+2) (fun last=>fV s.exprs (aZ s.thn++[last])) (fun k y hy=>by
  have e:C8 (fV s.exprs (aZ s.thn++[y]))=1+aN s.exprs+(ay (aZ s.thn)+C8 y):=by
   show 1+aN (s.exprs.take 1)+ay (aZ s.thn++[y])+ay []=_;rw [Cn hx,Eh,lu,fC];omega
  rw [e];rw [Int.natCast_add k 1,Int.add_mul];omega) s.bound.toNat 0 (fV s.exprs [eG]) (by
  have e:C8 (fV s.exprs [eG])=1+aN s.exprs+2:=by
   show 1+aN (s.exprs.take 1)+ay [eG]+ay []=_;rw [Cn hx,lu,fC,Ai]
  rw [e];simp)
 rw [Nat.zero_add] at h1;exact h1
theorem BP (s:aa) (h:∀x∈s.pre,aW x):uj s=C8 (uX s)∨(20000<uj s∧20000<C8 (uX s)):=by
 induction s using aa.ind with
 | h k n es ex b ts th os el i1 i2 =>
  have a1:=pU th (fun s hs=>i1 s hs (aW.thn h s hs)) 0 (by decide) (by decide);have a2:=pU el (fun s hs=>i2 s hs (aW.els h s hs)) 0 (by decide) (by decide);rw [uj];cases hl:fK (.mk k n es ex b ts th os el) with
  | true =>
   rw [if_pos rfl];obtain ⟨h1,h2,h3,h4⟩:=aW.own h (oG hl);have hh:=KV hl h3;change 1≤b at h1;have e:(((aa.mk k n es ex b ts th os el).bound.toNat:Nat):Int)=b:=Int.toNat_of_nonneg (by show 0≤b;omega);rw [e] at hh;change (C8 (uX (.mk k n es ex b ts th os el)):Int)=b*(1+(aN ex:Int)+ay (aZ th))+(1+(aN ex:Int))+2 at hh;rcases a1 with ⟨e1,_⟩ | ⟨e1,e2⟩
   ·left
    rw [hh,e1,Int.zero_add]
   ·right
    rw [e1];have m1:=FE h1 (show 0≤1+(aN ex:Int)+20001 by omega);have m2:=FE h1 (show 0≤1+(aN ex:Int)+ay (aZ th) by omega);omega
  | false =>
   rw [if_neg (by decide),wR hl];have e:C8 (.mk k n Sp.none ex b Sp.none (aZ th) Sp.none (aZ el))=1+aN ex+ay (aZ th)+ay (aZ el):=rfl;show _=((C8 (.mk k n Sp.none ex b Sp.none (aZ th) Sp.none (aZ el)):Nat):Int)∨(_∧20000<C8 (.mk k n Sp.none ex b Sp.none (aZ th) Sp.none (aZ el)));rw [e];omega
theorem Bl {l:List aa} (h:∀x∈l.flatMap aa.pre,aW x):(eT l 0=ay (aZ l)∧ay (aZ l)≤20000)∨(eT l 0=20001∧20000<ay (aZ l)):=by
 have:=pU l (fun s hs=>BP s fun x hx=>h x (List.mem_flatMap.2 ⟨s,hs,hx⟩)) 0 (by decide) (by decide);omega
mutual
def M3:aa→Nat
 | .mk _ _ _ _ _ _ th _ el=>1+max (oz th) (oz el)
def oz:List aa→Nat
 | []=>0
 | s::l=>max (M3 s) (oz l)
end
theorem xu:∀(a b:List aa),oz (a++b)=max (oz a) (oz b)
 | [],b=>by rw [List.nil_append,oz];omega
 | s::a,b=>by rw [List.cons_append,oz,oz,xu a b];omega
end
section
open Go
abbrev ql:=Int→ByteArray→ByteArray
mutual
def FH (g:ql):ae→ae
 | .mk k o v w n sp l=>.mk k o v w (g k n) sp (IG g l)
def IG (g:ql):List ae→List ae
 | []=>[]
 | e::l=>FH g e::IG g l
end
theorem Fx (g:ql):∀l:List ae,IG g l=l.map (FH g)
 | []=>by rw [IG];rfl
 | e::l=>by rw [IG,Fx g l];rfl
theorem ES (g:ql) (k o v w:Int) (n:ByteArray) (sp:Sp) (l:List ae):FH g (.mk k o v w n sp l)=.mk k o v w (g k n) sp (l.map (FH g)):=by rw [FH,Fx]
mutual
def HV (g h:ql):aa→aa
 | .mk k n es ex b ts th os el=>.mk k (h k n) es (ex.map (FH g)) b ts (GX g h th) os (GX g h el)
def GX (g h:ql):List aa→List aa
 | []=>[]
 | s::l=>HV g h s::GX g h l
end
theorem Bb (g h:ql):∀l:List aa,GX g h l=l.map (HV g h)
 | []=>by rw [GX];rfl
 | e::l=>by rw [GX,Bb g h l];rfl
theorem EB (g h:ql) (k b:Int) (n:ByteArray) (es ts os:Sp) (ex:List ae) (th el:List aa):HV g h (.mk k n es ex b ts th os el)=.mk k (h k n) es (ex.map (FH g)) b ts (th.map (HV g h)) os (el.map (HV g h)):=by rw [HV,Bb,Bb]
def JX:ql:=fun _ n=>n
theorem I9 (e:ae):FH JX e=e:=by
 induction e using ae.ind with
 | h k o v w n sp l ih =>
  rw [ES,dZ (g:=id) ih,List.map_id]
  rfl
theorem LF (s:aa):HV JX JX s=s:=by
 induction s using aa.ind with
 | h k n es ex b ts th os el i1 i2 =>
  rw [EB,dZ (g:=id) i1,dZ (g:=id) i2,dZ (f:=FH JX) (g:=id) fun e _=>I9 e,List.map_id,List.map_id,List.map_id]
  rfl
def Ea (g:ql) (e e':ae):Prop:=aK e'=aK (FH g e)
def L6 (g h:ql) (s s':aa):Prop:=ag s'=ag (HV g h s)
theorem AA {α β γ:Type} (f:β→γ) (f2:α→γ) {l:List α} {l':List β} (len:l'.length=l.length) (h:∀i (h1:i<l.length) (h2:i<l'.length),f l'[i]=f2 l[i]):l'.map f=l.map f2:=by
 refine List.ext_getElem (by simpa using len) fun i h1 h2=>?_
 rw [List.getElem_map,List.getElem_map];exact h i (by simpa using h2) (by simpa using h1)
theorem Ea.mk {g:ql} {k o v w:Int} {nm:ByteArray} {sp sp':Sp} {l l':List ae} (len:l'.length=l.length) (subs:∀i (h:i<l.length) (h':i<l'.length),Ea g l[i] l'[i]):Ea g (.mk k o v w nm sp l) (.mk k o v w (g k nm) sp' l'):=by
 unfold Ea;rw [ES,gm,gm,List.map_map,AA aK (aK ∘ FH g) len subs]
def DV (g:ql) (l l':List ae):Prop:=l'.map aK=l.map fun e=>aK (FH g e)
def qR (g h:ql) (l l':List aa):Prop:=l'.map ag=l.map fun s=>ag (HV g h s)
theorem DV.of {g:ql} {l l':List ae} (len:l'.length=l.length) (subs:∀i (h:i<l.length) (h':i<l'.length),Ea g l[i] l'[i]):DV g l l':=AA aK (fun e=>aK (FH g e)) len subs
theorem qR.of {g h:ql} {l l':List aa} (len:l'.length=l.length) (subs:∀i (h1:i<l.length) (h':i<l'.length),L6 g h l[i] l'[i]):qR g h l l':=AA ag (fun e=>ag (HV g h e)) len subs
theorem DV.len {g:ql} {l l':List ae} (h:DV g l l'):l'.length=l.length:=by have:=congrArg List.length h;simpa using this
theorem qR.len {g h:ql} {l l':List aa} (hh:qR g h l l'):l'.length=l.length:=by have:=congrArg List.length hh;simpa using this
theorem L6.mk {g h:ql} {k b:Int} {nm:ByteArray} {es es' ts ts' os os':Sp} {ex ex':List ae} {th th' el el':List aa} (exs:DV g ex ex') (hth:qR g h th th') (hel:qR g h el el') :
  L6 g h (.mk k nm es ex b ts th os el) (.mk k (h k nm) es' ex' b ts' th' os' el'):=by
 unfold L6;unfold DV at exs;unfold qR at hth hel;rw [EB,bV,bV,List.map_map,List.map_map,List.map_map,exs,hth,hel]
 rfl
theorem Ea.same {e e':ae} (h:Ea JX e e'):aK e'=aK e:=by unfold Ea at h;rwa [I9] at h
theorem qR.same {l l':List aa} (h:qR JX JX l l'):l'.map ag=l.map ag:=by
 unfold qR at h;rw [h];exact List.map_congr_left fun s _=>by rw [LF]
def Nk (f t:ByteArray):ql:=fun k n=>if k=2∨k=3 then (if n=f then t else n) else n
def Ni (f t:ByteArray):ql:=fun k n=>if k=1∨k=2 then (if n=f then t else n) else n
def tX (τ:ByteArray→ByteArray):ql:=fun k n=>if k=2∨k=3 then τ n else n
def tT (τ:ByteArray→ByteArray):ql:=fun k n=>if k=1∨k=2 then τ n else n
end
section
open Go
def Kk (q:aO) (d:aF):ByteArray:=q.name++⟨#[46]⟩++d.name
def Mo (q:aO) (d:aF):aF:=⟨Kk q d,d.width,0⟩
def uR (p:af) (s:ByteArray):Nat:=((look (dI p).reverse s).getD 0).toNat
def LQ (s:ByteArray) (e:ae):aa:=.mk 1 s Sp.none [e] 0 Sp.none [] Sp.none []
def MB (q:aO) (ex:List ae):List aa:=(q.params.zip ex).map fun x=>LQ (Kk q x.1) x.2
def uP (p:af) (i:Nat):aO:=(p.procs[i]?).getD ⟨⟨#[]⟩,Sp.none,[],Sp.none,[]⟩
mutual
def inT (p:af) (B:Nat→List aa):aa→List aa
 | .mk k n es ex b _ th _ el=>if k=8 then MB (uP p (uR p n)) ex++B (uR p n) else [.mk k n es ex b Sp.none (F5 p B th) Sp.none (F5 p B el)]
def F5 (p:af) (B:Nat→List aa):List aa→List aa
 | []=>[]
 | s::l=>inT p B s++F5 p B l
end
def MZ (q:aO) (l:List aa):List aa:=q.params.foldl (fun l d=>l.map (HV (Nk d.name (Kk q d)) (Ni d.name (Kk q d)))) l
def Lc (p:af):Nat→Nat→List aa
 | 0,_=>[]
 | n+1,i=>MZ (uP p i) (F5 p (Lc p n) (uP p i).body)
def Lh (p:af) (i:Nat):List aa:=Lc p (p.procs.length+1) i
def MV (p:af):af :=
 { p with rs:=Sp.none,procs:=[],vs:=Sp.none,vars:=p.vars++p.procs.flatMap fun q=>q.params.map (Mo q),ws:=Sp.none,work:=F5 p (Lh p) p.work,cs:=Sp.none,recover:=F5 p (Lh p) p.recover }
def ME (p:af) (r:Nat→Nat):Prop:=∀i,i<p.procs.length→∀s∈(uP p i).body.flatMap aa.pre,s.kind=8→r (uR p s.name)<r i∧uR p s.name<p.procs.length
mutual
def Lm:aa→List ByteArray
 | .mk k n _ _ _ _ th _ el=>(if k=8 then [n] else [])++(Ay th++Ay el)
def Ay:List aa→List ByteArray
 | []=>[]
 | s::l=>Lm s++Ay l
end
end
section
open Go
inductive Lp (p:af):Nat→Nat→Prop
 | refl (a:Nat):Lp p a a
 | step {a b c:Nat} (h:b∈gQ p a) (t:Lp p b c):Lp p a c
def CQ (p:af) (seen:List Nat):Nat:=((List.range p.procs.length).map fun k=>if k∈seen then 0 else (gQ p k).length).sum
theorem GJ {p:af} {i:Nat} (h:p.procs.length≤i):gQ p i=[]:=by
 unfold gQ;rw [List.getElem?_eq_none h]
theorem Cc (f:Nat→Nat) (seen:List Nat) (i:Nat) (hi:i∉seen):∀l:List Nat,l.Nodup→(l.map fun k=>if k∈i::seen then 0 else f k).sum+(if i∈l then f i else 0)=(l.map fun k=>if k∈seen then 0 else f k).sum
 | [],_=>by simp
 | x::l,hn=>by
  rw [List.nodup_cons] at hn;have ih:=Cc f seen i hi l hn.2;rw [List.map_cons,List.map_cons,List.sum_cons,List.sum_cons];by_cases hx:i=x
  ·subst hx
   rw [if_neg hn.1,Nat.add_zero] at ih;rw [if_pos (List.mem_cons_self ..),if_pos (List.mem_cons_self ..),if_neg hi,←ih];omega
  ·have e1:(x∈i::seen)=(x∈seen):=by
    simp only [List.mem_cons,eq_iff_iff];exact ⟨fun h=>h.resolve_left (Ne.symm hx),.inr⟩
   have e2:(i∈x::l)=(i∈l):=by
    simp only [List.mem_cons,eq_iff_iff];exact ⟨fun h=>h.resolve_left hx,.inr⟩
   simp only [e1,e2];omega
theorem FO (p:af) (seen:List Nat) (i:Nat) (hi:i∉seen):CQ p (i::seen)+(gQ p i).length=CQ p seen:=by
 have h:=Cc (fun k=>(gQ p k).length) seen i hi (List.range p.procs.length) List.nodup_range;unfold CQ;rw [←h];by_cases hl:i<p.procs.length
 ·rw [if_pos (List.mem_range.2 hl)]
 ·rw [if_neg fun h=>hl (List.mem_range.1 h),GJ (Nat.le_of_not_lt hl)]
  rfl
theorem nz (p:af) (tgt:Nat):∀(n:Nat) (seen todo:List Nat),(∀s∈seen,s≠tgt∧∀c∈gQ p s,c∈seen∨c∈todo)→todo.length+CQ p seen<n→gF p tgt n seen todo=false →
  ∃S:Nat→Prop,(∀s∈seen,S s)∧(∀t∈todo,S t)∧¬S tgt∧∀s,S s→∀c∈gQ p s,S c
 | 0,_,_,_,h,_=>absurd h (Nat.not_lt_zero _)
 | n+1,seen,[],hI,_,_=>⟨(·∈seen),fun _ h=>h,fun _ h=>(by cases h),fun h=>(hI _ h).1 rfl,fun s hs c hc=>by
   rcases (hI s hs).2 c hc with h | h
   ·exact h
   ·cases h⟩
 | n+1,seen,i::todo,hI,hf,hl=>by
  by_cases hi:i=tgt
  ·subst hi
   rw [gF,if_pos rfl] at hl;cases hl
  ·rw [gF,if_neg hi] at hl
   simp only [List.length_cons] at hf;by_cases hs:i∈seen
   ·rw [if_pos hs] at hl
    obtain ⟨S,h1,h2,h3,h4⟩:=nz p tgt n seen todo (fun s hs2=>⟨(hI s hs2).1,fun c hc=>by
     rcases (hI s hs2).2 c hc with h | h
     ·exact .inl h
     ·rcases List.mem_cons.1 h with rfl | h
      ·exact .inl hs
      ·exact .inr h⟩) (by omega) hl
    exact ⟨S,h1,fun t ht=>by
     rcases List.mem_cons.1 ht with rfl | ht
     ·exact h1 _ hs
     ·exact h2 t ht,h3,h4⟩
   ·rw [if_neg hs] at hl
    have hr:=FO p seen i hs;obtain ⟨S,h1,h2,h3,h4⟩:=nz p tgt n (i::seen) (todo++gQ p i) (fun s hs2=>by
     rcases List.mem_cons.1 hs2 with rfl | hs2
     ·exact ⟨hi,fun c hc=>.inr (List.mem_append_right _ hc)⟩
     ·exact ⟨(hI s hs2).1,fun c hc=>by
       rcases (hI s hs2).2 c hc with h | h
       ·exact .inl (List.mem_cons_of_mem _ h)
       ·rcases List.mem_cons.1 h with rfl | h
        ·exact .inl (List.mem_cons_self ..)
        ·exact .inr (List.mem_append_left _ h)⟩) (by rw [List.length_append];omega) hl
    exact ⟨S,fun s hs2=>h1 s (List.mem_cons_of_mem _ hs2),fun t ht=>by
     rcases List.mem_cons.1 ht with rfl | ht
     ·exact h1 _ (List.mem_cons_self ..)
     ·exact h2 t (List.mem_append_left _ ht),h3,h4⟩
theorem Lp.closed {p:af} {S:Nat→Prop} (hS:∀s,S s→∀c∈gQ p s,S c) {a b:Nat} (h:Lp p a b):S a→S b:=by
 induction h with
 | refl=>exact id
 | step h _ ih=>exact fun ha=>ih (hS _ ha _ h)
theorem Ie {p:af} {a b:Nat} (h:ji p a b=false):¬Lp p a b:=by
 obtain ⟨S,_,h2,h3,h4⟩:=nz p b (oN p) [] [a] (fun s hs=>(by cases hs)) (by unfold oN CQ;simp) h;exact fun hr=>h3 (hr.closed h4 (h2 a (List.mem_cons_self ..)))
theorem yZ {α:Type} (f g:α→Bool):∀l:List α,(∀x∈l,f x=true→g x=true)→(∃x∈l,g x=true∧f x=false)→l.countP f<l.countP g
 | [],_,h=>by obtain ⟨x,hx,_⟩:=h;cases hx
 | x::l,hi,h=>by
  have hle:∀l:List α,(∀x∈l,f x=true→g x=true)→l.countP f≤l.countP g:=fun l hl=>List.countP_mono_left hl
  rw [List.countP_cons,List.countP_cons];have hx:=hi x (List.mem_cons_self ..);have hl:=hle l fun y hy=>hi y (List.mem_cons_of_mem _ hy)
  obtain ⟨y,hy,hg,hf⟩:=h;rcases List.mem_cons.1 hy with rfl | hy
  ·simp [hg,hf];omega
  ·have:=yZ f g l (fun y hy=>hi y (List.mem_cons_of_mem _ hy)) ⟨y,hy,hg,hf⟩
   by_cases hfx:f x=true
   ·simp [hfx,hx hfx];omega
   ·simp [hfx];split <;> omega
noncomputable def rankP (p:af) (i:Nat):Nat:=(List.range p.procs.length).countP fun k=>@decide (Lp p i k) (Classical.propDecidable _)
theorem KY {p:af} {i j:Nat} (hi:i<p.procs.length) (hj:j∈gQ p i) (hn:ji p j i=false):rankP p j<rankP p i:=by
 unfold rankP;refine yZ _ _ _ (fun k _ hk=>?_) ⟨i,List.mem_range.2 hi,?_,?_⟩
 ·exact @decide_eq_true _ (Classical.propDecidable _) (.step hj (@of_decide_eq_true _ (Classical.propDecidable _) hk))
 ·exact @decide_eq_true _ (Classical.propDecidable _) (.refl i)
 ·exact @decide_eq_false _ (Classical.propDecidable _) (Ie hn)
theorem Ka (p:af) (E:Env) (s:aa):∀(d:Nat) (x:aa),x∈s.pre→∃d',iU p E x d'∈kH p E s d:=by
 induction s using aa.ind with
 | h k n es ex b ts th os el i1 i2 =>
  intro d x hx;rw [aa.pre_eq] at hx;rw [gq];rcases List.mem_cons.1 hx with rfl | hx
  ·exact ⟨d,List.mem_cons_self ..⟩
  ·rcases List.mem_append.1 hx with hx | hx
   ·obtain ⟨s,hs,hx⟩:=List.mem_flatMap.1 hx
    obtain ⟨d',h⟩:=i1 s hs (d+1) x hx;exact ⟨d',List.mem_cons_of_mem _ (List.mem_append_right _ (List.mem_append_left _ (by rw [bn];exact List.mem_flatMap.2 ⟨s,hs,h⟩)))⟩
   ·obtain ⟨s,hs,hx⟩:=List.mem_flatMap.1 hx
    obtain ⟨d',h⟩:=i2 s hs (d+1) x hx;exact ⟨d',List.mem_cons_of_mem _ (List.mem_append_right _ (List.mem_append_right _ (by rw [bn];exact List.mem_flatMap.2 ⟨s,hs,h⟩)))⟩
theorem yu (p:af) (E:Env) (l:List aa) (d:Nat) (x:aa) (hx:x∈l.flatMap aa.pre):∃d',iU p E x d'∈aL p E l d:=by
 obtain ⟨s,hs,hx⟩:=List.mem_flatMap.1 hx;obtain ⟨d',h⟩:=Ka p E s d x hx;exact ⟨d',by rw [bn];exact List.mem_flatMap.2 ⟨s,hs,h⟩⟩
end
section
open Go
def eH (p:af):Prop:=∀c∈bJ p (aP p),c=0
theorem zg:∀(l:List Int) (n:Nat),(∃c∈l,c≠0)→((fU l n).headD (0,0)).2≠0
 | [],_,h=>by obtain ⟨c,hc,_⟩:=h;cases hc
 | c::l,n,h=>by
  rw [fU];by_cases hc:c=0
  ·rw [if_pos hc]
   refine zg l (n+1) ?_;obtain ⟨d,hd,hne⟩:=h;rcases List.mem_cons.1 hd with rfl | hd
   ·exact absurd hc hne
   ·exact ⟨d,hd,hne⟩
  ·rw [if_neg hc]
   exact hc
theorem Cm {p:af} (hl:aP p≤20000) (h:(dL p).2=0):eH p:=by
 have hlen:(bJ p 0).length=aP p:=by rw [gY]
 intro c hc;by_cases h0:c=0
 ·exact h0
 ·exfalso
  have h1:dL p=(fU (bJ p (aP p)) 0).headD (0,0):=CL hlen hl rfl;rw [h1] at h;exact zg _ 0 ⟨c,hc,h0⟩ h
section
variable {p:af} (h:eH p)
include h
theorem eH.procs:∀c∈dN p p.procs 0 (dn p),c=0:=fun c hc=>h c (by
 unfold bJ;simp only [List.mem_cons,List.mem_append]
 right;right;right;right;right;right;right;left
 exact hc)
theorem eH.work:∀c∈aL p outside p.work 1,c=0:=fun c hc=>h c (by
 unfold bJ;simp only [List.mem_cons,List.mem_append]
 right;right;right;right;right;right;right;right;left
 exact hc)
theorem eH.recover:∀c∈aL p outside p.recover 1,c=0:=fun c hc=>h c (by
 unfold bJ;simp only [List.mem_cons,List.mem_append]
 right;right;right;right;right;right;right;right;right;left
 exact hc)
end
theorem CU {p:af}:∀(l:List aO) (n:Nat) (before:List ByteArray),(∀c∈dN p l n before,c=0)→∀i (hi:i<l.length),∃bf,(∀s∈before,s∈bf)∧(∀j (hj:j<l.length),j<i→(l[j]).name∈bf)∧∀c∈kT p bf (n+i) l[i],c=0
 | q::l,n,before,h,0,_=>⟨before,fun _ hs=>hs,fun j _ hj=>absurd hj (Nat.not_lt_zero _),fun c hc=>h c (by rw [dN];exact List.mem_append_left _ hc)⟩
 | q::l,n,before,h,i+1,hi=>by
  obtain ⟨bf,h1,h2,h3⟩:=CU l (n+1) (before++[q.name]) (fun c hc=>h c (by rw [dN];exact List.mem_append_right _ hc)) i (by simpa using hi);refine ⟨bf,fun s hs=>h1 s (List.mem_append_left _ hs),fun j hj hji=>?_,fun c hc=>h3 c (by rwa [show n+1+i=n+(i+1) by omega])⟩
  match j with
  | 0=>exact h1 _ (List.mem_append_right _ (List.mem_singleton.2 rfl))
  | j+1=>exact h2 j (by simpa using hj) (by omega)
theorem xK {l:List ByteArray} {s:ByteArray}:iQ l s=true↔s∈l:=by
 unfold iQ;rw [List.any_eq_true]
 constructor
 ·rintro ⟨x,hx,he⟩;rw [←of_decide_eq_true he];exact hx
 ·exact fun hs=>⟨s,hs,decide_eq_true rfl⟩
structure LM (p:af) (i:Nat) (q:aO):Prop where
 fresh:q.name∉dn p
 named:iY p q.name.data.toList=true
 few:q.params.length≤8
 params:∀c∈bG p false q.params (aV p),c=0
 body:∀c∈aL p (inside p i) q.body 1,c=0
theorem eH.proc {p:af} (h:eH p) (i:Nat) (hi:i<p.procs.length):LM p i p.procs[i]∧∀j (hj:j<p.procs.length),j<i→(p.procs[j]).name≠(p.procs[i]).name:=by
 obtain ⟨bf,h1,h2,h3⟩:=CU p.procs 0 (dn p) h.procs i hi;rw [Nat.zero_add] at h3;unfold kT at h3;have he:=h3 _ (List.mem_cons_self ..);unfold xY at he;have ha:¬(iQ bf (p.procs[i]).name=true∨iY p (p.procs[i]).name.data.toList=false):=fun hc=>by rw [if_pos hc] at he;cases he
 rw [if_neg ha] at he;have hb:¬(p.procs[i]).params.length>8:=fun hc=>by rw [if_pos hc] at he;cases he
 have hnm:(p.procs[i]).name∉bf:=fun hm=>ha (.inl (xK.2 hm))
 refine ⟨⟨fun hm=>hnm (h1 _ hm),?_,by omega,fun c hc=>h3 c (List.mem_cons_of_mem _ (List.mem_append_left _ hc)),fun c hc=>h3 c (List.mem_cons_of_mem _ (List.mem_append_right _ hc))⟩,fun j hj hji e=>hnm (e ▸ h2 j hj hji)⟩;cases hx:iY p (p.procs[i]).name.data.toList with
 | true=>rfl
 | false=>exact absurd (.inr hx) ha
theorem eH.nodup {p:af} (h:eH p):(p.procs.map aO.name).Nodup:=by
 rw [List.nodup_iff_pairwise_ne,List.pairwise_iff_getElem];intro i j hi hj hij;rw [List.getElem_map,List.getElem_map];exact (h.proc j (by simpa using hj)).2 i (by simpa using hi) hij
theorem qf:∀(l:List aO) (n:Nat) (s:ByteArray) (j:Int),look (numbered aO.name l n) s=some j→∃i,∃hi:i<l.length,j=((n+i:Nat):Int)∧(l[i]).name=s
 | [],n,s,j,h=>by cases h
 | q::l,n,s,j,h=>by
  unfold look numbered at h;rw [List.find?_cons] at h;by_cases hq:q.name=s
  ·rw [decide_eq_true hq] at h
   simp only [Option.map_some,Option.some.injEq] at h;exact ⟨0,by simp,by rw [←h];rfl,hq⟩
  ·rw [decide_eq_false hq] at h
   obtain ⟨i,hi,e,hs⟩:=qf l (n+1) s j h;exact ⟨i+1,by simpa using hi,by rw [e];congr 1;omega,by simpa using hs⟩
theorem ry:∀(l:List aO) (n i:Nat) (hi:i<l.length),(numbered aO.name l n)[i]? = some ((l[i]).name,((n+i:Nat):Int))
 | q::l,n,0,_=>rfl
 | q::l,n,i+1,hi=>by
  rw [numbered,List.getElem?_cons_succ,ry l (n+1) i (by simpa using hi)];simp only [List.getElem_cons_succ];rw [show n+1+i=n+(i+1) by omega]
theorem ou:∀(l:List aO) (n:Nat),(numbered aO.name l n).map (·.1)=l.map aO.name
 | [],_=>rfl
 | q::l,n=>by rw [numbered,List.map_cons,List.map_cons,ou l]
theorem Ao {α:Type}:∀{T:List (ByteArray × α)} {x:ByteArray × α},(T.map (·.1)).Nodup→x∈T→look T x.1=some x.2
 | [],x,_,h=>by cases h
 | y::T,x,hn,h=>by
  rw [List.map_cons,List.nodup_cons] at hn;unfold look;rw [List.find?_cons];rcases List.mem_cons.1 h with rfl | h
  ·simp
  ·have hne:y.1≠x.1:=fun e=>hn.1 (by rw [e];exact List.mem_map_of_mem h)
   simp only [decide_eq_false hne];exact Ao hn.2 h
theorem GZ {α:Type} {l:List α} (h:l.Nodup):l.reverse.Nodup:=by
 rw [List.nodup_iff_pairwise_ne,List.pairwise_reverse];exact h.imp fun hne=>Ne.symm hne
theorem JG {p:af} (h:eH p) (i:Nat) (hi:i<p.procs.length):uR p (p.procs[i]).name=i∧look (dI p) (p.procs[i]).name=some (i:Int):=by
 have hg:=ry p.procs 0 i hi;rw [Nat.zero_add] at hg;have hm:=List.mem_of_getElem? hg;have hn:((numbered aO.name p.procs 0).map (·.1)).Nodup:=by rw [ou];exact h.nodup
 refine ⟨?_,Ao (x:=((p.procs[i]).name,(i:Int))) hn hm⟩;unfold uR dI;have:=Ao (T:=(numbered aO.name p.procs 0).reverse) (x:=((p.procs[i]).name,(i:Int))) (by rw [List.map_reverse];exact GZ hn) (List.mem_reverse.2 hm);rw [this]
 rfl
theorem FL {l:List ByteArray} {s x:ByteArray}:x∈kg l s↔x∈l∨x=s:=by
 unfold kg
 split
 ·next hh=>exact ⟨.inl,fun hx=>hx.elim id fun e=>by rw [e];exact xK.1 hh⟩
 ·simp
theorem xm:∀(l:List aa) (out:List ByteArray) (x:ByteArray),x∈l.foldl (fun out s=>if s.kind=8 then kg out s.name else out) out↔x∈out∨∃s∈l,s.kind=8∧s.name=x
 | [],out,x=>by simp
 | s::l,out,x=>by
  rw [List.foldl_cons,xm l];by_cases hk:s.kind=8
  ·rw [if_pos hk,FL]
   constructor
   ·rintro ((h | rfl) | ⟨t,ht,h1,h2⟩)
    ·exact .inl h
    ·exact .inr ⟨s,List.mem_cons_self ..,hk,rfl⟩
    ·exact .inr ⟨t,List.mem_cons_of_mem _ ht,h1,h2⟩
   ·rintro (h | ⟨t,ht,h1,h2⟩)
    ·exact .inl (.inl h)
    ·rcases List.mem_cons.1 ht with rfl | ht
     ·exact .inl (.inr h2.symm)
     ·exact .inr ⟨t,ht,h1,h2⟩
  ·rw [if_neg hk]
   constructor
   ·rintro (h | ⟨t,ht,h1,h2⟩)
    ·exact .inl h
    ·exact .inr ⟨t,List.mem_cons_of_mem _ ht,h1,h2⟩
   ·rintro (h | ⟨t,ht,h1,h2⟩)
    ·exact .inl h
    ·rcases List.mem_cons.1 ht with rfl | ht
     ·exact absurd h1 hk
     ·exact .inr ⟨t,ht,h1,h2⟩
theorem Ep {l:List aa} {x:ByteArray}:x∈jD l↔∃s∈l.flatMap aa.pre,s.kind=8∧s.name=x:=by
 unfold jD;rw [xm];simp
theorem Kj {p:af} {E:Env} {s:aa} {d:Nat} (h:iU p E s d=0) (hk:s.kind=8):∃i,∃hi:i<p.procs.length,(p.procs[i]).name=s.name∧look (dI p) s.name=some (i:Int)∧kY p E i s.exprs=false∧(E.within≥0→ji p i E.within.toNat=false):=by
 unfold iU at h;by_cases hf:jL s=true
 ·rw [if_pos hf] at h
  by_cases hw:dF p E s=0
  ·unfold dF at hw
   rw [hk] at hw;simp only [show ¬(8:Int)=1 by decide,show ¬(8:Int)=2 by decide,show ¬(8:Int)=3 by decide,show ¬(8:Int)=7 by decide,if_false,if_true] at hw;cases hl:look (dI p) s.name with
   | none=>rw [hl] at hw;cases hw
   | some j =>
    rw [hl] at hw;obtain ⟨i,hi,rfl,hn⟩:=qf p.procs 0 s.name j hl;rw [Nat.zero_add] at hl hw;refine ⟨i,hi,hn,by rw [Nat.zero_add],?_⟩
    dsimp only at hw
    rw [Int.toNat_natCast] at hw;by_cases ha:kY p E i s.exprs=true
    ·rw [if_pos ha] at hw;cases hw
    ·rw [if_neg ha] at hw
     refine ⟨by simpa using ha,fun he=>?_⟩;cases hx:ji p i E.within.toNat with
     | false=>rfl
     | true=>rw [if_pos ⟨he,hx⟩] at hw;cases hw
  ·rw [if_neg hw] at h;exact absurd h hw
 ·rw [if_neg hf] at h;cases h
theorem eH.rank {p:af} (h:eH p):ME p (rankP p):=by
 intro i hi s hs hk;have hq:uP p i=p.procs[i]:=by unfold uP;rw [List.getElem?_eq_getElem hi];rfl
 rw [hq] at hs;obtain ⟨d,hd⟩:=yu p (inside p i) _ 1 s hs;obtain ⟨j,hj,hn,hl,_,hle⟩:=Kj ((h.proc i hi).1.body _ hd) hk;rw [←hn,(JG h j hj).1];refine ⟨KY hi ?_ ?_,hj⟩
 ·unfold gQ
  rw [List.getElem?_eq_getElem hi];refine List.mem_filterMap.2 ⟨s.name,Ep.2 ⟨s,hs,hk,rfl⟩,?_⟩;rw [hl];rfl
 ·have:=hle (show (0:Int)≤(i:Int) by omega)
  exact this
end
section
open Go
def Ma (p:af):af:={ p with ws:=Sp.none,work:=aZ p.work,cs:=Sp.none,recover:=aZ p.recover }
section
variable {p:af} {E:Env}
theorem uY {s:aa} {d:Nat} (h:iU p E s d=0):jL s=true∧dF p E s=0:=by
 unfold iU at h;by_cases hf:jL s=true
 ·rw [if_pos hf] at h
  by_cases hw:dF p E s=0
  ·exact ⟨hf,hw⟩
  ·rw [if_neg hw] at h;exact absurd h hw
 ·rw [if_neg hf] at h;cases h
theorem Ho {s:aa} (hk:s.kind=7) (h:jL s=true):s.name=ByteArray.empty∧s.els=[]∧s.exprs.length=1:=by
 unfold jL at h;rw [hk] at h;simp only [show ¬(7:Int)=1 by decide,show ¬(7:Int)=2 by decide,show ¬(7:Int)=3 by decide,show ¬((7:Int)=4∨(7:Int)=5) by decide,show ¬(7:Int)=6 by decide,if_false,if_true] at h;obtain ⟨h1,h2,h3⟩:=of_decide_eq_true h;exact ⟨h1,List.length_eq_zero_iff.1 h2,h3⟩
theorem EK {s:aa} (hk:s.kind=7) (h:dF p E s=0):1≤s.bound∧s.bound≤16:=by
 unfold dF at h;rw [hk] at h;simp only [show ¬(7:Int)=1 by decide,show ¬(7:Int)=2 by decide,show ¬(7:Int)=3 by decide,if_false,if_true] at h;by_cases hb:s.bound<1∨s.bound>16
 ·rw [if_pos hb] at h;cases h
 ·omega
theorem yO {s:aa} {d:Nat} (h:iU p E s d=0):aW s:=fun hk=>by
 obtain ⟨h1,h2⟩:=uY h;obtain ⟨_,h3,h4⟩:=Ho hk h1;obtain ⟨h5,h6⟩:=EK hk h2;exact ⟨h5,h6,h4,h3⟩
end
theorem eH.loops {p:af} (h:eH p):(∀x∈p.work.flatMap aa.pre,aW x)∧∀x∈p.recover.flatMap aa.pre,aW x:=by
 constructor
 ·intro x hx
  obtain ⟨d,hd⟩:=yu p outside p.work 1 x hx;exact yO (h.work _ hd)
 ·intro x hx
  obtain ⟨d,hd⟩:=yu p outside p.recover 1 x hx;exact yO (h.recover _ hd)
end
section
open Go
theorem uJ (e:ae):aK (aK e)=aK e:=by
 induction e using ae.ind with
 | h k o v w n sp l ih=>rw [gm,gm,List.map_map,dZ (f:=aK ∘ aK) (g:=aK) ih]
theorem rT:∀{l:List aa},(∀s∈l,uj (ag s)=uj s)→∀n,eT (l.map ag) n=eT l n
 | [],_,_=>rfl
 | s::l,h,n=>by
  rw [List.map_cons,eT,eT,h s (List.mem_cons_self ..),rT fun t ht=>h t (List.mem_cons_of_mem _ ht)]
theorem JY (s:aa):uj (ag s)=uj s:=by
 induction s using aa.ind with
 | h k n es ex b ts th os el i1 i2 =>
  have hb:=kU (.mk k n es ex b ts th os el);rw [bV] at hb ⊢;rw [uj,uj,hb,xe,rT i1,rT i2]
theorem zO (l:List aa) (n:Int):eT (l.map ag) n=eT l n:=rT (fun s _=>JY s) n
theorem rG:∀{l:List aa},(∀s∈l,Bt (ag s)=Bt s)→∀n,il (l.map ag) n=il l n
 | [],_,_=>rfl
 | s::l,h,n=>by
  rw [List.map_cons,il,il,h s (List.mem_cons_self ..),rG fun t ht=>h t (List.mem_cons_of_mem _ ht)]
theorem Iu (s:aa):Bt (ag s)=Bt s:=by
 induction s using aa.ind with
 | h k n es ex b ts th os el i1 i2 =>
  have hb:=kU (.mk k n es ex b ts th os el);rw [bV] at hb ⊢;rw [Bt,Bt,hb,rG i1,rG i2]
theorem zH (l:List aa) (n:Int):il (l.map ag) n=il l n:=rG (fun s _=>Iu s) n
theorem zK {f g:aa→aa} (h:∀x y,ag x=ag y→ag (f x)=ag (g y)):∀(n:Nat) (x y:aa),ag x=ag y→ag (lV f n x)=ag (lV g n y)
 | 0,_,_,e=>e
 | n+1,x,y,e=>zK h n _ _ (h x y e)
theorem fD (ex:List ae) (th:List aa):ag (fV ex th)=.mk 6 ⟨#[]⟩ Sp.none ((ex.take 1).map aK) 0 Sp.none (th.map ag) Sp.none []:=by
 unfold fV;rw [bV]
 rfl
theorem zI (ex:List ae):((ex.map aK).take 1).map aK=(ex.take 1).map aK:=by
 rw [←List.map_take,List.map_map];exact List.map_congr_left fun e _=>uJ e
theorem rP {l:List aa} (h:∀s∈l,ag (uX (ag s))=ag (uX s)):(aZ (l.map ag)).map ag=(aZ l).map ag:=by
 rw [jJ,jJ,List.map_map,List.map_map,List.map_map];exact List.map_congr_left fun s hs=>h s hs
theorem KT (s:aa):ag (uX (ag s))=ag (uX s):=by
 induction s using aa.ind with
 | h k n es ex b ts th os el i1 i2 =>
  obtain ⟨s,hs⟩:∃s,aa.mk k n es ex b ts th os el=s:=⟨_,rfl⟩;have j1:∀t∈s.thn,ag (uX (ag t))=ag (uX t):=by rw [←hs];exact i1
  have j2:∀t∈s.els,ag (uX (ag t))=ag (uX t):=by rw [←hs];exact i2
  rw [hs];clear hs i1 i2;by_cases hb:fK s=true
  ·rw [oU hb,oU (by rw [kU];exact hb),kw,iJ,jS]
   refine zK (fun x y e=>?_) _ _ _ ?_
   ·rw [fD,fD,zI,List.map_append,List.map_append,rP j1,List.map_cons,List.map_cons,e]
   ·rw [fD,fD,zI]
  ·rw [Bool.not_eq_true] at hb
   rw [wR hb,wR (by rw [kU];exact hb),bV,bV,gD,kZ,kw,iJ,jS,mg,rP j1,rP j2,List.map_map]
   congr 1
   exact List.map_congr_left fun e _=>uJ e
theorem BS (l:List aa):(aZ (l.map ag)).map ag=(aZ l).map ag:=rP fun s _=>KT s
theorem zR (l:List aa):qF (l.map ag)=qF l:=by
 unfold qF;rw [lW,List.filter_map,List.map_map];have h1:((fun s:aa=>decide (s.kind=3∨s.kind=4∨s.kind=5)) ∘ ag)=fun s=>decide (s.kind=3∨s.kind=4∨s.kind=5):=by
  funext s
  show decide ((ag s).kind=3∨(ag s).kind=4∨(ag s).kind=5)=_;rw [gD]
 rw [h1];exact List.map_congr_left fun s _=>gD s
theorem sP (l:List aa):fQ (l.map ag)=fQ l:=by
 unfold fQ;rw [lW,List.countP_map]
 congr 1
 funext s
 exact j5 s
theorem xA (l:List aa):nJ (l.map ag)=nJ l:=by
 unfold nJ;rw [lW,List.all_map]
 congr 1
 funext s
 exact congrArg (fun b=>!b) (kU s)
theorem zm {a b:List aa} (h:a.map ag=b.map ag):qF a=qF b:=by rw [←zR,h,zR]
theorem mG {a b:List aa} (h:a.map ag=b.map ag):fQ a=fQ b:=by rw [←sP,h,sP]
theorem Eb {a b:List aa} (h:a.map ag=b.map ag):nJ a=nJ b:=by rw [←xA,h,xA]
theorem ze {a b:List aa} (h:a.map ag=b.map ag) (n:Int):eT a n=eT b n:=by rw [←zO,h,zO]
theorem zN {a b:List aa} (h:a.map ag=b.map ag) (n:Int):il a n=il b n:=by rw [←zH,h,zH]
theorem xh {a b:List aa} (h:a.map ag=b.map ag):(aZ a).map ag=(aZ b).map ag:=by rw [←BS,h,BS]
end
section
open Go
def Mx (a b:ByteArray):ByteArray:=a++⟨#[46]⟩++b
def Ny (s:ByteArray):Prop:=(46:UInt8)∉s.data.toList
def Mi (a:ByteArray):List aF→ByteArray→ByteArray
 | [],n=>n
 | d::ds,n=>Mi a ds (if n=d.name then Mx a d.name else n)
def Nc (q:aO) (n:ByteArray):ByteArray:=if iQ (q.params.map aF.name) n=true then Mx q.name n else n
def qU (P:ByteArray→Prop) (e:ae):Prop:=∀y∈e.pre,(y.kind=2∨y.kind=3)→P y.name
def qa (P:ByteArray→Prop) (s:aa):Prop:=∀x∈s.pre,((x.kind=1∨x.kind=2)→P x.name)∧∀e∈x.exprs,qU P e
theorem qU.sub {P:ByteArray→Prop} {e:ae} (h:qU P e):∀s∈e.subs,qU P s:=fun s hs y hy=>h y (by
 rw [ae.pre_eq];exact List.mem_cons_of_mem _ (List.mem_flatMap.2 ⟨s,hs,hy⟩))
theorem qU.own {P:ByteArray→Prop} {e:ae} (h:qU P e):(e.kind=2∨e.kind=3)→P e.name:=h e (by rw [ae.pre_eq];exact List.mem_cons_self ..)
theorem qU.mk {P:ByteArray→Prop} {e:ae} (h1:(e.kind=2∨e.kind=3)→P e.name) (h2:∀s∈e.subs,qU P s):qU P e:=fun y hy=>by
 rw [ae.pre_eq] at hy;rcases List.mem_cons.1 hy with rfl | hy
 ·exact h1
 ·obtain ⟨s,hs,hy⟩:=List.mem_flatMap.1 hy
  exact h2 s hs y hy
theorem qa.thn {P:ByteArray→Prop} {s:aa} (h:qa P s):∀t∈s.thn,qa P t:=fun t ht x hx=>h x (by
 rw [aa.pre_eq];exact List.mem_cons_of_mem _ (List.mem_append_left _ (List.mem_flatMap.2 ⟨t,ht,hx⟩)))
theorem qa.els {P:ByteArray→Prop} {s:aa} (h:qa P s):∀t∈s.els,qa P t:=fun t ht x hx=>h x (by
 rw [aa.pre_eq];exact List.mem_cons_of_mem _ (List.mem_append_right _ (List.mem_flatMap.2 ⟨t,ht,hx⟩)))
theorem qa.own {P:ByteArray→Prop} {s:aa} (h:qa P s):((s.kind=1∨s.kind=2)→P s.name)∧∀e∈s.exprs,qU P e:=h s (by rw [aa.pre_eq];exact List.mem_cons_self ..)
theorem qa.mk {P:ByteArray→Prop} {s:aa} (h1:(s.kind=1∨s.kind=2)→P s.name) (h2:∀e∈s.exprs,qU P e) (h3:∀t∈s.thn,qa P t) (h4:∀t∈s.els,qa P t):qa P s:=fun x hx=>by
 rw [aa.pre_eq] at hx;rcases List.mem_cons.1 hx with rfl | hx
 ·exact ⟨h1,h2⟩
 ·rcases List.mem_append.1 hx with hx | hx
  ·obtain ⟨t,ht,hx⟩:=List.mem_flatMap.1 hx
   exact h3 t ht x hx
  ·obtain ⟨t,ht,hx⟩:=List.mem_flatMap.1 hx
   exact h4 t ht x hx
theorem qU.turn {P Q:ByteArray→Prop} {τ:ByteArray→ByteArray} (hτ:∀n,P n→Q (τ n)) (e:ae) (h:qU P e):qU Q (FH (tX τ) e):=by
 induction e using ae.ind with
 | h k o v w n sp l ih =>
  rw [ES];refine .mk (fun hk=>?_) fun s hs=>?_
  ·have e1:tX τ k n=τ n:=if_pos hk
   show Q (tX τ k n);rw [e1];exact hτ n (h.own hk)
  ·obtain ⟨t,ht,rfl⟩:=List.mem_map.1 hs
   exact ih t ht (h.sub t ht)
theorem qa.turn {P Q:ByteArray→Prop} {τ:ByteArray→ByteArray} (hτ:∀n,P n→Q (τ n)) (s:aa) (h:qa P s):qa Q (HV (tX τ) (tT τ) s):=by
 induction s using aa.ind with
 | h k n es ex b ts th os el i1 i2 =>
  rw [EB];refine .mk (fun hk=>?_) (fun e he=>?_) (fun s hs=>?_) fun s hs=>?_
  ·have e1:tT τ k n=τ n:=if_pos hk
   show Q (tT τ k n);rw [e1];exact hτ n (h.own.1 hk)
  ·obtain ⟨t,ht,rfl⟩:=List.mem_map.1 he
   exact qU.turn hτ t (h.own.2 t ht)
  ·obtain ⟨t,ht,rfl⟩:=List.mem_map.1 hs
   exact i1 t ht (h.thn t ht)
  ·obtain ⟨t,ht,rfl⟩:=List.mem_map.1 hs
   exact i2 t ht (h.els t ht)
end
end Go.Proofs.YtepacjkacjabbaaGreatDoor
