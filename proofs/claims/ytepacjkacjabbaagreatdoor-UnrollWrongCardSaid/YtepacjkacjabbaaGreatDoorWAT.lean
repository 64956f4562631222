import Derived.Test.YtepacjkacjabbaaGreatDoorWAS
import Derived.Test.YtepacjkacjabbaaGreatDoorWAR
import Derived.Test.YtepacjkacjabbaaGreatDoorWAA
import Derived.Test.YtepacjkacjabbaaGreatDoorWAH
import Derived.Test.YtepacjkacjabbaaGreatDoorWAF
import Derived.RegionTactic
import Derived.BigQuiet
import Derived.Deep.QuietTactic
import Derived.Deep.CutRange
import Derived.Deep.CutBlock
import Derived.Deep.DeepCutAuto
import Derived.StillTailTactics
import Derived.Outline
import Derived.Laws.EntriesVeiled
namespace Go.Proofs.YtepacjkacjabbaaGreatDoor
section
open Go
theorem Gc {p:af} {before:List ByteArray} {a:Bool} {d:aF} (h:og p before a d=0):d.name∉before∧iY p d.name.data.toList=true∧bQ d.width=true∧(if a=true then decide (1≤d.size∧d.size≤16) else decide (d.size=0))=true:=by
 unfold og at h;by_cases h1:iQ before d.name=true∨iY p d.name.data.toList=false
 ·rw [if_pos h1] at h;cases h
 ·rw [if_neg h1] at h
  by_cases h2:bQ d.width=false
  ·rw [if_pos h2] at h;cases h
  ·rw [if_neg h2] at h
   by_cases h3:(if a=true then decide (1≤d.size∧d.size≤16) else decide (d.size=0))=false
   ·rw [if_pos h3] at h;cases h
   ·refine ⟨fun hm=>h1 (.inl (xK.2 hm)),?_,by simpa using h2,Bool.not_eq_false _ ▸ h3⟩
    cases hn:iY p d.name.data.toList with
    | true=>rfl
    | false=>exact absurd (.inr hn) h1
def FT (p:af) (a:Bool) (d:aF):Prop:=iY p d.name.data.toList=true∧bQ d.width=true∧(if a=true then decide (1≤d.size∧d.size≤16) else decide (d.size=0))=true
theorem kS {p:af} {a:Bool}:∀(l:List aF) (before:List ByteArray),(∀c∈bG p a l before,c=0)→before.Nodup→(before++l.map aF.name).Nodup∧∀d∈l,FT p a d
 | [],before,_,hb=>⟨by simpa using hb,fun _ h=>by cases h⟩
 | d::l,before,h,hb=>by
  rw [bG] at h;obtain ⟨h1,h2⟩:=Gc (h _ (List.mem_cons_self ..));have hb2:(before++[d.name]).Nodup:=List.nodup_append.2 ⟨hb,by simp,fun x hx y hy=>by
   rw [List.mem_singleton.1 hy];rintro rfl;exact h1 hx⟩
  obtain ⟨h3,h4⟩:=kS l (before++[d.name]) (fun c hc=>h c (List.mem_cons_of_mem _ hc)) hb2;refine ⟨by simpa using h3,fun x hx=>?_⟩;rcases List.mem_cons.1 hx with rfl | hx
  ·exact h2
  ·exact h4 x hx
section
variable {p:af} (h:eH p)
include h
theorem eH.decls:(dn p).Nodup∧(∀d∈p.inputs,FT p false d)∧(∀d∈p.ghosts,FT p false d)∧(∀d∈p.vars,FT p false d)∧∀d∈p.arrays,FT p true d:=by
 have h1:=h;unfold eH bJ at h1;simp only [List.mem_cons,List.mem_append] at h1;obtain ⟨n1,o1⟩:=kS p.inputs [] (fun c hc=>h1 c (.inr (.inl hc))) List.nodup_nil;rw [List.nil_append] at n1;obtain ⟨n2,o2⟩:=kS p.ghosts (lN p) (fun c hc=>h1 c (.inr (.inr (.inl hc)))) n1;obtain ⟨n3,o3⟩:=kS p.vars (names2 p) (fun c hc=>h1 c (.inr (.inr (.inr (.inl hc))))) n2;obtain ⟨n4,o4⟩:=kS p.arrays (lQ p) (fun c hc=>h1 c (.inr (.inr (.inr (.inr (.inl hc)))))) n3;exact ⟨n4,o1,o2,o3,o4⟩
end
theorem rV (p:af):(fO p).map (·.1)=dn p:=by
 unfold fO dn lQ names2 lN;simp only [List.map_append,List.map_map]
 rfl
def Nj (p:af):List aF:=p.procs.flatMap fun q=>q.params.map (Mo q)
section
variable {p:af} (h:eH p)
include h
theorem eH.params (i:Nat) (hi:i<p.procs.length):(aV p++(p.procs[i]).params.map aF.name).Nodup∧∀d∈(p.procs[i]).params,FT p false d:=by
 have hn:(aV p).Nodup:=by
  unfold aV;rw [rV];exact h.decls.1
 exact kS _ _ (h.proc i hi).1.params hn
end
section
variable {p:af} (h:eH p) (hne:p.procs≠[])
include h hne
end
theorem Gu {α:Type} {T:List (ByteArray × α)} {s:ByteArray} {x:α} (h:look T s=some x):(s,x)∈T:=by
 unfold look at h;cases hf:T.find? fun x=>decide (x.1=s) with
 | none=>rw [hf] at h;cases h
 | some y =>
  rw [hf] at h;have h1:=List.find?_some hf;have h2:=List.mem_of_find?_eq_some hf;rw [decide_eq_true_eq] at h1;obtain ⟨a,b⟩:=y;injection h with h
  dsimp only at h h1
  rw [←h,←h1];exact h2
structure MR (p q:af) (E F:Env) (τ:ByteArray→ByteArray):Prop where
 width:q.width=p.width
 find:∀n,(aJ p E n).kind≠0→(aJ q F (τ n)).width=(aJ p E n).width∧(aJ q F (τ n)).kind=if (aJ p E n).kind=5 then 3 else (aJ p E n).kind
section
variable {p q:af} {E F:Env} {τ:ByteArray→ByteArray} (m:MR p q E F τ)
include m
end
theorem EW {p:af} {E:Env} {wh:Int} {e:ae} {d:Nat} (h:jk p E wh e d=0):jg e=true∧(bK e=true→(aJ p E e.name).kind≠0∧((aJ p E e.name).kind=4↔e.kind=3))∧bX p E e=false∧(d:Int)≤dX p 32 1000∧¬((wh=1∧(e.kind=4∨bK e=true∧(aJ p E e.name).kind≠1))∨(wh=2∧bK e=true∧((aJ p E e.name).kind=3∨(aJ p E e.name).kind=4))):=by
 unfold jk at h;by_cases h1:jg e=false
 ·rw [if_pos h1] at h;cases h
 ·rw [if_neg h1] at h
  by_cases h2:bK e=true∧((aJ p E e.name).kind=0∨¬((aJ p E e.name).kind=4↔e.kind=3))
  ·rw [if_pos h2] at h;cases h
  ·rw [if_neg h2] at h
   by_cases h3:(wh=1∧(e.kind=4∨bK e=true∧(aJ p E e.name).kind≠1))∨(wh=2∧bK e=true∧((aJ p E e.name).kind=3∨(aJ p E e.name).kind=4))
   ·rw [if_pos h3] at h;cases h
   ·rw [if_neg h3] at h
    by_cases h4:bX p E e=true
    ·rw [if_pos h4] at h;cases h
    ·rw [if_neg h4] at h
     by_cases h5:(d:Int)>dX p 32 1000
     ·rw [if_pos h5] at h;cases h
     ·refine ⟨by simpa using h1,fun hn=>⟨fun e=>h2 ⟨hn,.inl e⟩,?_⟩,by simpa using h4,by omega,h3⟩
      exact Classical.byContradiction fun e=>h2 ⟨hn,.inr e⟩
theorem EH {p:af} {E:Env} {wh:Int} (e:ae):∀d,(∀c∈fu p E wh e d,c=0)→∀y∈e.pre,bK y=true→(aJ p E y.name).kind≠0:=by
 induction e using ae.ind with
 | h k o v w n sp l ih =>
  intro d h y hy hn;rw [fJ] at h;rw [ae.pre_eq] at hy;rcases List.mem_cons.1 hy with rfl | hy
  ·exact ((EW (h _ (List.mem_cons_self ..))).2.1 hn).1
  ·obtain ⟨s,hs,hy⟩:=List.mem_flatMap.1 hy
   exact ih s hs (d+1) (fun c hc=>h c (List.mem_cons_of_mem _ (by rw [aY];exact List.mem_flatMap.2 ⟨s,hs,hc⟩))) y hy hn
section
variable {p q:af} {E F:Env} {τ:ByteArray→ByteArray} (m:MR p q E F τ) (hlim:dX p 32 1000≤dX q 32 1000)
include m hlim
end
theorem CF {p:af} {E:Env} {wh:Int} {l:List ae} {d:Nat} (h:∀c∈cO p E wh l d,c=0):∀e∈l,∀y∈e.pre,bK y=true→(aJ p E y.name).kind≠0:=fun e he =>
 EH e d fun c hc=>h c (by rw [aY];exact List.mem_flatMap.2 ⟨e,he,hc⟩)
end
section
open Go
def Zr (q:af) (l:List aa):Prop:=∀d,d+oz l≤1001→∀c∈aL q outside l d,c=0
theorem Zr.nil {q:af}:Zr q []:=fun d _ c hc=>by rw [aL] at hc;cases hc
theorem CW (q:af) (E:Env) (a b:List aa) (d:Nat):aL q E (a++b) d=aL q E a d++aL q E b d:=by rw [bn,bn,bn,List.flatMap_append]
theorem Zr.app {q:af} {a b:List aa} (ha:Zr q a) (hb:Zr q b):Zr q (a++b):=fun d hd c hc=>by
 rw [xu] at hd;rw [CW] at hc;rcases List.mem_append.1 hc with hc | hc
 ·exact ha d (by omega) c hc
 ·exact hb d (by omega) c hc
theorem Jv (p:af) (n:ByteArray):aJ p outside n=(look (fO p) n).getD ⟨0,0⟩:=rfl
section
variable {p:af} (h:eH p) (hne:p.procs≠[])
include h hne
end
theorem CG {q:af} {n:ByteArray} (h:(aJ q outside n).kind≠0):n∈dn q:=by
 rw [Jv] at h;cases hl:look (fO q) n with
 | none=>rw [hl] at h;exact absurd rfl h
 | some t =>
  rw [←rV];exact List.mem_map.2 ⟨_,Gu hl,rfl⟩
theorem Ko (p:af) (E:Env) (s:aa):∀d,(∀c∈kH p E s d,c=0)→∀x∈s.pre,(∃d',iU p E x d'=0)∧∀c∈cO p E 0 x.exprs 1,c=0:=by
 induction s using aa.ind with
 | h k n es ex b ts th os el i1 i2 =>
  intro d h x hx;rw [gq] at h;rw [aa.pre_eq] at hx;rcases List.mem_cons.1 hx with rfl | hx
  ·exact ⟨⟨d,h _ (List.mem_cons_self ..)⟩,fun c hc=>h c (List.mem_cons_of_mem _ (List.mem_append_left _ hc))⟩
  ·rcases List.mem_append.1 hx with hx | hx
   ·obtain ⟨t,ht,hx⟩:=List.mem_flatMap.1 hx
    exact i1 t ht (d+1) (fun c hc=>h c (List.mem_cons_of_mem _ (List.mem_append_right _ (List.mem_append_left _ (by rw [bn];exact List.mem_flatMap.2 ⟨t,ht,hc⟩))))) x hx
   ·obtain ⟨t,ht,hx⟩:=List.mem_flatMap.1 hx
    exact i2 t ht (d+1) (fun c hc=>h c (List.mem_cons_of_mem _ (List.mem_append_right _ (List.mem_append_right _ (by rw [bn];exact List.mem_flatMap.2 ⟨t,ht,hc⟩))))) x hx
theorem Iy {p:af} {E:Env} {s:aa} (hw:dF p E s=0) (hk:s.kind=1∨s.kind=2):(aJ p E s.name).kind≠0:=by
 unfold dF at hw;rcases hk with hk | hk
 ·rw [if_pos hk] at hw
  by_cases a:(aJ p E s.name).kind=0∨(aJ p E s.name).kind=1∨(aJ p E s.name).kind=4
  ·rw [if_pos a] at hw;cases hw
  ·exact fun e=>a (.inl e)
 ·rw [if_neg (by omega),if_pos hk] at hw
  by_cases a:(aJ p E s.name).kind≠4
  ·rw [if_pos a] at hw;cases hw
  ·omega
theorem Zr.names {q:af} {l:List aa} (h:Zr q l) (hd:oz l≤1000):∀s∈l,qa (·∈dn q) s:=fun s hs x hx=>by
 have h1:=h 1 (by omega);obtain ⟨⟨d',h2⟩,h3⟩:=Ko q outside s 1 (fun c hc=>h1 c (by rw [bn];exact List.mem_flatMap.2 ⟨s,hs,hc⟩)) x hx;refine ⟨fun hk=>CG (Iy (uY h2).2 hk),fun e he y hy hk=>CG (CF h3 e he y hy (decide_eq_true hk))⟩
section
variable {p:af} {E:Env} {τ:ByteArray→ByteArray} (m:MR p (MV p) E outside τ)
include m
end
section
variable {p:af} (h:eH p) (hne:p.procs≠[])
include h hne
theorem eH.few:p.procs.length≤16∧p.vars.length≤16:=by
 have h0:=h _ (by unfold bJ;exact List.mem_cons_self ..);unfold gu at h0;by_cases a:p.blocks<1∨p.blocks>8∨bQ p.width=false
 ·rw [if_pos a] at h0;cases h0
 ·rw [if_neg a] at h0
  by_cases b:p.inputs.length>16∨p.ghosts.length>16∨(p.vars.length:Int)>dX p 16 256∨p.arrays.length>16∨p.procs.length>16∨(aP p:Int)>dX p 2000 20000
  ·rw [if_pos b] at h0;cases h0
  ·have e:dX p 16 256=16:=by
    unfold dX;rw [if_pos (List.length_pos_iff.2 hne)]
   omega
omit h in
end
end
section
open Go
section
variable {p:af} (h:eH p) (hne:p.procs≠[])
include h hne
end
end
section
open Go
mutual
def Ns (p:af) (W:Nat→Int):aa→Int
 | .mk k n _ ex _ _ th _ el=>1+(aN ex:Int)+(if k=8 then (ex.length:Int) - 1+W (uR p n) else 0)+Hq p W th 0+Hq p W el 0
def Hq (p:af) (W:Nat→Int):List aa→Int→Int
 | [],n=>n
 | s::l,n=>Hq p W l (min (n+Ns p W s) 20001)
end
def Im (p:af):Nat→Nat→Int
 | 0,_=>0
 | n+1,i=>Hq p (Im p n) (uP p i).body 0
def NA (a:Int) (b:Nat):Prop:=min a 20001=min (b:Int) 20001
def Me (p:af) (s:aa):Prop:=s.kind=8→s.thn=[]∧s.els=[]∧(uP p (uR p s.name)).params.length=s.exprs.length
def Mr (p:af):Nat:=aP { p with procs:=[],work:=[],recover:=[] }
def MO (p:af):Int:=min ((Mr p:Int)+(p.procs.map fun q=>q.params.length).sum+Hq p (Im p (p.procs.length+1)) p.work 0+Hq p (Im p (p.procs.length+1)) p.recover 0) 20001
end
section
open Go
structure dM (p:af):Prop where
 heft:aP p≤20000
 names:dP p
 chk:(dL p).2=0
 none:p.procs=[]
theorem kJ {p:af} (h:aP p≤20000):dL p=(fU (bJ p (aP p)) 0).headD (0,0):=CL (by rw [gY]) h rfl
theorem Ct {p q:af} (h:aH p=aH q) (hl:aP q≤20000):dL p=dL q:=by
 have hh:aP p=aP q:=by rw [←iH,h,iH]
 rw [kJ (by omega),kJ hl,hh,D7 h]
theorem dM.same {p q:af} (h:aH p=aH q) (hq:dM q):dM p:=by
 have hh:aP p=aP q:=by rw [←iH,h,iH]
 refine ⟨by have:=hq.heft;omega,(JN h hq.names hq.heft).names,by rw [Ct h hq.heft];exact hq.chk,?_⟩;have h1:p.procs.map kI=q.procs.map kI:=congrArg af.procs h;rw [hq.none] at h1;exact List.map_eq_nil_iff.1 h1
theorem dM.right {p:af} (h:dM p):eH p:=Cm h.heft h.chk
theorem dM.weight {p:af} (h:dM p):eu p≤1125899906842624:=by have:=jX p;have:=h.heft;omega
theorem dM.len {p:af} (h:dM p):p.procs.length=0:=by rw [h.none];rfl
def gJ (p:af):af:={ p with ws:=Sp.none,work:=[],cs:=Sp.none,recover:=[] }
theorem jZ (p:af):aP p=aP (gJ p)+ay p.work+ay p.recover:=by
 have e:ay []=0:=rfl;unfold aP gJ;simp only [e];omega
def bD (p:af):Int:=min ((aP (gJ p):Int)+eT p.work 0+eT p.recover 0) 20001
def gV (p:af):Int:=max (min (il p.work 0) 1001) (min (il p.recover 0) 1001)
theorem Ew {p q:af} (h:aH p=aH q):aH (gJ p)=aH (gJ q):=by
 unfold aH at h ⊢;unfold gJ;injection h;simp only [*]
theorem l7 {p q:af} (h:aH p=aH q):p.work.map ag=q.work.map ag∧p.recover.map ag=q.recover.map ag:=⟨congrArg af.work h,congrArg af.recover h⟩
theorem mE {p q:af} (h:aH p=aH q):bD p=bD q:=by
 unfold bD;rw [←iH,Ew h,iH,ze (l7 h).1,ze (l7 h).2]
theorem uV {p q:af} (h:aH p=aH q):gV p=gV q:=by
 unfold gV;rw [zN (l7 h).1,zN (l7 h).2]
theorem vZ {p:af} (h:dM p):countP (gJ p)=aP (gJ p):=ma (by have:=jZ p;have:=h.heft;omega)
theorem AO {p:af} (h:dM p):eu (gJ p)≤1125899906842624:=by have:=jX (gJ p);have:=jZ p;have:=h.heft;omega
theorem D9 {p:af} (h:dM p):min (dW (countP (gJ p))+eT p.work 0+eT p.recover 0) 20001=bD p:=by
 have h1:=jZ p;have h2:=h.heft;rw [vZ h];unfold dW bD;rw [if_pos (by omega)]
end
section
open Go
theorem y9:∀(a:List Int) (n:Nat),(∃c,c∈a∧c≠0)→((fU a n).headD (0,0)).2≠0
 | [],_,h=>by obtain ⟨c,hc,_⟩:=h;cases hc
 | c::a,n,h=>by
  rw [fU];by_cases h0:c=0
  ·rw [if_pos h0]
   refine y9 a (n+1) ?_;obtain ⟨d,hd,hd0⟩:=h;rcases List.mem_cons.1 hd with rfl | hd
   ·exact absurd h0 hd0
   ·exact ⟨d,hd,hd0⟩
  ·rw [if_neg h0]
   exact h0
theorem yR {p:af} (hl:aP p≤20000) {c:Int} (hc:c∈bJ p (aP p)) (h0:c≠0):(dL p).2≠0:=by
 rw [kJ hl];exact y9 _ 0 ⟨c,hc,h0⟩
structure KN (p:af):Prop where
 names:dP p
 weight:eu p≤1125899906842624
 bad:¬((dL p).2=0∧p.procs.length=0)
def Nr:ByteArray:=⟨#[122,122]⟩
def Lt:aO:=⟨Nr,Sp.none,[],Sp.none,[]⟩
def Lv (p:af) (rs:Sp):af:={ p with rs:=rs,procs:=p.procs++[Lt] }
def KZ (p:af):af:={ p with width:=0 }
def vW (p:af) (ws sp:Sp):af:={ p with ws:=ws,work:=p.work++[gp sp gP (aR 0 1)] }
theorem Jo (p:af) (rs:Sp):aP (Lv p rs)=aP p+1:=by
 have e:((Lv p rs).procs.map gI).sum=(p.procs.map gI).sum+1:=by
  show ((p.procs++[Lt]).map gI).sum=_;rw [List.map_append,List.sum_append]
  rfl
 unfold aP;rw [e];show (p.inputs.length+p.ghosts.length+p.vars.length+p.arrays.length+1)+p.require.pre.length+(p.inits.map fun i=>1+i.value.pre.length).sum+((p.procs.map gI).sum+1)+ay p.work+ay p.recover+p.invariant.pre.length=_;omega
theorem KD {M:gy} {hasP:Bool} {p:af} (h:mO M hasP p) (hN:M.N=std) (rs:Sp):KN (Lv p rs):=by
 have hnm:EM M.N=true:=by rw [hN];decide
 have h1:=sZ h;have h2:=Jo p rs;have h3:=jX (Lv p rs);refine ⟨⟨(jP h hnm).1,fun q hq=>?_⟩,by omega,fun hc=>?_⟩
 ·rcases List.mem_append.1 (show q∈p.procs++[Lt] from hq) with hq | hq
  ·exact (jP h hnm).2 q hq
  ·rw [List.mem_singleton.1 hq]
   exact ⟨by decide,fun d hd=>by cases hd⟩
 ·have h4:=hc.2
  have e:(Lv p rs).procs.length=p.procs.length+1:=by
   show (p.procs++[Lt]).length=_;rw [List.length_append]
   rfl
  omega
theorem KF {M:gy} {hasP:Bool} {p:af} (h:mO M hasP p) (hN:M.N=std):KN (KZ p):=by
 have hnm:EM M.N=true:=by rw [hN];decide
 have h1:=sZ h;have h2:aP (KZ p)=aP p:=rfl;have h3:=jX (KZ p);refine ⟨⟨(jP h hnm).1,(jP h hnm).2⟩,by omega,fun hc=>?_⟩;have hm:(320:Int)∈bJ (KZ p) (aP (KZ p)):=by
  have e:gu (KZ p) (aP (KZ p))=320:=by
   unfold gu;rw [if_pos (.inr (.inr (by show bQ 0=false;decide)))]
  unfold bJ;rw [e];exact List.mem_cons_self ..
 exact yR (by omega) hm (by decide) hc.1
theorem Ii {M:gy} {hasP:Bool} {p:af} (h:mO M hasP p) (ws sp:Sp):nU M (vW p ws sp):=⟨h.ok,h.prm,h.blocks,h.width,h.inputs,h.ghosts,h.vars,h.arrays,h.require,h.inits,h.blocksN,h.initsN,h.invariant⟩
theorem J3 (p:af) (ws sp:Sp):aP (vW p ws sp)=aP p+2:=by
 have e1:ay [gp sp gP (aR 0 1)]=2:=by
  rw [←jU p outside [gp sp gP (aR 0 1)] 1,bn]
  rfl
 have e:ay (vW p ws sp).work=ay p.work+2:=by rw [←e1];exact GM _ _
 unfold aP;rw [e];show (p.inputs.length+p.ghosts.length+p.vars.length+p.arrays.length+1)+p.require.pre.length+(p.inits.map fun i=>1+i.value.pre.length).sum+(p.procs.map gI).sum+(ay p.work+2)+ay p.recover+p.invariant.pre.length=_;omega
theorem KO {M:gy} {hasP:Bool} {p:af} (h:mO M hasP p) (hN:M.N=std) (ws sp:Sp):KN (vW p ws sp):=by
 have hnm:EM M.N=true:=by rw [hN];decide
 have h1:=sZ h;have h2:=J3 p ws sp;have h3:=jX (vW p ws sp);refine ⟨⟨(jP h hnm).1,(jP h hnm).2⟩,by omega,fun hc=>?_⟩;have hno:aJ (vW p ws sp) outside gP=⟨0,0⟩:=K6 (Ii h ws sp) (by rw [hN];intro x hx;simp only [std,List.mem_cons,List.not_mem_nil,or_false] at hx;rcases hx with rfl | rfl | rfl | rfl | rfl | rfl | rfl <;> decide);have eset:dF (vW p ws sp) outside (gp sp gP (aR 0 1))=if (aJ (vW p ws sp) outside gP).kind=0∨(aJ (vW p ws sp) outside gP).kind=1∨(aJ (vW p ws sp) outside gP).kind=4 then 321 else if dE (bL (vW p ws sp) outside (aR 0 1)) (aJ (vW p ws sp) outside gP).width=true then 322 else 0:=rfl
 have hc1:iU (vW p ws sp) outside (gp sp gP (aR 0 1)) 1=321:=G8 (e:=321) rfl (by rw [eset,hno];rfl) (by decide);have hm:(321:Int)∈bJ (vW p ws sp) (aP (vW p ws sp)):=by
  rw [Bd];refine List.mem_append_right _ (List.mem_append_right _ (List.mem_append_left _ ?_));show (321:Int)∈aL (vW p ws sp) outside (p.work++[gp sp gP (aR 0 1)]) 1;rw [Cz,gq,hc1];exact List.mem_append_right _ (List.mem_cons_self ..)
 exact yR (by omega) hm (by decide) hc.1
end
section
open Go Go.RowKit Go.Maps
def gW (lv:Sp) (n:Nat) (at_:Nat) (p:af) (prm:Bool):List Value:=lv.val n::.int .i64 at_::(p.cells++[.bool prm])
def encU (x:Int):List Value:=[.int .u8 x]
structure mP (q n:Nat) (lv:Sp) (ls:List Int) (at_:Nat) (p:af) (prm:Bool) (W:World):Prop where
 box:W.heap[q]? = some (.cells (gW lv ls.length at_ p prm).toArray 145 (0,0))
 le:at_≤ls.length
 few:ls.length≤200
 list:RowOf n (mask q W) lv 1 encU ls
 byte:∀x∈ls,0≤x∧x≤255
 qn:q<n
 nW:n≤W.heap.size
theorem mP.box_lt {q n:Nat} {lv:Sp} {ls:List Int} {at_:Nat} {p:af} {prm:Bool} {W:World} (h:mP q n lv ls at_ p prm W):q<W.heap.size:=Nat.lt_of_lt_of_le h.qn h.nW
theorem mP.cell {q n:Nat} {lv:Sp} {ls:List Int} {at_:Nat} {p:af} {prm:Bool} {W:World} (h:mP q n lv ls at_ p prm W) (i:Nat) {v:Value} (hv:(gW lv ls.length at_ p prm)[i]? = some v):W.cell? ⟨q,i,none⟩=some v:=by
 simp only [World.cell?,h.box]
 simpa using hv
theorem mP.frozen {q n:Nat} {lv:Sp} {ls:List Int} {at_:Nat} {p:af} {prm:Bool} {W:World} (h:mP q n lv ls at_ p prm W) (i:Nat):W.frozen? ⟨q,i,none⟩=false:=by simp [World.frozen?,h.box]
theorem mP.on {q n:Nat} {lv:Sp} {ls:List Int} {at_:Nat} {p:af} {prm:Bool} {W W':World} (h:mP q n lv ls at_ p prm W) (hb:Below W.heap.size W W'):mP q n lv ls at_ p prm W' :=
 ⟨(hb.block _ h.box_lt).trans h.box,h.le,h.few,h.list.below (ai h.box_lt (hb.mono h.nW)),h.byte,h.qn,Nat.le_trans h.nW hb.size⟩
theorem mP.step {q n:Nat} {lv:Sp} {ls:List Int} {at_:Nat} {p:af} {prm:Bool} {W:World} (h:mP q n lv ls at_ p prm W) (k:Nat) (hk:k≤ls.length):mP q n lv ls k p prm (W.setCell ⟨q,1,none⟩ (.int .i64 k)):=by
 refine ⟨?_,hk,h.few,by rw [jC];exact h.list,h.byte,h.qn,by simpa using h.nW⟩;simp [World.setCell,Array.getElem?_modify,h.box,gW]
theorem pG (x wd:Int) (w:World):Calls Tryz.prog 98 #[.int .u32 x,.int .i64 wd] w fun o w'=>o=.returned (.agg #[.int .u8 1,.int .u8 0,.int .u32 x,.int .i64 wd,.string ⟨#[]⟩,.slice none 0 0])∧Below w.heap.size w w':=by
 go_enter Tryz.func98,Tryz.ntmps98
 go_wp2_with fail
 exact bodyPost_ret (results_cell_row rfl _ _ w.heap.size 30 _ (0,0) _ rfl (zan _ _) Tryz.underlying30 rfl (by kernel_rfl)) rfl ⟨rfl,(Below.refl _ _).alloc (Nat.le_refl _) _⟩
theorem qY (s:ByteArray) (w:World):Calls Tryz.prog 159 #[.string s] w fun o w'=>o=.returned (.agg #[.int .u8 2,.int .u8 0,.int .u32 0,.int .i64 0,.string s,.slice none 0 0])∧Below w.heap.size w w':=by
 go_enter Tryz.func159,Tryz.ntmps159
 go_wp2_with fail
 exact bodyPost_ret (results_cell_row rfl _ _ w.heap.size 30 _ (0,0) _ rfl (zan _ _) Tryz.underlying30 rfl (by kernel_rfl)) rfl ⟨rfl,(Below.refl _ _).alloc (Nat.le_refl _) _⟩
theorem mP.drew {q n:Nat} {lv:Sp} {ls:List Int} {at_:Nat} {p:af} {prm:Bool} {W:World} (h:mP q n lv ls at_ p prm W):mP q n lv ls at_ p prm W.drew:=h.on (Below.refl _ _).drew
theorem mP.byteAt {q n:Nat} {lv:Sp} {ls:List Int} {at_:Nat} {p:af} {prm:Bool} {W:World} (h:mP q n lv ls at_ p prm W) (hat:at_<ls.length):∃b off x,lv.at_=some ⟨b,off,none⟩∧b≠q∧b<W.heap.size∧0≤x∧x≤255∧W.cell? ⟨b,off+at_,none⟩=some (.int .u8 x):=by
 obtain ⟨b,off,ea,hlt,hc⟩:=h.list.row (by omega);have hcx:=uA (hc at_ hat 0 (.int .u8 (ls[at_])) rfl);rw [Nat.mul_one,Nat.add_zero] at hcx;have hbq:b≠q:=by
  rintro rfl;have h2:=hc at_ hat 0 (.int .u8 (ls[at_])) rfl;simp only [World.cell?,jG,if_pos h.box_lt] at h2;simp at h2
 have hx:=h.byte _ (List.getElem_mem hat);exact ⟨b,off,_,ea,hbq,by have:=h.nW;omega,hx.1,hx.2,hcx⟩
set_option maxRecDepth 100000 in
theorem bZ (q n:Nat) (lv:Sp) (ls:List Int) (at_:Nat) (p:af) (prm:Bool) (w:World) (h:mP q n lv ls at_ p prm w) (m:Int) (hm:0<m) (hm2:m≤255) :
  Calls Tryz.prog 97 #[.pointer (some ⟨q,0,none⟩),.int .i64 m] w fun o w'=>∃(k:Int) (at':Nat),o=.returned (.int .i64 k)∧0≤k∧k<m∧mP q n lv ls at' p prm w'∧Below w.heap.size (mask q w) (mask q w'):=by
 have c0:=h.cell 0 rfl;have c1:=h.cell 1 rfl;simp only [Sp.val] at c0;have hbd:Below w.heap.size w w.drew:=(Below.refl _ _).drew;have hmk:=h.drew;have hmm:=ai h.box_lt hbd;have d0:=hmk.cell 0 rfl;have d1:=hmk.cell 1 rfl;have f1:=hmk.frozen 1;simp only [Sp.val] at d0;have H:=zhd hmk;have HMM:=zhd hmm;have HM:=zhd hm;have HM2:=zhd hm2;have hle:=h.le;have hfew:=h.few;have hm0:m≠0:=by omega
 by_cases hat:at_<ls.length
 ·have hd:decide ((ls.length:Int)≤(at_:Int))=false:=decide_eq_false (by omega)
  obtain ⟨b,off,x,ea,hbq,hblt,hx0,hx1,hcx⟩:=hmk.byteAt hat;have hcx2:(w.drew.setCell ⟨q,1,none⟩ (.int .i64 ((at_:Int)+1))).cell? ⟨b,off+at_,none⟩=some (.int .u8 x):=(World.cell?_of_block (w:=w.drew) (Below.heap_setCell _ _ _ _ hbq)).trans hcx;have hst:=hmk.step (at_+1) hat;rw [show (((at_+1:Nat):Int))=(at_:Int)+1 by omega] at hst;have e0:=hst.cell 0 rfl;have e1:=hst.cell 1 rfl;simp only [Sp.val] at e0;rw [show (((at_+1:Nat):Int))=(at_:Int)+1 by omega] at e1;rw [ea] at c0 d0 e0;have hsd:=ai (B:=w.heap.size) hst.box_lt ((Below.refl _ (w.drew.setCell ⟨q,1,none⟩ (.int .i64 ((at_:Int)+1)))).drew);have HST:=zhd hst.drew;rw [jC] at hsd;have HMS:=zhd (hmm.trans hsd);have hsub:(at_:Int)+1 - 1=(at_:Int):=by omega
  have htm:x.tmod m=x % m:=Int.tmod_eq_emod_of_nonneg hx0;have HX0:=zhd (Int.emod_nonneg x hm0);have HX1:=zhd (Int.emod_lt_of_pos x hm);clear hst hsd hmm hmk hbd hcx h;go_enter Tryz.func97,Tryz.ntmps97
  go_upto_region 1 with fail
  go_region
  generalize w.drew=w1 at *;go_wp2_with fail
  go_region
  go_wp2_with fail
  go_ret
  exact ⟨x % m,at_+1,rfl,HX0.out,HX1.out,HST.out,HMS.out⟩
 ·have hd:decide ((ls.length:Int)≤(at_:Int))=true:=decide_eq_true (by omega)
  clear h hmk hbd hmm;go_enter Tryz.func97,Tryz.ntmps97
  go_upto_region 1 with fail
  go_region
  go_wp2_with fail
  go_ret
  exact ⟨0,at_,rfl,by omega,HM.out,H.out,HMM.out⟩
theorem jE (op:Int) (e1 e2:ae) (w:World):Calls Tryz.prog 158 #[.int .u8 op,.agg #[.int .u8 e1.kind,.int .u8 e1.op,.int .u32 e1.value,.int .i64 e1.width,.string e1.name,.slice e1.sp.at_ e1.subs.length e1.sp.cap],.agg #[.int .u8 e2.kind,.int .u8 e2.op,.int .u32 e2.value,.int .i64 e2.width,.string e2.name,.slice e2.sp.at_ e2.subs.length e2.sp.cap]] w fun o w'=>∃b,o=.returned (.agg #[.int .u8 6,.int .u8 op,.int .u32 0,.int .i64 0,.string ⟨#[]⟩,.slice (some ⟨b,0,none⟩) 2 2])∧w.heap.size≤b∧b<w'.heap.size∧w'.heap[b]? = some (.cells (e1.cells++e2.cells).toArray 30 (0,0))∧Below w.heap.size w w':=by
 go_enter Tryz.func158,Tryz.ntmps158
 go_wp2_with fail
 obtain ⟨h1,h2,h3,h4,h6,h5⟩:=DU w (.cells #[.int .u8 e1.kind,.int .u8 e1.op,.int .u32 e1.value,.int .i64 e1.width,.string e1.name,.slice e1.sp.at_ e1.subs.length e1.sp.cap] 30) (.cells #[.int .u8 e2.kind,.int .u8 e2.op,.int .u32 e2.value,.int .i64 e2.width,.string e2.name,.slice e2.sp.at_ e2.subs.length e2.sp.cap] 30) (.cells #[.int .u8 6,.int .u8 op,.int .u32 0,.int .i64 0,.string ⟨#[]⟩,.slice (some ⟨w.heap.size+1+1+1,0,none⟩) 2 2] 30) (.cells #[.int .u8 e1.kind,.int .u8 e1.op,.int .u32 e1.value,.int .i64 e1.width,.string e1.name,.slice e1.sp.at_ e1.subs.length e1.sp.cap,.int .u8 e2.kind,.int .u8 e2.op,.int .u32 e2.value,.int .i64 e2.width,.string e2.name,.slice e2.sp.at_ e2.subs.length e2.sp.cap] 30);exact bodyPost_ret (results_cell_row rfl _ _ (w.heap.size+1+1) 30 _ (0,0) _ rfl h3 Tryz.underlying30 rfl (by kernel_rfl)) rfl ⟨w.heap.size+1+1+1,rfl,by omega,by omega,h4,h5⟩
end
section
open Go Go.RowKit
def dA (lo:Nat) (W:World):World:={ W with heap:=W.heap.mapIdx fun k o=>if k<lo then .cells #[] 0 else o }
theorem uB (lo:Nat) (W:World) (k:Nat):(dA lo W).heap[k]? = (W.heap[k]?).map fun o=>if k<lo then .cells #[] 0 else o:=by simp [dA]
theorem av {lo:Nat} {W:World} {p:Addr} {u:Value}:(dA lo W).cell? p=some u↔lo≤p.block∧W.cell? p=some u:=by
 by_cases h:p.block<lo
 ·constructor
  ·intro hc
   exfalso
   simp only [World.cell?,uB] at hc;cases hh:W.heap[p.block]? with
   | none=>rw [hh] at hc;simp at hc
   | some o=>rw [hh] at hc;simp [h] at hc
  ·intro hc;omega
 ·have e:(dA lo W).cell? p=W.cell? p:=World.cell?_of_block (by
   rw [uB];cases W.heap[p.block]? <;> simp [h])
  rw [e];exact ⟨fun hc=>⟨by omega,hc⟩,fun hc=>hc.2⟩
section
variable {n:Nat} {W W':World}
theorem RowOf.cells {α:Type} {s:Sp} {k:Nat} {enc:α→List Value} {l:List α} (h:RowOf n W s k enc l) (hc:∀p u,p.block<n→W.cell? p=some u→W'.cell? p=some u):RowOf n W' s k enc l :=
 ⟨h.cap,h.big,h.few,fun h0=>by
  obtain ⟨b,off,e,hlt,hx⟩:=h.row h0;exact ⟨b,off,e,hlt,fun j hj r u hu=>hc _ _ hlt (hx j hj r u hu)⟩⟩
theorem iG.cells {e:ae} (h:iG n W e) (hc:∀p u,p.block<n→W.cell? p=some u→W'.cell? p=some u):iG n W' e:=by
 induction h with
 | mk e k o v w n row _ ih=>exact .mk e k o v w n (row.cells hc) ih
theorem gz.cells {s:aa} (h:gz n W s) (hc:∀p u,p.block<n→W.cell? p=some u→W'.cell? p=some u):gz n W' s:=by
 induction h with
 | mk s k b n er ex tr _ or _ ih1 ih2=>exact .mk s k b n (er.cells hc) (fun e he=>(ex e he).cells hc) (tr.cells hc) ih1 (or.cells hc) ih2
end
def aU (lo:Nat) (W:World) (e:ae):Prop:=iG W.heap.size (dA lo W) e
def gN (lo:Nat) (W:World) (s:aa):Prop:=gz W.heap.size (dA lo W) s
def dz (lo:Nat) (W:World) (sp:Sp) (l:List aa):Prop:=RowOf W.heap.size (dA lo W) sp 6 aa.cells l∧∀s,s∈l→gN lo W s
section
variable {lo q:Nat} {W W':World}
theorem fI (hb:Below W.heap.size (mask q W) (mask q W')) (hq:q<lo):∀p u,p.block<W.heap.size→(dA lo W).cell? p=some u→(dA lo W').cell? p=some u:=fun p u hp hc=>by
 obtain ⟨h1,h2⟩:=av.1 hc;refine av.2 ⟨h1,?_⟩;have h3:=hb.block p.block hp;rw [bg (by omega),bg (by omega)] at h3;exact (World.cell?_of_block h3).trans h2
theorem lh {lo':Nat} (h:lo'≤lo):∀(p:Addr) u,p.block<W.heap.size→(dA lo W).cell? p=some u→(dA lo' W).cell? p=some u:=fun p u _ hc=>by
 obtain ⟨h1,h2⟩:=av.1 hc;exact av.2 ⟨by omega,h2⟩
theorem pI {g:Nat} {cs:Array Value} (h:g<lo):∀(p:Addr) u,p.block<W.heap.size→(dA lo W).cell? p=some u→(dA lo (W.setRow g cs)).cell? p=some u:=fun p u _ hc=>by
 obtain ⟨h1,h2⟩:=av.1 hc;exact av.2 ⟨h1,(cell_setRow_other W g cs p (by omega)).trans h2⟩
theorem pK:∀(p:Addr) (u:Value),p.block<W.heap.size→(dA lo W).cell? p=some u→W.cell? p=some u:=fun _ _ _ hc=>(av.1 hc).2
theorem bS (hb:Below W.heap.size (mask q W) (mask q W')):W.heap.size≤W'.heap.size:=by have:=hb.size;rw [iP,iP] at this;exact this
theorem aU.on {e:ae} (h:aU lo W e) (hb:Below W.heap.size (mask q W) (mask q W')) (hq:q<lo):aU lo W' e:=(iG.cells h (fI hb hq)).more (bS hb)
theorem aU.less {e:ae} {lo':Nat} (h:aU lo W e) (hl:lo'≤lo):aU lo' W e:=iG.cells h (lh hl)
theorem aU.set {e:ae} {g:Nat} {cs:Array Value} (h:aU lo W e) (hg:g<lo):aU lo (W.setRow g cs) e:=by
 unfold aU;rw [size_setRow];exact iG.cells h (pI hg)
theorem aU.rd {e:ae} (h:aU lo W e):iG W.heap.size W e:=iG.cells h pK
theorem gN.on {e:aa} (h:gN lo W e) (hb:Below W.heap.size (mask q W) (mask q W')) (hq:q<lo):gN lo W' e:=(gz.cells h (fI hb hq)).more (bS hb)
theorem gN.less {e:aa} {lo':Nat} (h:gN lo W e) (hl:lo'≤lo):gN lo' W e:=gz.cells h (lh hl)
theorem gN.rd {e:aa} (h:gN lo W e):gz W.heap.size W e:=gz.cells h pK
theorem dz.on {sp:Sp} {l:List aa} (h:dz lo W sp l) (hb:Below W.heap.size (mask q W) (mask q W')) (hq:q<lo):dz lo W' sp l:=⟨(h.1.cells (fI hb hq)).more (bS hb),fun s hs=>(h.2 s hs).on hb hq⟩
theorem dz.less {sp:Sp} {l:List aa} {lo':Nat} (h:dz lo W sp l) (hl:lo'≤lo):dz lo' W sp l:=⟨h.1.cells (lh hl),fun s hs=>(h.2 s hs).less hl⟩
theorem dz.rd {sp:Sp} {l:List aa} (h:dz lo W sp l):dJ W.heap.size W sp l:=⟨h.1.cells pK,fun s hs=>(h.2 s hs).rd⟩
theorem RowOf.low {α:Type} {n k b off c:Nat} {enc:α→List Value} {l:List α} (h:RowOf n W ⟨some ⟨b,off,none⟩,c⟩ k enc l) (hb:lo≤b):RowOf n (dA lo W) ⟨some ⟨b,off,none⟩,c⟩ k enc l :=
 ⟨h.cap,h.big,h.few,fun h0=>by
  obtain ⟨b',off',e,hlt,hc⟩:=h.row h0;have e2:b=b':=by have:=Option.some.inj e;exact (Addr.mk.inj this).1
  exact ⟨b',off',e,hlt,fun j hj r u hu=>av.2 ⟨by show lo≤b';omega,hc j hj r u hu⟩⟩⟩
end
end
end Go.Proofs.YtepacjkacjabbaaGreatDoor
