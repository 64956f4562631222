import Derived.Test.YtepacjkacjabbaaGreatDoorPBB
import Derived.Test.YtepacjkacjabbaaGreatDoorPAE
import Derived.Test.YtepacjkacjabbaaGreatDoorPAX
namespace Go.Proofs.YtepacjkacjabbaaGreatDoor
section
open Go
inductive Kn (p:af):Nat→Nat→Prop
 | refl (a:Nat):Kn p a a
 | step {a b c:Nat} (h:b∈fD p a) (t:Kn p b c):Kn p a c
def BD (p:af) (seen:List Nat):Nat:=((List.range p.procs.length).map fun k=>if k∈seen then 0 else (fD p k).length).sum
theorem Fj {p:af} {i:Nat} (h:p.procs.length≤i):fD p i=[]:=by
 unfold fD;rw [List.getElem?_eq_none h]
theorem BQ (f:Nat→Nat) (seen:List Nat) (i:Nat) (hi:i∉seen):∀l:List Nat,l.Nodup→(l.map fun k=>if k∈i::seen then 0 else f k).sum+(if i∈l then f i else 0)=(l.map fun k=>if k∈seen then 0 else f k).sum
 | [],_=>by simp
 | x::l,hn=>by
  rw [List.nodup_cons] at hn;have ih:=BQ f seen i hi l hn.2;rw [List.map_cons,List.map_cons,List.sum_cons,List.sum_cons];by_cases hx:i=x
  ·subst hx
   rw [if_neg hn.1,Nat.add_zero] at ih;rw [if_pos (List.mem_cons_self ..),if_pos (List.mem_cons_self ..),if_neg hi,←ih];omega
  ·have e1:(x∈i::seen)=(x∈seen):=by
    simp only [List.mem_cons,eq_iff_iff];exact ⟨fun h=>h.resolve_left (Ne.symm hx),.inr⟩
   have e2:(i∈x::l)=(i∈l):=by
    simp only [List.mem_cons,eq_iff_iff];exact ⟨fun h=>h.resolve_left hx,.inr⟩
   simp only [e1,e2];omega
theorem FL (p:af) (seen:List Nat) (i:Nat) (hi:i∉seen):BD p (i::seen)+(fD p i).length=BD p seen:=by
 have h:=BQ (fun k=>(fD p k).length) seen i hi (List.range p.procs.length) List.nodup_range;unfold BD;rw [←h];by_cases hl:i<p.procs.length
 ·rw [if_pos (List.mem_range.2 hl)]
 ·rw [if_neg fun h=>hl (List.mem_range.1 h),Fj (Nat.le_of_not_lt hl)]
  rfl
theorem lC (p:af) (tgt:Nat):∀(n:Nat) (seen todo:List Nat),(∀s∈seen,s≠tgt∧∀c∈fD p s,c∈seen∨c∈todo)→todo.length+BD p seen<n→eO p tgt n seen todo=false →
  ∃S:Nat→Prop,(∀s∈seen,S s)∧(∀t∈todo,S t)∧¬S tgt∧∀s,S s→∀c∈fD p s,S c
 | 0,_,_,_,h,_=>absurd h (Nat.not_lt_zero _)
 | n+1,seen,[],hI,_,_=>⟨(·∈seen),fun _ h=>h,fun _ h=>(by cases h),fun h=>(hI _ h).1 rfl,fun s hs c hc=>by
   rcases (hI s hs).2 c hc with h | h
   ·exact h
   ·cases h⟩
 | n+1,seen,i::todo,hI,hf,hl=>by
  by_cases hi:i=tgt
  ·subst hi
   rw [eO,if_pos rfl] at hl;cases hl
  ·rw [eO,if_neg hi] at hl
   simp only [List.length_cons] at hf;by_cases hs:i∈seen
   ·rw [if_pos hs] at hl
    obtain ⟨S,h1,h2,h3,h4⟩:=lC p tgt n seen todo (fun s hs2=>⟨(hI s hs2).1,fun c hc=>by
     rcases (hI s hs2).2 c hc with h | h
     ·exact .inl h
     ·rcases List.mem_cons.1 h with rfl | h
      ·exact .inl hs
      ·exact .inr h⟩) (by omega) hl
    exact ⟨S,h1,fun t ht=>by
     rcases List.mem_cons.1 ht with rfl | ht
     ·exact h1 _ hs
     ·exact h2 t ht,h3,h4⟩
   ·rw [if_neg hs] at hl
    have hr:=FL p seen i hs;obtain ⟨S,h1,h2,h3,h4⟩:=lC p tgt n (i::seen) (todo++fD p i) (fun s hs2=>by
     rcases List.mem_cons.1 hs2 with rfl | hs2
     ·exact ⟨hi,fun c hc=>.inr (List.mem_append_right _ hc)⟩
     ·exact ⟨(hI s hs2).1,fun c hc=>by
       rcases (hI s hs2).2 c hc with h | h
       ·exact .inl (List.mem_cons_of_mem _ h)
       ·rcases List.mem_cons.1 h with rfl | h
        ·exact .inl (List.mem_cons_self ..)
        ·exact .inr (List.mem_append_left _ h)⟩) (by rw [List.length_append];omega) hl
    exact ⟨S,fun s hs2=>h1 s (List.mem_cons_of_mem _ hs2),fun t ht=>by
     rcases List.mem_cons.1 ht with rfl | ht
     ·exact h1 _ (List.mem_cons_self ..)
     ·exact h2 t (List.mem_append_left _ ht),h3,h4⟩
theorem Kn.closed {p:af} {S:Nat→Prop} (hS:∀s,S s→∀c∈fD p s,S c) {a b:Nat} (h:Kn p a b):S a→S b:=by
 induction h with
 | refl=>exact id
 | step h _ ih=>exact fun ha=>ih (hS _ ha _ h)
theorem Ho {p:af} {a b:Nat} (h:ja p a b=false):¬Kn p a b:=by
 obtain ⟨S,_,h2,h3,h4⟩:=lC p b (mD p) [] [a] (fun s hs=>(by cases hs)) (by unfold mD BD;simp) h;exact fun hr=>h3 (hr.closed h4 (h2 a (List.mem_cons_self ..)))
theorem xH {α:Type} (f g:α→Bool):∀l:List α,(∀x∈l,f x=true→g x=true)→(∃x∈l,g x=true∧f x=false)→l.countP f<l.countP g
 | [],_,h=>by obtain ⟨x,hx,_⟩:=h;cases hx
 | x::l,hi,h=>by
  have hle:∀l:List α,(∀x∈l,f x=true→g x=true)→l.countP f≤l.countP g:=fun l hl=>List.countP_mono_left hl
  rw [List.countP_cons,List.countP_cons];have hx:=hi x (List.mem_cons_self ..);have hl:=hle l fun y hy=>hi y (List.mem_cons_of_mem _ hy)
  obtain ⟨y,hy,hg,hf⟩:=h;rcases List.mem_cons.1 hy with rfl | hy
  ·simp [hg,hf];omega
  ·have:=xH f g l (fun y hy=>hi y (List.mem_cons_of_mem _ hy)) ⟨y,hy,hg,hf⟩
   by_cases hfx:f x=true
   ·simp [hfx,hx hfx];omega
   ·simp [hfx];split <;> omega
noncomputable def rankP (p:af) (i:Nat):Nat:=(List.range p.procs.length).countP fun k=>@decide (Kn p i k) (Classical.propDecidable _)
theorem JN {p:af} {i j:Nat} (hi:i<p.procs.length) (hj:j∈fD p i) (hn:ja p j i=false):rankP p j<rankP p i:=by
 unfold rankP;refine xH _ _ _ (fun k _ hk=>?_) ⟨i,List.mem_range.2 hi,?_,?_⟩
 ·exact @decide_eq_true _ (Classical.propDecidable _) (.step hj (@of_decide_eq_true _ (Classical.propDecidable _) hk))
 ·exact @decide_eq_true _ (Classical.propDecidable _) (.refl i)
 ·exact @decide_eq_false _ (Classical.propDecidable _) (Ho hn)
theorem JS (p:af) (E:Env) (s:aa):∀(d:Nat) (x:aa),x∈s.pre→∃d',jo p E x d'∈kM p E s d:=by
 induction s using aa.ind with
 | h k n es ex b ts th os el i1 i2 =>
  intro d x hx;rw [aa.pre_eq] at hx;rw [kN];rcases List.mem_cons.1 hx with rfl | hx
  ·exact ⟨d,List.mem_cons_self ..⟩
  ·rcases List.mem_append.1 hx with hx | hx
   ·obtain ⟨s,hs,hx⟩:=List.mem_flatMap.1 hx
    obtain ⟨d',h⟩:=i1 s hs (d+1) x hx;exact ⟨d',List.mem_cons_of_mem _ (List.mem_append_right _ (List.mem_append_left _ (by rw [bA];exact List.mem_flatMap.2 ⟨s,hs,h⟩)))⟩
   ·obtain ⟨s,hs,hx⟩:=List.mem_flatMap.1 hx
    obtain ⟨d',h⟩:=i2 s hs (d+1) x hx;exact ⟨d',List.mem_cons_of_mem _ (List.mem_append_right _ (List.mem_append_right _ (by rw [bA];exact List.mem_flatMap.2 ⟨s,hs,h⟩)))⟩
theorem wF (p:af) (E:Env) (l:List aa) (d:Nat) (x:aa) (hx:x∈l.flatMap aa.pre):∃d',jo p E x d'∈aH p E l d:=by
 obtain ⟨s,hs,hx⟩:=List.mem_flatMap.1 hx;obtain ⟨d',h⟩:=JS p E s d x hx;exact ⟨d',by rw [bA];exact List.mem_flatMap.2 ⟨s,hs,h⟩⟩
end
section
open Go
def cB (p:af):Prop:=∀c∈bK p (aR p),c=0
theorem yw:∀(l:List Int) (n:Nat),(∃c∈l,c≠0)→((fq l n).headD (0,0)).2≠0
 | [],_,h=>by obtain ⟨c,hc,_⟩:=h;cases hc
 | c::l,n,h=>by
  rw [fq];by_cases hc:c=0
  ·rw [if_pos hc]
   refine yw l (n+1) ?_;obtain ⟨d,hd,hne⟩:=h;rcases List.mem_cons.1 hd with rfl | hd
   ·exact absurd hc hne
   ·exact ⟨d,hd,hne⟩
  ·rw [if_neg hc]
   exact hc
theorem BF {p:af} (hl:aR p≤20000) (h:(eD p).2=0):cB p:=by
 have hlen:(bK p 0).length=aR p:=by rw [fG]
 intro c hc;by_cases h0:c=0
 ·exact h0
 ·exfalso
  have h1:eD p=(fq (bK p (aR p)) 0).headD (0,0):=Ar hlen hl rfl;rw [h1] at h;exact yw _ 0 ⟨c,hc,h0⟩ h
section
variable {p:af} (h:cB p)
include h
theorem cB.procs:∀c∈bV p p.procs 0 (cZ p),c=0:=fun c hc=>h c (by
 unfold bK;simp only [List.mem_cons,List.mem_append]
 right;right;right;right;right;right;right;left
 exact hc)
theorem cB.work:∀c∈aH p outside p.work 1,c=0:=fun c hc=>h c (by
 unfold bK;simp only [List.mem_cons,List.mem_append]
 right;right;right;right;right;right;right;right;left
 exact hc)
theorem cB.recover:∀c∈aH p outside p.recover 1,c=0:=fun c hc=>h c (by
 unfold bK;simp only [List.mem_cons,List.mem_append]
 right;right;right;right;right;right;right;right;right;left
 exact hc)
end
theorem Bw {p:af}:∀(l:List aK) (n:Nat) (before:List ByteArray),(∀c∈bV p l n before,c=0)→∀i (hi:i<l.length),∃bf,(∀s∈before,s∈bf)∧(∀j (hj:j<l.length),j<i→(l[j]).name∈bf)∧∀c∈jS p bf (n+i) l[i],c=0
 | q::l,n,before,h,0,_=>⟨before,fun _ hs=>hs,fun j _ hj=>absurd hj (Nat.not_lt_zero _),fun c hc=>h c (by rw [bV];exact List.mem_append_left _ hc)⟩
 | q::l,n,before,h,i+1,hi=>by
  obtain ⟨bf,h1,h2,h3⟩:=Bw l (n+1) (before++[q.name]) (fun c hc=>h c (by rw [bV];exact List.mem_append_right _ hc)) i (by simpa using hi);refine ⟨bf,fun s hs=>h1 s (List.mem_append_left _ hs),fun j hj hji=>?_,fun c hc=>h3 c (by rwa [show n+1+i=n+(i+1) by omega])⟩
  match j with
  | 0=>exact h1 _ (List.mem_append_right _ (List.mem_singleton.2 rfl))
  | j+1=>exact h2 j (by simpa using hj) (by omega)
theorem vF {l:List ByteArray} {s:ByteArray}:gQ l s=true↔s∈l:=by
 unfold gQ;rw [List.any_eq_true]
 constructor
 ·rintro ⟨x,hx,he⟩;rw [←of_decide_eq_true he];exact hx
 ·exact fun hs=>⟨s,hs,decide_eq_true rfl⟩
structure Km (p:af) (i:Nat) (q:aK):Prop where
 fresh:q.name∉cZ p
 named:ig p q.name.data.toList=true
 few:q.params.length≤8
 params:∀c∈bB p false q.params (aL p),c=0
 body:∀c∈aH p (inside p i) q.body 1,c=0
theorem cB.proc {p:af} (h:cB p) (i:Nat) (hi:i<p.procs.length):Km p i p.procs[i]∧∀j (hj:j<p.procs.length),j<i→(p.procs[j]).name≠(p.procs[i]).name:=by
 obtain ⟨bf,h1,h2,h3⟩:=Bw p.procs 0 (cZ p) h.procs i hi;rw [Nat.zero_add] at h3;unfold jS at h3;have he:=h3 _ (List.mem_cons_self ..);unfold vU at he;have ha:¬(gQ bf (p.procs[i]).name=true∨ig p (p.procs[i]).name.data.toList=false):=fun hc=>by rw [if_pos hc] at he;cases he
 rw [if_neg ha] at he;have hb:¬(p.procs[i]).params.length>8:=fun hc=>by rw [if_pos hc] at he;cases he
 have hnm:(p.procs[i]).name∉bf:=fun hm=>ha (.inl (vF.2 hm))
 refine ⟨⟨fun hm=>hnm (h1 _ hm),?_,by omega,fun c hc=>h3 c (List.mem_cons_of_mem _ (List.mem_append_left _ hc)),fun c hc=>h3 c (List.mem_cons_of_mem _ (List.mem_append_right _ hc))⟩,fun j hj hji e=>hnm (e ▸ h2 j hj hji)⟩;cases hx:ig p (p.procs[i]).name.data.toList with
 | true=>rfl
 | false=>exact absurd (.inr hx) ha
theorem cB.nodup {p:af} (h:cB p):(p.procs.map aK.name).Nodup:=by
 rw [List.nodup_iff_pairwise_ne,List.pairwise_iff_getElem];intro i j hi hj hij;rw [List.getElem_map,List.getElem_map];exact (h.proc j (by simpa using hj)).2 i (by simpa using hi) hij
theorem nZ:∀(l:List aK) (n:Nat) (s:ByteArray) (j:Int),look (numbered aK.name l n) s=some j→∃i,∃hi:i<l.length,j=((n+i:Nat):Int)∧(l[i]).name=s
 | [],n,s,j,h=>by cases h
 | q::l,n,s,j,h=>by
  unfold look numbered at h;rw [List.find?_cons] at h;by_cases hq:q.name=s
  ·rw [decide_eq_true hq] at h
   simp only [Option.map_some,Option.some.injEq] at h;exact ⟨0,by simp,by rw [←h];rfl,hq⟩
  ·rw [decide_eq_false hq] at h
   obtain ⟨i,hi,e,hs⟩:=nZ l (n+1) s j h;exact ⟨i+1,by simpa using hi,by rw [e];congr 1;omega,by simpa using hs⟩
theorem ql:∀(l:List aK) (n i:Nat) (hi:i<l.length),(numbered aK.name l n)[i]? = some ((l[i]).name,((n+i:Nat):Int))
 | q::l,n,0,_=>rfl
 | q::l,n,i+1,hi=>by
  rw [numbered,List.getElem?_cons_succ,ql l (n+1) i (by simpa using hi)];simp only [List.getElem_cons_succ];rw [show n+1+i=n+(i+1) by omega]
theorem mJ:∀(l:List aK) (n:Nat),(numbered aK.name l n).map (·.1)=l.map aK.name
 | [],_=>rfl
 | q::l,n=>by rw [numbered,List.map_cons,List.map_cons,mJ l]
theorem zA {α:Type}:∀{T:List (ByteArray × α)} {x:ByteArray × α},(T.map (·.1)).Nodup→x∈T→look T x.1=some x.2
 | [],x,_,h=>by cases h
 | y::T,x,hn,h=>by
  rw [List.map_cons,List.nodup_cons] at hn;unfold look;rw [List.find?_cons];rcases List.mem_cons.1 h with rfl | h
  ·simp
  ·have hne:y.1≠x.1:=fun e=>hn.1 (by rw [e];exact List.mem_map_of_mem h)
   simp only [decide_eq_false hne];exact zA hn.2 h
theorem Fq {α:Type} {l:List α} (h:l.Nodup):l.reverse.Nodup:=by
 rw [List.nodup_iff_pairwise_ne,List.pairwise_reverse];exact h.imp fun hne=>Ne.symm hne
theorem Iz {p:af} (h:cB p) (i:Nat) (hi:i<p.procs.length):sU p (p.procs[i]).name=i∧look (cz p) (p.procs[i]).name=some (i:Int):=by
 have hg:=ql p.procs 0 i hi;rw [Nat.zero_add] at hg;have hm:=List.mem_of_getElem? hg;have hn:((numbered aK.name p.procs 0).map (·.1)).Nodup:=by rw [mJ];exact h.nodup
 refine ⟨?_,zA (x:=((p.procs[i]).name,(i:Int))) hn hm⟩;unfold sU cz;have:=zA (T:=(numbered aK.name p.procs 0).reverse) (x:=((p.procs[i]).name,(i:Int))) (by rw [List.map_reverse];exact Fq hn) (List.mem_reverse.2 hm);rw [this]
 rfl
theorem Gf {l:List ByteArray} {s x:ByteArray}:x∈jq l s↔x∈l∨x=s:=by
 unfold jq
 split
 ·next hh=>exact ⟨.inl,fun hx=>hx.elim id fun e=>by rw [e];exact vF.1 hh⟩
 ·simp
theorem uP:∀(l:List aa) (out:List ByteArray) (x:ByteArray),x∈l.foldl (fun out s=>if s.kind=8 then jq out s.name else out) out↔x∈out∨∃s∈l,s.kind=8∧s.name=x
 | [],out,x=>by simp
 | s::l,out,x=>by
  rw [List.foldl_cons,uP l];by_cases hk:s.kind=8
  ·rw [if_pos hk,Gf]
   constructor
   ·rintro ((h | rfl) | ⟨t,ht,h1,h2⟩)
    ·exact .inl h
    ·exact .inr ⟨s,List.mem_cons_self ..,hk,rfl⟩
    ·exact .inr ⟨t,List.mem_cons_of_mem _ ht,h1,h2⟩
   ·rintro (h | ⟨t,ht,h1,h2⟩)
    ·exact .inl (.inl h)
    ·rcases List.mem_cons.1 ht with rfl | ht
     ·exact .inl (.inr h2.symm)
     ·exact .inr ⟨t,ht,h1,h2⟩
  ·rw [if_neg hk]
   constructor
   ·rintro (h | ⟨t,ht,h1,h2⟩)
    ·exact .inl h
    ·exact .inr ⟨t,List.mem_cons_of_mem _ ht,h1,h2⟩
   ·rintro (h | ⟨t,ht,h1,h2⟩)
    ·exact .inl h
    ·rcases List.mem_cons.1 ht with rfl | ht
     ·exact absurd h1 hk
     ·exact .inr ⟨t,ht,h1,h2⟩
theorem Cv {l:List aa} {x:ByteArray}:x∈iJ l↔∃s∈l.flatMap aa.pre,s.kind=8∧s.name=x:=by
 unfold iJ;rw [uP];simp
theorem Jw {p:af} {E:Env} {s:aa} {d:Nat} (h:jo p E s d=0) (hk:s.kind=8):∃i,∃hi:i<p.procs.length,(p.procs[i]).name=s.name∧look (cz p) s.name=some (i:Int)∧lU p E i s.exprs=false∧(E.within≥0→ja p i E.within.toNat=false):=by
 unfold jo at h;by_cases hf:jB s=true
 ·rw [if_pos hf] at h
  by_cases hw:eF p E s=0
  ·unfold eF at hw
   rw [hk] at hw;simp only [show ¬(8:Int)=1 by decide,show ¬(8:Int)=2 by decide,show ¬(8:Int)=3 by decide,show ¬(8:Int)=7 by decide,if_false,if_true] at hw;cases hl:look (cz p) s.name with
   | none=>rw [hl] at hw;cases hw
   | some j =>
    rw [hl] at hw;obtain ⟨i,hi,rfl,hn⟩:=nZ p.procs 0 s.name j hl;rw [Nat.zero_add] at hl hw;refine ⟨i,hi,hn,by rw [Nat.zero_add],?_⟩
    dsimp only at hw
    rw [Int.toNat_natCast] at hw;by_cases ha:lU p E i s.exprs=true
    ·rw [if_pos ha] at hw;cases hw
    ·rw [if_neg ha] at hw
     refine ⟨by simpa using ha,fun he=>?_⟩;cases hx:ja p i E.within.toNat with
     | false=>rfl
     | true=>rw [if_pos ⟨he,hx⟩] at hw;cases hw
  ·rw [if_neg hw] at h;exact absurd h hw
 ·rw [if_neg hf] at h;cases h
theorem cB.rank {p:af} (h:cB p):KS p (rankP p):=by
 intro i hi s hs hk;have hq:sV p i=p.procs[i]:=by unfold sV;rw [List.getElem?_eq_getElem hi];rfl
 rw [hq] at hs;obtain ⟨d,hd⟩:=wF p (inside p i) _ 1 s hs;obtain ⟨j,hj,hn,hl,_,hle⟩:=Jw ((h.proc i hi).1.body _ hd) hk;rw [←hn,(Iz h j hj).1];refine ⟨JN hi ?_ ?_,hj⟩
 ·unfold fD
  rw [List.getElem?_eq_getElem hi];refine List.mem_filterMap.2 ⟨s.name,Cv.2 ⟨s,hs,hk,rfl⟩,?_⟩;rw [hl];rfl
 ·have:=hle (show (0:Int)≤(i:Int) by omega)
  exact this
end
section
open Go
def LG (p:af):af:={ p with ws:=Sp.none,work:=aX p.work,cs:=Sp.none,recover:=aX p.recover }
section
variable {p:af} {E:Env}
theorem tu {s:aa} {d:Nat} (h:jo p E s d=0):jB s=true∧eF p E s=0:=by
 unfold jo at h;by_cases hf:jB s=true
 ·rw [if_pos hf] at h
  by_cases hw:eF p E s=0
  ·exact ⟨hf,hw⟩
  ·rw [if_neg hw] at h;exact absurd h hw
 ·rw [if_neg hf] at h;cases h
theorem Fa {s:aa} (hk:s.kind=7) (h:jB s=true):s.name=ByteArray.empty∧s.els=[]∧s.exprs.length=1:=by
 unfold jB at h;rw [hk] at h;simp only [show ¬(7:Int)=1 by decide,show ¬(7:Int)=2 by decide,show ¬(7:Int)=3 by decide,show ¬((7:Int)=4∨(7:Int)=5) by decide,show ¬(7:Int)=6 by decide,if_false,if_true] at h;obtain ⟨h1,h2,h3⟩:=of_decide_eq_true h;exact ⟨h1,List.length_eq_zero_iff.1 h2,h3⟩
theorem Du {s:aa} (hk:s.kind=7) (h:eF p E s=0):1≤s.bound∧s.bound≤16:=by
 unfold eF at h;rw [hk] at h;simp only [show ¬(7:Int)=1 by decide,show ¬(7:Int)=2 by decide,show ¬(7:Int)=3 by decide,if_false,if_true] at h;by_cases hb:s.bound<1∨s.bound>16
 ·rw [if_pos hb] at h;cases h
 ·omega
theorem yg {s:aa} {d:Nat} (h:jo p E s d=0):aM s:=fun hk=>by
 obtain ⟨h1,h2⟩:=tu h;obtain ⟨_,h3,h4⟩:=Fa hk h1;obtain ⟨h5,h6⟩:=Du hk h2;exact ⟨h5,h6,h4,h3⟩
end
theorem cB.loops {p:af} (h:cB p):(∀x∈p.work.flatMap aa.pre,aM x)∧∀x∈p.recover.flatMap aa.pre,aM x:=by
 constructor
 ·intro x hx
  obtain ⟨d,hd⟩:=wF p outside p.work 1 x hx;exact yg (h.work _ hd)
 ·intro x hx
  obtain ⟨d,hd⟩:=wF p outside p.recover 1 x hx;exact yg (h.recover _ hd)
end
section
open Go
theorem sw (e:ae):av (av e)=av e:=by
 induction e using ae.ind with
 | h k o v w n sp l ih=>rw [dA,dA,List.map_map,cu (f:=av ∘ av) (g:=av) ih]
theorem qN:∀{l:List aa},(∀s∈l,rZ (ah s)=rZ s)→∀n,dz (l.map ah) n=dz l n
 | [],_,_=>rfl
 | s::l,h,n=>by
  rw [List.map_cons,dz,dz,h s (List.mem_cons_self ..),qN fun t ht=>h t (List.mem_cons_of_mem _ ht)]
theorem Jh (s:aa):rZ (ah s)=rZ s:=by
 induction s using aa.ind with
 | h k n es ex b ts th os el i1 i2 =>
  have hb:=jQ (.mk k n es ex b ts th os el);rw [bC] at hb ⊢;rw [rZ,rZ,hb,vG,qN i1,qN i2]
theorem yK (l:List aa) (n:Int):dz (l.map ah) n=dz l n:=qN (fun s _=>Jh s) n
theorem pW:∀{l:List aa},(∀s∈l,zW (ah s)=zW s)→∀n,gz (l.map ah) n=gz l n
 | [],_,_=>rfl
 | s::l,h,n=>by
  rw [List.map_cons,gz,gz,h s (List.mem_cons_self ..),pW fun t ht=>h t (List.mem_cons_of_mem _ ht)]
theorem GL (s:aa):zW (ah s)=zW s:=by
 induction s using aa.ind with
 | h k n es ex b ts th os el i1 i2 =>
  have hb:=jQ (.mk k n es ex b ts th os el);rw [bC] at hb ⊢;rw [zW,zW,hb,pW i1,pW i2]
theorem xL (l:List aa) (n:Int):gz (l.map ah) n=gz l n:=pW (fun s _=>GL s) n
theorem yc {f g:aa→aa} (h:∀x y,ah x=ah y→ah (f x)=ah (g y)):∀(n:Nat) (x y:aa),ah x=ah y→ah (kG f n x)=ah (kG g n y)
 | 0,_,_,e=>e
 | n+1,x,y,e=>yc h n _ _ (h x y e)
theorem dI (ex:List ae) (th:List aa):ah (fT ex th)=.mk 6 ⟨#[]⟩ Sp.none ((ex.take 1).map av) 0 Sp.none (th.map ah) Sp.none []:=by
 unfold fT;rw [bC]
 rfl
theorem yF (ex:List ae):((ex.map av).take 1).map av=(ex.take 1).map av:=by
 rw [←List.map_take,List.map_map];exact List.map_congr_left fun e _=>sw e
theorem qI {l:List aa} (h:∀s∈l,ah (uh (ah s))=ah (uh s)):(aX (l.map ah)).map ah=(aX l).map ah:=by
 rw [lN,lN,List.map_map,List.map_map,List.map_map];exact List.map_congr_left fun s hs=>h s hs
theorem JZ (s:aa):ah (uh (ah s))=ah (uh s):=by
 induction s using aa.ind with
 | h k n es ex b ts th os el i1 i2 =>
  obtain ⟨s,hs⟩:∃s,aa.mk k n es ex b ts th os el=s:=⟨_,rfl⟩;have j1:∀t∈s.thn,ah (uh (ah t))=ah (uh t):=by rw [←hs];exact i1
  have j2:∀t∈s.els,ah (uh (ah t))=ah (uh t):=by rw [←hs];exact i2
  rw [hs];clear hs i1 i2;by_cases hb:dY s=true
  ·rw [qH hb,qH (by rw [jQ];exact hb),jl,gB,iV]
   refine yc (fun x y e=>?_) _ _ _ ?_
   ·rw [dI,dI,yF,List.map_append,List.map_append,qI j1,List.map_cons,List.map_cons,e]
   ·rw [dI,dI,yF]
  ·rw [Bool.not_eq_true] at hb
   rw [zP hb,zP (by rw [jQ];exact hb),bC,bC,gD,jL,jl,gB,iV,kz,qI j1,qI j2,List.map_map]
   congr 1
   exact List.map_congr_left fun e _=>sw e
theorem BX (l:List aa):(aX (l.map ah)).map ah=(aX l).map ah:=qI fun s _=>JZ s
theorem qz (l:List aa):dW (l.map ah)=dW l:=by
 unfold dW;rw [nE,List.countP_map]
 congr 1
 funext s
 exact eG s
theorem vE (l:List aa):lV (l.map ah)=lV l:=by
 unfold lV;rw [nE,List.all_map]
 congr 1
 funext s
 exact congrArg (fun b=>!b) (jQ s)
theorem lI {a b:List aa} (h:a.map ah=b.map ah):dW a=dW b:=by rw [←qz,h,qz]
theorem CW {a b:List aa} (h:a.map ah=b.map ah):lV a=lV b:=by rw [←vE,h,vE]
theorem yL {a b:List aa} (h:a.map ah=b.map ah) (n:Int):dz a n=dz b n:=by rw [←yK,h,yK]
theorem xM {a b:List aa} (h:a.map ah=b.map ah) (n:Int):gz a n=gz b n:=by rw [←xL,h,xL]
theorem Jc {a b:List aa} (h:a.map ah=b.map ah):(aX a).map ah=(aX b).map ah:=by rw [←BX,h,BX]
end
section
open Go
def Li (a b:ByteArray):ByteArray:=a++⟨#[46]⟩++b
def Ml (s:ByteArray):Prop:=(46:UInt8)∉s.data.toList
def K3 (a:ByteArray):List aG→ByteArray→ByteArray
 | [],n=>n
 | d::ds,n=>K3 a ds (if n=d.name then Li a d.name else n)
def L6 (q:aK) (n:ByteArray):ByteArray:=if gQ (q.params.map aG.name) n=true then Li q.name n else n
def oz (P:ByteArray→Prop) (e:ae):Prop:=∀y∈e.pre,(y.kind=2∨y.kind=3)→P y.name
def nO (P:ByteArray→Prop) (s:aa):Prop:=∀x∈s.pre,((x.kind=1∨x.kind=2)→P x.name)∧∀e∈x.exprs,oz P e
theorem oz.sub {P:ByteArray→Prop} {e:ae} (h:oz P e):∀s∈e.subs,oz P s:=fun s hs y hy=>h y (by
 rw [ae.pre_eq];exact List.mem_cons_of_mem _ (List.mem_flatMap.2 ⟨s,hs,hy⟩))
theorem oz.own {P:ByteArray→Prop} {e:ae} (h:oz P e):(e.kind=2∨e.kind=3)→P e.name:=h e (by rw [ae.pre_eq];exact List.mem_cons_self ..)
theorem oz.mk {P:ByteArray→Prop} {e:ae} (h1:(e.kind=2∨e.kind=3)→P e.name) (h2:∀s∈e.subs,oz P s):oz P e:=fun y hy=>by
 rw [ae.pre_eq] at hy;rcases List.mem_cons.1 hy with rfl | hy
 ·exact h1
 ·obtain ⟨s,hs,hy⟩:=List.mem_flatMap.1 hy
  exact h2 s hs y hy
theorem nO.thn {P:ByteArray→Prop} {s:aa} (h:nO P s):∀t∈s.thn,nO P t:=fun t ht x hx=>h x (by
 rw [aa.pre_eq];exact List.mem_cons_of_mem _ (List.mem_append_left _ (List.mem_flatMap.2 ⟨t,ht,hx⟩)))
theorem nO.els {P:ByteArray→Prop} {s:aa} (h:nO P s):∀t∈s.els,nO P t:=fun t ht x hx=>h x (by
 rw [aa.pre_eq];exact List.mem_cons_of_mem _ (List.mem_append_right _ (List.mem_flatMap.2 ⟨t,ht,hx⟩)))
theorem nO.own {P:ByteArray→Prop} {s:aa} (h:nO P s):((s.kind=1∨s.kind=2)→P s.name)∧∀e∈s.exprs,oz P e:=h s (by rw [aa.pre_eq];exact List.mem_cons_self ..)
theorem nO.mk {P:ByteArray→Prop} {s:aa} (h1:(s.kind=1∨s.kind=2)→P s.name) (h2:∀e∈s.exprs,oz P e) (h3:∀t∈s.thn,nO P t) (h4:∀t∈s.els,nO P t):nO P s:=fun x hx=>by
 rw [aa.pre_eq] at hx;rcases List.mem_cons.1 hx with rfl | hx
 ·exact ⟨h1,h2⟩
 ·rcases List.mem_append.1 hx with hx | hx
  ·obtain ⟨t,ht,hx⟩:=List.mem_flatMap.1 hx
   exact h3 t ht x hx
  ·obtain ⟨t,ht,hx⟩:=List.mem_flatMap.1 hx
   exact h4 t ht x hx
theorem oz.turn {P Q:ByteArray→Prop} {τ:ByteArray→ByteArray} (hτ:∀n,P n→Q (τ n)) (e:ae) (h:oz P e):oz Q (Ej (tX τ) e):=by
 induction e using ae.ind with
 | h k o v w n sp l ih =>
  rw [Dy];refine .mk (fun hk=>?_) fun s hs=>?_
  ·have e1:tX τ k n=τ n:=if_pos hk
   show Q (tX τ k n);rw [e1];exact hτ n (h.own hk)
  ·obtain ⟨t,ht,rfl⟩:=List.mem_map.1 hs
   exact ih t ht (h.sub t ht)
theorem nO.turn {P Q:ByteArray→Prop} {τ:ByteArray→ByteArray} (hτ:∀n,P n→Q (τ n)) (s:aa) (h:nO P s):nO Q (Gj (tX τ) (tT τ) s):=by
 induction s using aa.ind with
 | h k n es ex b ts th os el i1 i2 =>
  rw [Dx];refine .mk (fun hk=>?_) (fun e he=>?_) (fun s hs=>?_) fun s hs=>?_
  ·have e1:tT τ k n=τ n:=if_pos hk
   show Q (tT τ k n);rw [e1];exact hτ n (h.own.1 hk)
  ·obtain ⟨t,ht,rfl⟩:=List.mem_map.1 he
   exact oz.turn hτ t (h.own.2 t ht)
  ·obtain ⟨t,ht,rfl⟩:=List.mem_map.1 hs
   exact i1 t ht (h.thn t ht)
  ·obtain ⟨t,ht,rfl⟩:=List.mem_map.1 hs
   exact i2 t ht (h.els t ht)
end
section
open Go
theorem EK {p:af} {before:List ByteArray} {a:Bool} {d:aG} (h:mo p before a d=0):d.name∉before∧ig p d.name.data.toList=true∧bG d.width=true∧(if a=true then decide (1≤d.size∧d.size≤16) else decide (d.size=0))=true:=by
 unfold mo at h;by_cases h1:gQ before d.name=true∨ig p d.name.data.toList=false
 ·rw [if_pos h1] at h;cases h
 ·rw [if_neg h1] at h
  by_cases h2:bG d.width=false
  ·rw [if_pos h2] at h;cases h
  ·rw [if_neg h2] at h
   by_cases h3:(if a=true then decide (1≤d.size∧d.size≤16) else decide (d.size=0))=false
   ·rw [if_pos h3] at h;cases h
   ·refine ⟨fun hm=>h1 (.inl (vF.2 hm)),?_,by simpa using h2,Bool.not_eq_false _ ▸ h3⟩
    cases hn:ig p d.name.data.toList with
    | true=>rfl
    | false=>exact absurd (.inr hn) h1
def Eu (p:af) (a:Bool) (d:aG):Prop:=ig p d.name.data.toList=true∧bG d.width=true∧(if a=true then decide (1≤d.size∧d.size≤16) else decide (d.size=0))=true
theorem jG {p:af} {a:Bool}:∀(l:List aG) (before:List ByteArray),(∀c∈bB p a l before,c=0)→before.Nodup→(before++l.map aG.name).Nodup∧∀d∈l,Eu p a d
 | [],before,_,hb=>⟨by simpa using hb,fun _ h=>by cases h⟩
 | d::l,before,h,hb=>by
  rw [bB] at h;obtain ⟨h1,h2⟩:=EK (h _ (List.mem_cons_self ..));have hb2:(before++[d.name]).Nodup:=List.nodup_append.2 ⟨hb,by simp,fun x hx y hy=>by
   rw [List.mem_singleton.1 hy];rintro rfl;exact h1 hx⟩
  obtain ⟨h3,h4⟩:=jG l (before++[d.name]) (fun c hc=>h c (List.mem_cons_of_mem _ hc)) hb2;refine ⟨by simpa using h3,fun x hx=>?_⟩;rcases List.mem_cons.1 hx with rfl | hx
  ·exact h2
  ·exact h4 x hx
section
variable {p:af} (h:cB p)
include h
theorem cB.decls:(cZ p).Nodup∧(∀d∈p.inputs,Eu p false d)∧(∀d∈p.ghosts,Eu p false d)∧(∀d∈p.vars,Eu p false d)∧∀d∈p.arrays,Eu p true d:=by
 have h1:=h;unfold cB bK at h1;simp only [List.mem_cons,List.mem_append] at h1;obtain ⟨n1,o1⟩:=jG p.inputs [] (fun c hc=>h1 c (.inr (.inl hc))) List.nodup_nil;rw [List.nil_append] at n1;obtain ⟨n2,o2⟩:=jG p.ghosts (oN p) (fun c hc=>h1 c (.inr (.inr (.inl hc)))) n1;obtain ⟨n3,o3⟩:=jG p.vars (names2 p) (fun c hc=>h1 c (.inr (.inr (.inr (.inl hc))))) n2;obtain ⟨n4,o4⟩:=jG p.arrays (oO p) (fun c hc=>h1 c (.inr (.inr (.inr (.inr (.inl hc)))))) n3;exact ⟨n4,o1,o2,o3,o4⟩
end
theorem qF (p:af):(fO p).map (·.1)=cZ p:=by
 unfold fO cZ oO names2 oN;simp only [List.map_append,List.map_map]
 rfl
def Mh (p:af):List aG:=p.procs.flatMap fun q=>q.params.map (Lh q)
section
variable {p:af} (h:cB p)
include h
theorem cB.params (i:Nat) (hi:i<p.procs.length):(aL p++(p.procs[i]).params.map aG.name).Nodup∧∀d∈(p.procs[i]).params,Eu p false d:=by
 have hn:(aL p).Nodup:=by
  unfold aL;rw [qF];exact h.decls.1
 exact jG _ _ (h.proc i hi).1.params hn
end
section
variable {p:af} (h:cB p) (hne:p.procs≠[])
include h hne
end
theorem E9 {α:Type} {T:List (ByteArray × α)} {s:ByteArray} {x:α} (h:look T s=some x):(s,x)∈T:=by
 unfold look at h;cases hf:T.find? fun x=>decide (x.1=s) with
 | none=>rw [hf] at h;cases h
 | some y =>
  rw [hf] at h;have h1:=List.find?_some hf;have h2:=List.mem_of_find?_eq_some hf;rw [decide_eq_true_eq] at h1;obtain ⟨a,b⟩:=y;injection h with h
  dsimp only at h h1
  rw [←h,←h1];exact h2
structure Lt (p q:af) (E F:Env) (τ:ByteArray→ByteArray):Prop where
 width:q.width=p.width
 find:∀n,(aJ p E n).kind≠0→(aJ q F (τ n)).width=(aJ p E n).width∧(aJ q F (τ n)).kind=if (aJ p E n).kind=5 then 3 else (aJ p E n).kind
section
variable {p q:af} {E F:Env} {τ:ByteArray→ByteArray} (m:Lt p q E F τ)
include m
end
theorem CP {p:af} {E:Env} {wh:Int} {e:ae} {d:Nat} (h:iR p E wh e d=0):jT e=true∧(dL e=true→(aJ p E e.name).kind≠0∧((aJ p E e.name).kind=4↔e.kind=3))∧bO p E e=false∧(d:Int)≤dx p 32 1000∧¬((wh=1∧(e.kind=4∨dL e=true∧(aJ p E e.name).kind≠1))∨(wh=2∧dL e=true∧((aJ p E e.name).kind=3∨(aJ p E e.name).kind=4))):=by
 unfold iR at h;by_cases h1:jT e=false
 ·rw [if_pos h1] at h;cases h
 ·rw [if_neg h1] at h
  by_cases h2:dL e=true∧((aJ p E e.name).kind=0∨¬((aJ p E e.name).kind=4↔e.kind=3))
  ·rw [if_pos h2] at h;cases h
  ·rw [if_neg h2] at h
   by_cases h3:(wh=1∧(e.kind=4∨dL e=true∧(aJ p E e.name).kind≠1))∨(wh=2∧dL e=true∧((aJ p E e.name).kind=3∨(aJ p E e.name).kind=4))
   ·rw [if_pos h3] at h;cases h
   ·rw [if_neg h3] at h
    by_cases h4:bO p E e=true
    ·rw [if_pos h4] at h;cases h
    ·rw [if_neg h4] at h
     by_cases h5:(d:Int)>dx p 32 1000
     ·rw [if_pos h5] at h;cases h
     ·refine ⟨by simpa using h1,fun hn=>⟨fun e=>h2 ⟨hn,.inl e⟩,?_⟩,by simpa using h4,by omega,h3⟩
      exact Classical.byContradiction fun e=>h2 ⟨hn,.inr e⟩
theorem CQ {p:af} {E:Env} {wh:Int} (e:ae):∀d,(∀c∈fC p E wh e d,c=0)→∀y∈e.pre,dL y=true→(aJ p E y.name).kind≠0:=by
 induction e using ae.ind with
 | h k o v w n sp l ih =>
  intro d h y hy hn;rw [kD] at h;rw [ae.pre_eq] at hy;rcases List.mem_cons.1 hy with rfl | hy
  ·exact ((CP (h _ (List.mem_cons_self ..))).2.1 hn).1
  ·obtain ⟨s,hs,hy⟩:=List.mem_flatMap.1 hy
   exact ih s hs (d+1) (fun c hc=>h c (List.mem_cons_of_mem _ (by rw [bU];exact List.mem_flatMap.2 ⟨s,hs,hc⟩))) y hy hn
section
variable {p q:af} {E F:Env} {τ:ByteArray→ByteArray} (m:Lt p q E F τ) (hlim:dx p 32 1000≤dx q 32 1000)
include m hlim
end
theorem AP {p:af} {E:Env} {wh:Int} {l:List ae} {d:Nat} (h:∀c∈bI p E wh l d,c=0):∀e∈l,∀y∈e.pre,dL y=true→(aJ p E y.name).kind≠0:=fun e he =>
 CQ e d fun c hc=>h c (by rw [bU];exact List.mem_flatMap.2 ⟨e,he,hc⟩)
end
section
open Go
def Zr (q:af) (l:List aa):Prop:=∀d,d+mr l≤1001→∀c∈aH q outside l d,c=0
theorem Zr.nil {q:af}:Zr q []:=fun d _ c hc=>by rw [aH] at hc;cases hc
theorem BP (q:af) (E:Env) (a b:List aa) (d:Nat):aH q E (a++b) d=aH q E a d++aH q E b d:=by rw [bA,bA,bA,List.flatMap_append]
theorem Zr.app {q:af} {a b:List aa} (ha:Zr q a) (hb:Zr q b):Zr q (a++b):=fun d hd c hc=>by
 rw [uX] at hd;rw [BP] at hc;rcases List.mem_append.1 hc with hc | hc
 ·exact ha d (by omega) c hc
 ·exact hb d (by omega) c hc
theorem G6 (p:af) (n:ByteArray):aJ p outside n=(look (fO p) n).getD ⟨0,0⟩:=rfl
section
variable {p:af} (h:cB p) (hne:p.procs≠[])
include h hne
end
theorem AV {q:af} {n:ByteArray} (h:(aJ q outside n).kind≠0):n∈cZ q:=by
 rw [G6] at h;cases hl:look (fO q) n with
 | none=>rw [hl] at h;exact absurd rfl h
 | some t =>
  rw [←qF];exact List.mem_map.2 ⟨_,E9 hl,rfl⟩
theorem JR (p:af) (E:Env) (s:aa):∀d,(∀c∈kM p E s d,c=0)→∀x∈s.pre,(∃d',jo p E x d'=0)∧∀c∈bI p E 0 x.exprs 1,c=0:=by
 induction s using aa.ind with
 | h k n es ex b ts th os el i1 i2 =>
  intro d h x hx;rw [kN] at h;rw [aa.pre_eq] at hx;rcases List.mem_cons.1 hx with rfl | hx
  ·exact ⟨⟨d,h _ (List.mem_cons_self ..)⟩,fun c hc=>h c (List.mem_cons_of_mem _ (List.mem_append_left _ hc))⟩
  ·rcases List.mem_append.1 hx with hx | hx
   ·obtain ⟨t,ht,hx⟩:=List.mem_flatMap.1 hx
    exact i1 t ht (d+1) (fun c hc=>h c (List.mem_cons_of_mem _ (List.mem_append_right _ (List.mem_append_left _ (by rw [bA];exact List.mem_flatMap.2 ⟨t,ht,hc⟩))))) x hx
   ·obtain ⟨t,ht,hx⟩:=List.mem_flatMap.1 hx
    exact i2 t ht (d+1) (fun c hc=>h c (List.mem_cons_of_mem _ (List.mem_append_right _ (List.mem_append_right _ (by rw [bA];exact List.mem_flatMap.2 ⟨t,ht,hc⟩))))) x hx
theorem IK {p:af} {E:Env} {s:aa} (hw:eF p E s=0) (hk:s.kind=1∨s.kind=2):(aJ p E s.name).kind≠0:=by
 unfold eF at hw;rcases hk with hk | hk
 ·rw [if_pos hk] at hw
  by_cases a:(aJ p E s.name).kind=0∨(aJ p E s.name).kind=1∨(aJ p E s.name).kind=4
  ·rw [if_pos a] at hw;cases hw
  ·exact fun e=>a (.inl e)
 ·rw [if_neg (by omega),if_pos hk] at hw
  by_cases a:(aJ p E s.name).kind≠4
  ·rw [if_pos a] at hw;cases hw
  ·omega
theorem Zr.names {q:af} {l:List aa} (h:Zr q l) (hd:mr l≤1000):∀s∈l,nO (·∈cZ q) s:=fun s hs x hx=>by
 have h1:=h 1 (by omega);obtain ⟨⟨d',h2⟩,h3⟩:=JR q outside s 1 (fun c hc=>h1 c (by rw [bA];exact List.mem_flatMap.2 ⟨s,hs,hc⟩)) x hx;refine ⟨fun hk=>AV (IK (tu h2).2 hk),fun e he y hy hk=>AV (AP h3 e he y hy (decide_eq_true hk))⟩
section
variable {p:af} {E:Env} {τ:ByteArray→ByteArray} (m:Lt p (LA p) E outside τ)
include m
end
section
variable {p:af} (h:cB p) (hne:p.procs≠[])
include h hne
theorem cB.few:p.procs.length≤16∧p.vars.length≤16:=by
 have h0:=h _ (by unfold bK;exact List.mem_cons_self ..);unfold gL at h0;by_cases a:p.blocks<1∨p.blocks>8∨bG p.width=false
 ·rw [if_pos a] at h0;cases h0
 ·rw [if_neg a] at h0
  by_cases b:p.inputs.length>16∨p.ghosts.length>16∨(p.vars.length:Int)>dx p 16 256∨p.arrays.length>16∨p.procs.length>16∨(aR p:Int)>dx p 2000 20000
  ·rw [if_pos b] at h0;cases h0
  ·have e:dx p 16 256=16:=by
    unfold dx;rw [if_pos (List.length_pos_iff.2 hne)]
   omega
omit h in
end
end
section
open Go
section
variable {p:af} (h:cB p) (hne:p.procs≠[])
include h hne
end
end
section
open Go
mutual
def Mi (p:af) (W:Nat→Int):aa→Int
 | .mk k n _ ex _ _ th _ el=>1+(aF ex:Int)+(if k=8 then (ex.length:Int) - 1+W (sU p n) else 0)+Gc p W th 0+Gc p W el 0
def Gc (p:af) (W:Nat→Int):List aa→Int→Int
 | [],n=>n
 | s::l,n=>Gc p W l (min (n+Mi p W s) 20001)
end
def GH (p:af):Nat→Nat→Int
 | 0,_=>0
 | n+1,i=>Gc p (GH p n) (sV p i).body 0
def Mj (a:Int) (b:Nat):Prop:=min a 20001=min (b:Int) 20001
def KQ (p:af) (s:aa):Prop:=s.kind=8→s.thn=[]∧s.els=[]∧(sV p (sU p s.name)).params.length=s.exprs.length
def KV (p:af):Nat:=aR { p with procs:=[],work:=[],recover:=[] }
def Lr (p:af):Int:=min ((KV p:Int)+(p.procs.map fun q=>q.params.length).sum+Gc p (GH p (p.procs.length+1)) p.work 0+Gc p (GH p (p.procs.length+1)) p.recover 0) 20001
end
section
open Go
structure dC (p:af):Prop where
 heft:aR p≤20000
 names:eT p
 chk:(eD p).2=0
 none:p.procs=[]
theorem kX {p:af} (h:aR p≤20000):eD p=(fq (bK p (aR p)) 0).headD (0,0):=Ar (by rw [fG]) h rfl
theorem Aq {p q:af} (h:aD p=aD q) (hl:aR q≤20000):eD p=eD q:=by
 have hh:aR p=aR q:=by rw [←gI,h,gI]
 rw [kX (by omega),kX hl,hh,CF h]
theorem dC.same {p q:af} (h:aD p=aD q) (hq:dC q):dC p:=by
 have hh:aR p=aR q:=by rw [←gI,h,gI]
 refine ⟨by have:=hq.heft;omega,(G7 h hq.names hq.heft).names,by rw [Aq h hq.heft];exact hq.chk,?_⟩;have h1:p.procs.map jA=q.procs.map jA:=congrArg af.procs h;rw [hq.none] at h1;exact List.map_eq_nil_iff.1 h1
theorem dC.right {p:af} (h:dC p):cB p:=BF h.heft h.chk
theorem dC.weight {p:af} (h:dC p):eU p≤1125899906842624:=by have:=nL p;have:=h.heft;omega
theorem dC.len {p:af} (h:dC p):p.procs.length=0:=by rw [h.none];rfl
def eQ (p:af):af:={ p with ws:=Sp.none,work:=[],cs:=Sp.none,recover:=[] }
theorem iY (p:af):aR p=aR (eQ p)+ay p.work+ay p.recover:=by
 have e:ay []=0:=rfl;unfold aR eQ;simp only [e];omega
def bJ (p:af):Int:=min ((aR (eQ p):Int)+dz p.work 0+dz p.recover 0) 20001
def iX (p:af):Int:=max (min (gz p.work 0) 1001) (min (gz p.recover 0) 1001)
theorem Cu {p q:af} (h:aD p=aD q):aD (eQ p)=aD (eQ q):=by
 unfold aD at h ⊢;unfold eQ;injection h;simp only [*]
theorem nM {p q:af} (h:aD p=aD q):p.work.map ah=q.work.map ah∧p.recover.map ah=q.recover.map ah:=⟨congrArg af.work h,congrArg af.recover h⟩
theorem qJ {p q:af} (h:aD p=aD q):bJ p=bJ q:=by
 unfold bJ;rw [←gI,Cu h,gI,yL (nM h).1,yL (nM h).2]
theorem Az {p q:af} (h:aD p=aD q):iX p=iX q:=by
 unfold iX;rw [xM (nM h).1,xM (nM h).2]
theorem uM {p:af} (h:dC p):countP (eQ p)=aR (eQ p):=kC (by have:=iY p;have:=h.heft;omega)
theorem yS {p:af} (h:dC p):eU (eQ p)≤1125899906842624:=by have:=nL (eQ p);have:=iY p;have:=h.heft;omega
theorem DX {p:af} (h:dC p):min (bW (countP (eQ p))+dz p.work 0+dz p.recover 0) 20001=bJ p:=by
 have h1:=iY p;have h2:=h.heft;rw [uM h];unfold bW bJ;rw [if_pos (by omega)]
end
end Go.Proofs.YtepacjkacjabbaaGreatDoor
