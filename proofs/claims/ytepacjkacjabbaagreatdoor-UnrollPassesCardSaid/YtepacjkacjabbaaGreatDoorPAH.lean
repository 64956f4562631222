import Derived.Test.YtepacjkacjabbaaGreatDoorPAA
import Derived.Test.YtepacjkacjabbaaGreatDoorPAG
import Derived.Laws.Rows
import Derived.Test.YtepacjkacjabbaaGreatDoorPAF
import Derived.Laws.OwnMore
import Derived.Deep.RegionWith
import Derived.RegionTactic
import Derived.BigQuiet
import Derived.Deep.QuietTactic
import Derived.Deep.CutRange
import Derived.Deep.CutBlock
import Derived.Deep.DeepCutAuto
import Derived.StillTailTactics
import Derived.Outline
import Derived.Laws.EntriesVeiled
import Derived.Carry
namespace Go.Proofs.YtepacjkacjabbaaGreatDoor
section
open Go Go.RowKit
section
variable {P:Program} {ops:Array Oper} {Q:Exit→Act→World→Prop}
def dQ (a:Act):Option Nat→Value
 | some t=>a.eval (.tmp t)
 | none=>undef
def vR:Option Nat→Option Nat→Bool
 | some x,some y=>Nat.beq x y
 | none,none=>true
 | _,_=>false
theorem vS {x y:Option Nat} (h:vR x y=true):x=y:=by
 cases x <;> cases y <;> simp_all [vR]
def jC (ops:Array Oper) (n sz:Nat) (dst:Nat→Option Nat):Bool :=
 decide (ops.size=n) && (List.range n).all (fun i=>match ops[i]? with
  | some o=>(match o.guard with | some (g,_)=>decide (g<i) && iW o g | none=>true) && vR o.dst (dst i) && (match dst i with | some d=>decide (d<sz) | none=>true) && (o.after.toList.all fun e=>!Region.binds .any e || decide (e.on<i)) && (List.range n).all (fun j=>j == i || (dst i).isNone || !(vR (dst i) (dst j)))
  | none=>false)
def pJ (dst:Nat→Option Nat) (S:(Nat→Bool)→World→Prop) (Pv:(Nat→Bool)→Nat→Value→World→Prop) (i:Nat) (L:Nat→Bool) (a:Act) (w:World) (a':Act) (w':World):Prop :=
 ∃v,a'=a.put (dst i) v∧(dst i=none→v=undef)∧Pv (jr L i) i v w'∧S (jr L i) w'∧∀j u,j≠i→L j=true→Pv L j u w→Pv (jr L i) j u w'
def KU (P:Program) (Q:Exit→Act→World→Prop) (ops:Array Oper) (n:Nat) (dst:Nat→Option Nat) (S:(Nat→Bool)→World→Prop) (Pv:(Nat→Bool)→Nat→Value→World→Prop) (a0:Act) (i:Nat) (o:Oper):Prop :=
 ∀(L:Nat→Bool) (a:Act) (w:World),L i=false→S L w→(∀j,(ops[j]?.any fun o'=>iW o' i)=true→L j=false)→(∀t:Nat,(∀i,i<n→dst i≠some t)→a.eval (.tmp t)=a0.eval (.tmp t))→(∀j,iW o j=true→L j=true∧Pv L j (dQ a (dst j)) w) →
  match o.guard with
  | none=>o.wp P a w (pJ dst S Pv i L a w) Q
  | some (g,b)=>∃b',dQ a (dst g)=.bool b'∧(b'=b→o.wp P a w (pJ dst S Pv i L a w) Q)∧(b'≠b→pJ dst S Pv i L a w (a.put (dst i) undef) w)
theorem wI {a:Act} {d:Nat} {b:Bool} (h:a.eval (.tmp d)=.bool b):a.tmps[d]? = some (.bool b):=by
 cases hc:a.tmps[d]? with
 | none=>simp [Act.eval,hc,undef] at h
 | some v=>simp [Act.eval,hc] at h;rw [h]
theorem uj {id n sz:Nat} {dst:Nat→Option Nat} {a0:Act} {w0:World} (hm:P.follows .mixedOrders=true) (hB:jC ops n sz dst=true) (ha:a0.tmps.size=sz)
  (S:(Nat→Bool)→World→Prop) (Pv:(Nat→Bool)→Nat→Value→World→Prop)
  (hall:jV (fun i o=>KU P Q ops n dst S Pv a0 i o) 0 ops.toList)
  (hs:S (fun _=>false) w0.drew)
  (hdone:∀(L:Nat→Bool) (a:Act) (w:World),S L w→a.tmps.size=a0.tmps.size→a.defers=a0.defers→(∀t:Nat,(∀i,i<n→dst i≠some t)→a.eval (.tmp t)=a0.eval (.tmp t))→(∀i,i<n→L i=true∧Pv L i (dQ a (dst i)) w)→Q .normal a w):(Code.region id ops true).wp P Q a0 w0:=by
 unfold jC at hB;simp only [Bool.and_eq_true,List.all_eq_true,List.mem_range,decide_eq_true_eq] at hB;obtain ⟨hsz,hB⟩:=hB;have hop:∀i o,ops[i]? = some o→i<n∧(∀g b,o.guard=some (g,b)→g<i∧iW o g=true)∧o.dst=dst i∧(∀d,dst i=some d→d<sz)∧(∀e∈o.after,Region.binds .any e=true→e.on<i)∧∀j,j<n→dst i≠none→dst i=dst j→j=i:=by
  intro i o ho;have hi:i<n:=by rw [←hsz];exact (zgs ho).1
  have h1:=hB i hi;rw [ho] at h1;simp only [Bool.and_eq_true,List.all_eq_true,List.mem_range,Bool.or_eq_true,beq_iff_eq,Bool.not_eq_true',decide_eq_true_eq] at h1;obtain ⟨⟨⟨⟨h2,h3⟩,h3'⟩,h4⟩,h5⟩:=h1;refine ⟨hi,fun g b hg=>?_,vS h3,fun d hd=>?_,fun e he hb=>?_,fun j hj hne he=>?_⟩
  ·simp only [hg,Bool.and_eq_true,decide_eq_true_eq] at h2
   exact h2
  ·simpa [hd] using h3'
  ·have:=h4 e (by simpa using he)
   simpa [hb] using this
  ·rcases h5 j hj with (h | h) | h
   ·exact h
   ·exact absurd (by simpa using h) hne
   ·rw [←he] at h
    cases hd:dst i with
    | none=>exact absurd hd hne
    | some d=>rw [hd] at h;simp [vR] at h
 refine kr hm (fun listed a w=>listed.size=ops.size∧(∀(j:Nat) (o':Oper),ops[j]? = some o'→gP listed j=true→∀e∈o'.after,Region.binds .any e=true→gP listed e.on=true)∧S (gP listed) w∧a.tmps.size=a0.tmps.size∧a.defers=a0.defers∧(∀t:Nat,(∀i,i<n→dst i≠some t)→a.eval (.tmp t)=a0.eval (.tmp t))∧∀i,i<n→gP listed i=true→Pv (gP listed) i (dQ a (dst i)) w) ?_ ?_ ⟨by simp,fun j o' _ h=>?_,?_,rfl,rfl,fun _ _=>rfl,fun i _ h=>?_⟩
 ·rintro listed a w i ⟨hls,hcl,hS,hsa,hde,hsm,hv⟩ hr
  obtain ⟨h0,o,ho,haft⟩:=mem_ready.1 hr;obtain ⟨hi,hg,hd,hlt,hbk,hinj⟩:=hop i o ho;have hi2:i<listed.size:=by rw [hls,hsz];exact hi
  have hfi:gP listed i=false:=by
   unfold gP;simp [Array.getD,hi2] at h0 ⊢;exact h0
  have hbeh:∀j,(ops[j]?.any fun o'=>iW o' i)=true→gP listed j=false:=fun j hj=>by
   cases hoj:ops[j]? with
   | none=>rw [hoj] at hj;cases hj
   | some oj =>
    rw [hoj] at hj;simp only [Option.any_some] at hj;unfold iW at hj;simp only [List.any_eq_true,Bool.and_eq_true] at hj;obtain ⟨e,he,hbb,hej⟩:=hj;obtain rfl:=Nat.eq_of_beq_eq_true hej;cases hlj:gP listed j with
    | false=>rfl
    | true =>
     have:=hcl j oj hoj hlj e (by simpa using he) hbb;rw [hfi] at this;cases this
  have hstep:=hall.all i o ho (gP listed) a w hfi hS hbeh hsm fun j hj=>by
   unfold iW at hj;simp only [List.any_eq_true,Bool.and_eq_true] at hj;obtain ⟨e,he,hbb,hej⟩:=hj;obtain rfl:=Nat.eq_of_beq_eq_true hej;have h2:=haft e (by simpa using he) hbb;exact ⟨h2,hv e.on (Nat.lt_trans (hbk e (by simpa using he) hbb) hi) h2⟩
  have hfin:∀a' w',pJ dst S Pv i (gP listed) a w a' w'→(listed.setIfInBounds i true).size=ops.size∧(∀(j:Nat) (o':Oper),ops[j]? = some o'→gP (listed.setIfInBounds i true) j=true→∀e∈o'.after,Region.binds .any e=true→gP (listed.setIfInBounds i true) e.on=true)∧S (gP (listed.setIfInBounds i true)) w'∧a'.tmps.size=a0.tmps.size∧a'.defers=a0.defers∧(∀t:Nat,(∀i,i<n→dst i≠some t)→a'.eval (.tmp t)=a0.eval (.tmp t))∧∀j,j<n→gP (listed.setIfInBounds i true) j=true→Pv (gP (listed.setIfInBounds i true)) j (dQ a' (dst j)) w':=by
   rintro a' w' ⟨v,rfl,hun,hp,hs',hk⟩;rw [zi hi2] at *;refine ⟨by simpa using hls,fun j oj hoj hl e he hb=>?_,hs',by rw [size_put];exact hsa,by cases dst i <;> exact hde,fun t ht=>?_,fun j hj hl=>?_⟩
   ·by_cases hei:e.on=i
    ·rw [hei];exact aC
    ·rw [ai hei]
     by_cases hji:j=i
     ·subst hji
      rw [ho] at hoj;cases hoj
      exact haft e he hb
     ·rw [ai hji] at hl
      exact hcl j oj hoj hl e he hb
   ·rw [←hsm t ht]
    cases hdi:dst i with
    | none=>rfl
    | some d=>exact aA fun hne=>ht i hi (by rw [hdi,hne])
   ·by_cases hij:j=i
    ·subst hij
     cases hdi:dst j with
     | none=>rw [hdi] at hun;rw [hun rfl] at hp;exact hp
     | some d =>
      show Pv _ j ((a.put (some d) v).eval (.tmp d)) _;rw [eval_put_same (by rw [hsa,ha];exact hlt d hdi)];exact hp
    ·rw [ai hij] at hl
     have h2:=hk j _ hij hl (hv j hj hl);cases hdj:dst j with
     | none=>rw [hdj] at h2;exact h2
     | some d =>
      rw [hdj] at h2;cases hdi:dst i with
      | none=>exact h2
      | some d2 =>
       show Pv _ j ((a.put (some d2) v).eval (.tmp d)) _;rw [aA (fun hne=>hij (hinj j hj (by rw [hdi];simp) (by rw [hdi,hdj,hne])))];exact h2
  unfold wpOp;simp only [ho];cases hgd:o.guard with
  | none =>
   rw [hgd] at hstep;rw [if_pos (by simp [Region.wanted,hgd])];exact .inl (Oper.wp_mono hfin hstep)
  | some gb =>
   obtain ⟨g,b⟩:=gb;rw [hgd] at hstep;obtain ⟨b',hev,hy,hn⟩:=hstep;have hgi:=(hg g b hgd).1;have hgo:g<ops.size:=by rw [hsz];omega
   have hgd2:=(hop g ops[g] (Array.getElem?_eq_getElem hgo)).2.2.1;have hyi:yielded ops a.tmps g=some b':=by
    unfold yielded;rw [Array.getElem?_eq_getElem hgo];cases hdg:dst g with
    | none=>rw [hdg] at hev;cases hev
    | some d =>
     rw [hdg] at hev;simp only [Option.bind_some,hgd2,hdg,wI (show a.eval (.tmp d)=.bool b' from hev)]
   by_cases hbb:b'=b
   ·rw [if_pos (by simp [Region.wanted,hgd,hyi,hbb])]
    exact .inl (Oper.wp_mono hfin (hy hbb))
   ·rw [if_neg (by simp [Region.wanted,hgd,hyi,hbb])]
    rw [hd];exact hfin _ _ (hn hbb)
 ·rintro listed a w ⟨hls,hcl,hS,hsa,hde,hsm,hv⟩ hr
  have hall2:=rE hls (fun i o ho e he hb=>(hop i o ho).2.2.2.2.1 e he hb) hr;exact hdone (gP listed) a w hS hsa hde hsm fun i hi=>⟨hall2 i (by rw [hsz];exact hi),hv i hi (hall2 i (by rw [hsz];exact hi))⟩
 ·simp [gP,Array.getD] at h
 ·have:gP (Array.replicate ops.size false)=fun _=>false:=by funext j;simp [gP,Array.getD]
  rw [this];exact hs
 ·simp [gP,Array.getD] at h
theorem jV.of_list {F:Nat→Oper→Prop}:∀(l:List Oper) (k:Nat),(∀i o,l[i]? = some o→F (k+i) o)→jV F k l
 | [],_,_=>trivial
 | x::l,k,h=>⟨h 0 x rfl,jV.of_list l (k+1) fun i o ho=>by
   have:=h (i+1) o (by simpa using ho)
   rwa [show k+(i+1)=k+1+i by omega] at this⟩
theorem jV.of {F:Nat→Oper→Prop} (h:∀i o,ops[i]? = some o→F i o):jV F 0 ops.toList :=
 jV.of_list _ _ fun i o ho=>by
  rw [Nat.zero_add];exact h i o (by simpa using ho)
end
end
section
open Go Go.RowKit
abbrev PV:=(Nat→Bool)→Value→World→Prop
abbrev pQ:=List (Nat × Option Nat × PV)
def gW:pQ→Nat→Option Nat × PV
 | [],_=>(none,fun _ _ _=>True)
 | (i,d,p)::l,j=>match Nat.beq i j with
  | true=>(d,p)
  | false=>gW l j
theorem vK {i:Nat} {d:Option Nat} {p:PV} {l:pQ}:gW ((i,d,p)::l) i=(d,p):=by
 unfold gW;rw [Nat.beq_refl]
theorem yf {i j:Nat} {d:Option Nat} {p:PV} {l:pQ} (h:i≠j):gW ((i,d,p)::l) j=gW l j:=by
 have:Nat.beq i j=false:=by
  cases hb:Nat.beq i j with
  | false=>rfl
  | true=>exact absurd (Nat.eq_of_beq_eq_true hb) h
 conv=>lhs;unfold gW
 rw [this]
def eZ (c:Value):PV:=fun _ v _=>v=c
section
variable (P:Program) (Q:Exit→Act→World→Prop) (ops:Array Oper) (keep:Nat→Bool) (a0:Act) (S:(Nat→Bool)→World→Prop) (R:Nat→World→World→Prop)
def Ju (Ps:pQ) (L:Nat→Bool) (a:Act) (w:World):List Edge→Prop
 | []=>True
 | e::l=>(Region.binds .any e=true→L e.on=true∧(gW Ps e.on).2 L (dQ a (gW Ps e.on).1) w)∧Ju Ps L a w l
def kU (k:Nat) (d:Option Nat) (Pk:PV) (L:Nat→Bool) (a:Act) (w:World) (a':Act) (w':World):Prop :=
 ∃v,a'=a.put d v∧(d=none→v=undef)∧Pk (jr L k) v w'∧S (jr L k) w'∧R k w w'
structure ku (Ps:pQ) (k:Nat) (o:Oper) (L:Nat→Bool) (a:Act) (w:World):Prop where
 new:L k=false
 world:S L w
 behind:∀j,(ops[j]?.any fun o'=>iW o' k)=true→L j=false
 same:∀t:Nat,keep t=true→a.tmps[t]?.getD undef=a0.tmps[t]?.getD undef
 aft:Ju Ps L a w o.after.toList
def J9 (Ps:pQ) (k:Nat) (o:Oper) (Pk:PV):Prop:=∀(L:Nat→Bool) (a:Act) (w:World),ku ops keep a0 S Ps k o L a w →
  match o.guard with
  | none=>o.wp P a w (kU S R k o.dst Pk L a w) Q
  | some (g,b)=>∃b',dQ a (gW Ps g).1=.bool b'∧(b'=b→o.wp P a w (kU S R k o.dst Pk L a w) Q)∧(b'≠b→kU S R k o.dst Pk L a w (a.put o.dst undef) w)
def uG (k:Nat) (Pk:PV):Prop:=∀(i:Nat) (L:Nat→Bool) (v:Value) (w w':World),i≠k→R i w w'→Pk L v w→Pk (jr L i) v w'
def J7 (a:Act):Prop:=a.tmps.size=a0.tmps.size∧a.defers=a0.defers∧∀t:Nat,keep t=true→a.tmps[t]?.getD undef=a0.tmps[t]?.getD undef
structure D8 (Ps:pQ) (L:Nat→Bool) (a:Act) (w:World):Prop where
 world:S L w
 same:J7 keep a0 a
 val:∀j,(gW Ps j).2 L (dQ a (gW Ps j).1) w
def ak:Nat→pQ→List Oper→Prop
 | k,Ps,[]=>∀(L:Nat→Bool) (a:Act) (w:World),(∀i,i<k→L i=true)→D8 keep a0 S Ps L a w→Q .normal a w
 | k,Ps,o::rest=>∃Pk,uG R k Pk∧J9 P Q ops keep a0 S R Ps k o Pk∧ak (k+1) ((k,o.dst,Pk)::Ps) rest
end
def nW (ops:Array Oper) (i:Nat):Option Nat:=(ops[i]?).bind Oper.dst
def dR (ops:Array Oper) (n sz:Nat) (keep:Nat→Bool):Bool :=
 jC ops n sz (nW ops) && ops.toList.all (fun o=>match o.dst with | some d=>!keep d | none=>true)
section
variable {P:Program} {Q:Exit→Act→World→Prop} {ops:Array Oper} {keep:Nat→Bool} {a0:Act} {S:(Nat→Bool)→World→Prop} {R:Nat→World→World→Prop}
theorem nk {Ex Ps:pQ} {k j:Nat} (h:∀x,x∈Ex→k≤x.1) (hj:j<k):gW (Ex++Ps) j=gW Ps j:=by
 induction Ex with
 | nil=>rfl
 | cons x Ex ih =>
  obtain ⟨i,d,p⟩:=x;have h1:=h _ (List.mem_cons_self ..);show gW ((i,d,p)::(Ex++Ps)) j=_;rw [yf (by have:k≤i:=h1;omega)];exact ih fun y hy=>h y (List.mem_cons_of_mem _ hy)
theorem kH {l:pQ} {j:Nat} (h:∀x,x∈l→x.1≠j):gW l j=(none,fun _ _ _=>True):=by
 induction l with
 | nil=>rfl
 | cons y l ih =>
  obtain ⟨i',d',p'⟩:=y;rw [yf (h _ (List.mem_cons_self ..))];exact ih fun x hx=>h x (List.mem_cons_of_mem _ hx)
theorem ak.all:∀(rest:List Oper) (k:Nat) (Ps:pQ),ak P Q ops keep a0 S R k Ps rest →
  ∃Ex:pQ,(∀x,x∈Ex→k≤x.1∧x.1<k+rest.length∧gW (Ex++Ps) x.1=x.2)∧(∀(L:Nat→Bool) (a:Act) (w:World),(∀i,i<k+rest.length→L i=true)→D8 keep a0 S (Ex++Ps) L a w→Q .normal a w) ∧
   ∀(i:Nat) (o:Oper),rest[i]? = some o→∃(Pk:PV) (Pi:pQ),gW (Ex++Ps) (k+i)=(o.dst,Pk)∧uG R (k+i) Pk∧J9 P Q ops keep a0 S R Pi (k+i) o Pk∧∀j,j<k+i→gW Pi j=gW (Ex++Ps) j
 | [],k,Ps,h=>⟨[],by simp,h,by simp⟩
 | o::rest,k,Ps,h=>by
  obtain ⟨Pk,h1,h2,h3⟩:=h;obtain ⟨Ex,g1,g2,g3⟩:=ak.all rest (k+1) _ h3;have e:Ex++(k,o.dst,Pk)::Ps=(Ex++[(k,o.dst,Pk)])++Ps:=by simp
  have hk:gW (Ex++(k,o.dst,Pk)::Ps) k=(o.dst,Pk):=by
   rw [nk (k:=k+1) (fun x hx=>(g1 x hx).1) (Nat.lt_succ_self k)];exact vK
  rw [e] at g1 g2 g3 hk;have e2:k+1+rest.length=k+(o::rest).length:=by simp;omega
  rw [e2] at g2;refine ⟨Ex++[(k,o.dst,Pk)],fun x hx=>?_,g2,fun i o' ho=>?_⟩
  ·rcases List.mem_append.1 hx with hx | hx
   ·have:=g1 x hx
    simp only [List.length_cons];exact ⟨by omega,by omega,this.2.2⟩
   ·obtain rfl:=List.mem_singleton.1 hx
    simp only [List.length_cons];exact ⟨Nat.le_refl _,by omega,hk⟩
  ·match i with
   | 0 =>
    simp only [List.getElem?_cons_zero,Option.some.injEq] at ho;subst ho;refine ⟨Pk,Ps,hk,h1,h2,fun j hj=>?_⟩;refine (nk (k:=k) (fun x hx=>?_) hj).symm;rcases List.mem_append.1 hx with hx | hx
    ·have:=(g1 x hx).1;omega
    ·obtain rfl:=List.mem_singleton.1 hx;exact Nat.le_refl _
   | i+1 =>
    obtain ⟨Pk',Pi,t1,t2,t3,t4⟩:=g3 i o' (by simpa using ho);rw [show k+1+i=k+(i+1) by omega] at t1 t2 t3 t4;exact ⟨Pk',Pi,t1,t2,t3,t4⟩
theorem uq {Ps Pi:pQ} {L:Nat→Bool} {a:Act} {w:World} {k:Nat} (hj:∀j,j<k→gW Pi j=gW Ps j):∀(l:List Edge),(∀e,e∈l→Region.binds .any e=true→e.on<k∧L e.on=true∧(gW Ps e.on).2 L (dQ a (gW Ps e.on).1) w)→Ju Pi L a w l
 | [],_=>trivial
 | e::l,h=>⟨fun hb=>by
   obtain ⟨h1,h2,h3⟩:=h e (List.mem_cons_self ..) hb;rw [hj _ h1];exact ⟨h2,h3⟩,uq hj l fun e he=>h e (List.mem_cons_of_mem _ he)⟩
theorem aP {id n sz:Nat} {w0:World} (hm:P.follows .mixedOrders=true) (hB:dR ops n sz keep=true) (ha:a0.tmps.size=sz)
  (S:(Nat→Bool)→World→Prop) (R:Nat→World→World→Prop) (hs:S (fun _=>false) w0.drew) (h:ak P Q ops keep a0 S R 0 [] ops.toList):(Code.region id ops true).wp P Q a0 w0:=by
 unfold dR at hB;rw [Bool.and_eq_true,List.all_eq_true] at hB;obtain ⟨hB,hkp⟩:=hB;obtain ⟨Ex,h1,h2,h3⟩:=ak.all _ _ _ h;rw [List.append_nil] at h1 h2 h3;simp only [Nat.zero_add] at h1 h2 h3;have hdst:∀i o,ops[i]? = some o→nW ops i=o.dst:=fun i o ho=>by unfold nW;rw [ho];rfl
 have hn:ops.size=n:=by unfold jC at hB;rw [Bool.and_eq_true] at hB;simpa using hB.1
 have hlk:∀i o,ops[i]? = some o→(gW Ex i).1=o.dst:=fun i o ho=>by
  obtain ⟨Pk,Pi,t1,_⟩:=h3 i o (by simpa using ho);rw [t1]
 refine uj hm hB ha S (fun L i v w=>(gW Ex i).2 L v w) ?_ hs ?_
 ·refine jV.of fun i o ho=>?_
  intro L a w hL hS hbeh hsm haft;obtain ⟨Pk,Pi,t1,t2,t3,t4⟩:=h3 i o (by simpa using ho);have hdi:=hdst i o ho;have hnow:ku ops keep a0 S Pi i o L a w:=⟨hL,hS,hbeh,fun t ht=>by
    have:=hsm t fun j hj he=>by
     have hj2:j<ops.size:=by rw [hn];exact hj
     have hd:=hdst j ops[j] (Array.getElem?_eq_getElem hj2);rw [hd] at he;have:=hkp ops[j] (by simp);rw [he] at this;simp only [ht] at this;cases this
    simpa [Act.eval] using this,uq t4 _ fun e he hb=>?_⟩
  ·have hstep:=t3 L a w hnow
   have hl:∀a' w',kU S R i o.dst Pk L a w a' w'→pJ (nW ops) S (fun L i v w=>(gW Ex i).2 L v w) i L a w a' w':=by
    rintro a' w' ⟨v,e1,e2,e3,e4,e5⟩;rw [←hdi] at e1 e2;refine ⟨v,e1,e2,by show (gW Ex i).2 _ _ _;rw [t1];exact e3,e4,fun j u hji hj hu=>?_⟩;by_cases hjn:j<ops.size
    ·obtain ⟨Pj,_,u1,u2,_⟩:=h3 j ops[j] (by simp [hjn])
     show (gW Ex j).2 _ _ _
     replace hu:(gW Ex j).2 _ _ _:=hu
     rw [u1] at hu ⊢;exact u2 i L u w w' (Ne.symm hji) e5 hu
    ·have:(gW Ex j)=(none,fun _ _ _=>True):=kH fun x hx e=>hjn (by have:=(h1 x hx).2.1;rw [e] at this;simpa using this)
     show (gW Ex j).2 _ _ _;rw [this]
     trivial
   cases hg:o.guard with
   | none =>
    rw [hg] at hstep;exact Oper.wp_mono hl hstep
   | some gb =>
    obtain ⟨g,b⟩:=gb;rw [hg] at hstep;obtain ⟨b',s1,s2,s3⟩:=hstep;have hgi:g<i:=by
     unfold jC at hB;simp only [Bool.and_eq_true,List.all_eq_true,List.mem_range] at hB;have hi:i<n:=by rw [←hn];exact (zgs ho).1
     have:=hB.2 i hi;rw [ho] at this;simp only [hg,Bool.and_eq_true,decide_eq_true_eq] at this;exact this.1.1.1.1.1
    have hgs:g<ops.size:=Nat.lt_trans hgi (zgs ho).1;refine ⟨b',?_,fun e=>Oper.wp_mono hl (s2 e),fun e=>?_⟩
    ·rw [t4 g hgi,hlk g ops[g] (Array.getElem?_eq_getElem hgs),←hdst g ops[g] (Array.getElem?_eq_getElem hgs)] at s1
     exact s1
    ·rw [hdi]
     exact hl _ _ (s3 e)
  ·have hbf:iW o e.on=true:=by
    unfold iW;rw [List.any_eq_true];exact ⟨e,he,by rw [hb,Bool.true_and];exact Nat.beq_refl _⟩
   obtain ⟨g1,g2⟩:=haft e.on hbf;have hlt:e.on<i:=by
    unfold jC at hB;simp only [Bool.and_eq_true,List.all_eq_true,List.mem_range] at hB;have hi:i<n:=by rw [←hn];exact (zgs ho).1
    have:=hB.2 i hi;rw [ho] at this;simp only [Bool.and_eq_true,List.all_eq_true] at this;have:=this.1.2 e (by simpa using he)
    simpa [hb] using this
   have hes:e.on<ops.size:=Nat.lt_trans hlt (zgs ho).1;refine ⟨hlt,g1,?_⟩;rw [hlk e.on ops[e.on] (Array.getElem?_eq_getElem hes),←hdst e.on ops[e.on] (Array.getElem?_eq_getElem hes)];exact g2
 ·intro L a w hS hsz hde hsm hv
  refine h2 L a w (fun i hi=>(hv i (by rw [←hn];simpa using hi)).1) ⟨hS,⟨hsz,hde,fun t ht=>?_⟩,fun j=>?_⟩
  ·have:=hsm t fun j hj he=>by
    have hj2:j<ops.size:=by rw [hn];exact hj
    have hd:=hdst j ops[j] (Array.getElem?_eq_getElem hj2);rw [hd] at he;have:=hkp ops[j] (by simp);rw [he] at this;simp only [ht] at this;cases this
   simpa [Act.eval] using this
  ·by_cases hj:j<n
   ·have hjs:j<ops.size:=by rw [hn];exact hj
    have:=(hv j hj).2;rw [hdst _ _ (Array.getElem?_eq_getElem hjs),←hlk _ _ (Array.getElem?_eq_getElem hjs)] at this;exact this
   ·have hx:∀x,x∈Ex→x.1≠j:=fun x hx e=>hj (by have:=(h1 x hx).2.1;rw [e] at this;rw [←hn];simpa using this)
    rw [kH hx]
    trivial
section
variable {k:Nat} {Ps:pQ} {o:Oper} {rest:List Oper}
theorem ak.exact {c:Value} {d:Nat} (hg:o.guard=none) (hd:o.dst=some d) (hS:∀L w,S L w→S (jr L k) w) (hR:∀w,R k w w)
  (h:∀(L:Nat→Bool) (a:Act) (w:World),ku ops keep a0 S Ps k o L a w→(execOp a.eval o).run P w=.ok (.value c) w)
  (t:ak P Q ops keep a0 S R (k+1) ((k,o.dst,eZ c)::Ps) rest):ak P Q ops keep a0 S R k Ps (o::rest):=by
 refine ⟨eZ c,fun _ _ _ _ _ _ _ h=>h,fun L a w hn=>?_,t⟩;rw [hg];exact Oper.wp_value (h L a w hn) ⟨c,rfl,fun e=>by rw [hd] at e;(cases e),rfl,hS L w hn.world,hR w⟩
theorem ak.any (Pk:PV) (hg:o.guard=none) (hst:uG R k Pk)
  (h:∀(L:Nat→Bool) (a:Act) (w:World),ku ops keep a0 S Ps k o L a w→o.wp P a w (kU S R k o.dst Pk L a w) Q)
  (t:ak P Q ops keep a0 S R (k+1) ((k,o.dst,Pk)::Ps) rest):ak P Q ops keep a0 S R k Ps (o::rest):=by
 refine ⟨Pk,hst,fun L a w hn=>?_,t⟩;rw [hg];exact h L a w hn
theorem ak.guarded (Pk:PV) {g:Nat} {b:Bool} (hg:o.guard=some (g,b)) (hst:uG R k Pk)
  (h:∀(L:Nat→Bool) (a:Act) (w:World),ku ops keep a0 S Ps k o L a w→∃b',dQ a (gW Ps g).1=.bool b'∧(b'=b→o.wp P a w (kU S R k o.dst Pk L a w) Q)∧(b'≠b→kU S R k o.dst Pk L a w (a.put o.dst undef) w))
  (t:ak P Q ops keep a0 S R (k+1) ((k,o.dst,Pk)::Ps) rest):ak P Q ops keep a0 S R k Ps (o::rest):=by
 refine ⟨Pk,hst,fun L a w hn=>?_,t⟩;rw [hg];exact h L a w hn
theorem ak.call {c:Value} {d:Nat} {f:FuncId} {args:Array Value} (hg:o.guard=none) (hd:o.dst=some d) (hS:∀L w w',S L w→Below w.heap.size w w'→S (jr L k) w') (hR:∀w w',Below w.heap.size w w'→R k w w')
  (h:∀(L:Nat→Bool) (a:Act) (w:World),ku ops keep a0 S Ps k o L a w→(execOp a.eval o).run P w=.ok (.enter f args) w∧Calls P f args w fun e w'=>e=.returned c∧Below w.heap.size w w')
  (t:ak P Q ops keep a0 S R (k+1) ((k,o.dst,eZ c)::Ps) rest):ak P Q ops keep a0 S R k Ps (o::rest):=by
 refine ⟨eZ c,fun _ _ _ _ _ _ _ h=>h,fun L a w hn=>?_,t⟩;rw [hg];obtain ⟨h1,h2⟩:=h L a w hn;refine Oper.wp_enter h1 (h2.mono ?_);rintro e w' ⟨rfl,hb⟩;exact ⟨c,rfl,c,rfl,fun e=>by rw [hd] at e;(cases e),rfl,hS L w w' hn.world hb,hR w w' hb⟩
theorem ak.exactG {c:Value} {d g:Nat} {b:Bool} (hg:o.guard=some (g,b)) (hd:o.dst=some d) (hS:∀L w,S L w→S (jr L k) w) (hR:∀w,R k w w)
  (hb:∀(L:Nat→Bool) (a:Act) (w:World),ku ops keep a0 S Ps k o L a w→dQ a (gW Ps g).1=.bool b)
  (h:∀(L:Nat→Bool) (a:Act) (w:World),ku ops keep a0 S Ps k o L a w→(execOp a.eval o).run P w=.ok (.value c) w)
  (t:ak P Q ops keep a0 S R (k+1) ((k,o.dst,eZ c)::Ps) rest):ak P Q ops keep a0 S R k Ps (o::rest):=by
 refine ⟨eZ c,fun _ _ _ _ _ _ _ h=>h,fun L a w hn=>?_,t⟩;rw [hg];exact ⟨b,hb L a w hn,fun _=>Oper.wp_value (h L a w hn) ⟨c,rfl,fun e=>by rw [hd] at e;(cases e),rfl,hS L w hn.world,hR w⟩,fun e=>absurd rfl e⟩
theorem ak.callG {c:Value} {d g:Nat} {b:Bool} {f:FuncId} {args:Array Value} (hg:o.guard=some (g,b)) (hd:o.dst=some d) (hS:∀L w w',S L w→Below w.heap.size w w'→S (jr L k) w') (hR:∀w w',Below w.heap.size w w'→R k w w')
  (hb:∀(L:Nat→Bool) (a:Act) (w:World),ku ops keep a0 S Ps k o L a w→dQ a (gW Ps g).1=.bool b)
  (h:∀(L:Nat→Bool) (a:Act) (w:World),ku ops keep a0 S Ps k o L a w→(execOp a.eval o).run P w=.ok (.enter f args) w∧Calls P f args w fun e w'=>e=.returned c∧Below w.heap.size w w')
  (t:ak P Q ops keep a0 S R (k+1) ((k,o.dst,eZ c)::Ps) rest):ak P Q ops keep a0 S R k Ps (o::rest):=by
 refine ⟨eZ c,fun _ _ _ _ _ _ _ h=>h,fun L a w hn=>?_,t⟩;rw [hg];refine ⟨b,hb L a w hn,fun _=>?_,fun e=>absurd rfl e⟩;obtain ⟨h1,h2⟩:=h L a w hn;refine Oper.wp_enter h1 (h2.mono ?_);rintro e w' ⟨rfl,hb⟩;exact ⟨c,rfl,c,rfl,fun e=>by rw [hd] at e;(cases e),rfl,hS L w w' hn.world hb,hR w w' hb⟩
theorem au {a:Act} {n:Nat} {v:Value} (h:a.tmps[n]?.getD undef=v):a.eval (.tmp n)=v:=by rw [←h];simp [Act.eval]
theorem GN {a:Act} {w:World} {ty:TypeId} {x:Operand} (ho:o.op=.load ty x) (b:Nat) (hx:a.eval x=.pointer (some ⟨b,0,none⟩)) (t:TypeId) (cs:Array Value) (fr:Nat × Nat) (d:TypeDesc) (hb:w.heap[b]? = some (.cells cs t fr))
  (hu:P.underlying ty=some d) (hd:(match d with | .struct _ | .array _ _=>true | _=>false)=true) (hi:(P.info? ty).map (·.size)=some cs.size):(execOp a.eval o).run P w=.ok (.value (.agg cs)) w:=by
 have hl:(loadCells ⟨b,0,none⟩ cs.toList.length).run P w=.ok cs.toList.toArray w :=
  run_loadCells_list (P:=P) w ⟨b,0,none⟩ cs.toList (fun j v hv=>by
   have hadd:(⟨b,0,none⟩:Addr).add j=⟨b,0+j,none⟩:=Addr.add_lit _ _ _;rw [hadd,Nat.zero_add];have hj:cs[j]? = some v:=by simpa using hv
   simp [World.cell?,hb,hj])
 have hrun:(loadVar ty ⟨b,0,none⟩).run P w=.ok (.agg cs) w:=by
  cases hq:P.info? ty with
  | none=>simp [hq] at hi
  | some i =>
   have hs:i.size=cs.size:=by simpa [hq] using hi
   have hagg:(isAgg ty).run P w=.ok true w:=by
    unfold isAgg;rw [Sem.run_bind,run_underlying hu w];cases d <;> simp_all
   simp only [Array.length_toList,Array.toArray_toList] at hl;simp [loadVar,Sem.run_bind,hagg,sizeOf,typeInfo,hq,hs,hl]
 unfold execOp;simp only [ho,hx,Instr.loadAt,Instr.sureAddr,Sem.run_bind,Sem.run_pure,Result.andThen_ok,hrun]
end
end
end
section
open Go Go.RowKit Go.Maps
section
variable {α:Type} {k:Nat} {enc:α→List Value}
theorem xS (hk:∀x,(enc x).length=k):∀(l:List α) (j r:Nat) (v:Value) (x:α) (hj:j<l.length),r<k→(enc (l[j])).set r v=enc x→(l.flatMap enc).set (j*k+r) v=(l.set j x).flatMap enc
 | y::l,0,r,v,x,_,hr,h=>by
  rw [List.flatMap_cons,List.set_cons_zero,List.flatMap_cons,Nat.zero_mul,Nat.zero_add,List.set_append_left _ _ (by rw [hk];exact hr)];rw [show (y::l)[0]=y from rfl] at h;rw [h]
 | y::l,j+1,r,v,x,hj,hr,h=>by
  rw [List.flatMap_cons,List.set_cons_succ,List.flatMap_cons];have e:(j+1)*k+r=(enc y).length+(j*k+r):=by rw [hk,Nat.add_mul];omega
  rw [e,List.set_append_right _ _ (Nat.le_add_right _ _),Nat.add_sub_cancel_left,xS hk l j r v x (by simpa using hj) hr (by simpa using h)]
theorem xU (hk:∀x,(enc x).length=6) (v0 v1 v2 v3 v4 v5:Value):∀(l:List α) (j:Nat) (x:α),j<l.length→enc x=[v0,v1,v2,v3,v4,v5] →
  ((((((l.flatMap enc).set (j*6) v0).set (j*6+1) v1).set (j*6+2) v2).set (j*6+3) v3).set (j*6+4) v4).set (j*6+5) v5=(l.set j x).flatMap enc
 | y::l,0,x,_,h=>by
  rw [List.flatMap_cons,List.set_cons_zero,List.flatMap_cons,h];have hy:=hk y
  match enc y,hy with
  | [a,b,c,d,e,g],_=>simp
 | y::l,j+1,x,hj,h=>by
  rw [List.flatMap_cons,List.set_cons_succ,List.flatMap_cons,←xU hk v0 v1 v2 v3 v4 v5 l j x (by simpa using hj) h];have e:(j+1)*6=(enc y).length+j*6:=by rw [hk,Nat.add_mul];omega
  rw [e];simp only [List.set_append_right _ _ (Nat.le_add_right _ _),Nat.add_assoc,Nat.add_sub_cancel_left]
variable {B:Nat} {W:World} {t:TypeId} {g n c:Nat} {l:List α}
theorem aI.frozen (h:aI B W t k enc (.slice (some ⟨g,0,none⟩) n c) l) (j:Nat):W.frozen? ⟨g,j,none⟩=false:=by
 have hn:=h.len;subst hn;exact World.ownsRow.frozenAt h j
theorem aI.put1 (h:aI B W t k enc (.slice (some ⟨g,0,none⟩) n c) l) (hk:∀x,(enc x).length=k) {j r:Nat} {v:Value} {x:α} (hj:j<l.length) (hr:r<k) (hx:(enc (l[j])).set r v=enc x) :
  aI B (W.setCell ⟨g,j*k+r,none⟩ v) t k enc (.slice (some ⟨g,0,none⟩) n c) (l.set j x):=by
 have hn:=h.len;subst hn;have h1:=(World.ownsRow.stored h (j*k+r) v).1;unfold aI;rw [List.length_set,←xS hk l j r v x hj hr hx];exact h1
theorem aI.put6 {enc:α→List Value} (h:aI B W t 6 enc (.slice (some ⟨g,0,none⟩) n c) l) (hk:∀x,(enc x).length=6) {j:Nat} {x:α} {v0 v1 v2 v3 v4 v5:Value} (hj:j<l.length) (hx:enc x=[v0,v1,v2,v3,v4,v5]) :
  aI B ((((((W.setCell ⟨g,j*6,none⟩ v0).setCell ⟨g,j*6+1,none⟩ v1).setCell ⟨g,j*6+2,none⟩ v2).setCell ⟨g,j*6+3,none⟩ v3).setCell ⟨g,j*6+4,none⟩ v4).setCell ⟨g,j*6+5,none⟩ v5) t 6 enc (.slice (some ⟨g,0,none⟩) n c) (l.set j x):=by
 have hn:=h.len;subst hn;unfold aI;rw [List.length_set,←xU hk v0 v1 v2 v3 v4 v5 l j x hj hx];exact (World.ownsRow.stored (World.ownsRow.stored (World.ownsRow.stored (World.ownsRow.stored (World.ownsRow.stored (World.ownsRow.stored h _ v0).1 _ v1).1 _ v2).1 _ v3).1 _ v4).1 _ v5).1
end
theorem uS (w:World) (c:Nat):Calls Tryz.prog 196 #[.slice none 0 c] w fun o w'=>o=.returned (.slice none 0 0)∧w'=w:=by
 have q22:∀(w:World) (a:Option Addr) (n c n' c':Nat),(binOp .eql 28 (.slice a n c) (.slice none n' c')).run Tryz.prog w=.ok (.bool a.isNone) w:=fun w a n c n' c'=>Lib.run_eql_slice_nil w _ _ a n c n' c' Tryz.underlying28
 go_enter Tryz.func196,Tryz.ntmps196
 go_wp2_with fail
 go_ret
 exact ⟨rfl,rfl⟩
theorem uT (w:World) (c:Nat):Calls Tryz.prog 70 #[.slice none 0 c] w fun o w'=>o=.returned (.slice none 0 0)∧w'=w:=by
 have q22:∀(w:World) (a:Option Addr) (n c n' c':Nat),(binOp .eql 33 (.slice a n c) (.slice none n' c')).run Tryz.prog w=.ok (.bool a.isNone) w:=fun w a n c n' c'=>Lib.run_eql_slice_nil w _ _ a n c n' c' Tryz.underlying33
 go_enter Tryz.func70,Tryz.ntmps70
 go_wp2_with fail
 go_ret
 exact ⟨rfl,rfl⟩
theorem BG {α:Type} {B k:Nat} {W:World} {sp:Sp} {enc:α→List Value} {l:List α} (h:RowOf B W sp k enc l) (hat:sp.at_=none):l=[]:=by
 cases l with
 | nil=>rfl
 | cons x l=>obtain ⟨b,off,e,_⟩:=h.row (by simp);rw [hat] at e;cases e
theorem sH (w:World) (sp:Sp) (l:List ae) (B:Nat) (h:RowOf B w sp 6 ae.cells l) (hl:l.length≤1000000) :
  Calls Tryz.prog 196 #[.slice sp.at_ l.length sp.cap] w fun o w'=>(∃sp':Sp,o=.returned (.slice sp'.at_ l.length sp'.cap)∧aI w.heap.size w' 30 6 ae.cells (.slice sp'.at_ l.length sp'.cap) l∧(sp.at_=none→sp'=Sp.none))∧Below w.heap.size w w':=by
 cases hat:sp.at_ with
 | none =>
  have h0:=BG h hat;subst h0;refine (uS w sp.cap).mono ?_;rintro o w' ⟨rfl,rfl⟩;exact ⟨⟨Sp.none,rfl,aI.nil,fun _=>rfl⟩,Below.refl _ _⟩
 | some a =>
  have h1:=Cx w sp l B h hl;rw [hat] at h1;refine h1.mono ?_;rintro o w' ⟨⟨v,rfl,hv⟩,hb⟩;obtain ⟨A,c,rfl⟩:=hv.form;exact ⟨⟨⟨A,c⟩,rfl,hv,fun h=>by cases h⟩,hb⟩
theorem Au (w:World) (sp:Sp) (l:List aa) (B:Nat) (h:RowOf B w sp 6 aa.cells l) (hl:l.length≤1000000) :
  Calls Tryz.prog 70 #[.slice sp.at_ l.length sp.cap] w fun o w'=>(∃sp':Sp,o=.returned (.slice sp'.at_ l.length sp'.cap)∧aI w.heap.size w' 43 6 aa.cells (.slice sp'.at_ l.length sp'.cap) l∧(sp.at_=none→sp'=Sp.none))∧Below w.heap.size w w':=by
 cases hat:sp.at_ with
 | none =>
  have h0:=BG h hat;subst h0;refine (uT w sp.cap).mono ?_;rintro o w' ⟨rfl,rfl⟩;exact ⟨⟨Sp.none,rfl,aI.nil,fun _=>rfl⟩,Below.refl _ _⟩
 | some a =>
  have h1:=CB w sp l B h hl;rw [hat] at h1;refine h1.mono ?_;rintro o w' ⟨⟨v,rfl,hv⟩,hb⟩;obtain ⟨A,c,rfl⟩:=hv.form;exact ⟨⟨⟨A,c⟩,rfl,hv,fun h=>by cases h⟩,hb⟩
end
section
open Go
abbrev nS:=Int→ByteArray→ByteArray
mutual
def Ej (g:nS):ae→ae
 | .mk k o v w n sp l=>.mk k o v w (g k n) sp (Hz g l)
def Hz (g:nS):List ae→List ae
 | []=>[]
 | e::l=>Ej g e::Hz g l
end
theorem Em (g:nS):∀l:List ae,Hz g l=l.map (Ej g)
 | []=>by rw [Hz];rfl
 | e::l=>by rw [Hz,Em g l];rfl
theorem Dy (g:nS) (k o v w:Int) (n:ByteArray) (sp:Sp) (l:List ae):Ej g (.mk k o v w n sp l)=.mk k o v w (g k n) sp (l.map (Ej g)):=by rw [Ej,Em]
mutual
def Gj (g h:nS):aa→aa
 | .mk k n es ex b ts th os el=>.mk k (h k n) es (ex.map (Ej g)) b ts (Fp g h th) os (Fp g h el)
def Fp (g h:nS):List aa→List aa
 | []=>[]
 | s::l=>Gj g h s::Fp g h l
end
theorem zC (g h:nS):∀l:List aa,Fp g h l=l.map (Gj g h)
 | []=>by rw [Fp];rfl
 | e::l=>by rw [Fp,zC g h l];rfl
theorem Dx (g h:nS) (k b:Int) (n:ByteArray) (es ts os:Sp) (ex:List ae) (th el:List aa):Gj g h (.mk k n es ex b ts th os el)=.mk k (h k n) es (ex.map (Ej g)) b ts (th.map (Gj g h)) os (el.map (Gj g h)):=by rw [Gj,zC,zC]
def Hw:nS:=fun _ n=>n
theorem Hy (e:ae):Ej Hw e=e:=by
 induction e using ae.ind with
 | h k o v w n sp l ih =>
  rw [Dy,cu (g:=id) ih,List.map_id]
  rfl
theorem KF (s:aa):Gj Hw Hw s=s:=by
 induction s using aa.ind with
 | h k n es ex b ts th os el i1 i2 =>
  rw [Dx,cu (g:=id) i1,cu (g:=id) i2,cu (f:=Ej Hw) (g:=id) fun e _=>Hy e,List.map_id,List.map_id,List.map_id]
  rfl
def Co (g:nS) (e e':ae):Prop:=av e'=av (Ej g e)
def Ko (g h:nS) (s s':aa):Prop:=ah s'=ah (Gj g h s)
theorem zb {α β γ:Type} (f:β→γ) (f2:α→γ) {l:List α} {l':List β} (len:l'.length=l.length) (h:∀i (h1:i<l.length) (h2:i<l'.length),f l'[i]=f2 l[i]):l'.map f=l.map f2:=by
 refine List.ext_getElem (by simpa using len) fun i h1 h2=>?_
 rw [List.getElem_map,List.getElem_map];exact h i (by simpa using h2) (by simpa using h1)
theorem Co.mk {g:nS} {k o v w:Int} {nm:ByteArray} {sp sp':Sp} {l l':List ae} (len:l'.length=l.length) (subs:∀i (h:i<l.length) (h':i<l'.length),Co g l[i] l'[i]):Co g (.mk k o v w nm sp l) (.mk k o v w (g k nm) sp' l'):=by
 unfold Co;rw [Dy,dA,dA,List.map_map,zb av (av ∘ Ej g) len subs]
def Cq (g:nS) (l l':List ae):Prop:=l'.map av=l.map fun e=>av (Ej g e)
def oC (g h:nS) (l l':List aa):Prop:=l'.map ah=l.map fun s=>ah (Gj g h s)
theorem Cq.of {g:nS} {l l':List ae} (len:l'.length=l.length) (subs:∀i (h:i<l.length) (h':i<l'.length),Co g l[i] l'[i]):Cq g l l':=zb av (fun e=>av (Ej g e)) len subs
theorem oC.of {g h:nS} {l l':List aa} (len:l'.length=l.length) (subs:∀i (h1:i<l.length) (h':i<l'.length),Ko g h l[i] l'[i]):oC g h l l':=zb ah (fun e=>ah (Gj g h e)) len subs
theorem Cq.len {g:nS} {l l':List ae} (h:Cq g l l'):l'.length=l.length:=by have:=congrArg List.length h;simpa using this
theorem oC.len {g h:nS} {l l':List aa} (hh:oC g h l l'):l'.length=l.length:=by have:=congrArg List.length hh;simpa using this
theorem Ko.mk {g h:nS} {k b:Int} {nm:ByteArray} {es es' ts ts' os os':Sp} {ex ex':List ae} {th th' el el':List aa} (exs:Cq g ex ex') (hth:oC g h th th') (hel:oC g h el el') :
  Ko g h (.mk k nm es ex b ts th os el) (.mk k (h k nm) es' ex' b ts' th' os' el'):=by
 unfold Ko;unfold Cq at exs;unfold oC at hth hel;rw [Dx,bC,bC,List.map_map,List.map_map,List.map_map,exs,hth,hel]
 rfl
theorem Co.same {e e':ae} (h:Co Hw e e'):av e'=av e:=by unfold Co at h;rwa [Hy] at h
theorem oC.same {l l':List aa} (h:oC Hw Hw l l'):l'.map ah=l.map ah:=by
 unfold oC at h;rw [h];exact List.map_congr_left fun s _=>by rw [KF]
def Md (f t:ByteArray):nS:=fun k n=>if k=2∨k=3 then (if n=f then t else n) else n
def Mc (f t:ByteArray):nS:=fun k n=>if k=1∨k=2 then (if n=f then t else n) else n
def tX (τ:ByteArray→ByteArray):nS:=fun k n=>if k=2∨k=3 then τ n else n
def tT (τ:ByteArray→ByteArray):nS:=fun k n=>if k=1∨k=2 then τ n else n
end
section
open Go Go.RowKit Go.Maps
structure Gl (γ:nS) (w W:World) (e:ae) (sa:Option Addr) (sc lo k:Nat) (cur:List ae):Prop where
 low:Below w.heap.size w W
 hlo:w.heap.size+2≤lo
 loW:lo≤W.heap.size
 at_:∀a,sa=some a→a.block<lo
 box:W.heap[w.heap.size]? = some (.cells #[.int .u8 e.kind,.int .u8 e.op,.int .u32 e.value,.int .i64 e.width,.string (γ e.kind e.name),.slice sa e.subs.length sc] 30 (0,0))
 res:W.heap[w.heap.size+1]? = some (.cells #[.int .u8 0,.int .u8 0,.int .u32 0,.int .i64 0,.string ⟨#[]⟩,.slice none 0 0] 30 (0,0))
 own:aI (w.heap.size+2) W 30 6 ae.cells (.slice sa e.subs.length sc) cur
 len:cur.length=e.subs.length
 done:∀i (h:i<e.subs.length) (h':i<cur.length),i<k→Co γ e.subs[i] cur[i]∧gM lo W cur[i]
 todo:∀i (h:i<e.subs.length) (h':i<cur.length),k≤i→cur[i]=e.subs[i]
section
variable {γ:nS} {w W W':World} {e:ae} {sa:Option Addr} {sc lo k:Nat} {cur:List ae}
theorem gM.lowerC {lo:Nat} {e:ae} (h:gM lo W e) (hb:Below W.heap.size W W'):gM lo W' e :=
 (iw.cells h fun _ _ hp hc=>az.2 ⟨(az.1 hc).1,(hb.cell hp).trans (az.1 hc).2⟩).more hb.size
theorem Gl.on (h:Gl γ w W e sa sc lo k cur) (hb:Below W.heap.size W W'):Gl γ w W' e sa sc lo k cur :=
 ⟨h.low.trans (hb.mono h.low.size),h.hlo,Nat.le_trans h.loW hb.size,h.at_,(hb.block _ (zgs h.box).1).trans h.box,(hb.block _ (zgs h.res).1).trans h.res,h.own.on hb,h.len,fun i h1 h2 h3=>⟨(h.done i h1 h2 h3).1,(h.done i h1 h2 h3).2.lowerC hb⟩,h.todo⟩
def six (W:World) (g o:Nat) (v0 v1 v2 v3 v4 v5:Value):World:=(((((W.setCell ⟨g,o,none⟩ v0).setCell ⟨g,o+1,none⟩ v1).setCell ⟨g,o+2,none⟩ v2).setCell ⟨g,o+3,none⟩ v3).setCell ⟨g,o+4,none⟩ v4).setCell ⟨g,o+5,none⟩ v5
theorem jm (W:World) (g o:Nat) (v0 v1 v2 v3 v4 v5:Value):(six W g o v0 v1 v2 v3 v4 v5).heap.size=W.heap.size:=by simp [six]
theorem iM (W:World) (g o:Nat) (v0 v1 v2 v3 v4 v5:Value) {b:Nat} (h:b≠g):(six W g o v0 v1 v2 v3 v4 v5).heap[b]? = W.heap[b]? := by
 unfold six;rw [Below.heap_setCell _ _ _ _ h,Below.heap_setCell _ _ _ _ h,Below.heap_setCell _ _ _ _ h,Below.heap_setCell _ _ _ _ h,Below.heap_setCell _ _ _ _ h,Below.heap_setCell _ _ _ _ h]
theorem nH {W:World} {g:Nat} {ty:TypeId} {a0 a1 a2 a3 a4 a5:Value} (h:W.heap[g]? = some (.cells #[a0,a1,a2,a3,a4,a5] ty (0,0))) (v0 v1 v2 v3 v4 v5:Value):(six W g 0 v0 v1 v2 v3 v4 v5).heap[g]? = some (.cells #[v0,v1,v2,v3,v4,v5] ty (0,0)):=by
 simp [six,World.setCell,Array.getElem?_modify,h]
theorem je {B:Nat} {w W:World} (h:Below B w W) {g:Nat} (hg:B≤g) (o:Nat) (v0 v1 v2 v3 v4 v5:Value):Below B w (six W g o v0 v1 v2 v3 v4 v5) :=
 (((((h.setCell (p:=⟨g,o,none⟩) hg _).setCell (p:=⟨g,o+1,none⟩) hg _).setCell (p:=⟨g,o+2,none⟩) hg _).setCell (p:=⟨g,o+3,none⟩) hg _).setCell (p:=⟨g,o+4,none⟩) hg _).setCell (p:=⟨g,o+5,none⟩) hg _
theorem qD {lo g:Nat} {e:ae} (h:gM lo W e) (hg:g<lo) (o:Nat) (v0 v1 v2 v3 v4 v5:Value):gM lo (six W g o v0 v1 v2 v3 v4 v5) e:=by
 unfold gM;rw [jm];refine iw.cells h fun p u _ hc=>?_
 obtain ⟨h1,h2⟩:=az.1 hc;exact az.2 ⟨h1,(World.cell?_of_block (iM W g o v0 v1 v2 v3 v4 v5 (by omega))).trans h2⟩
theorem Gl.put {g:Nat} (h:Gl γ w W e (some ⟨g,0,none⟩) sc lo k cur) (hk:k<e.subs.length) {x:ae} (hr:Co γ e.subs[k] x) (hx:gM lo W x) (hg:w.heap.size+2≤g) :
  Gl γ w (six W g (k*6) (.int .u8 x.kind) (.int .u8 x.op) (.int .u32 x.value) (.int .i64 x.width) (.string x.name) (.slice x.sp.at_ x.subs.length x.sp.cap)) e (some ⟨g,0,none⟩) sc lo (k+1) (cur.set k x):=by
 have hgl:=h.at_ _ rfl;refine ⟨je h.low (by omega) _ _ _ _ _ _ _,h.hlo,by rw [jm];exact h.loW,h.at_,(iM _ _ _ _ _ _ _ _ _ (by omega)).trans h.box,(iM _ _ _ _ _ _ _ _ _ (by omega)).trans h.res,h.own.put6 (fun _=>rfl) (by rw [h.len];exact hk) rfl,by rw [List.length_set];exact h.len,fun i h1 h2 h3=>?_,fun i h1 h2 h3=>?_⟩
 ·by_cases hi:i=k
  ·subst hi
   rw [List.getElem_set_self];exact ⟨hr,qD hx hgl _ _ _ _ _ _ _⟩
  ·rw [List.getElem_set_ne (Ne.symm hi)]
   have:=h.done i h1 (by rw [h.len];exact h1) (by omega);exact ⟨this.1,qD this.2 hgl _ _ _ _ _ _ _⟩
 ·rw [List.getElem_set_ne (by omega)]
  exact h.todo i h1 (by rw [h.len];exact h1) (by omega)
def Lp (γ:nS) (e:ae) (sa:Option Addr) (sc:Nat) (cur:List ae):ae:=.mk e.kind e.op e.value e.width (γ e.kind e.name) ⟨sa,sc⟩ cur
theorem aI.low {α:Type} {enc:α→List Value} {B B2 kk n c:Nat} {W:World} {ty:TypeId} {A:Option Addr} {l:List α} (h:aI B W ty kk enc (.slice A n c) l) (hk:∀x,(enc x).length=kk) (hl:l.length≤4398046511104) (hB:B2≤B):RowOf W.heap.size (dK B2 W) ⟨A,c⟩ kk enc l:=by
 obtain ⟨sp,e,hr,ha⟩:=h.row hk hl;obtain ⟨A2,c2⟩:=sp;have e2:=Value.slice.inj e;obtain ⟨rfl,_,rfl⟩:=e2;cases A with
 | none=>exact ⟨hr.cap,hr.big,hr.few,fun h0=>by obtain ⟨b,off,e,_⟩:=hr.row h0;cases e⟩
 | some a =>
  obtain ⟨h1,h2,h3⟩:=ha a rfl;obtain ⟨b,off,sp⟩:=a
  dsimp only at h1 h2 h3
  subst h2;subst h3;exact hr.low (by omega)
theorem Gl.fin (h:Gl γ w W e sa sc lo e.subs.length cur) (hrd:iw w.heap.size w e) (hγ:∀k s,s.size≤maxLen→(γ k s).size≤maxLen) :
  Co γ e (Lp γ e sa sc cur)∧gM w.heap.size (six W (w.heap.size+1) 0 (.int .u8 e.kind) (.int .u8 e.op) (.int .u32 e.value) (.int .i64 e.width) (.string (γ e.kind e.name)) (.slice sa e.subs.length sc)) (Lp γ e sa sc cur) ∧
  Below w.heap.size w (six W (w.heap.size+1) 0 (.int .u8 e.kind) (.int .u8 e.op) (.int .u32 e.value) (.int .i64 e.width) (.string (γ e.kind e.name)) (.slice sa e.subs.length sc)):=by
 have hn:∀s∈cur,iw W.heap.size (dK lo W) s:=fun s hs=>by
  obtain ⟨i,hi,rfl⟩:=List.getElem_of_mem hs;have hi2:i<e.subs.length:=by rw [←h.len];exact hi
  exact (h.done i hi2 hi hi2).2
 refine ⟨?_,?_,je h.low (by omega) _ _ _ _ _ _ _⟩
 ·obtain ⟨k0,o0,v0,w0,nm0,sp0,l0⟩:=e
  exact Co.mk h.len fun i h1 h2=>(h.done i h1 h2 h1).1
 ·have hrow:=h.own
  have hlo:=h.hlo;unfold gM;rw [jm];obtain ⟨k0,o0,v0,w0,n0⟩:=(match hrd with | .mk _ a b c d e _ _=>⟨a,b,c,d,e⟩:_∧_∧_∧_∧_);have hfew:cur.length≤4398046511104:=by rw [h.len];exact hrd.row.few
  have hcells:∀(lo':Nat),w.heap.size+2≤lo'→∀p u,p.block<W.heap.size→(dK lo' W).cell? p=some u→(dK w.heap.size (six W (w.heap.size+1) 0 (.int .u8 e.kind) (.int .u8 e.op) (.int .u32 e.value) (.int .i64 e.width) (.string (γ e.kind e.name)) (.slice sa e.subs.length sc))).cell? p=some u:=fun lo' hlo' p u _ hc=>by
   obtain ⟨h1,h2⟩:=az.1 hc;exact az.2 ⟨by omega,(World.cell?_of_block (iM _ _ _ _ _ _ _ _ _ (by omega))).trans h2⟩
  refine .mk _ k0 o0 v0 w0 ?_ ((h.own.low (B2:=w.heap.size+2) (fun _=>rfl) hfew (Nat.le_refl _)).cells (hcells _ (Nat.le_refl _))) fun s hs=>(hn s hs).cells (hcells _ hlo)
  show (γ e.kind e.name).size≤maxLen;exact hγ _ _ n0
end
end
end Go.Proofs.YtepacjkacjabbaaGreatDoor
