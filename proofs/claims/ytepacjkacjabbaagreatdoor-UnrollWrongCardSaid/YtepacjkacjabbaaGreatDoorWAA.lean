import Derived.RangeFuncRecord
import Derived.Lib.Hide
import Derived.RegionTactic
import Derived.Below
import Derived.Laws.Rows
namespace Go.Proofs.YtepacjkacjabbaaGreatDoor
section
open Go Go.RowKit
theorem zhd {p : Prop} (h : p) : Hid p := Lib.hid h
theorem zgs {α : Type} {xs : Array α} {i : Nat} {a : α} (h : xs[i]? = some a) : ∃ h : i < xs.size, xs[i] = a := Array.getElem?_eq_some_iff.1 h
theorem zba (w : World) (o : Obj) : Below w.heap.size w (w.alloc o) := (Below.refl _ _).alloc (Nat.le_refl _) _
theorem zan (w : World) (o : Obj) : (w.alloc o).heap[w.heap.size]? = some o := World.alloc_heap_new w o
end
section
open Go
section
variable {P:Program} {md:Region.Mode} {ops:Array Oper} {Q:Exit→Act→World→Prop}
def uU (ops:Array Oper) (listed:Array Bool):List Nat:=(List.range ops.size).filter fun i=>!listed.getD i true
theorem Hl {listed:Array Bool} {i:Nat} (h:i∈uU ops listed):(uU ops (listed.setIfInBounds i true)).length<(uU ops listed).length:=by
 have e:uU ops (listed.setIfInBounds i true)=(uU ops listed).filter fun j=>decide (j≠i):=by
  unfold uU;rw [List.filter_filter];refine List.filter_congr fun j _=>?_
  by_cases hj:j=i
  ·subst hj
   have hlt:j<listed.size:=by
    have h2:=(List.mem_filter.1 h).2;rcases Nat.lt_or_ge j listed.size with h3 | h3
    ·exact h3
    ·simp [Array.getD,Nat.not_lt.2 h3] at h2
   simp [Array.getD,hlt]
  ·have:(listed.setIfInBounds i true).getD j true=listed.getD j true:=by
    rw [Array.getD_eq_getD_getElem?,Array.getD_eq_getD_getElem?,Array.getElem?_setIfInBounds_ne (Ne.symm hj)]
   rw [this];simp [hj]
 rw [e];exact List.length_filter_lt_length_iff_exists.2 ⟨i,h,by simp⟩
theorem wW {listed:Array Bool} {i:Nat} (h:i∈Region.ready md ops listed):i∈uU ops listed:=by
 unfold Region.ready at h;obtain ⟨h1,h2⟩:=List.mem_filter.1 h;rw [Bool.and_eq_true] at h2;exact List.mem_filter.2 ⟨h1,h2.1⟩
theorem zt (I:Array Bool→Act→World→Prop) (hstep:∀listed a w i,I listed a w→i∈Region.ready md ops listed→wpOp P ops Q i (I (listed.setIfInBounds i true)) a w)
  (hdone:∀listed a w,I listed a w→Region.ready md ops listed=[]→Q .normal a w) :
  ∀(fuel:Nat) (listed:Array Bool) (a:Act) (w:World),(uU ops listed).length≤fuel→I listed a w→wpAny P md ops Q fuel listed a w
 | 0,listed,a,w,hf,hI=>by
  have hr:Region.ready md ops listed=[]:=by
   refine List.eq_nil_iff_forall_not_mem.2 fun i hi=>?_
   have h1:=wW hi;have h2:=List.eq_nil_of_length_eq_zero (Nat.le_zero.1 hf);rw [h2] at h1;cases h1
  exact ⟨hr,hdone _ _ _ hI hr⟩
 | fuel+1,listed,a,w,hf,hI=>⟨fun hr=>hdone _ _ _ hI hr,fun i hi=>wpOp_mono (fun a' w' h'=>zt I hstep hdone fuel _ a' w' (by have:=Hl (wW hi);omega) h') (hstep listed a w i hI hi)⟩
theorem qp {id:Nat} {a:Act} {w:World} (hm:P.follows .mixedOrders=true) (I:Array Bool→Act→World→Prop)
  (hstep:∀listed a w i,I listed a w→i∈Region.ready .any ops listed→wpOp P ops Q i (I (listed.setIfInBounds i true)) a w)
  (hdone:∀listed a w,I listed a w→Region.ready .any ops listed=[]→Q .normal a w) (h0:I (Array.replicate ops.size false) a w.drew):(Code.region id ops true).wp P Q a w:=by
 refine wp_region_any hm (zt I hstep hdone _ _ _ _ ?_ h0);refine Nat.le_trans (List.length_filter_le _ _) ?_;simp
theorem eval_put_same {a:Act} {d:Nat} {v:Value} (h:d<a.tmps.size):(a.put (some d) v).eval (.tmp d)=v:=by
 simp [Act.put,Act.eval,h]
theorem jK {a:Act} {d j:Nat} {v:Value} (h:d≠j):(a.put (some d) v).eval (.tmp j)=a.eval (.tmp j):=by
 simp [Act.put,Act.eval,Array.getElem?_setIfInBounds_ne h]
theorem size_put {a:Act} {d:Option Nat} {v:Value}:(a.put d v).tmps.size=a.tmps.size:=by
 cases d <;> simp [Act.put]
end
end
section
open Go Go.RowKit
section
variable {P:Program} {ops:Array Oper} {Q:Exit→Act→World→Prop}
def lU (L:Nat→Bool) (i:Nat):Nat→Bool:=fun j=>if j=i then true else L j
theorem bA {L:Nat→Bool} {i:Nat}:lU L i i=true:=by simp [lU]
theorem az {L:Nat→Bool} {i j:Nat} (h:j≠i):lU L i j=L j:=by simp [lU,h]
def kR (listed:Array Bool):Nat→Bool:=fun j=>listed.getD j false
theorem Fu {listed:Array Bool} {i:Nat} (h:i<listed.size):kR (listed.setIfInBounds i true)=lU (kR listed) i:=by
 funext j
 unfold kR lU;by_cases hj:j=i
 ·subst hj;simp [h]
 ·rw [if_neg hj,getD_set_ne false (Ne.symm hj)]
theorem yQ {listed:Array Bool} (hls:listed.size=ops.size) (hback:∀(i:Nat) (o:Oper),ops[i]? = some o→∀e∈o.after,Region.binds .any e=true→e.on<i) (hr:Region.ready .any ops listed=[]):∀i,i<ops.size→kR listed i=true:=by
 intro i;induction i using Nat.strongRecOn with
 | _ i ih =>
  intro hi;cases hc:kR listed i with
  | true=>rfl
  | false =>
   exfalso
   have h0:listed.getD i true=false:=by
    unfold kR at hc;rw [←hls] at hi;simp [Array.getD,hi] at hc ⊢;exact hc
   have hm:i∈Region.ready .any ops listed:=by
    rw [mem_ready];exact ⟨h0,ops[i],Array.getElem?_eq_getElem hi,fun e he hb=>ih e.on (hback i _ (Array.getElem?_eq_getElem hi) e he hb) (Nat.lt_trans (hback i _ (Array.getElem?_eq_getElem hi) e he hb) hi)⟩
   rw [hr] at hm;cases hm
def l9 (F:Nat→Oper→Prop):Nat→List Oper→Prop
 | _,[]=>True
 | i,o::l=>F i o∧l9 F (i+1) l
theorem l9.at_ {F:Nat→Oper→Prop}:∀{l:List Oper} {k:Nat},l9 F k l→∀{i:Nat} {o:Oper},l[i]? = some o→F (k+i) o
 | [],_,_,i,o,h=>by simp at h
 | x::l,k,hA,0,o,h=>by
  simp at h;subst h;exact hA.1
 | x::l,k,hA,i+1,o,h=>by
  have:=l9.at_ hA.2 (i:=i) (o:=o) (by simpa using h)
  rwa [show k+1+i=k+(i+1) by omega] at this
theorem l9.all {F:Nat→Oper→Prop} {ops:Array Oper} (h:l9 F 0 ops.toList) (i:Nat) (o:Oper) (ho:ops[i]? = some o):F i o:=by
 have:=l9.at_ h (i:=i) (o:=o) (by simpa using ho)
 rwa [Nat.zero_add] at this
def nO (o:Oper) (j:Nat):Bool:=o.after.toList.any fun e=>Region.binds .any e && Nat.beq e.on j
theorem l9.cons {F:Nat→Oper→Prop} {i:Nat} {o:Oper} {l:List Oper} (h:F i o) (t:l9 F (i+1) l):l9 F i (o::l):=⟨h,t⟩
theorem Oper.wp_value {o:Oper} {a:Act} {w w':World} {v:Value} {K:Act→World→Prop} (h:(execOp a.eval o).run P w=.ok (.value v) w') (hk:K (a.put o.dst v) w'):o.wp P a w K Q:=by
 unfold Oper.wp;rw [h];exact hk
theorem Oper.wp_enter {o:Oper} {a:Act} {w w':World} {f:FuncId} {args:Array Value} {K:Act→World→Prop} (h:(execOp a.eval o).run P w=.ok (.enter f args) w') (hc:Calls P f args w' fun e w''=>∃v,e=.returned v∧K (a.put o.dst v) w''):o.wp P a w K Q:=by
 unfold Oper.wp;rw [h];refine Calls.mono hc fun e w'' he=>?_
 obtain ⟨v,rfl,hk⟩:=he;exact hk
def opsOf (n:Nat):Code→Option (Array Oper)
 | .region id ops _=>if id=n then some ops else none
 | .seq a b=>match opsOf n a with
  | some c=>some c
  | none=>opsOf n b
 | .loop c=>opsOf n c
 | .block _ c=>opsOf n c
 | .scope c=>opsOf n c
 | .cond _ a b=>match opsOf n a with
  | some c=>some c
  | none=>opsOf n b
 | _=>none
theorem ak {a:Act} {n:Nat} {v:Value} (h:a.eval (.tmp n)=v):a.tmps[n]?.getD undef=v:=by
 rw [←h];simp [Act.eval]
theorem qD {a:Act} {n:Nat} (h:a.tmps.size=n) (hd:a.defers=[]):a=⟨((List.range n).map fun t=>a.eval (.tmp t)).toArray,[]⟩:=by
 obtain ⟨ts,ds⟩:=a;subst hd;subst h
 congr 1
 apply Array.ext
 ·simp
 ·intro i h1 h2
  simp [Act.eval,h1]
end
end
section
open Go Go.RowKit
section
variable {P:Program} {ops:Array Oper} {Q:Exit→Act→World→Prop}
def iC (a:Act):Option Nat→Value
 | some t=>a.eval (.tmp t)
 | none=>undef
def zw:Option Nat→Option Nat→Bool
 | some x,some y=>Nat.beq x y
 | none,none=>true
 | _,_=>false
theorem BG {x y:Option Nat} (h:zw x y=true):x=y:=by
 cases x <;> cases y <;> simp_all [zw]
def nR (ops:Array Oper) (n sz:Nat) (dst:Nat→Option Nat):Bool :=
 decide (ops.size=n) && (List.range n).all (fun i=>match ops[i]? with
  | some o=>(match o.guard with | some (g,_)=>decide (g<i) && nO o g | none=>true) && zw o.dst (dst i) && (match dst i with | some d=>decide (d<sz) | none=>true) && (o.after.toList.all fun e=>!Region.binds .any e || decide (e.on<i)) && (List.range n).all (fun j=>j == i || (dst i).isNone || !(zw (dst i) (dst j)))
  | none=>false)
def sI (dst:Nat→Option Nat) (S:(Nat→Bool)→World→Prop) (Pv:(Nat→Bool)→Nat→Value→World→Prop) (i:Nat) (L:Nat→Bool) (a:Act) (w:World) (a':Act) (w':World):Prop :=
 ∃v,a'=a.put (dst i) v∧(dst i=none→v=undef)∧Pv (lU L i) i v w'∧S (lU L i) w'∧∀j u,j≠i→L j=true→Pv L j u w→Pv (lU L i) j u w'
def MF (P:Program) (Q:Exit→Act→World→Prop) (ops:Array Oper) (n:Nat) (dst:Nat→Option Nat) (S:(Nat→Bool)→World→Prop) (Pv:(Nat→Bool)→Nat→Value→World→Prop) (a0:Act) (i:Nat) (o:Oper):Prop :=
 ∀(L:Nat→Bool) (a:Act) (w:World),L i=false→S L w→(∀j,(ops[j]?.any fun o'=>nO o' i)=true→L j=false)→(∀t:Nat,(∀i,i<n→dst i≠some t)→a.eval (.tmp t)=a0.eval (.tmp t))→(∀j,nO o j=true→L j=true∧Pv L j (iC a (dst j)) w) →
  match o.guard with
  | none=>o.wp P a w (sI dst S Pv i L a w) Q
  | some (g,b)=>∃b',iC a (dst g)=.bool b'∧(b'=b→o.wp P a w (sI dst S Pv i L a w) Q)∧(b'≠b→sI dst S Pv i L a w (a.put (dst i) undef) w)
theorem BR {a:Act} {d:Nat} {b:Bool} (h:a.eval (.tmp d)=.bool b):a.tmps[d]? = some (.bool b):=by
 cases hc:a.tmps[d]? with
 | none=>simp [Act.eval,hc,undef] at h
 | some v=>simp [Act.eval,hc] at h;rw [h]
theorem vG {id n sz:Nat} {dst:Nat→Option Nat} {a0:Act} {w0:World} (hm:P.follows .mixedOrders=true) (hB:nR ops n sz dst=true) (ha:a0.tmps.size=sz)
  (S:(Nat→Bool)→World→Prop) (Pv:(Nat→Bool)→Nat→Value→World→Prop)
  (hall:l9 (fun i o=>MF P Q ops n dst S Pv a0 i o) 0 ops.toList)
  (hs:S (fun _=>false) w0.drew)
  (hdone:∀(L:Nat→Bool) (a:Act) (w:World),S L w→a.tmps.size=a0.tmps.size→a.defers=a0.defers→(∀t:Nat,(∀i,i<n→dst i≠some t)→a.eval (.tmp t)=a0.eval (.tmp t))→(∀i,i<n→L i=true∧Pv L i (iC a (dst i)) w)→Q .normal a w):(Code.region id ops true).wp P Q a0 w0:=by
 unfold nR at hB;simp only [Bool.and_eq_true,List.all_eq_true,List.mem_range,decide_eq_true_eq] at hB;obtain ⟨hsz,hB⟩:=hB;have hop:∀i o,ops[i]? = some o→i<n∧(∀g b,o.guard=some (g,b)→g<i∧nO o g=true)∧o.dst=dst i∧(∀d,dst i=some d→d<sz)∧(∀e∈o.after,Region.binds .any e=true→e.on<i)∧∀j,j<n→dst i≠none→dst i=dst j→j=i:=by
  intro i o ho;have hi:i<n:=by rw [←hsz];exact (zgs ho).1
  have h1:=hB i hi;rw [ho] at h1;simp only [Bool.and_eq_true,List.all_eq_true,List.mem_range,Bool.or_eq_true,beq_iff_eq,Bool.not_eq_true',decide_eq_true_eq] at h1;obtain ⟨⟨⟨⟨h2,h3⟩,h3'⟩,h4⟩,h5⟩:=h1;refine ⟨hi,fun g b hg=>?_,BG h3,fun d hd=>?_,fun e he hb=>?_,fun j hj hne he=>?_⟩
  ·simp only [hg,Bool.and_eq_true,decide_eq_true_eq] at h2
   exact h2
  ·simpa [hd] using h3'
  ·have:=h4 e (by simpa using he)
   simpa [hb] using this
  ·rcases h5 j hj with (h | h) | h
   ·exact h
   ·exact absurd (by simpa using h) hne
   ·rw [←he] at h
    cases hd:dst i with
    | none=>exact absurd hd hne
    | some d=>rw [hd] at h;simp [zw] at h
 refine qp hm (fun listed a w=>listed.size=ops.size∧(∀(j:Nat) (o':Oper),ops[j]? = some o'→kR listed j=true→∀e∈o'.after,Region.binds .any e=true→kR listed e.on=true)∧S (kR listed) w∧a.tmps.size=a0.tmps.size∧a.defers=a0.defers∧(∀t:Nat,(∀i,i<n→dst i≠some t)→a.eval (.tmp t)=a0.eval (.tmp t))∧∀i,i<n→kR listed i=true→Pv (kR listed) i (iC a (dst i)) w) ?_ ?_ ⟨by simp,fun j o' _ h=>?_,?_,rfl,rfl,fun _ _=>rfl,fun i _ h=>?_⟩
 ·rintro listed a w i ⟨hls,hcl,hS,hsa,hde,hsm,hv⟩ hr
  obtain ⟨h0,o,ho,haft⟩:=mem_ready.1 hr;obtain ⟨hi,hg,hd,hlt,hbk,hinj⟩:=hop i o ho;have hi2:i<listed.size:=by rw [hls,hsz];exact hi
  have hfi:kR listed i=false:=by
   unfold kR;simp [Array.getD,hi2] at h0 ⊢;exact h0
  have hbeh:∀j,(ops[j]?.any fun o'=>nO o' i)=true→kR listed j=false:=fun j hj=>by
   cases hoj:ops[j]? with
   | none=>rw [hoj] at hj;cases hj
   | some oj =>
    rw [hoj] at hj;simp only [Option.any_some] at hj;unfold nO at hj;simp only [List.any_eq_true,Bool.and_eq_true] at hj;obtain ⟨e,he,hbb,hej⟩:=hj;obtain rfl:=Nat.eq_of_beq_eq_true hej;cases hlj:kR listed j with
    | false=>rfl
    | true =>
     have:=hcl j oj hoj hlj e (by simpa using he) hbb;rw [hfi] at this;cases this
  have hstep:=hall.all i o ho (kR listed) a w hfi hS hbeh hsm fun j hj=>by
   unfold nO at hj;simp only [List.any_eq_true,Bool.and_eq_true] at hj;obtain ⟨e,he,hbb,hej⟩:=hj;obtain rfl:=Nat.eq_of_beq_eq_true hej;have h2:=haft e (by simpa using he) hbb;exact ⟨h2,hv e.on (Nat.lt_trans (hbk e (by simpa using he) hbb) hi) h2⟩
  have hfin:∀a' w',sI dst S Pv i (kR listed) a w a' w'→(listed.setIfInBounds i true).size=ops.size∧(∀(j:Nat) (o':Oper),ops[j]? = some o'→kR (listed.setIfInBounds i true) j=true→∀e∈o'.after,Region.binds .any e=true→kR (listed.setIfInBounds i true) e.on=true)∧S (kR (listed.setIfInBounds i true)) w'∧a'.tmps.size=a0.tmps.size∧a'.defers=a0.defers∧(∀t:Nat,(∀i,i<n→dst i≠some t)→a'.eval (.tmp t)=a0.eval (.tmp t))∧∀j,j<n→kR (listed.setIfInBounds i true) j=true→Pv (kR (listed.setIfInBounds i true)) j (iC a' (dst j)) w':=by
   rintro a' w' ⟨v,rfl,hun,hp,hs',hk⟩;rw [Fu hi2] at *;refine ⟨by simpa using hls,fun j oj hoj hl e he hb=>?_,hs',by rw [size_put];exact hsa,by cases dst i <;> exact hde,fun t ht=>?_,fun j hj hl=>?_⟩
   ·by_cases hei:e.on=i
    ·rw [hei];exact bA
    ·rw [az hei]
     by_cases hji:j=i
     ·subst hji
      rw [ho] at hoj;cases hoj
      exact haft e he hb
     ·rw [az hji] at hl
      exact hcl j oj hoj hl e he hb
   ·rw [←hsm t ht]
    cases hdi:dst i with
    | none=>rfl
    | some d=>exact jK fun hne=>ht i hi (by rw [hdi,hne])
   ·by_cases hij:j=i
    ·subst hij
     cases hdi:dst j with
     | none=>rw [hdi] at hun;rw [hun rfl] at hp;exact hp
     | some d =>
      show Pv _ j ((a.put (some d) v).eval (.tmp d)) _;rw [eval_put_same (by rw [hsa,ha];exact hlt d hdi)];exact hp
    ·rw [az hij] at hl
     have h2:=hk j _ hij hl (hv j hj hl);cases hdj:dst j with
     | none=>rw [hdj] at h2;exact h2
     | some d =>
      rw [hdj] at h2;cases hdi:dst i with
      | none=>exact h2
      | some d2 =>
       show Pv _ j ((a.put (some d2) v).eval (.tmp d)) _;rw [jK (fun hne=>hij (hinj j hj (by rw [hdi];simp) (by rw [hdi,hdj,hne])))];exact h2
  unfold wpOp;simp only [ho];cases hgd:o.guard with
  | none =>
   rw [hgd] at hstep;rw [if_pos (by simp [Region.wanted,hgd])];exact .inl (Oper.wp_mono hfin hstep)
  | some gb =>
   obtain ⟨g,b⟩:=gb;rw [hgd] at hstep;obtain ⟨b',hev,hy,hn⟩:=hstep;have hgi:=(hg g b hgd).1;have hgo:g<ops.size:=by rw [hsz];omega
   have hgd2:=(hop g ops[g] (Array.getElem?_eq_getElem hgo)).2.2.1;have hyi:yielded ops a.tmps g=some b':=by
    unfold yielded;rw [Array.getElem?_eq_getElem hgo];cases hdg:dst g with
    | none=>rw [hdg] at hev;cases hev
    | some d =>
     rw [hdg] at hev;simp only [Option.bind_some,hgd2,hdg,BR (show a.eval (.tmp d)=.bool b' from hev)]
   by_cases hbb:b'=b
   ·rw [if_pos (by simp [Region.wanted,hgd,hyi,hbb])]
    exact .inl (Oper.wp_mono hfin (hy hbb))
   ·rw [if_neg (by simp [Region.wanted,hgd,hyi,hbb])]
    rw [hd];exact hfin _ _ (hn hbb)
 ·rintro listed a w ⟨hls,hcl,hS,hsa,hde,hsm,hv⟩ hr
  have hall2:=yQ hls (fun i o ho e he hb=>(hop i o ho).2.2.2.2.1 e he hb) hr;exact hdone (kR listed) a w hS hsa hde hsm fun i hi=>⟨hall2 i (by rw [hsz];exact hi),hv i hi (hall2 i (by rw [hsz];exact hi))⟩
 ·simp [kR,Array.getD] at h
 ·have:kR (Array.replicate ops.size false)=fun _=>false:=by funext j;simp [kR,Array.getD]
  rw [this];exact hs
 ·simp [kR,Array.getD] at h
theorem l9.of_list {F:Nat→Oper→Prop}:∀(l:List Oper) (k:Nat),(∀i o,l[i]? = some o→F (k+i) o)→l9 F k l
 | [],_,_=>trivial
 | x::l,k,h=>⟨h 0 x rfl,l9.of_list l (k+1) fun i o ho=>by
   have:=h (i+1) o (by simpa using ho)
   rwa [show k+(i+1)=k+1+i by omega] at this⟩
theorem l9.of {F:Nat→Oper→Prop} (h:∀i o,ops[i]? = some o→F i o):l9 F 0 ops.toList :=
 l9.of_list _ _ fun i o ho=>by
  rw [Nat.zero_add];exact h i o (by simpa using ho)
end
end
section
open Go Go.RowKit
abbrev PV:=(Nat→Bool)→Value→World→Prop
abbrev yH:=List (Nat × Option Nat × PV)
def ky:yH→Nat→Option Nat × PV
 | [],_=>(none,fun _ _ _=>True)
 | (i,d,p)::l,j=>match Nat.beq i j with
  | true=>(d,p)
  | false=>ky l j
theorem BO {i:Nat} {d:Option Nat} {p:PV} {l:yH}:ky ((i,d,p)::l) i=(d,p):=by
 unfold ky;rw [Nat.beq_refl]
theorem zQ {i j:Nat} {d:Option Nat} {p:PV} {l:yH} (h:i≠j):ky ((i,d,p)::l) j=ky l j:=by
 have:Nat.beq i j=false:=by
  cases hb:Nat.beq i j with
  | false=>rfl
  | true=>exact absurd (Nat.eq_of_beq_eq_true hb) h
 conv=>lhs;unfold ky
 rw [this]
def iX (c:Value):PV:=fun _ v _=>v=c
section
variable (P:Program) (Q:Exit→Act→World→Prop) (ops:Array Oper) (keep:Nat→Bool) (a0:Act) (S:(Nat→Bool)→World→Prop) (R:Nat→World→World→Prop)
def Lu (Ps:yH) (L:Nat→Bool) (a:Act) (w:World):List Edge→Prop
 | []=>True
 | e::l=>(Region.binds .any e=true→L e.on=true∧(ky Ps e.on).2 L (iC a (ky Ps e.on).1) w)∧Lu Ps L a w l
def mW (k:Nat) (d:Option Nat) (Pk:PV) (L:Nat→Bool) (a:Act) (w:World) (a':Act) (w':World):Prop :=
 ∃v,a'=a.put d v∧(d=none→v=undef)∧Pk (lU L k) v w'∧S (lU L k) w'∧R k w w'
structure mr (Ps:yH) (k:Nat) (o:Oper) (L:Nat→Bool) (a:Act) (w:World):Prop where
 new:L k=false
 world:S L w
 behind:∀j,(ops[j]?.any fun o'=>nO o' k)=true→L j=false
 same:∀t:Nat,keep t=true→a.tmps[t]?.getD undef=a0.tmps[t]?.getD undef
 aft:Lu Ps L a w o.after.toList
def Lb (Ps:yH) (k:Nat) (o:Oper) (Pk:PV):Prop:=∀(L:Nat→Bool) (a:Act) (w:World),mr ops keep a0 S Ps k o L a w →
  match o.guard with
  | none=>o.wp P a w (mW S R k o.dst Pk L a w) Q
  | some (g,b)=>∃b',iC a (ky Ps g).1=.bool b'∧(b'=b→o.wp P a w (mW S R k o.dst Pk L a w) Q)∧(b'≠b→mW S R k o.dst Pk L a w (a.put o.dst undef) w)
def Fv (k:Nat) (Pk:PV):Prop:=∀(i:Nat) (L:Nat→Bool) (v:Value) (w w':World),i≠k→R i w w'→Pk L v w→Pk (lU L i) v w'
def Mt (a:Act):Prop:=a.tmps.size=a0.tmps.size∧a.defers=a0.defers∧∀t:Nat,keep t=true→a.tmps[t]?.getD undef=a0.tmps[t]?.getD undef
structure Fz (Ps:yH) (L:Nat→Bool) (a:Act) (w:World):Prop where
 world:S L w
 same:Mt keep a0 a
 val:∀j,(ky Ps j).2 L (iC a (ky Ps j).1) w
def aj:Nat→yH→List Oper→Prop
 | k,Ps,[]=>∀(L:Nat→Bool) (a:Act) (w:World),(∀i,i<k→L i=true)→Fz keep a0 S Ps L a w→Q .normal a w
 | k,Ps,o::rest=>∃Pk,Fv R k Pk∧Lb P Q ops keep a0 S R Ps k o Pk∧aj (k+1) ((k,o.dst,Pk)::Ps) rest
end
def xD (ops:Array Oper) (i:Nat):Option Nat:=(ops[i]?).bind Oper.dst
def iW (ops:Array Oper) (n sz:Nat) (keep:Nat→Bool):Bool :=
 nR ops n sz (xD ops) && ops.toList.all (fun o=>match o.dst with | some d=>!keep d | none=>true)
section
variable {P:Program} {Q:Exit→Act→World→Prop} {ops:Array Oper} {keep:Nat→Bool} {a0:Act} {S:(Nat→Bool)→World→Prop} {R:Nat→World→World→Prop}
theorem vQ {Ex Ps:yH} {k j:Nat} (h:∀x,x∈Ex→k≤x.1) (hj:j<k):ky (Ex++Ps) j=ky Ps j:=by
 induction Ex with
 | nil=>rfl
 | cons x Ex ih =>
  obtain ⟨i,d,p⟩:=x;have h1:=h _ (List.mem_cons_self ..);show ky ((i,d,p)::(Ex++Ps)) j=_;rw [zQ (by have:k≤i:=h1;omega)];exact ih fun y hy=>h y (List.mem_cons_of_mem _ hy)
theorem q8 {l:yH} {j:Nat} (h:∀x,x∈l→x.1≠j):ky l j=(none,fun _ _ _=>True):=by
 induction l with
 | nil=>rfl
 | cons y l ih =>
  obtain ⟨i',d',p'⟩:=y;rw [zQ (h _ (List.mem_cons_self ..))];exact ih fun x hx=>h x (List.mem_cons_of_mem _ hx)
theorem aj.all:∀(rest:List Oper) (k:Nat) (Ps:yH),aj P Q ops keep a0 S R k Ps rest →
  ∃Ex:yH,(∀x,x∈Ex→k≤x.1∧x.1<k+rest.length∧ky (Ex++Ps) x.1=x.2)∧(∀(L:Nat→Bool) (a:Act) (w:World),(∀i,i<k+rest.length→L i=true)→Fz keep a0 S (Ex++Ps) L a w→Q .normal a w) ∧
   ∀(i:Nat) (o:Oper),rest[i]? = some o→∃(Pk:PV) (Pi:yH),ky (Ex++Ps) (k+i)=(o.dst,Pk)∧Fv R (k+i) Pk∧Lb P Q ops keep a0 S R Pi (k+i) o Pk∧∀j,j<k+i→ky Pi j=ky (Ex++Ps) j
 | [],k,Ps,h=>⟨[],by simp,h,by simp⟩
 | o::rest,k,Ps,h=>by
  obtain ⟨Pk,h1,h2,h3⟩:=h;obtain ⟨Ex,g1,g2,g3⟩:=aj.all rest (k+1) _ h3;have e:Ex++(k,o.dst,Pk)::Ps=(Ex++[(k,o.dst,Pk)])++Ps:=by simp
  have hk:ky (Ex++(k,o.dst,Pk)::Ps) k=(o.dst,Pk):=by
   rw [vQ (k:=k+1) (fun x hx=>(g1 x hx).1) (Nat.lt_succ_self k)];exact BO
  rw [e] at g1 g2 g3 hk;have e2:k+1+rest.length=k+(o::rest).length:=by simp;omega
  rw [e2] at g2;refine ⟨Ex++[(k,o.dst,Pk)],fun x hx=>?_,g2,fun i o' ho=>?_⟩
  ·rcases List.mem_append.1 hx with hx | hx
   ·have:=g1 x hx
    simp only [List.length_cons];exact ⟨by omega,by omega,this.2.2⟩
   ·obtain rfl:=List.mem_singleton.1 hx
    simp only [List.length_cons];exact ⟨Nat.le_refl _,by omega,hk⟩
  ·match i with
   | 0 =>
    simp only [List.getElem?_cons_zero,Option.some.injEq] at ho;subst ho;refine ⟨Pk,Ps,hk,h1,h2,fun j hj=>?_⟩;refine (vQ (k:=k) (fun x hx=>?_) hj).symm;rcases List.mem_append.1 hx with hx | hx
    ·have:=(g1 x hx).1;omega
    ·obtain rfl:=List.mem_singleton.1 hx;exact Nat.le_refl _
   | i+1 =>
    obtain ⟨Pk',Pi,t1,t2,t3,t4⟩:=g3 i o' (by simpa using ho);rw [show k+1+i=k+(i+1) by omega] at t1 t2 t3 t4;exact ⟨Pk',Pi,t1,t2,t3,t4⟩
theorem Ae {Ps Pi:yH} {L:Nat→Bool} {a:Act} {w:World} {k:Nat} (hj:∀j,j<k→ky Pi j=ky Ps j):∀(l:List Edge),(∀e,e∈l→Region.binds .any e=true→e.on<k∧L e.on=true∧(ky Ps e.on).2 L (iC a (ky Ps e.on).1) w)→Lu Pi L a w l
 | [],_=>trivial
 | e::l,h=>⟨fun hb=>by
   obtain ⟨h1,h2,h3⟩:=h e (List.mem_cons_self ..) hb;rw [hj _ h1];exact ⟨h2,h3⟩,Ae hj l fun e he=>h e (List.mem_cons_of_mem _ he)⟩
theorem dh {id n sz:Nat} {w0:World} (hm:P.follows .mixedOrders=true) (hB:iW ops n sz keep=true) (ha:a0.tmps.size=sz)
  (S:(Nat→Bool)→World→Prop) (R:Nat→World→World→Prop) (hs:S (fun _=>false) w0.drew) (h:aj P Q ops keep a0 S R 0 [] ops.toList):(Code.region id ops true).wp P Q a0 w0:=by
 unfold iW at hB;rw [Bool.and_eq_true,List.all_eq_true] at hB;obtain ⟨hB,hkp⟩:=hB;obtain ⟨Ex,h1,h2,h3⟩:=aj.all _ _ _ h;rw [List.append_nil] at h1 h2 h3;simp only [Nat.zero_add] at h1 h2 h3;have hdst:∀i o,ops[i]? = some o→xD ops i=o.dst:=fun i o ho=>by unfold xD;rw [ho];rfl
 have hn:ops.size=n:=by unfold nR at hB;rw [Bool.and_eq_true] at hB;simpa using hB.1
 have hlk:∀i o,ops[i]? = some o→(ky Ex i).1=o.dst:=fun i o ho=>by
  obtain ⟨Pk,Pi,t1,_⟩:=h3 i o (by simpa using ho);rw [t1]
 refine vG hm hB ha S (fun L i v w=>(ky Ex i).2 L v w) ?_ hs ?_
 ·refine l9.of fun i o ho=>?_
  intro L a w hL hS hbeh hsm haft;obtain ⟨Pk,Pi,t1,t2,t3,t4⟩:=h3 i o (by simpa using ho);have hdi:=hdst i o ho;have hnow:mr ops keep a0 S Pi i o L a w:=⟨hL,hS,hbeh,fun t ht=>by
    have:=hsm t fun j hj he=>by
     have hj2:j<ops.size:=by rw [hn];exact hj
     have hd:=hdst j ops[j] (Array.getElem?_eq_getElem hj2);rw [hd] at he;have:=hkp ops[j] (by simp);rw [he] at this;simp only [ht] at this;cases this
    simpa [Act.eval] using this,Ae t4 _ fun e he hb=>?_⟩
  ·have hstep:=t3 L a w hnow
   have hl:∀a' w',mW S R i o.dst Pk L a w a' w'→sI (xD ops) S (fun L i v w=>(ky Ex i).2 L v w) i L a w a' w':=by
    rintro a' w' ⟨v,e1,e2,e3,e4,e5⟩;rw [←hdi] at e1 e2;refine ⟨v,e1,e2,by show (ky Ex i).2 _ _ _;rw [t1];exact e3,e4,fun j u hji hj hu=>?_⟩;by_cases hjn:j<ops.size
    ·obtain ⟨Pj,_,u1,u2,_⟩:=h3 j ops[j] (by simp [hjn])
     show (ky Ex j).2 _ _ _
     replace hu:(ky Ex j).2 _ _ _:=hu
     rw [u1] at hu ⊢;exact u2 i L u w w' (Ne.symm hji) e5 hu
    ·have:(ky Ex j)=(none,fun _ _ _=>True):=q8 fun x hx e=>hjn (by have:=(h1 x hx).2.1;rw [e] at this;simpa using this)
     show (ky Ex j).2 _ _ _;rw [this]
     trivial
   cases hg:o.guard with
   | none =>
    rw [hg] at hstep;exact Oper.wp_mono hl hstep
   | some gb =>
    obtain ⟨g,b⟩:=gb;rw [hg] at hstep;obtain ⟨b',s1,s2,s3⟩:=hstep;have hgi:g<i:=by
     unfold nR at hB;simp only [Bool.and_eq_true,List.all_eq_true,List.mem_range] at hB;have hi:i<n:=by rw [←hn];exact (zgs ho).1
     have:=hB.2 i hi;rw [ho] at this;simp only [hg,Bool.and_eq_true,decide_eq_true_eq] at this;exact this.1.1.1.1.1
    have hgs:g<ops.size:=Nat.lt_trans hgi (zgs ho).1;refine ⟨b',?_,fun e=>Oper.wp_mono hl (s2 e),fun e=>?_⟩
    ·rw [t4 g hgi,hlk g ops[g] (Array.getElem?_eq_getElem hgs),←hdst g ops[g] (Array.getElem?_eq_getElem hgs)] at s1
     exact s1
    ·rw [hdi]
     exact hl _ _ (s3 e)
  ·have hbf:nO o e.on=true:=by
    unfold nO;rw [List.any_eq_true];exact ⟨e,he,by rw [hb,Bool.true_and];exact Nat.beq_refl _⟩
   obtain ⟨g1,g2⟩:=haft e.on hbf;have hlt:e.on<i:=by
    unfold nR at hB;simp only [Bool.and_eq_true,List.all_eq_true,List.mem_range] at hB;have hi:i<n:=by rw [←hn];exact (zgs ho).1
    have:=hB.2 i hi;rw [ho] at this;simp only [Bool.and_eq_true,List.all_eq_true] at this;have:=this.1.2 e (by simpa using he)
    simpa [hb] using this
   have hes:e.on<ops.size:=Nat.lt_trans hlt (zgs ho).1;refine ⟨hlt,g1,?_⟩;rw [hlk e.on ops[e.on] (Array.getElem?_eq_getElem hes),←hdst e.on ops[e.on] (Array.getElem?_eq_getElem hes)];exact g2
 ·intro L a w hS hsz hde hsm hv
  refine h2 L a w (fun i hi=>(hv i (by rw [←hn];simpa using hi)).1) ⟨hS,⟨hsz,hde,fun t ht=>?_⟩,fun j=>?_⟩
  ·have:=hsm t fun j hj he=>by
    have hj2:j<ops.size:=by rw [hn];exact hj
    have hd:=hdst j ops[j] (Array.getElem?_eq_getElem hj2);rw [hd] at he;have:=hkp ops[j] (by simp);rw [he] at this;simp only [ht] at this;cases this
   simpa [Act.eval] using this
  ·by_cases hj:j<n
   ·have hjs:j<ops.size:=by rw [hn];exact hj
    have:=(hv j hj).2;rw [hdst _ _ (Array.getElem?_eq_getElem hjs),←hlk _ _ (Array.getElem?_eq_getElem hjs)] at this;exact this
   ·have hx:∀x,x∈Ex→x.1≠j:=fun x hx e=>hj (by have:=(h1 x hx).2.1;rw [e] at this;rw [←hn];simpa using this)
    rw [q8 hx]
    trivial
section
variable {k:Nat} {Ps:yH} {o:Oper} {rest:List Oper}
theorem aj.exact {c:Value} {d:Nat} (hg:o.guard=none) (hd:o.dst=some d) (hS:∀L w,S L w→S (lU L k) w) (hR:∀w,R k w w)
  (h:∀(L:Nat→Bool) (a:Act) (w:World),mr ops keep a0 S Ps k o L a w→(execOp a.eval o).run P w=.ok (.value c) w)
  (t:aj P Q ops keep a0 S R (k+1) ((k,o.dst,iX c)::Ps) rest):aj P Q ops keep a0 S R k Ps (o::rest):=by
 refine ⟨iX c,fun _ _ _ _ _ _ _ h=>h,fun L a w hn=>?_,t⟩;rw [hg];exact Oper.wp_value (h L a w hn) ⟨c,rfl,fun e=>by rw [hd] at e;(cases e),rfl,hS L w hn.world,hR w⟩
theorem aj.any (Pk:PV) (hg:o.guard=none) (hst:Fv R k Pk)
  (h:∀(L:Nat→Bool) (a:Act) (w:World),mr ops keep a0 S Ps k o L a w→o.wp P a w (mW S R k o.dst Pk L a w) Q)
  (t:aj P Q ops keep a0 S R (k+1) ((k,o.dst,Pk)::Ps) rest):aj P Q ops keep a0 S R k Ps (o::rest):=by
 refine ⟨Pk,hst,fun L a w hn=>?_,t⟩;rw [hg];exact h L a w hn
theorem aj.guarded (Pk:PV) {g:Nat} {b:Bool} (hg:o.guard=some (g,b)) (hst:Fv R k Pk)
  (h:∀(L:Nat→Bool) (a:Act) (w:World),mr ops keep a0 S Ps k o L a w→∃b',iC a (ky Ps g).1=.bool b'∧(b'=b→o.wp P a w (mW S R k o.dst Pk L a w) Q)∧(b'≠b→mW S R k o.dst Pk L a w (a.put o.dst undef) w))
  (t:aj P Q ops keep a0 S R (k+1) ((k,o.dst,Pk)::Ps) rest):aj P Q ops keep a0 S R k Ps (o::rest):=by
 refine ⟨Pk,hst,fun L a w hn=>?_,t⟩;rw [hg];exact h L a w hn
theorem aj.call {c:Value} {d:Nat} {f:FuncId} {args:Array Value} (hg:o.guard=none) (hd:o.dst=some d) (hS:∀L w w',S L w→Below w.heap.size w w'→S (lU L k) w') (hR:∀w w',Below w.heap.size w w'→R k w w')
  (h:∀(L:Nat→Bool) (a:Act) (w:World),mr ops keep a0 S Ps k o L a w→(execOp a.eval o).run P w=.ok (.enter f args) w∧Calls P f args w fun e w'=>e=.returned c∧Below w.heap.size w w')
  (t:aj P Q ops keep a0 S R (k+1) ((k,o.dst,iX c)::Ps) rest):aj P Q ops keep a0 S R k Ps (o::rest):=by
 refine ⟨iX c,fun _ _ _ _ _ _ _ h=>h,fun L a w hn=>?_,t⟩;rw [hg];obtain ⟨h1,h2⟩:=h L a w hn;refine Oper.wp_enter h1 (h2.mono ?_);rintro e w' ⟨rfl,hb⟩;exact ⟨c,rfl,c,rfl,fun e=>by rw [hd] at e;(cases e),rfl,hS L w w' hn.world hb,hR w w' hb⟩
theorem aj.exactG {c:Value} {d g:Nat} {b:Bool} (hg:o.guard=some (g,b)) (hd:o.dst=some d) (hS:∀L w,S L w→S (lU L k) w) (hR:∀w,R k w w)
  (hb:∀(L:Nat→Bool) (a:Act) (w:World),mr ops keep a0 S Ps k o L a w→iC a (ky Ps g).1=.bool b)
  (h:∀(L:Nat→Bool) (a:Act) (w:World),mr ops keep a0 S Ps k o L a w→(execOp a.eval o).run P w=.ok (.value c) w)
  (t:aj P Q ops keep a0 S R (k+1) ((k,o.dst,iX c)::Ps) rest):aj P Q ops keep a0 S R k Ps (o::rest):=by
 refine ⟨iX c,fun _ _ _ _ _ _ _ h=>h,fun L a w hn=>?_,t⟩;rw [hg];exact ⟨b,hb L a w hn,fun _=>Oper.wp_value (h L a w hn) ⟨c,rfl,fun e=>by rw [hd] at e;(cases e),rfl,hS L w hn.world,hR w⟩,fun e=>absurd rfl e⟩
theorem aj.callG {c:Value} {d g:Nat} {b:Bool} {f:FuncId} {args:Array Value} (hg:o.guard=some (g,b)) (hd:o.dst=some d) (hS:∀L w w',S L w→Below w.heap.size w w'→S (lU L k) w') (hR:∀w w',Below w.heap.size w w'→R k w w')
  (hb:∀(L:Nat→Bool) (a:Act) (w:World),mr ops keep a0 S Ps k o L a w→iC a (ky Ps g).1=.bool b)
  (h:∀(L:Nat→Bool) (a:Act) (w:World),mr ops keep a0 S Ps k o L a w→(execOp a.eval o).run P w=.ok (.enter f args) w∧Calls P f args w fun e w'=>e=.returned c∧Below w.heap.size w w')
  (t:aj P Q ops keep a0 S R (k+1) ((k,o.dst,iX c)::Ps) rest):aj P Q ops keep a0 S R k Ps (o::rest):=by
 refine ⟨iX c,fun _ _ _ _ _ _ _ h=>h,fun L a w hn=>?_,t⟩;rw [hg];refine ⟨b,hb L a w hn,fun _=>?_,fun e=>absurd rfl e⟩;obtain ⟨h1,h2⟩:=h L a w hn;refine Oper.wp_enter h1 (h2.mono ?_);rintro e w' ⟨rfl,hb⟩;exact ⟨c,rfl,c,rfl,fun e=>by rw [hd] at e;(cases e),rfl,hS L w w' hn.world hb,hR w w' hb⟩
theorem au {a:Act} {n:Nat} {v:Value} (h:a.tmps[n]?.getD undef=v):a.eval (.tmp n)=v:=by rw [←h];simp [Act.eval]
theorem II {a:Act} {w:World} {ty:TypeId} {x:Operand} (ho:o.op=.load ty x) (b:Nat) (hx:a.eval x=.pointer (some ⟨b,0,none⟩)) (t:TypeId) (cs:Array Value) (fr:Nat × Nat) (d:TypeDesc) (hb:w.heap[b]? = some (.cells cs t fr))
  (hu:P.underlying ty=some d) (hd:(match d with | .struct _ | .array _ _=>true | _=>false)=true) (hi:(P.info? ty).map (·.size)=some cs.size):(execOp a.eval o).run P w=.ok (.value (.agg cs)) w:=by
 have hl:(loadCells ⟨b,0,none⟩ cs.toList.length).run P w=.ok cs.toList.toArray w :=
  run_loadCells_list (P:=P) w ⟨b,0,none⟩ cs.toList (fun j v hv=>by
   have hadd:(⟨b,0,none⟩:Addr).add j=⟨b,0+j,none⟩:=Addr.add_lit _ _ _;rw [hadd,Nat.zero_add];have hj:cs[j]? = some v:=by simpa using hv
   simp [World.cell?,hb,hj])
 have hrun:(loadVar ty ⟨b,0,none⟩).run P w=.ok (.agg cs) w:=by
  cases hq:P.info? ty with
  | none=>simp [hq] at hi
  | some i =>
   have hs:i.size=cs.size:=by simpa [hq] using hi
   have hagg:(isAgg ty).run P w=.ok true w:=by
    unfold isAgg;rw [Sem.run_bind,run_underlying hu w];cases d <;> simp_all
   simp only [Array.length_toList,Array.toArray_toList] at hl;simp [loadVar,Sem.run_bind,hagg,sizeOf,typeInfo,hq,hs,hl]
 unfold execOp;simp only [ho,hx,Instr.loadAt,Instr.sureAddr,Sem.run_bind,Sem.run_pure,Result.andThen_ok,hrun]
end
end
end
end Go.Proofs.YtepacjkacjabbaaGreatDoor
