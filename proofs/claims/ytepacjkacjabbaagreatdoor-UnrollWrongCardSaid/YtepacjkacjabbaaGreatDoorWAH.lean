import Derived.Test.YtepacjkacjabbaaGreatDoorWAG
import Derived.Shelf.Strings.SlTrimAscii
import Derived.Shelf.Strings.Search3
import Derived.Shelf.Strings.Cut
import Derived.Shelf.Strings.Shaped
import Derived.Shelf.Strings.Trim
import Derived.Shelf.Small.Utf8
import Derived.Shelf.Small.Strs
import Derived.Shelf.Small.Wraps
import Derived.Shelf.Strings.Search1
import Derived.Shelf.Strings.Search2
import Derived.Shelf.LaysM
import Derived.Shelf.Strings.Runes
import Derived.Shelf.Strings.AsciiSet
import Derived.Shelf.Unicode.DecodeSlow
import Derived.Test.YtepacjkacjabbaaGreatDoorProg
import Derived.Test.YtepacjkacjabbaaGreatDoorWAE
import Derived.Lib.IndexMore
import Derived.Lib.SlTrimSet
import Derived.Maps.OwnSet
import Derived.Maps.RangeWalk
import Derived.Below
import Derived.Lib.Hide
import Derived.Test.YtepacjkacjabbaaGreatDoorWAC
namespace Go.Proofs.YtepacjkacjabbaaGreatDoor
section
open Go
def zZ (k:Int):aa:=.mk k ⟨#[]⟩ Sp.none [] 0 Sp.none [] Sp.none []
inductive WT (M:gy) (hasP:Bool):Nat→aa→Prop
 | write {d:Nat} {wa:Int} {sp:Sp} {a b:ae}:WX M 0 1 wa a→WX M 0 2 M.w b→WT M hasP d (tN sp a b)
 | flush {d:Nat} {k:Int}:k=4∨k=5→WT M hasP d (zZ k)
 | set {d:Nat} {s:ByteArray} {t:cK} {sp:Sp} {e:ae}:(s,t)∈dx M++iq M→WX M 0 2 t.width e→WT M hasP d (gp sp s e)
 | put {d:Nat} {sp:Sp} {a b:ae}:WX M 0 1 2 a→WX M 0 1 M.w b→WT M hasP d (.mk 2 M.N.a sp [a,b] 0 Sp.none [] Sp.none [])
 | cond {d:Nat} {sp ts os:Sp} {e:ae} {th el:List aa}:WX M 0 2 1 e→th.length≤2→(∀s,s∈th→WT M hasP d s)→el.length≤1→(∀s,s∈el→WT M hasP d s)→WT M hasP (d+1) (.mk 6 ⟨#[]⟩ sp [e] 0 ts th os el)
 | loop {d:Nat} {sp ts:Sp} {bound:Int} {e:ae} {th:List aa}:1≤bound→bound≤3→WX M 0 1 1 e→th.length≤3→(∀s,s∈th→WT M hasP 0 s)→WT M hasP (d+1) (.mk 7 ⟨#[]⟩ sp [e] bound ts th Sp.none [])
 | call {d:Nat} {sp:Sp} {e:ae}:M.prm=false→hasP=true→WX M 0 1 M.w e→WT M hasP d (zA sp pB [e])
def KQ:Nat→Nat
 | 0=>18
 | d+1=>14+3*KQ d
theorem qL:∀d,18≤KQ d
 | 0=>Nat.le_refl _
 | d+1=>by have:=qL d;rw [KQ];omega
theorem jq (s:aa):ay [s]=1+aN s.exprs+ay s.thn+ay s.els:=by
 rw [jf];simp [ay,gU]
theorem kP {l:List aa} {k:Nat} (h:∀s,s∈l→ay [s]≤k):ay l≤l.length*k:=by
 induction l with
 | nil=>simp [ay,gU]
 | cons s l ih =>
  have h1:=h s (List.mem_cons_self ..);have h2:=ih fun x hx=>h x (List.mem_cons_of_mem _ hx)
  rw [jq] at h1;rw [jf,List.length_cons,Nat.add_mul];omega
theorem fC:ay []=0:=rfl
theorem WT.few {M:gy} {hasP:Bool} {d:Nat} {s:aa} (h:WT M hasP d s):ay [s]≤KQ d:=by
 induction h with
 | write ha hb =>
  have h1:=ha.few;have h2:=hb.few;have h3:=qL;rw [jq];simp only [tN,aa.exprs,aa.thn,aa.els,aN,List.map_cons,List.map_nil,List.sum_cons,List.sum_nil,fC,Br] at *;refine Nat.le_trans ?_ (h3 _);omega
 | flush =>
  rw [jq];exact Nat.le_trans (by simp [zZ,aa.exprs,aa.thn,aa.els,aN,fC]) (qL _)
 | set _ ha =>
  have h1:=ha.few;rw [jq];simp only [gp,aa.exprs,aa.thn,aa.els,aN,List.map_cons,List.map_nil,List.sum_cons,List.sum_nil,fC,Br] at *;refine Nat.le_trans ?_ (qL _);omega
 | put ha hb =>
  have h1:=ha.few;have h2:=hb.few;rw [jq];simp only [aa.exprs,aa.thn,aa.els,aN,List.map_cons,List.map_nil,List.sum_cons,List.sum_nil,fC,Br] at *;refine Nat.le_trans ?_ (qL _);omega
 | @cond d sp ts os e th el he lt _ le _ ih1 ih2 =>
  have h1:=he.few;have h2:=kP ih1;have h3:=kP ih2;have h4:=Nat.mul_le_mul_right (KQ d) lt;have h5:=Nat.mul_le_mul_right (KQ d) le;rw [jq];simp only [aa.exprs,aa.thn,aa.els,aN,List.map_cons,List.map_nil,List.sum_cons,List.sum_nil,Br,KQ] at *;omega
 | @loop d sp ts bound e th _ _ he lt _ ih1 =>
  have h1:=he.few;have h2:=kP ih1;have h4:=Nat.mul_le_mul_right (KQ 0) lt;have h5:=qL d;rw [jq];simp only [aa.exprs,aa.thn,aa.els,aN,List.map_cons,List.map_nil,List.sum_cons,List.sum_nil,Br,KQ,fC] at *;omega
 | call _ _ ha =>
  have h1:=ha.few;rw [jq];simp only [zA,aa.exprs,aa.thn,aa.els,aN,List.map_cons,List.map_nil,List.sum_cons,List.sum_nil,fC,Br] at *;refine Nat.le_trans ?_ (qL _);omega
def Lx (p:af) (E:Env) (M:gy) (hasP:Bool):Prop:=hasP=true→M.prm=false →
 look (dI p) pB=some 0∧(∃q d,p.procs[0]? = some q∧q.params=[d]∧d.width=M.w)∧(E.within<0∨ji p 0 E.within.toNat=false)
theorem mM (p:af) (E:Env) (wh:Int) (a:ae) (k:Nat):cO p E wh [a] k=fu p E wh a k:=by rw [aY];simp
theorem yg (p:af) (E:Env) (wh:Int) (a b:ae) (k:Nat):cO p E wh [a,b] k=fu p E wh a k++fu p E wh b k:=by rw [aY];simp
theorem jR (p:af) (E:Env) (k:Nat):aL p E [] k=[]:=by rw [aL]
theorem jd {p:af} {E:Env} {s:aa} {k:Nat} (h1:jL s=true) (h2:dF p E s=0) (h3:k≤32):iU p E s k=0:=by
 unfold iU;rw [if_pos h1,if_pos h2,if_neg (E9 p h3)]
theorem Et {p:af} {E:Env} {l:List aa} {k:Nat} (h:∀s,s∈l→qN (kH p E s k)):qN (aL p E l k):=by
 rw [bn];intro c hc;obtain ⟨s,hs,h2⟩:=List.mem_flatMap.1 hc;exact h s hs c h2
theorem wX {M:gy} {x:ByteArray × cK} (h:x∈dx M++iq M):x∈kG M 0∧(x.2.kind=2∨x.2.kind=3):=by
 constructor
 ·unfold kG
  simp only [List.mem_append] at *;rcases h with h | h
  ·exact .inr (.inl (by simpa using h))
  ·exact .inr (.inr (by simp [h]))
 ·simp [dx,iq] at h
  rcases h with rfl | rfl | rfl | rfl <;> simp
theorem WT.codes {M:gy} (hM:M.ok) {p:af} {E:Env} (hE:Jw p E M) {hasP:Bool} (hC:Lx p E M hasP) {d:Nat} {s:aa} (h:WT M hasP d s):∀k:Nat,k+d≤30→qN (kH p E s k):=by
 induction h with
 | write ha hb =>
  intro k hk;rw [gq];refine .cons (jd rfl ?_ (by omega)) ?_
  ·have e:∀sp a b,dF p E (tN sp a b)=if dE (bE p E [a,b] 1) p.width=true then 322 else 0:=fun _ _ _=>rfl
   rw [e];simp only [bE,List.getElem?_cons_succ,List.getElem?_cons_zero,(hb.width hM hE).1,hE.width,iI]
   rfl
  ·simp only [tN,aa.exprs,aa.thn,aa.els,yg,jR,List.append_nil]
   exact (ha.codes hM hE 1 (by omega)).append (hb.codes hM hE 1 (by omega))
 | flush hk0 =>
  intro k hk;rw [gq];refine .cons ?_ ?_
  ·rcases hk0 with rfl | rfl <;> exact jd rfl rfl (by omega)
  ·simp only [zZ,aa.exprs,aa.thn,aa.els,jR,List.append_nil,aY]
   exact .nil
 | set hm ha =>
  intro k hk;have hl:=wX hm;have hf:=hE.find _ hl.1;have hkd:=hl.2;simp only at hf hkd;rw [gq];refine .cons (jd rfl ?_ (by omega)) ?_
  ·have e:∀sp s ex,dF p E (gp sp s ex)=if (aJ p E s).kind=0∨(aJ p E s).kind=1∨(aJ p E s).kind=4 then 321
     else if dE (bE p E [ex] 0) (aJ p E s).width=true then 322 else 0:=fun _ _ _=>rfl
   rw [e,hf,if_neg (by omega)];simp only [bE,List.getElem?_cons_zero,(ha.width hM hE).1,iI]
   rfl
  ·simp only [gp,aa.exprs,aa.thn,aa.els,mM,jR,List.append_nil]
   exact ha.codes hM hE 1 (by omega)
 | put ha hb =>
  intro k hk;rw [gq];refine .cons (jd rfl ?_ (by omega)) ?_
  ·have e:∀sp s ex,dF p E (.mk 2 s sp ex 0 Sp.none [] Sp.none [])=if (aJ p E s).kind≠4 then 321
     else if dE (bE p E ex 1) (aJ p E s).width=true then 322 else 0:=fun _ _ _=>rfl
   rw [e,hE.arr,if_neg (by simp)];simp only [bE,List.getElem?_cons_zero,List.getElem?_cons_succ,(hb.width hM hE).1,iI]
   rfl
  ·simp only [aa.exprs,aa.thn,aa.els,yg,jR,List.append_nil]
   exact (ha.codes hM hE 1 (by omega)).append (hb.codes hM hE 1 (by omega))
 | cond he _ _ _ _ ih1 ih2 =>
  intro k hk;rw [gq];refine .cons (jd rfl rfl (by omega)) ?_;simp only [aa.exprs,aa.thn,aa.els,mM];exact (he.codes hM hE 1 (by omega)).append ((Et fun s hs=>ih1 s hs _ (by omega)).append (Et fun s hs=>ih2 s hs _ (by omega)))
 | loop b1 b2 he _ _ ih1 =>
  intro k hk;rw [gq];refine .cons (jd rfl ?_ (by omega)) ?_
  ·have e:∀sp ex b ts th,dF p E (.mk 7 ⟨#[]⟩ sp ex b ts th Sp.none [])=if b<1∨b>16 then 329 else 0:=fun _ _ _ _ _=>rfl
   rw [e,if_neg (by omega)]
  simp only [aa.exprs,aa.thn,aa.els,mM,jR,List.append_nil];exact (he.codes hM hE 1 (by omega)).append (Et fun s hs=>ih1 s hs _ (by omega))
 | @call _ _ ex hp hP ha =>
  intro k hk;obtain ⟨h1,⟨q,dd,h2,h3,h4⟩,h5⟩:=hC hP hp;rw [gq];refine .cons (jd rfl ?_ (by omega)) ?_
  ·have e:∀sp ex,dF p E (zA sp pB ex)=(match look (dI p) pB with
    | none=>321
    | some i=>if kY p E i.toNat ex=true then 327
     else if E.within≥0∧ji p i.toNat E.within.toNat=true then 328 else 0):=fun _ _=>rfl
   rw [e,h1];have e2:kY p E (0:Int).toNat [ex]=false:=by
    unfold kY;rw [show (0:Int).toNat=0 from rfl,h2];simp only [h3,List.length_cons,List.length_nil,lH,(ha.width hM hE).1,h4,iI]
    rfl
   simp only [e2];rw [if_neg (by decide),if_neg];rintro ⟨h6,h7⟩;rcases h5 with h5 | h5
   ·omega
   ·rw [show (0:Int).toNat=0 from rfl,h5] at h7;cases h7
  ·simp only [zA,aa.exprs,aa.thn,aa.els,mM,jR,List.append_nil]
   exact ha.codes hM hE 1 (by omega)
def EM (N:Nm):Bool:=[N.i,N.j,N.g,N.h,N.v,N.c,N.a].all (fun s=>jh s.data.toList && (uf s.data.toList).isNone && decide (s.size≤16)) && decide ([N.i,N.j,N.g,N.h,N.v,N.c,N.a,xB,pB].Nodup)
def gL (M:gy):List aF:=[⟨M.N.i,M.w,0⟩,⟨M.N.j,1,0⟩].take M.ni
def lI (M:gy):List aF:=[⟨M.N.g,M.w,0⟩,⟨M.N.h,1,0⟩]
def wQ (M:gy):List aF:=[⟨M.N.v,M.w,0⟩,⟨M.N.c,2,0⟩]
structure nU (M:gy) (p:af):Prop where
 ok:M.ok
 prm:M.prm=false
 blocks:1≤p.blocks∧p.blocks≤3
 width:p.width=M.w
 inputs:p.inputs=gL M
 ghosts:p.ghosts=lI M
 vars:p.vars=wQ M
 arrays:∃z:Int,2≤z∧z≤3∧p.arrays=[⟨M.N.a,M.w,z⟩]
 require:WX M 1 2 1 p.require
 inits:∀i∈p.inits,0≤i.block∧i.block<p.blocks∧WX M 1 1 M.w i.value
 blocksN:p.inits.Pairwise (fun x y=>x.block<y.block)
 initsN:p.inits.length≤3
 invariant:WX M 2 3 1 p.invariant
structure DY (M:gy) (hasP:Bool) (q:aO):Prop where
 name:q.name=pB
 params:q.params=[⟨xB,M.w,0⟩]
 few:q.body.length≤3
 body:∀s,s∈q.body→WT { M with prm:=true } hasP 1 s
structure mO (M:gy) (hasP:Bool) (p:af):Prop extends nU M p where
 procs:if hasP=true then ∃q,p.procs=[q]∧DY M hasP q else p.procs=[]
 workN:p.work.length≤5
 work:∀s,s∈p.work→WT M hasP 2 s
 recoverN:p.recover.length≤3
 recover:∀s,s∈p.recover→WT M hasP 1 s
theorem Jc {N:Nm} (h:EM N=true):∀s∈[N.i,N.j,N.g,N.h,N.v,N.c,N.a],jh s.data.toList=true∧uf s.data.toList=none∧s.size≤16:=by
 unfold EM at h;rw [Bool.and_eq_true] at h;intro s hs;have:=List.all_eq_true.1 h.1 s hs;rw [Bool.and_eq_true,Bool.and_eq_true,decide_eq_true_eq,Option.isNone_iff_eq_none] at this;exact ⟨this.1.1,this.1.2,this.2⟩
theorem Hw {M:gy} {p:af} (h:nU M p):fO p=iE M++dx M++iq M++[(M.N.a,⟨4,M.w⟩)]:=by
 obtain ⟨z,_,_,hz⟩:=h.arrays;unfold fO;rw [h.inputs,h.ghosts,h.vars,hz];have e:(gL M).map (fun d=>(d.name,(⟨1,d.width⟩:cK)))=iE M:=by
  unfold gL iE;rw [List.map_take];rfl
 rw [e];rfl
theorem zh {M:gy}:((iE M++dx M++iq M++[(M.N.a,(⟨4,M.w⟩:cK))]).map (·.1)).Sublist [M.N.i,M.N.j,M.N.g,M.N.h,M.N.v,M.N.c,M.N.a]:=by
 have e:[M.N.i,M.N.j,M.N.g,M.N.h,M.N.v,M.N.c,M.N.a]=[M.N.i,M.N.j]++[M.N.g,M.N.h,M.N.v,M.N.c,M.N.a]:=rfl;have e2:(iE M++dx M++iq M++[(M.N.a,(⟨4,M.w⟩:cK))]).map (·.1)=(iE M).map (·.1)++[M.N.g,M.N.h,M.N.v,M.N.c,M.N.a]:=by
  simp [dx,iq]
 rw [e,e2];refine List.Sublist.append ?_ (List.Sublist.refl _);unfold iE;rw [List.map_take];exact List.take_sublist _ _
theorem He {M:gy} {x:ByteArray × cK} (h:x∈iE M++dx M++iq M++[(M.N.a,⟨4,M.w⟩)]):x.1∈[M.N.i,M.N.j,M.N.g,M.N.h,M.N.v,M.N.c,M.N.a] :=
 zh.subset (List.mem_map_of_mem h)
end
end Go.Proofs.YtepacjkacjabbaaGreatDoor
namespace Go.Proofs
open Go.Shelf
def Tryz.lays160_ren:Go.Shelf.Ren:=⟨fun | 160=>280 | 232=>301 | 231=>300 | 227=>302 | 234=>304 | 233=>303 | 236=>306 | 235=>305 | 228=>307 | 271=>310 | 151=>309 | 197=>308 | 120=>313 | 152=>312 | 260=>311 | 137=>314 | 119=>315 | 224=>199 | 225=>198 | 217=>197 | 266=>220 | n=>n,fun | 9=>9 | 4=>4 | 3=>3 | 5=>5 | 117=>323 | 116=>322 | 0=>0 | 124=>326 | 21=>21 | 105=>328 | 46=>240 | 119=>332 | 139=>335 | 138=>334 | n=>n,fun | 3=>1 | 4=>2 | n=>n⟩
theorem Tryz.lays160:Go.Proofs.Lays.n160 Tryz.prog Tryz.lays160_ren:={
 mixed:=by kernel_rfl
 f119:=Tryz.func315.trans (congrArg some (by kernel_rfl))
 f120:=Tryz.func313.trans (congrArg some (by kernel_rfl))
 f137:=Tryz.func314.trans (congrArg some (by kernel_rfl))
 f151:=Tryz.func309.trans (congrArg some (by kernel_rfl))
 f152:=Tryz.func312.trans (congrArg some (by kernel_rfl))
 f160:=Tryz.func280.trans (congrArg some (by kernel_rfl))
 f197:=Tryz.func308.trans (congrArg some (by kernel_rfl))
 f217:=Tryz.func197.trans (congrArg some (by kernel_rfl))
 f224:=Tryz.func199.trans (congrArg some (by kernel_rfl))
 f225:=Tryz.func198.trans (congrArg some (by kernel_rfl))
 f227:=Tryz.func302.trans (congrArg some (by kernel_rfl))
 f228:=Tryz.func307.trans (congrArg some (by kernel_rfl))
 f231:=Tryz.func300.trans (congrArg some (by kernel_rfl))
 f232:=Tryz.func301.trans (congrArg some (by kernel_rfl))
 f233:=Tryz.func303.trans (congrArg some (by kernel_rfl))
 f234:=Tryz.func304.trans (congrArg some (by kernel_rfl))
 f235:=Tryz.func305.trans (congrArg some (by kernel_rfl))
 f236:=Tryz.func306.trans (congrArg some (by kernel_rfl))
 f260:=Tryz.func311.trans (congrArg some (by kernel_rfl))
 f266:=Tryz.func220.trans (congrArg some (by kernel_rfl))
 f271:=Tryz.func310.trans (congrArg some (by kernel_rfl))
 t0:=Tryz.underlying0
 a0:=Tryz.isAgg0
 z0:=Tryz.sizeOf0
 v0:=Tryz.zeroValue0
 t3:=Tryz.underlying3
 a3:=Tryz.isAgg3
 z3:=Tryz.sizeOf3
 v3:=Tryz.zeroValue3
 t4:=Tryz.underlying4
 a4:=Tryz.isAgg4
 z4:=Tryz.sizeOf4
 v4:=Tryz.zeroValue4
 t5:=Tryz.underlying5
 a5:=Tryz.isAgg5
 z5:=Tryz.sizeOf5
 v5:=Tryz.zeroValue5
 t9:=Tryz.underlying9
 a9:=Tryz.isAgg9
 z9:=Tryz.sizeOf9
 v9:=Tryz.zeroValue9
 t21:=Tryz.underlying21
 a21:=Tryz.isAgg21
 z21:=Tryz.sizeOf21
 v21:=Tryz.zeroValue21
 t46:=Tryz.underlying240
 a46:=Tryz.isAgg240
 z46:=Tryz.sizeOf240
 v46:=Tryz.zeroValue240
 t105:=Tryz.underlying328
 a105:=Tryz.isAgg328
 z105:=Tryz.sizeOf328
 v105:=Tryz.zeroValue328
 t116:=Tryz.underlying322
 a116:=Tryz.isAgg322
 z116:=Tryz.sizeOf322
 t117:=Tryz.underlying323
 a117:=Tryz.isAgg323
 z117:=Tryz.sizeOf323
 v117:=Tryz.zeroValue323
 t119:=Tryz.underlying332
 a119:=Tryz.isAgg332
 z119:=Tryz.sizeOf332
 t124:=Tryz.underlying326
 a124:=Tryz.isAgg326
 z124:=Tryz.sizeOf326
 v124:=Tryz.zeroValue326
 t138:=Tryz.underlying334
 a138:=Tryz.isAgg334
 z138:=Tryz.sizeOf334
 v138:=Tryz.zeroValue334
 t139:=Tryz.underlying335
 a139:=Tryz.isAgg335
 z139:=Tryz.sizeOf335
 v139:=Tryz.zeroValue335
 g3:=by kernel_rfl
 g4:=by kernel_rfl }
def Tryz.lays144_ren:Go.Shelf.Ren:=⟨fun | 144=>279 | 143=>299 | 219=>153 | 217=>197 | 225=>198 | 224=>199 | 267=>200 | 266=>220 | 314=>221 | n=>n,fun | 9=>9 | 4=>4 | 3=>3 | 5=>5 | 46=>240 | 146=>260 | 51=>26 | n=>n,fun | 1=>0 | n=>n⟩
theorem Tryz.lays144:Go.Proofs.Lays.n144 Tryz.prog Tryz.lays144_ren:={
 mixed:=by kernel_rfl
 f143:=Tryz.func299.trans (congrArg some (by kernel_rfl))
 f144:=Tryz.func279.trans (congrArg some (by kernel_rfl))
 f217:=Tryz.func197.trans (congrArg some (by kernel_rfl))
 f219:=Tryz.func153.trans (congrArg some (by kernel_rfl))
 f224:=Tryz.func199.trans (congrArg some (by kernel_rfl))
 f225:=Tryz.func198.trans (congrArg some (by kernel_rfl))
 f266:=Tryz.func220.trans (congrArg some (by kernel_rfl))
 f267:=Tryz.func200.trans (congrArg some (by kernel_rfl))
 f314:=Tryz.func221.trans (congrArg some (by kernel_rfl))
 t3:=Tryz.underlying3
 a3:=Tryz.isAgg3
 z3:=Tryz.sizeOf3
 v3:=Tryz.zeroValue3
 t4:=Tryz.underlying4
 a4:=Tryz.isAgg4
 z4:=Tryz.sizeOf4
 v4:=Tryz.zeroValue4
 t5:=Tryz.underlying5
 a5:=Tryz.isAgg5
 z5:=Tryz.sizeOf5
 v5:=Tryz.zeroValue5
 t9:=Tryz.underlying9
 a9:=Tryz.isAgg9
 z9:=Tryz.sizeOf9
 v9:=Tryz.zeroValue9
 t46:=Tryz.underlying240
 a46:=Tryz.isAgg240
 z46:=Tryz.sizeOf240
 v46:=Tryz.zeroValue240
 t51:=Tryz.underlying26
 a51:=Tryz.isAgg26
 z51:=Tryz.sizeOf26
 v51:=Tryz.zeroValue26
 t146:=Tryz.underlying260
 a146:=Tryz.isAgg260
 z146:=Tryz.sizeOf260
 v146:=Tryz.zeroValue260
 g1:=by kernel_rfl }
open Go.RowKit Go.Lib in
theorem Tryz.strings_Contains (s sub:ByteArray) (m:Int) (w:World) (hs:s.size<4294967281) (hm:w.cell? ⟨0,0,none⟩=some (.int .i64 m)) :
  Calls Tryz.prog 279 #[.string s,.string sub] w fun e w'=>e=.returned (.bool (Lib.contains s.data.toList sub.data.toList))∧w'=w:=Any.strings_Contains Tryz.lays144 s sub m w hs hm
def Tryz.lays145_ren:Go.Shelf.Ren:=⟨fun | 145=>19 | 220=>89 | 219=>153 | 217=>197 | 225=>198 | 224=>199 | 267=>200 | 266=>220 | 314=>221 | n=>n,fun | 9=>9 | 4=>4 | 59=>45 | 3=>3 | 5=>5 | 46=>240 | 146=>260 | 51=>26 | n=>n,fun | 1=>0 | n=>n⟩
theorem Tryz.lays145:Go.Proofs.Lays.n145 Tryz.prog Tryz.lays145_ren:={
 mixed:=by kernel_rfl
 f145:=Tryz.func19.trans (congrArg some (by kernel_rfl))
 f217:=Tryz.func197.trans (congrArg some (by kernel_rfl))
 f219:=Tryz.func153.trans (congrArg some (by kernel_rfl))
 f220:=Tryz.func89.trans (congrArg some (by kernel_rfl))
 f224:=Tryz.func199.trans (congrArg some (by kernel_rfl))
 f225:=Tryz.func198.trans (congrArg some (by kernel_rfl))
 f266:=Tryz.func220.trans (congrArg some (by kernel_rfl))
 f267:=Tryz.func200.trans (congrArg some (by kernel_rfl))
 f314:=Tryz.func221.trans (congrArg some (by kernel_rfl))
 t3:=Tryz.underlying3
 a3:=Tryz.isAgg3
 z3:=Tryz.sizeOf3
 v3:=Tryz.zeroValue3
 t4:=Tryz.underlying4
 a4:=Tryz.isAgg4
 z4:=Tryz.sizeOf4
 v4:=Tryz.zeroValue4
 t5:=Tryz.underlying5
 a5:=Tryz.isAgg5
 z5:=Tryz.sizeOf5
 v5:=Tryz.zeroValue5
 t9:=Tryz.underlying9
 a9:=Tryz.isAgg9
 z9:=Tryz.sizeOf9
 v9:=Tryz.zeroValue9
 t46:=Tryz.underlying240
 a46:=Tryz.isAgg240
 z46:=Tryz.sizeOf240
 v46:=Tryz.zeroValue240
 t51:=Tryz.underlying26
 a51:=Tryz.isAgg26
 z51:=Tryz.sizeOf26
 v51:=Tryz.zeroValue26
 t59:=Tryz.underlying45
 a59:=Tryz.isAgg45
 z59:=Tryz.sizeOf45
 v59:=Tryz.zeroValue45
 t146:=Tryz.underlying260
 a146:=Tryz.isAgg260
 z146:=Tryz.sizeOf260
 v146:=Tryz.zeroValue260
 g1:=by kernel_rfl }
open Go.RowKit Go.Lib in
theorem Tryz.strings_Cut (s sep:ByteArray) (m:Int) (w:World) (hs:s.size<4294967281) (hm:w.cell? ⟨0,0,none⟩=some (.int .i64 m)) :
  Calls Tryz.prog 19 #[.string s,.string sep] w fun e w'=>e=.returned (.tuple #[.string ⟨(Lib.cut s.data.toList sep.data.toList).1.toArray⟩,.string ⟨(Lib.cut s.data.toList sep.data.toList).2.1.toArray⟩,.bool (Lib.cut s.data.toList sep.data.toList).2.2])∧∃n,w'=w.drewN n:=Any.strings_Cut Tryz.lays145 s sep m w hs hm
def Tryz.laysM144_ren:Go.Shelf.Ren:=⟨fun | 144=>279 | 143=>299 | 219=>153 | 217=>197 | 225=>198 | 224=>199 | 267=>200 | 266=>220 | 314=>221 | n=>n,fun | 9=>9 | 4=>4 | 3=>3 | 5=>5 | 46=>240 | 146=>260 | 51=>26 | n=>n,fun | 1=>0 | n=>n⟩
theorem Tryz.laysM144:Go.Proofs.LaysM.n144 Tryz.prog Tryz.laysM144_ren:={
 mixed:=by kernel_rfl
 f143:=Tryz.func299.trans (congrArg some (by kernel_rfl))
 f144:=Tryz.func279.trans (congrArg some (by kernel_rfl))
 f217:=Tryz.func197.trans (congrArg some (by kernel_rfl))
 f219:=Tryz.func153.trans (congrArg some (by kernel_rfl))
 f224:=Tryz.func199.trans (congrArg some (by kernel_rfl))
 f225:=Tryz.func198.trans (congrArg some (by kernel_rfl))
 f266:=Tryz.func220.trans (congrArg some (by kernel_rfl))
 f267:=Tryz.func200.trans (congrArg some (by kernel_rfl))
 f314:=Tryz.func221.trans (congrArg some (by kernel_rfl))
 t3:=Tryz.underlying3
 a3:=Tryz.isAgg3
 z3:=Tryz.sizeOf3
 v3:=Tryz.zeroValue3
 t4:=Tryz.underlying4
 a4:=Tryz.isAgg4
 z4:=Tryz.sizeOf4
 v4:=Tryz.zeroValue4
 t5:=Tryz.underlying5
 a5:=Tryz.isAgg5
 z5:=Tryz.sizeOf5
 v5:=Tryz.zeroValue5
 t9:=Tryz.underlying9
 a9:=Tryz.isAgg9
 z9:=Tryz.sizeOf9
 v9:=Tryz.zeroValue9
 t46:=Tryz.underlying240
 a46:=Tryz.isAgg240
 z46:=Tryz.sizeOf240
 v46:=Tryz.zeroValue240
 t51:=Tryz.underlying26
 a51:=Tryz.isAgg26
 z51:=Tryz.sizeOf26
 v51:=Tryz.zeroValue26
 t146:=Tryz.underlying260
 a146:=Tryz.isAgg260
 z146:=Tryz.sizeOf260
 v146:=Tryz.zeroValue260
 g1:=by kernel_rfl
 i3:=by kernel_rfl
 i4:=by kernel_rfl
 i5:=by kernel_rfl
 i9:=by kernel_rfl
 i46:=by kernel_rfl
 i51:=by kernel_rfl
 i146:=by kernel_rfl
 m1:=by kernel_rfl
 s1_3:=fun w h=>Go.Proofs.cell_of_shapedOpen_int (zero:=#[.int .i64 0]) (t:=3) h (of_decide_eq_true (by kernel_rfl)) (by kernel_rfl) rfl (by kernel_rfl) (by kernel_rfl) Tryz.underlying3 }
end Go.Proofs
namespace Go.Proofs.YtepacjkacjabbaaGreatDoor
section
open Go
theorem contains_cons (b:UInt8) (l sub:List UInt8):Lib.contains (b::l) sub=(sub.isPrefixOf (b::l) || Lib.contains l sub):=by
 unfold Lib.contains;rw [Lib.index];have:=Lib.index_ge l sub;by_cases h:sub.isPrefixOf (b::l)=true
 ·rw [if_pos h,h];simp
 ·rw [if_neg h,Bool.eq_false_iff.2 h,Bool.false_or]
  by_cases h2:Lib.index l sub=-1
  ·rw [h2];rfl
  ·have:((Lib.index l sub == -1)=true)=False:=by simp [h2]
   simp only [this,if_false]
   apply decide_eq_decide.2
   omega
theorem AB (b:UInt8) (t:List UInt8):Lib.contains [] (b::t)=false:=rfl
theorem yM (w r t:List UInt8) (c:UInt8) (hw:c∉w):Lib.contains (w++r) (c::t)=Lib.contains r (c::t):=by
 induction w with
 | nil=>rfl
 | cons x w ih =>
  have h1:c≠x:=fun e=>hw (by rw [e];exact List.mem_cons_self ..)
  rw [List.cons_append,contains_cons,ih (fun h=>hw (List.mem_cons_of_mem _ h))];have:(c::t).isPrefixOf (x::(w++r))=false:=by rw [List.isPrefixOf];simp [h1]
  rw [this,Bool.false_or]
theorem uS (r:List UInt8):∀(s w:List UInt8),32∉s→32∉w→(s++[32]).isPrefixOf (w++32::r)=decide (w=s)
 | [],[],_,_=>rfl
 | [],x::w,_,hw=>by
  have h1:(32:UInt8)≠x:=fun e=>hw (by rw [e];exact List.mem_cons_self ..)
  simp [List.isPrefixOf,h1]
 | y::s,[],hs,_=>by
  have h1:y≠32:=fun e=>hs (by rw [e];exact List.mem_cons_self ..)
  simp [List.isPrefixOf,h1]
 | y::s,x::w,hs,hw=>by
  have ih:=uS r s w (fun h=>hs (List.mem_cons_of_mem _ h)) (fun h=>hw (List.mem_cons_of_mem _ h));rw [List.cons_append,List.cons_append,List.isPrefixOf,ih];by_cases h:y=x
  ·subst h;simp
  ·have h2:x≠y:=fun e=>h e.symm
   simp [h,h2]
def sQ:List (List UInt8)→List UInt8
 | []=>[32]
 | w::ws=>32::(w++sQ ws)
theorem El:∀ws:List (List UInt8),∃r,sQ ws=32::r
 | []=>⟨[],rfl⟩
 | w::ws=>⟨w++sQ ws,rfl⟩
theorem qo (s:List UInt8) (hs:32∉s):∀ws:List (List UInt8),(∀w∈ws,(32:UInt8)∉w)→Lib.contains (sQ ws) (32::(s++[32]))=ws.any fun w=>decide (w=s)
 | [],_=>by
  rw [sQ,contains_cons,AB];cases s <;> rfl
 | w::ws,hw=>by
  rw [sQ,contains_cons,yM _ _ _ _ (hw w (List.mem_cons_self ..)),qo s hs ws (fun x hx=>hw x (List.mem_cons_of_mem _ hx)),List.any_cons];obtain ⟨r,hr⟩:=El ws;rw [hr,List.isPrefixOf,uS r s w hs (hw w (List.mem_cons_self ..))];simp
def yf:List (List UInt8):=words.map fun w=>w.toUTF8.data.toList
theorem BK:∀w∈yf,(32:UInt8)∉w:=by decide
theorem j4 (f:UInt8→Bool):∀l:List UInt8,l.dropWhile f=[]↔∀c∈l,f c=true
 | []=>by simp
 | c::l=>by
  rw [List.dropWhile_cons];by_cases h:f c=true
  ·rw [if_pos h,j4 f l];simp [h]
  ·rw [if_neg h];simp [h]
theorem Jd (f:String→List UInt8) (s:List UInt8):∀l:List String,(l.all fun w=>decide (f w≠s))=!((l.map f).any fun w=>decide (w=s))
 | []=>rfl
 | w::l=>by rw [List.all_cons,Jd f s l,List.map_cons,List.any_cons];by_cases h:f w=s <;> simp [h]
theorem Gb (l cs:List UInt8):(Lib.trimS l cs=[])↔∀c∈l,cs.contains c=true:=by
 unfold Lib.trimS Lib.trimLeftS Lib.trimRightS;rw [j4]
 constructor
 ·intro h c hc
  cases hd:l.reverse.dropWhile (cs.contains ·) with
  | nil=>exact (j4 _ _).1 hd c (List.mem_reverse.2 hc)
  | cons x t =>
   have h1:=List.head?_dropWhile_not (cs.contains ·) l.reverse;rw [hd] at h1;have h2:=h x (by rw [hd];simp);simp at h1;rw [List.contains_iff_mem] at h2;exact absurd h2 h1
 ·intro h c hc
  have h1:l.reverse.dropWhile (cs.contains ·)=[]:=(j4 _ _).2 fun x hx=>h x (List.mem_reverse.1 hx)
  rw [h1] at hc;cases hc
def uC:List UInt8 := "abcdefghijklmnopqrstuvwxyz0123456789_".toUTF8.data.toList
set_option maxRecDepth 100000 in
theorem FY:∀n:Nat,n<256→uC.contains (UInt8.ofNat n)=nY (UInt8.ofNat n):=by decide
theorem IA (c:UInt8):uC.contains c=nY c:=by
 have:=FY c.toNat c.toNat_lt
 rwa [UInt8.ofNat_toNat] at this
def Bi (s:List UInt8):Bool :=
 decide (s.length≤16) && (match s with | c::_=>lower c | []=>false) && !Lib.contains (sQ yf) (32::(s++[32])) && decide (Lib.trimS s uC=[])
theorem DR (s:List UInt8):Bi s=jh s:=by
 unfold Bi jh;have ht:decide (Lib.trimS s uC=[])=s.all nY:=by
  rw [Bool.eq_iff_iff,decide_eq_true_iff,Gb,List.all_eq_true]
  constructor <;> intro h c hc <;> have:=h c hc <;> rw [IA] at * <;> exact this
 rw [ht];by_cases ha:s.all nY=true
 ·have h32:(32:UInt8)∉s:=fun h=>absurd (List.all_eq_true.1 ha 32 h) (by decide)
  rw [qo s h32 yf BK,ha];rw [Jd (fun w=>w.toUTF8.data.toList) s words,Bool.and_true,Bool.and_true]
  rfl
 ·rw [Bool.eq_false_iff.2 ha]
  simp
theorem yT:∀s:List UInt8,uf s=if (Lib.cut s [46]).2.2=true then some ((Lib.cut s [46]).1,(Lib.cut s [46]).2.1) else none
 | []=>rfl
 | c::l=>by
  have ih:=yT l;have hg:=Lib.index_ge l [46];rw [uf,ih];by_cases h:c.toNat=46
  ·have hc:c=46:=UInt8.toNat.inj h
   subst hc;have h1:Lib.index (46::l) [46]=0:=by rw [Lib.index];rfl
   unfold Lib.cut;rw [h1];simp
  ·have hc:c≠46:=fun e=>h (by rw [e];rfl)
   have hp:[46].isPrefixOf (c::l)=false:=by
    have:(46:UInt8)≠c:=fun e=>hc e.symm
    simp [List.isPrefixOf,this]
   rw [if_neg h];unfold Lib.cut;rw [Lib.index,hp];by_cases h2:Lib.index l [46]=-1
   ·simp [h2]
   ·obtain ⟨k,hk⟩:∃k:Nat,Lib.index l [46]=k:=⟨(Lib.index l [46]).toNat,by omega⟩
    have h3:((k:Int) == -1)=false:=by rw [beq_eq_false_iff_ne];omega
    have h4:(0:Int)≤(k:Int)+1:=by omega
    have h5:((k:Int)+1).toNat=k+1:=by omega
    simp [hk,h3,h4,h5]
end
end Go.Proofs.YtepacjkacjabbaaGreatDoor
namespace Go.Proofs.YtepacjkacjabbaaGreatDoor
section
open Go Go.RowKit Go.Maps
structure xC (P:Program) (e:TypeId) (α:Type) where
 val:α→Value
 dat:α→DataW Unit
 read:Value→Option (DataW Unit × List MemPlace)
 put:∀x,read (val x)=some (dat x,[])
 inv:∀v z,read v=some z→∃x,v=val x∧z=(dat x,[])
 inj:∀x y,dat x=dat y→x=y
 zero:α
 zrun:∀w,(zeroValue e).run P w=.ok (val zero) w
structure eX {P:Program} {e:TypeId} {α:Type} (C:xC P e α) (k:TypeId) (W:World) (b n:Nat) (f:Lit→Option α):Prop where
 ex:∃D:DataW Unit,W.ownsMap P k C.read b n D∧∀l,WideAt.IsKeyLit l→Maps.has D l=(f l).isSome∧∀x,f l=some x→∀z,D.atKey l z=C.dat x
section
variable {P:Program} {e k t:TypeId} {α:Type} {C:xC P e α} {W W':World} {b n:Nat} {f g:Lit→Option α}
theorem eX.lt (h:eX C k W b n f):b<W.heap.size:=let ⟨_,ho,_⟩:=h.ex;ho.lt
theorem eX.of_block (h:eX C k W b n f) (hb:W'.heap[b]? = W.heap[b]?):eX C k W' b n f:=by
 obtain ⟨D,⟨es,clock,h1,F,h2,h3⟩,hD⟩:=h.ex;exact ⟨D,⟨es,clock,hb.trans h1,F,h2,h3⟩,hD⟩
theorem eX.below (h:eX C k W b n f) {B:Nat} (hb:Below B W W') (hB:b<B):eX C k W' b n f:=h.of_block (hb.block b hB)
theorem eX.mono (h:eX C k W b n f) {n':Nat} (hn:n≤n'):eX C k W b n' f:=by
 obtain ⟨D,ho,hD⟩:=h.ex;exact ⟨D,ho.mono hn,hD⟩
theorem eX.congr (h:eX C k W b n f) (hfg:∀l,WideAt.IsKeyLit l→f l=g l):eX C k W b n g:=by
 obtain ⟨D,ho,hD⟩:=h.ex;exact ⟨D,ho,fun l hl=>by rw [←hfg l hl];exact hD l hl⟩
theorem eX.made (C:xC P e α) (k:TypeId) (W:World):eX C k (W.alloc (.map #[] 0)) W.heap.size 0 (fun _=>none) :=
 ⟨_,World.ownsMap_made W P k C.read,fun l _=>⟨rfl,fun x hx=>by cases hx⟩⟩
theorem eX.obj (h:eX C k W b n f):∃es clock,W.heap[b]? = some (.map es clock):=by
 obtain ⟨D,⟨es,clock,h1,_⟩,_⟩:=h.ex;exact ⟨es,clock,h1⟩
theorem eX.look_ok (h:eX C k W b n f) (K:Keyed P k) (ht:P.underlying t=some (.map k e)) {key:Value} {kl:Lit} (hkey:keyOf P k key=some kl) :
  (Instr.lookup t (.map (some b)) key true).run P W=.ok (.tuple #[C.val ((f kl).getD C.zero),.bool (f kl).isSome]) W:=by
 obtain ⟨D,ho,hD⟩:=h.ex;obtain ⟨h1,h2⟩:=hD kl (K.key hkey);obtain ⟨v,ps,hrun,hv⟩:=ho.look_ok K ht (C.zrun W) (C.put C.zero) hkey;rw [h1] at hrun;rw [hrun];obtain ⟨x,rfl,hx⟩:=C.inv _ _ hv;have hx1:=(Prod.mk.injEq _ _ _ _ ▸ hx).1
 suffices x=(f kl).getD C.zero by rw [this]
 cases hf:f kl with
 | none =>
  rw [hf] at h1;rw [Maps.atKey_of_not_has h1] at hx1;exact (C.inj _ _ hx1).symm
 | some y =>
  rw [h2 y hf] at hx1;exact (C.inj _ _ hx1).symm
theorem eX.look (h:eX C k W b n f) (K:Keyed P k) (ht:P.underlying t=some (.map k e)) {key:Value} {kl:Lit} (hkey:keyOf P k key=some kl) :
  (Instr.lookup t (.map (some b)) key false).run P W=.ok (C.val ((f kl).getD C.zero)) W:=by
 obtain ⟨D,ho,hD⟩:=h.ex;obtain ⟨h1,h2⟩:=hD kl (K.key hkey);obtain ⟨v,ps,hrun,hv⟩:=ho.lookup K ht (C.zrun W) (C.put C.zero) hkey;rw [hrun];obtain ⟨x,rfl,hx⟩:=C.inv _ _ hv;have hx1:=(Prod.mk.injEq _ _ _ _ ▸ hx).1
 suffices x=(f kl).getD C.zero by rw [this]
 cases hf:f kl with
 | none =>
  rw [hf] at h1;rw [Maps.atKey_of_not_has h1] at hx1;exact (C.inj _ _ hx1).symm
 | some y =>
  rw [h2 y hf] at hx1;exact (C.inj _ _ hx1).symm
theorem eX.look_nil (C:xC P e α) (W:World) (K:Keyed P k) (ht:P.underlying t=some (.map k e)) {key:Value} {kl:Lit} (hkey:keyOf P k key=some kl) :
  (Instr.lookup t (.map none) key true).run P W=.ok (.tuple #[C.val C.zero,.bool false]) W:=by
 have:=Maps.look_nil (w:=W) true K ht (C.zrun W) hkey
 simpa using this
def xN (f:Lit→Option α) (kl:Lit) (x:α) (l:Lit):Option α:=if l.sameKey kl=true then some x else f l
theorem eX.store (h:eX C k W b n f) (K:Keyed P k) (ht:P.underlying t=some (.map k e)) (hn:n<maxLen) {key:Value} {kl:Lit} (hkey:keyOf P k key=some kl) (x:α) :
  ∃w',(Instr.mapUpdate t (.map (some b)) key (C.val x)).run P W=.ok () w'∧eX C k w' b (n+1) (xN f kl x)∧W.mapTurned w' b:=by
 obtain ⟨D,ho,hD⟩:=h.ex;have him:=ho.isMap;have hk:=K.key hkey;obtain ⟨w',hrun,hown,hturn⟩:=ho.store K ht hn hkey (C.put x);refine ⟨w',hrun,⟨_,hown,fun l hl=>?_⟩,hturn⟩;unfold xN;by_cases hlk:l=kl
 ·subst hlk
  rw [if_pos (WideAt.sameKey_self hk)];exact ⟨Maps.has_put_same him hk _,fun y hy z=>by cases hy;exact Maps.atKey_put_same him hk _ z⟩
 ·rw [if_neg (fun h=>hlk (WideAt.sameKey_eq h))]
  obtain ⟨h1,h2⟩:=hD l hl;exact ⟨by rw [Maps.has_put_other hlk,h1],fun y hy z=>by rw [Maps.atKey_put_other hlk];exact h2 y hy z⟩
end
def lG (s:ByteArray):Lit:=.string s.data.toList
def jM {α:Type} (g:ByteArray→Option α):Lit→Option α
 | .string cs=>g ⟨cs.toArray⟩
 | _=>none
theorem gB {α:Type} (g:ByteArray→Option α) (s:ByteArray):jM g (lG s)=g s:=by
 show g ⟨s.data.toList.toArray⟩=g s;rw [Array.toArray_toList]
theorem Io {s t:ByteArray} (h:lG s=lG t):s=t:=by
 unfold lG at h;have h1:s.data.toList=t.data.toList:=by injection h
 have h2:s.data=t.data:=Array.toList_inj.1 h1;cases s;cases t;simp at h2;rw [h2]
theorem qO {α:Type} (g:ByteArray→Option α) (s:ByteArray) (x:α):xN (jM g) (lG s) x=jM (fun t=>if t=s then some x else g t):=by
 funext l
 unfold xN;by_cases h:l=lG s
 ·subst h;rw [if_pos (WideAt.sameKey_self (by trivial)),gB,if_pos rfl]
 ·rw [if_neg (fun e=>h (WideAt.sameKey_eq e))]
  cases l with
  | string cs =>
   show g ⟨cs.toArray⟩=if (⟨cs.toArray⟩:ByteArray)=s then some x else g ⟨cs.toArray⟩
   rw [if_neg];rintro rfl;exact h (by simp [lG])
  | _=>rfl
def qh {α:Type} (g:Int→Option α):Lit→Option α
 | .int .i64 n=>g n
 | _=>none
theorem yt {α:Type} (g:Int→Option α) (n:Int) (x:α):xN (qh g) (.int .i64 n) x=qh (fun m=>if m=n then some x else g m):=by
 funext l
 unfold xN;by_cases h:l=.int .i64 n
 ·subst h;rw [if_pos (WideAt.sameKey_self (by trivial))];simp [qh]
 ·rw [if_neg (fun e=>h (WideAt.sameKey_eq e))]
  unfold qh
  split
  ·rename_i m
   show g m=if m=n then some x else g m
   rw [if_neg];rintro rfl;exact h rfl
  ·rfl
end
end Go.Proofs.YtepacjkacjabbaaGreatDoor
namespace Go.Proofs.YtepacjkacjabbaaGreatDoor
section
open Go Go.RowKit
def dG (Tc:TypeId) {β:Type} (B:Nat) (I:β→World→Prop):Prop :=
 ∀s W W' row,I s W→W.grownBy W' row→(∀r,row=some r→B≤r∧∃o:Obj,W.heap[r]? = some o∧(o.isCells=false∨∃cs fr,o=.cells cs Tc fr))→I s W'
section
variable {Tc:TypeId} {β:Type} {B:Nat} {I:β→World→Prop}
theorem dG.putObj (h:dG Tc B I) {s:β} {W:World} {l:Nat} {o:Obj} (o':Obj) (hs:I s W) (hB:B≤l) (hl:W.heap[l]? = some o) (ho:o.isCells=false):I s (W.putObj l o') :=
 h s W _ (some l) hs (grownBy_putObj' W l o') (fun r e=>by cases e;exact ⟨hB,o,hl,.inl ho⟩)
theorem dG.alloc (h:dG Tc B I) {s:β} {W:World} (o:Obj) (hs:I s W):I s (W.alloc o) :=
 h s W _ none hs (World.grownBy_alloc W o none) (fun r e=>by cases e)
theorem dG.new (h:dG Tc B I) {s:β} {W W':World} (hs:I s W) (hb:Below W.heap.size W W'):I s W' :=
 h s W _ none hs ⟨hb.os,hb.tape,hb.output,hb.size,fun k hk _=>hb.block k hk⟩ (fun r e=>by cases e)
theorem dG.up (h:dG Tc B I) {C:Nat} (hBC:B≤C):dG Tc C I:=fun s W W' row hs hg hr=>h s W W' row hs hg (fun r e=>⟨by have:=(hr r e).1;omega,(hr r e).2⟩)
theorem dG.cell (h:dG Tc B I) {s:β} {W:World} {a:Addr} {cs:Array Value} {fr:Nat × Nat} (v:Value) (hs:I s W) (hB:B≤a.block) (hl:W.heap[a.block]? = some (.cells cs Tc fr)):I s (W.setCell a v) :=
 h s W _ (some a.block) hs ⟨rfl,rfl,rfl,by simp,fun k _ hk=>Below.heap_setCell _ _ _ k (fun e=>hk (by rw [e]))⟩ (fun r e=>by cases e;exact ⟨hB,_,hl,.inr ⟨cs,fr,rfl⟩⟩)
theorem dG.turned (h:dG Tc B I) {s:β} {W W':World} {b:Nat} (hs:I s W) (hB:B≤b) (ht:W.mapTurned W' b):I s W':=by
 obtain ⟨es,cl,es',cl',hb,e⟩:=id ht;exact h s W _ (some b) hs ht.grown (fun r e=>by cases e;exact ⟨hB,_,hb,.inl rfl⟩)
end
def Np {α:Type} (F:Fence) (n:Nat) (P:Program) (g:Nat) (lb:Array Value) (encs:α→Array Value) (T:TypeId→Bool) (Tc:TypeId) (n₀:Nat) (S Sp:List α→Prop) (N:Nat) (w:World):Prop :=
 ∀(l:Nat) (J Jx:List α→World→Prop) (W:World),Below w.heap.size w W→dG Tc W.heap.size J→dG Tc W.heap.size Jx →
  (∀pre x W1,J pre W1→pre.length<N→Sp (pre++[x])→YieldAt F (n - 1) P l (encs x) W1 fun e W' =>
   (e=.returned (.bool true)∧J (pre++[x]) W'∧ax T W.heap.size W1 W'∧Below n₀ W1 W')∨(e=.returned (.bool false)∧Jx (pre++[x]) W'∧ax T W.heap.size W1 W'∧Below n₀ W1 W')) →
  J [] W →
  CallsIn F n P g (#[.func (.yield l) #[] #[]]++lb) W fun e W'=>(∃v,e=.returned v)∧((∃xs,S xs∧J xs W')∨(∃pre,Sp pre∧Jx pre W'))
def MG {α:Type} (T:TypeId→Bool) (B n₀:Nat) (I:List α→World→Prop) (Ix:Code→List α→World→Prop) (xs:List α) (W:World):Exit→Act→World→Prop
 | .normal,_,W'=>ax T B W W'∧Below n₀ W W'∧I xs W'
 | .ret,_,W'=>ax T B W W'∧Below n₀ W W'∧Ix .ret xs W'
 | .exit id,_,W'=>ax T B W W'∧Below n₀ W W'∧Ix (.exit id) xs W'
 | .goto t,_,W'=>ax T B W W'∧Below n₀ W W'∧Ix (.goto t) xs W'
 | _,_,_=>False
variable {F:Fence} {n:Nat} {P:Program} {w:World}
end
end Go.Proofs.YtepacjkacjabbaaGreatDoor
