import Derived.Maps.OwnSet
import Derived.Maps.RangeWalk
import Derived.Below
import Derived.Lib.Hide
import Derived.Test.YtepacjkacjabbaaGreatDoorPAC
import Derived.Test.YtepacjkacjabbaaGreatDoorPAA
import Derived.Test.YtepacjkacjabbaaGreatDoorPAE
import Derived.Test.YtepacjkacjabbaaGreatDoorProg
import Derived.WalkKit
import Derived.Handy
import Derived.StringKeys
import Derived.Deep.WholeRow
import Derived.Laws.Tables
import Derived.Outline
import Derived.Test.YtepacjkacjabbaaGreatDoorPAH
import Derived.Test.YtepacjkacjabbaaGreatDoorPAG
namespace Go.Proofs.YtepacjkacjabbaaGreatDoor
section
open Go Go.RowKit Go.Maps
structure uB (P:Program) (e:TypeId) (α:Type) where
 val:α→Value
 dat:α→DataW Unit
 read:Value→Option (DataW Unit × List MemPlace)
 put:∀x,read (val x)=some (dat x,[])
 inv:∀v z,read v=some z→∃x,v=val x∧z=(dat x,[])
 inj:∀x y,dat x=dat y→x=y
 zero:α
 zrun:∀w,(zeroValue e).run P w=.ok (val zero) w
structure dn {P:Program} {e:TypeId} {α:Type} (C:uB P e α) (k:TypeId) (W:World) (b n:Nat) (f:Lit→Option α):Prop where
 ex:∃D:DataW Unit,W.ownsMap P k C.read b n D∧∀l,WideAt.IsKeyLit l→Maps.has D l=(f l).isSome∧∀x,f l=some x→∀z,D.atKey l z=C.dat x
section
variable {P:Program} {e k t:TypeId} {α:Type} {C:uB P e α} {W W':World} {b n:Nat} {f g:Lit→Option α}
theorem dn.lt (h:dn C k W b n f):b<W.heap.size:=let ⟨_,ho,_⟩:=h.ex;ho.lt
theorem dn.of_block (h:dn C k W b n f) (hb:W'.heap[b]? = W.heap[b]?):dn C k W' b n f:=by
 obtain ⟨D,⟨es,clock,h1,F,h2,h3⟩,hD⟩:=h.ex;exact ⟨D,⟨es,clock,hb.trans h1,F,h2,h3⟩,hD⟩
theorem dn.below (h:dn C k W b n f) {B:Nat} (hb:Below B W W') (hB:b<B):dn C k W' b n f:=h.of_block (hb.block b hB)
theorem dn.mono (h:dn C k W b n f) {n':Nat} (hn:n≤n'):dn C k W b n' f:=by
 obtain ⟨D,ho,hD⟩:=h.ex;exact ⟨D,ho.mono hn,hD⟩
theorem dn.congr (h:dn C k W b n f) (hfg:∀l,WideAt.IsKeyLit l→f l=g l):dn C k W b n g:=by
 obtain ⟨D,ho,hD⟩:=h.ex;exact ⟨D,ho,fun l hl=>by rw [←hfg l hl];exact hD l hl⟩
theorem dn.made (C:uB P e α) (k:TypeId) (W:World):dn C k (W.alloc (.map #[] 0)) W.heap.size 0 (fun _=>none) :=
 ⟨_,World.ownsMap_made W P k C.read,fun l _=>⟨rfl,fun x hx=>by cases hx⟩⟩
theorem dn.obj (h:dn C k W b n f):∃es clock,W.heap[b]? = some (.map es clock):=by
 obtain ⟨D,⟨es,clock,h1,_⟩,_⟩:=h.ex;exact ⟨es,clock,h1⟩
theorem dn.look_ok (h:dn C k W b n f) (K:Keyed P k) (ht:P.underlying t=some (.map k e)) {key:Value} {kl:Lit} (hkey:keyOf P k key=some kl) :
  (Instr.lookup t (.map (some b)) key true).run P W=.ok (.tuple #[C.val ((f kl).getD C.zero),.bool (f kl).isSome]) W:=by
 obtain ⟨D,ho,hD⟩:=h.ex;obtain ⟨h1,h2⟩:=hD kl (K.key hkey);obtain ⟨v,ps,hrun,hv⟩:=ho.look_ok K ht (C.zrun W) (C.put C.zero) hkey;rw [h1] at hrun;rw [hrun];obtain ⟨x,rfl,hx⟩:=C.inv _ _ hv;have hx1:=(Prod.mk.injEq _ _ _ _ ▸ hx).1
 suffices x=(f kl).getD C.zero by rw [this]
 cases hf:f kl with
 | none =>
  rw [hf] at h1;rw [Maps.atKey_of_not_has h1] at hx1;exact (C.inj _ _ hx1).symm
 | some y =>
  rw [h2 y hf] at hx1;exact (C.inj _ _ hx1).symm
theorem dn.look (h:dn C k W b n f) (K:Keyed P k) (ht:P.underlying t=some (.map k e)) {key:Value} {kl:Lit} (hkey:keyOf P k key=some kl) :
  (Instr.lookup t (.map (some b)) key false).run P W=.ok (C.val ((f kl).getD C.zero)) W:=by
 obtain ⟨D,ho,hD⟩:=h.ex;obtain ⟨h1,h2⟩:=hD kl (K.key hkey);obtain ⟨v,ps,hrun,hv⟩:=ho.lookup K ht (C.zrun W) (C.put C.zero) hkey;rw [hrun];obtain ⟨x,rfl,hx⟩:=C.inv _ _ hv;have hx1:=(Prod.mk.injEq _ _ _ _ ▸ hx).1
 suffices x=(f kl).getD C.zero by rw [this]
 cases hf:f kl with
 | none =>
  rw [hf] at h1;rw [Maps.atKey_of_not_has h1] at hx1;exact (C.inj _ _ hx1).symm
 | some y =>
  rw [h2 y hf] at hx1;exact (C.inj _ _ hx1).symm
theorem dn.look_nil (C:uB P e α) (W:World) (K:Keyed P k) (ht:P.underlying t=some (.map k e)) {key:Value} {kl:Lit} (hkey:keyOf P k key=some kl) :
  (Instr.lookup t (.map none) key true).run P W=.ok (.tuple #[C.val C.zero,.bool false]) W:=by
 have:=Maps.look_nil (w:=W) true K ht (C.zrun W) hkey
 simpa using this
def vV (f:Lit→Option α) (kl:Lit) (x:α) (l:Lit):Option α:=if l.sameKey kl=true then some x else f l
theorem dn.store (h:dn C k W b n f) (K:Keyed P k) (ht:P.underlying t=some (.map k e)) (hn:n<maxLen) {key:Value} {kl:Lit} (hkey:keyOf P k key=some kl) (x:α) :
  ∃w',(Instr.mapUpdate t (.map (some b)) key (C.val x)).run P W=.ok () w'∧dn C k w' b (n+1) (vV f kl x)∧W.mapTurned w' b:=by
 obtain ⟨D,ho,hD⟩:=h.ex;have him:=ho.isMap;have hk:=K.key hkey;obtain ⟨w',hrun,hown,hturn⟩:=ho.store K ht hn hkey (C.put x);refine ⟨w',hrun,⟨_,hown,fun l hl=>?_⟩,hturn⟩;unfold vV;by_cases hlk:l=kl
 ·subst hlk
  rw [if_pos (WideAt.sameKey_self hk)];exact ⟨Maps.has_put_same him hk _,fun y hy z=>by cases hy;exact Maps.atKey_put_same him hk _ z⟩
 ·rw [if_neg (fun h=>hlk (WideAt.sameKey_eq h))]
  obtain ⟨h1,h2⟩:=hD l hl;exact ⟨by rw [Maps.has_put_other hlk,h1],fun y hy z=>by rw [Maps.atKey_put_other hlk];exact h2 y hy z⟩
end
def jX (s:ByteArray):Lit:=.string s.data.toList
def iT {α:Type} (g:ByteArray→Option α):Lit→Option α
 | .string cs=>g ⟨cs.toArray⟩
 | _=>none
theorem eP {α:Type} (g:ByteArray→Option α) (s:ByteArray):iT g (jX s)=g s:=by
 show g ⟨s.data.toList.toArray⟩=g s;rw [Array.toArray_toList]
theorem IU {s t:ByteArray} (h:jX s=jX t):s=t:=by
 unfold jX at h;have h1:s.data.toList=t.data.toList:=by injection h
 have h2:s.data=t.data:=Array.toList_inj.1 h1;cases s;cases t;simp at h2;rw [h2]
theorem oP {α:Type} (g:ByteArray→Option α) (s:ByteArray) (x:α):vV (iT g) (jX s) x=iT (fun t=>if t=s then some x else g t):=by
 funext l
 unfold vV;by_cases h:l=jX s
 ·subst h;rw [if_pos (WideAt.sameKey_self (by trivial)),eP,if_pos rfl]
 ·rw [if_neg (fun e=>h (WideAt.sameKey_eq e))]
  cases l with
  | string cs =>
   show g ⟨cs.toArray⟩=if (⟨cs.toArray⟩:ByteArray)=s then some x else g ⟨cs.toArray⟩
   rw [if_neg];rintro rfl;exact h (by simp [jX])
  | _=>rfl
def oh {α:Type} (g:Int→Option α):Lit→Option α
 | .int .i64 n=>g n
 | _=>none
theorem vW {α:Type} (g:Int→Option α) (n:Int) (x:α):vV (oh g) (.int .i64 n) x=oh (fun m=>if m=n then some x else g m):=by
 funext l
 unfold vV;by_cases h:l=.int .i64 n
 ·subst h;rw [if_pos (WideAt.sameKey_self (by trivial))];simp [oh]
 ·rw [if_neg (fun e=>h (WideAt.sameKey_eq e))]
  unfold oh
  split
  ·rename_i m
   show g m=if m=n then some x else g m
   rw [if_neg];rintro rfl;exact h rfl
  ·rfl
end
section
open Go Go.RowKit
def bN (Tc:TypeId) {β:Type} (B:Nat) (I:β→World→Prop):Prop :=
 ∀s W W' row,I s W→W.grownBy W' row→(∀r,row=some r→B≤r∧∃o:Obj,W.heap[r]? = some o∧(o.isCells=false∨∃cs fr,o=.cells cs Tc fr))→I s W'
section
variable {Tc:TypeId} {β:Type} {B:Nat} {I:β→World→Prop}
theorem bN.putObj (h:bN Tc B I) {s:β} {W:World} {l:Nat} {o:Obj} (o':Obj) (hs:I s W) (hB:B≤l) (hl:W.heap[l]? = some o) (ho:o.isCells=false):I s (W.putObj l o') :=
 h s W _ (some l) hs (grownBy_putObj' W l o') (fun r e=>by cases e;exact ⟨hB,o,hl,.inl ho⟩)
theorem bN.alloc (h:bN Tc B I) {s:β} {W:World} (o:Obj) (hs:I s W):I s (W.alloc o) :=
 h s W _ none hs (World.grownBy_alloc W o none) (fun r e=>by cases e)
theorem bN.new (h:bN Tc B I) {s:β} {W W':World} (hs:I s W) (hb:Below W.heap.size W W'):I s W' :=
 h s W _ none hs ⟨hb.os,hb.tape,hb.output,hb.size,fun k hk _=>hb.block k hk⟩ (fun r e=>by cases e)
theorem bN.up (h:bN Tc B I) {C:Nat} (hBC:B≤C):bN Tc C I:=fun s W W' row hs hg hr=>h s W W' row hs hg (fun r e=>⟨by have:=(hr r e).1;omega,(hr r e).2⟩)
theorem bN.cell (h:bN Tc B I) {s:β} {W:World} {a:Addr} {cs:Array Value} {fr:Nat × Nat} (v:Value) (hs:I s W) (hB:B≤a.block) (hl:W.heap[a.block]? = some (.cells cs Tc fr)):I s (W.setCell a v) :=
 h s W _ (some a.block) hs ⟨rfl,rfl,rfl,by simp,fun k _ hk=>Below.heap_setCell _ _ _ k (fun e=>hk (by rw [e]))⟩ (fun r e=>by cases e;exact ⟨hB,_,hl,.inr ⟨cs,fr,rfl⟩⟩)
theorem bN.turned (h:bN Tc B I) {s:β} {W W':World} {b:Nat} (hs:I s W) (hB:B≤b) (ht:W.mapTurned W' b):I s W':=by
 obtain ⟨es,cl,es',cl',hb,e⟩:=id ht;exact h s W _ (some b) hs ht.grown (fun r e=>by cases e;exact ⟨hB,_,hb,.inl rfl⟩)
end
def Ma {α:Type} (F:Fence) (n:Nat) (P:Program) (g:Nat) (lb:Array Value) (encs:α→Array Value) (T:TypeId→Bool) (Tc:TypeId) (n₀:Nat) (S Sp:List α→Prop) (N:Nat) (w:World):Prop :=
 ∀(l:Nat) (J Jx:List α→World→Prop) (W:World),Below w.heap.size w W→bN Tc W.heap.size J→bN Tc W.heap.size Jx →
  (∀pre x W1,J pre W1→pre.length<N→Sp (pre++[x])→YieldAt F (n - 1) P l (encs x) W1 fun e W' =>
   (e=.returned (.bool true)∧J (pre++[x]) W'∧ax T W.heap.size W1 W'∧Below n₀ W1 W')∨(e=.returned (.bool false)∧Jx (pre++[x]) W'∧ax T W.heap.size W1 W'∧Below n₀ W1 W')) →
  J [] W →
  CallsIn F n P g (#[.func (.yield l) #[] #[]]++lb) W fun e W'=>(∃v,e=.returned v)∧((∃xs,S xs∧J xs W')∨(∃pre,Sp pre∧Jx pre W'))
def K5 {α:Type} (T:TypeId→Bool) (B n₀:Nat) (I:List α→World→Prop) (Ix:Code→List α→World→Prop) (xs:List α) (W:World):Exit→Act→World→Prop
 | .normal,_,W'=>ax T B W W'∧Below n₀ W W'∧I xs W'
 | .ret,_,W'=>ax T B W W'∧Below n₀ W W'∧Ix .ret xs W'
 | .exit id,_,W'=>ax T B W W'∧Below n₀ W W'∧Ix (.exit id) xs W'
 | .goto t,_,W'=>ax T B W W'∧Below n₀ W W'∧Ix (.goto t) xs W'
 | _,_,_=>False
variable {F:Fence} {n:Nat} {P:Program} {w:World}
end
section
open Go Go.RowKit Go.Maps
def IE:Value→Option (DataW Unit × List MemPlace)
 | .agg cs=>match cs.toList with
  | [.int .u8 a,.int .i64 b]=>some (.agg [.lit (.int .u8 a),.lit (.int .i64 b)],[])
  | _=>none
 | _=>none
def fA.val (x:fA):Value:=.agg #[.int .u8 x.kind,.int .i64 x.width]
def Ci:uB Tryz.prog 264 fA where
 val:=fA.val
 dat x:=.agg [.lit (.int .u8 x.kind),.lit (.int .i64 x.width)]
 read:=IE
 put _:=rfl
 inv v z h:=by
  unfold IE at h
  split at h
  ·rename_i cs
   split at h
   ·rename_i a b he
    cases h
    refine ⟨⟨a,b⟩,?_,rfl⟩;have:cs=#[.int .u8 a,.int .i64 b]:=by rw [←Array.toList_inj];exact he
    rw [this];rfl
   ·cases h
  ·cases h
 inj x y h:=by cases x;cases y;simp at h;simp [h]
 zero:=⟨0,0⟩
 zrun w:=by kernel_rfl
def K7:Value→Option (DataW Unit × List MemPlace)
 | .int .i64 a=>some (.lit (.int .i64 a),[])
 | _=>none
def tY:uB Tryz.prog 3 Int where
 val x:=.int .i64 x
 dat x:=.lit (.int .i64 x)
 read:=K7
 put _:=rfl
 inv v z h:=by
  unfold K7 at h
  split at h
  ·rename_i a
   cases h
   exact ⟨a,rfl,rfl⟩
  ·cases h
 inj x y h:=by simpa using h
 zero:=0
 zrun w:=by kernel_rfl
theorem qf:Keyed Tryz.prog 9:=string_keyed Tryz.underlying9
theorem KE:Keyed Tryz.prog 3:=int_keyed Tryz.underlying3
theorem tV {s:ByteArray} (h:s.size≤maxLen):keyOf Tryz.prog 9 (.string s)=some (jX s):=Go.WideMaps.keyOf_string_mk Tryz.underlying9 h
theorem LB {a:Int} (h:(Lit.int .i64 a).wf=true):keyOf Tryz.prog 3 (.int .i64 a)=some (.int .i64 a):=keyOf_int_mk Tryz.underlying3 h
structure gp where
 q:Nat
 p:af
 n₀:Nat
 B:Nat
 yv:Value
 mt:Nat
 mp:Nat
def gp.cells (K:gp) (pm:Option Nat) (E:Env) (n:Int) (over:Bool):Array Value :=
 #[.int .i64 K.p.blocks,.int .i64 K.p.width,.slice K.p.is.at_ K.p.inputs.length K.p.is.cap,.slice K.p.gs.at_ K.p.ghosts.length K.p.gs.cap,.slice K.p.vs.at_ K.p.vars.length K.p.vs.cap,.slice K.p.as.at_ K.p.arrays.length K.p.as.cap,.int .u8 K.p.require.kind,.int .u8 K.p.require.op,.int .u32 K.p.require.value,.int .i64 K.p.require.width,.string K.p.require.name,.slice K.p.require.sp.at_ K.p.require.subs.length K.p.require.sp.cap,.slice K.p.ns.at_ K.p.inits.length K.p.ns.cap,.slice K.p.rs.at_ K.p.procs.length K.p.rs.cap,.slice K.p.ws.at_ K.p.work.length K.p.ws.cap,.slice K.p.cs.at_ K.p.recover.length K.p.cs.cap,.int .u8 K.p.invariant.kind,.int .u8 K.p.invariant.op,.int .u32 K.p.invariant.value,.int .i64 K.p.invariant.width,.string K.p.invariant.name,.slice K.p.invariant.sp.at_ K.p.invariant.subs.length K.p.invariant.sp.cap,
  .map (some K.mt),.map (some K.mp),.map pm,.int .i64 E.within,.int .i64 n,.int .i64 0,K.yv,.bool over]
def pR (K:gp) (E:Env) (W:World):Option Nat→Prop
 | none=>E.params=[]
 | some m=>K.B≤m∧∃n,dn Ci 9 W m n (iT (look E.params))
structure jv (K:gp) (pm:Option Nat) (E:Env) (n:Int) (over:Bool) (W:World):Prop where
 box:W.heap[K.q]? = some (.cells (K.cells pm E n over) 246 (0,0))
 params:pR K E W pm
 things:∃n,dn Ci 9 W K.mt n (iT (look (fO K.p)))
 procs:∃n,dn tY 9 W K.mp n (iT (look (cz K.p)))
 prog:jW K.n₀ W K.p
 n0:K.n₀≤K.B
 q:K.B≤K.q
 mt:K.B≤K.mt
 mp:K.B≤K.mp
theorem pR.stays {K:gp} {E:Env} {W W':World} {pm:Option Nat} (h:pR K E W pm) (hk:∀k o,K.B≤k→W.heap[k]? = some o→o.isCells=false→W'.heap[k]? = some o):pR K E W' pm:=by
 cases pm with
 | none=>exact h
 | some m =>
  obtain ⟨h1,n,h2⟩:=h;obtain ⟨es,cl,h3⟩:=h2.obj;exact ⟨h1,n,h2.of_block ((hk m _ h1 h3 rfl).trans h3.symm)⟩
theorem jI {P:Program} {e:TypeId} {α:Type} {C:uB P e α} {t:TypeId} {B m:Nat} {f:Lit→Option α} {W W':World} (h:∃n,dn C t W m n f) (hB:B≤m) (hk:∀k o,B≤k→W.heap[k]? = some o→o.isCells=false→W'.heap[k]? = some o):∃n,dn C t W' m n f:=by
 obtain ⟨n,h2⟩:=h;obtain ⟨es,cl,h3⟩:=h2.obj;exact ⟨n,h2.of_block ((hk m _ hB h3 rfl).trans h3.symm)⟩
def TK (t:TypeId):Bool:=t == 246 || t == 35 || t == 30 || t == 43 || t == 50 || t == 54 || t == 149
structure bg (K:gp) (W W':World):Prop where
 size:W.heap.size≤W'.heap.size
 same:∀(k:Nat) (o:Obj),K.B≤k→W.heap[k]? = some o→o.isCells=false→W'.heap[k]? = some o
 cells:∀(k:Nat) (cs:Array Value) (t:TypeId) (fr:Nat × Nat),W.heap[k]? = some (.cells cs t fr)→TK t=true→k≠K.q→W'.heap[k]? = some (.cells cs t fr)
 low:Below K.n₀ W W'
section
variable {K:gp} {W W' W'':World}
theorem bg.refl (K:gp) (W:World):bg K W W:=⟨Nat.le_refl _,fun _ _ _ h _=>h,fun _ _ _ _ h _ _=>h,Below.refl _ _⟩
theorem bg.trans (h:bg K W W') (k:bg K W' W''):bg K W W'' :=
 ⟨Nat.le_trans h.size k.size,fun i o hB hi ho=>k.same i o hB (h.same i o hB hi ho) ho,fun i cs t fr hi ht hq=>k.cells i cs t fr (h.cells i cs t fr hi ht hq) ht hq,h.low.trans k.low⟩
theorem bg.of_below (h:Below W.heap.size W W') (hn:K.n₀≤W.heap.size):bg K W W' :=
 ⟨h.size,fun k _ _ hk _=>(h.block k (zgs hk).1).trans hk,fun k _ _ _ hk _ _=>(h.block k (zgs hk).1).trans hk,h.mono hn⟩
theorem bg.of_keeps (h:ax TK K.B W W') (hl:Below K.n₀ W W'):bg K W W':=⟨h.size,h.same,fun k cs t fr hk ht _=>h.cells k cs t fr hk ht,hl⟩
theorem bg.set {cs:Array Value} {t:TypeId} {fr:Nat × Nat} {i:Nat} (hb:W.heap[K.q]? = some (.cells cs t fr)) (hn:K.n₀≤K.q) (v:Value):bg K W (W.setCell ⟨K.q,i,none⟩ v) :=
 ⟨by simp,fun k o _ hk ho=>(Below.heap_setCell _ _ _ k (fun e=>by simp only at e;subst e;rw [hb] at hk;cases hk;cases ho)).trans hk,
  fun k cs' t' fr' hk _ hq=>(Below.heap_setCell _ _ _ k (fun e=>hq e)).trans hk,(Below.refl _ _).setCell hn _⟩
end
theorem jv.stays {K:gp} {pm:Option Nat} {E:Env} {n:Int} {over:Bool} {W W':World} (h:jv K pm E n over W) (hk:bg K W W') {n':Int} {over':Bool}
  (hb:W'.heap[K.q]? = some (.cells (K.cells pm E n' over') 246 (0,0))):jv K pm E n' over' W' :=
 ⟨hb,h.params.stays hk.same,jI h.things h.mt hk.same,jI h.procs h.mp hk.same,h.prog.below hk.low,h.n0,h.q,h.mt,h.mp⟩
theorem jv.lt {K:gp} {pm:Option Nat} {E:Env} {n:Int} {over:Bool} {W:World} (h:jv K pm E n over W):K.q<W.heap.size:=(zgs h.box).1
theorem jv.new {K:gp} {pm:Option Nat} {E:Env} {n:Int} {over:Bool} {W W':World} (h:jv K pm E n over W) (hb:Below W.heap.size W W'):jv K pm E n over W' :=
 h.stays (.of_below hb (by have:=h.lt;have:=h.q;have:=h.n0;omega)) ((hb.block _ h.lt).trans h.box)
def kg (J Jx:List (Int × Int)→World→Prop) (cs:List Int) (over:Bool) (W:World):Prop :=
 (over=false∧J (fq cs 0) W)∨(over=true∧∃l,l≠[]∧l <+: fq cs 0∧Jx l W)
structure iU (K:gp) (J Jx:List (Int × Int)→World→Prop) (pm:Option Nat) (E:Env) (cs:List Int) (W:World):Prop where
 ex:∃over,jv K pm E cs.length over W∧kg J Jx cs over W
structure Told (K:gp) (J Jx:List (Int × Int)→World→Prop) (pm:Option Nat) (E:Env) (cs:List Int) (W W':World):Prop where
 st:iU K J Jx pm E cs W'
 keeps:bg K W W'
def j6 (K:gp) (J Jx:List (Int × Int)→World→Prop):Prop :=
 ∀(pm:Option Nat) (E:Env) (cs:List Int) (W:World) (c:Int),iU K J Jx pm E cs W→cs.length<1000000 →
  Calls Tryz.prog 228 #[.pointer (some ⟨K.q,0,none⟩),.int .i64 c] W fun o W'=>o=.returned (.tuple #[])∧Told K J Jx pm E (cs++[c]) W W'
theorem iU.new {K:gp} {J Jx:List (Int × Int)→World→Prop} {pm:Option Nat} {E:Env} {cs:List Int} {W W':World} (h:iU K J Jx pm E cs W)
  (hJ:bN 246 K.B J) (hJx:bN 246 K.B Jx) (hb:Below W.heap.size W W'):iU K J Jx pm E cs W':=by
 obtain ⟨over,h1,h2⟩:=h.ex;refine ⟨over,h1.new hb,?_⟩;rcases h2 with ⟨e,h2⟩ | ⟨e,l,h3,h4,h5⟩
 ·exact .inl ⟨e,hJ.new h2 hb⟩
 ·exact .inr ⟨e,l,h3,h4,hJx.new h5 hb⟩
end
section
open Go Go.RowKit
theorem bT (n:Int) (w:World):Calls Tryz.prog 254 #[.int .i64 n] w fun o w'=>o=.returned (.bool (bG n))∧w=w':=by
 by_cases h1:1≤n
 ·by_cases h2:n≤16
  ·have e:bG n=true:=decide_eq_true ⟨h1,h2⟩
   rw [e];go_enter Tryz.func254,Tryz.ntmps254
   go_wp2
   go_ret
   exact ⟨by simp,rfl⟩
  ·have e:bG n=false:=decide_eq_false (fun h=>h2 h.2)
   rw [e];go_enter Tryz.func254,Tryz.ntmps254
   go_wp2
   go_ret
   exact ⟨by simp,rfl⟩
 ·have e:bG n=false:=decide_eq_false (fun h=>h1 h.1)
  rw [e];go_enter Tryz.func254,Tryz.ntmps254
  go_wp2
  go_ret
  exact ⟨by simp,rfl⟩
theorem iy (a b:Int) (w:World):Calls Tryz.prog 229 #[.int .i64 a,.int .i64 b] w fun o w'=>o=.returned (.bool (dV a b))∧w=w':=by
 have HA:=zhd (bT a w);have HB:=zhd (bT b w);have hd:dV a b=(bG a && bG b && decide (a≠b)):=rfl;rw [hd];clear hd;cases h1:bG a with
 | false =>
  rw [h1] at HA;clear h1 HB;go_enter Tryz.func229,Tryz.ntmps229
  go_wp2_with fail
  refine HA.out.mono ?_;rintro o w1 ⟨rfl,rfl⟩;go_wp2_with fail
  go_ret
  exact ⟨by simp,rfl⟩
 | true =>
  rw [h1] at HA;clear h1;cases h2:bG b with
  | false =>
   rw [h2] at HB;clear h2;go_enter Tryz.func229,Tryz.ntmps229
   go_wp2_with fail
   refine HA.out.mono ?_;rintro o w1 ⟨rfl,rfl⟩;go_wp2_with fail
   refine HB.out.mono ?_;rintro o w2 ⟨rfl,rfl⟩;go_wp2_with fail
   go_ret
   exact ⟨by simp,rfl⟩
  | true =>
   rw [h2] at HB;clear h2;go_enter Tryz.func229,Tryz.ntmps229
   go_wp2_with fail
   refine HA.out.mono ?_;rintro o w1 ⟨rfl,rfl⟩;go_wp2_with fail
   refine HB.out.mono ?_;rintro o w2 ⟨rfl,rfl⟩;go_wp2_with fail
   go_ret
   exact ⟨by simp [bne,BEq.beq],rfl⟩
theorem Bj (n:Int) (w:World):Calls Tryz.prog 257 #[.int .i64 n] w fun o w'=>o=.returned (.tuple #[.int .u32 (qh n),.int .i64 (nY n)])∧w=w':=by
 by_cases h:1≤n∧n≤16
 ·rcases (show n=1∨n=2∨n=3∨n=4∨n=5∨n=6∨n=7∨n=8∨n=9∨n=10∨n=11∨n=12∨n=13∨n=14∨n=15∨n=16 by omega) with rfl | rfl | rfl | rfl | rfl | rfl | rfl | rfl | rfl | rfl | rfl | rfl | rfl | rfl | rfl | rfl
  all_goals
   clear h;go_enter Tryz.func257,Tryz.ntmps257
   go_wp2
   go_returns
   exact ⟨by kernel_rfl,rfl⟩
 ·have e1:qh n=0:=if_neg (by simp [bG];omega)
  have e2:nY n=220:=if_neg (by simp [bG];omega);rw [e1,e2];clear e1 e2;by_cases h1:n<1
  ·have hd:decide (n<1)=true:=decide_eq_true h1
   clear h h1;go_enter Tryz.func257,Tryz.ntmps257
   go_wp2
   go_returns
   exact ⟨rfl,rfl⟩
  ·have hd:decide (n<1)=false:=decide_eq_false h1
   have hd2:decide (16<n)=true:=decide_eq_true (by omega);clear h h1;go_enter Tryz.func257,Tryz.ntmps257
   go_wp2
   go_returns
   exact ⟨rfl,rfl⟩
end
section
open Go Go.RowKit Go.Maps
theorem jv.cell {K:gp} {pm:Option Nat} {E:Env} {n:Int} {over:Bool} {W:World} (h:jv K pm E n over W) (i:Nat) (v:Value) (hv:(K.cells pm E n over)[i]? = some v):W.cell? ⟨K.q,i,none⟩=some v:=by
 simp [World.cell?,h.box,hv]
theorem jv.frozen {K:gp} {pm:Option Nat} {E:Env} {n:Int} {over:Bool} {W:World} (h:jv K pm E n over W) (i:Nat):W.frozen? ⟨K.q,i,none⟩=false:=by
 simp [World.frozen?,h.box]
section
variable {K:gp} {pm:Option Nat} {E:Env} {n:Int} {over:Bool} {W:World}
theorem jv.c1 (h:jv K pm E n over W):W.cell? ⟨K.q,1,none⟩=some (.int .i64 K.p.width):=h.cell 1 _ rfl
theorem jv.c13 (h:jv K pm E n over W):W.cell? ⟨K.q,13,none⟩=some (.slice K.p.rs.at_ K.p.procs.length K.p.rs.cap):=h.cell 13 _ rfl
theorem jv.c22 (h:jv K pm E n over W):W.cell? ⟨K.q,22,none⟩=some (.map (some K.mt)):=h.cell 22 _ rfl
theorem jv.c23 (h:jv K pm E n over W):W.cell? ⟨K.q,23,none⟩=some (.map (some K.mp)):=h.cell 23 _ rfl
theorem jv.c24 (h:jv K pm E n over W):W.cell? ⟨K.q,24,none⟩=some (.map pm):=h.cell 24 _ rfl
theorem jv.c25 (h:jv K pm E n over W):W.cell? ⟨K.q,25,none⟩=some (.int .i64 E.within):=h.cell 25 _ rfl
theorem jv.c26 (h:jv K pm E n over W):W.cell? ⟨K.q,26,none⟩=some (.int .i64 n):=h.cell 26 _ rfl
theorem jv.c28 (h:jv K pm E n over W):W.cell? ⟨K.q,28,none⟩=some K.yv:=h.cell 28 _ rfl
theorem jv.c29 (h:jv K pm E n over W):W.cell? ⟨K.q,29,none⟩=some (.bool over):=h.cell 29 _ rfl
end
theorem jv.lookP {K:gp} {pm:Option Nat} {E:Env} {n:Int} {over:Bool} {W:World} (h:jv K pm E n over W) {s:ByteArray} (hs:s.size≤maxLen) :
  (Instr.lookup 244 (.map pm) (.string s) true).run Tryz.prog W=.ok (.tuple #[.agg #[.int .u8 ((look E.params s).getD ⟨0,0⟩).kind,.int .i64 ((look E.params s).getD ⟨0,0⟩).width],.bool (look E.params s).isSome]) W:=by
 cases pm with
 | none =>
  have e:look E.params s=none:=by rw [show E.params=[] from h.params];rfl
  rw [e];exact dn.look_nil Ci W qf Tryz.underlying244 (tV hs)
 | some m =>
  obtain ⟨_,k,hm⟩:=h.params;have:=hm.look_ok qf Tryz.underlying244 (tV hs);rw [eP] at this;exact this
theorem jv.lookT {K:gp} {pm:Option Nat} {E:Env} {n:Int} {over:Bool} {W:World} (h:jv K pm E n over W) {s:ByteArray} (hs:s.size≤maxLen) :
  (Instr.lookup 244 (.map (some K.mt)) (.string s) false).run Tryz.prog W=.ok (.agg #[.int .u8 ((look (fO K.p) s).getD ⟨0,0⟩).kind,.int .i64 ((look (fO K.p) s).getD ⟨0,0⟩).width]) W:=by
 obtain ⟨k,hm⟩:=h.things;have:=hm.look qf Tryz.underlying244 (tV hs);rw [eP] at this;exact this
set_option maxRecDepth 1000000 in
theorem qa {K:gp} {pm:Option Nat} {E:Env} {n:Int} {over:Bool} (w:World) (h:jv K pm E n over w) (s:ByteArray) (hs:s.size≤maxLen) :
  Calls Tryz.prog 256 #[.pointer (some ⟨K.q,0,none⟩),.string s] w fun o w'=>o=.returned (.agg #[.int .u8 (aJ K.p E s).kind,.int .i64 (aJ K.p E s).width])∧Below w.heap.size w w':=by
 have hb1:=zba w (.cells #[.int .u8 0,.int .i64 0] 264);have h1:=h.new hb1;have c24:=h1.c24;have l24:=h1.lookP hs;cases hl:look E.params s with
 | some x =>
  have hf:aJ K.p E s=x:=by unfold aJ;rw [hl]
  rw [hf];rw [hl] at l24;simp only [Option.getD_some,Option.isSome_some] at l24;clear hf hl hb1 h1 h;go_enter Tryz.func256,Tryz.ntmps256
  go_wp2
  go_returns
  exact ⟨rfl,((Below.refl _ _).alloc (Nat.le_refl _) _).alloc (by simp) _⟩
 | none =>
  have hf:aJ K.p E s=(look (fO K.p) s).getD ⟨0,0⟩:=by unfold aJ;rw [hl]
  rw [hl] at l24;simp only [Option.getD_none,Option.isSome_none] at l24;have hb2:Below w.heap.size w ((w.alloc (.cells #[.int .u8 0,.int .i64 0] 264)).alloc (.cells #[.int .u8 0,.int .i64 0] 264)):=hb1.alloc (Nat.le_of_lt (by simp)) _;have h2:=h.new hb2;have c22:=h2.c22;have l22:=h2.lookT hs;rw [←hf] at l22;generalize aJ K.p E s=y at *;clear hf hl hb1 h1 h h2 hb2;go_enter Tryz.func256,Tryz.ntmps256
  go_wp2
  go_returns
  exact ⟨rfl,((Below.refl _ _).alloc (Nat.le_refl _) _).alloc (by simp) _⟩
set_option maxRecDepth 1000000 in
theorem rz {K:gp} {pm:Option Nat} {E:Env} {n:Int} {over:Bool} (w:World) (h:jv K pm E n over w) (small large:Int) :
  Calls Tryz.prog 253 #[.pointer (some ⟨K.q,0,none⟩),.int .i64 small,.int .i64 large] w fun o w'=>o=.returned (.int .i64 (dx K.p small large))∧w=w':=by
 have c13:=h.c13;have hl:=h.prog.prow.few;clear h;by_cases hp:0<K.p.procs.length
 ·have e:dx K.p small large=small:=if_pos hp
  rw [e];have hd:decide (0<K.p.procs.length)=true:=decide_eq_true hp;clear e hp;go_enter Tryz.func253,Tryz.ntmps253
  go_wp2
  go_ret
  exact ⟨rfl,rfl⟩
 ·have e:dx K.p small large=large:=if_neg hp
  rw [e];have hd:decide (0<K.p.procs.length)=false:=decide_eq_false hp;clear e hp;go_enter Tryz.func253,Tryz.ntmps253
  go_wp2
  go_ret
  exact ⟨rfl,rfl⟩
end
section
open Go Go.RowKit
def aZ:Array Value:=#[.string ⟨#[]⟩,.int .i64 0,.bool false,.nilFunc,
  .string ⟨#[126]⟩,.int .i64 0,.bool false,.func (.func 282) #[] #[],
  .string ⟨#[45]⟩,.int .i64 0,.bool false,.func (.func 283) #[] #[],
  .string ⟨#[43]⟩,.int .i64 5,.bool false,.func (.func 284) #[] #[],
  .string ⟨#[45]⟩,.int .i64 5,.bool false,.func (.func 285) #[] #[],
  .string ⟨#[42]⟩,.int .i64 6,.bool false,.func (.func 286) #[] #[],
  .string ⟨#[47]⟩,.int .i64 6,.bool false,.func (.func 287) #[] #[],
  .string ⟨#[37]⟩,.int .i64 6,.bool false,.func (.func 288) #[] #[],
  .string ⟨#[38]⟩,.int .i64 2,.bool false,.func (.func 289) #[] #[],
  .string ⟨#[124]⟩,.int .i64 1,.bool false,.func (.func 290) #[] #[],
  .string ⟨#[94]⟩,.int .i64 1,.bool false,.func (.func 291) #[] #[],
  .string ⟨#[60,60]⟩,.int .i64 4,.bool false,.func (.func 292) #[] #[],
  .string ⟨#[62,62]⟩,.int .i64 4,.bool false,.func (.func 293) #[] #[],
  .string ⟨#[61,61]⟩,.int .i64 3,.bool true,.func (.func 294) #[] #[],
  .string ⟨#[33,61]⟩,.int .i64 3,.bool true,.func (.func 296) #[] #[],
  .string ⟨#[60]⟩,.int .i64 3,.bool true,.func (.func 297) #[] #[],
  .string ⟨#[60,61]⟩,.int .i64 3,.bool true,.func (.func 298) #[] #[]]
def J5:Array Value:=#[.string ⟨#[]⟩,.int .i64 0,.bool false,.nilFunc,.string ⟨#[]⟩,.int .i64 0,.bool false,.nilFunc,.string ⟨#[]⟩,.int .i64 0,.bool false,.nilFunc,.string ⟨#[]⟩,.int .i64 0,.bool false,.nilFunc,.string ⟨#[]⟩,.int .i64 0,.bool false,.nilFunc,.string ⟨#[]⟩,.int .i64 0,.bool false,.nilFunc,.string ⟨#[]⟩,.int .i64 0,.bool false,.nilFunc,.string ⟨#[]⟩,.int .i64 0,.bool false,.nilFunc,.string ⟨#[]⟩,.int .i64 0,.bool false,.nilFunc,.string ⟨#[]⟩,.int .i64 0,.bool false,.nilFunc,.string ⟨#[]⟩,.int .i64 0,.bool false,.nilFunc,.string ⟨#[]⟩,.int .i64 0,.bool false,.nilFunc,.string ⟨#[]⟩,.int .i64 0,.bool false,.nilFunc,.string ⟨#[]⟩,.int .i64 0,.bool false,.nilFunc,.string ⟨#[]⟩,.int .i64 0,.bool false,.nilFunc,.string ⟨#[]⟩,.int .i64 0,.bool false,.nilFunc,.string ⟨#[]⟩,.int .i64 0,.bool false,.nilFunc]
theorem qE:(Tryz.prog.info? 311).map (·.size)=some aZ.size:=by kernel_rfl
theorem F7:Tryz.prog.underlying 311=some (.array 17 310):=by kernel_rfl
theorem zN:aZ.all (·.oneCell')=true:=by kernel_rfl
section
variable {P:Program} {ops:Array Oper} {Q:Exit→Act→World→Prop} {a:Act} {w w':World} {rest:List Oper} {o:Oper}
theorem D5 {v:Value} (hg:o.guard=none) (h:(execOp a.eval o).run P w=.ok (.value v) w') (k:wpList P ops Q rest (a.put o.dst v) w'):wpList P ops Q (o::rest) a w :=
 wpList_plain hg fun K hK=>by unfold Oper.wp;rw [h];exact hK _ _ k
theorem tK (hg:o.guard=none) (h:(execOp a.eval o).run P w=.ok .skip w') (k:wpList P ops Q rest (a.put o.dst undef) w'):wpList P ops Q (o::rest) a w :=
 wpList_plain hg fun K hK=>by unfold Oper.wp;rw [h];exact hK _ _ k
theorem fU {t:TypeId} {c c':Array Value} (hg:o.guard=none) (x v:Operand) (ho:o.op=.store t x v) (hx:a.eval x=.pointer (some ⟨w.heap.size,0,none⟩)) (hv:a.eval v=.agg c')
  (hi:(P.info? t).map (·.size)=some c'.size) (hs:c.size=c'.size) (h1:c'.all (·.oneCell')=true) (k:wpList P ops Q rest (a.put o.dst undef) (w.alloc (.cells c' t))):wpList P ops Q (o::rest) a (w.alloc (.cells c t)) :=
 tK hg (by simp only [execOp,ho,hx,hv,Sem.run_bind,run_storeAt_new w t c c' hi hs h1];rfl) k
theorem aO {t:TypeId} {z:Array Value} (hg:o.guard=none) (ho:o.op=.alloc t) (hz:(zeroValue t).run P w=.ok (.agg z) w) (k:wpList P ops Q rest (a.put o.dst (.pointer (some ⟨w.heap.size,0,none⟩))) (w.alloc (.cells z t))):wpList P ops Q (o::rest) a w :=
 D5 hg (by simp [execOp,ho,Sem.run_bind,Instr.alloc,hz,go_sem,Value.cells]) k
theorem wpList_build (hg:o.guard=none) (t:TypeId) (parts:Array (Nat × Operand)) (ho:o.op=.build t parts) (cells:Array Value)
  (h:P.built t (parts.map fun (i,x)=>(i,a.eval x)).toList=some cells) (k:wpList P ops Q rest (a.put o.dst (.agg cells)) w):wpList P ops Q (o::rest) a w :=
 wpList_plain hg fun K hK=>wp_build t parts ho (by rw [h];rfl) (hK _ _ (by rw [h];exact k))
end
theorem mM (w:World):(zeroValue 311).run Tryz.prog w=.ok (.agg J5) w:=(zero_of_info (n:=68) (by kernel_rfl)).1 w
set_option maxRecDepth 1000000 in
set_option maxHeartbeats 4000000 in
theorem nJ (w:World):Calls Tryz.prog 275 #[] w fun o w'=>o=.returned (.agg aZ)∧w'=w.alloc (.cells aZ 311):=by
 go_enter Tryz.func275,Tryz.ntmps275
 go_wp2_with (first
  | (refine aO (t:=311) rfl rfl (mM _) ?_)
  | (refine wpList_build rfl 311 _ rfl aZ (by kernel_rfl) ?_)
  | (refine fU (t:=311) rfl _ _ rfl rfl rfl qE (by kernel_rfl) zN ?_)
  | fail)
 exact bodyPost_ret (v:=.agg aZ) (results_cell_row rfl _ _ w.heap.size _ aZ (0,0) _ rfl (heap_alloc_last w _) F7 rfl qE) rfl ⟨rfl,rfl⟩
end
section
open Go Go.RowKit Go.Maps
section
variable {P:Program} {ops:Array Oper} {Q:Exit→Act→World→Prop} {a:Act} {w:World} {rest:List Oper} {o:Oper}
theorem rH (w:World) (g off:Nat) (ty:TypeId) (cs:Array Value) (d:TypeDesc) (hc:∀(j:Nat) (v:Value),cs.toList[j]? = some v→w.cell? ⟨g,off+j,none⟩=some v)
  (hu:P.underlying ty=some d) (hd:(match d with | .struct _ | .array _ _=>true | _=>false)=true) (hi:(P.info? ty).map (·.size)=some cs.size) :
  (loadVar ty ⟨g,off,none⟩).run P w=.ok (.agg cs) w:=by
 have hl:(loadCells ⟨g,off,none⟩ cs.toList.length).run P w=.ok cs.toList.toArray w :=
  run_loadCells_list (P:=P) w ⟨g,off,none⟩ cs.toList (fun j v hv=>by
   have hadd:(⟨g,off,none⟩:Addr).add j=⟨g,off+j,none⟩:=by unfold Addr.add;split <;> simp_all
   rw [hadd];exact hc j v hv)
 cases hq:P.info? ty with
 | none=>simp [hq] at hi
 | some i =>
  have hs:i.size=cs.size:=by simpa [hq] using hi
  have hagg:(isAgg ty).run P w=.ok true w:=by
   unfold isAgg;rw [Sem.run_bind,run_underlying hu w];cases d <;> simp_all
  simp only [Array.length_toList,Array.toArray_toList] at hl;simp [loadVar,Sem.run_bind,hagg,sizeOf,typeInfo,hq,hs,hl]
theorem kQ (hgd:o.guard=none) (ty:TypeId) (x:Operand) (ho:o.op=.load ty x) (g off:Nat) (hx:a.eval x=.pointer (some ⟨g,off,none⟩)) (cs:Array Value) (d:TypeDesc)
  (hc:∀(j:Nat) (v:Value),cs.toList[j]? = some v→w.cell? ⟨g,off+j,none⟩=some v)
  (hu:P.underlying ty=some d) (hd:(match d with | .struct _ | .array _ _=>true | _=>false)=true) (hi:(P.info? ty).map (·.size)=some cs.size)
  (h:wpList P ops Q rest (a.put o.dst (.agg cs)) w):wpList P ops Q (o::rest) a w :=
 wpList_plain hgd fun K hK=>by
  unfold Oper.wp execOp;simp only [ho,hx,Instr.loadAt,Instr.sureAddr,Sem.run_bind,Sem.run_pure,Result.andThen_ok,rH w g off ty cs d hc hu hd hi];exact hK _ _ h
end
def af.arr (p:af):Array Value:=p.cells.toArray
theorem aN (p:af):(Tryz.prog.info? 35).map (·.size)=some p.arr.size:=by kernel_rfl
theorem ut (p:af):p.val=.agg p.arr:=rfl
theorem jv.prog_part {K:gp} {pm:Option Nat} {E:Env} {n:Int} {over:Bool} {W:World} (h:jv K pm E n over W):∀(j:Nat) (v:Value),K.p.arr.toList[j]? = some v→W.cell? ⟨K.q,0+j,none⟩=some v:=by
 intro j v hv;refine h.cell (0+j) v ?_;have hj:j<22:=(List.getElem?_eq_some_iff.1 hv).1;rw [Nat.zero_add];have e:(K.cells pm E n over)[j]? = K.p.arr.toList[j]? := by
  rcases (show j=0∨j=1∨j=2∨j=3∨j=4∨j=5∨j=6∨j=7∨j=8∨j=9∨j=10∨j=11∨j=12∨j=13∨j=14∨j=15∨j=16∨j=17∨j=18∨j=19∨j=20∨j=21 by omega) with rfl | rfl | rfl | rfl | rfl | rfl | rfl | rfl | rfl | rfl | rfl | rfl | rfl | rfl | rfl | rfl | rfl | rfl | rfl | rfl | rfl | rfl <;> rfl
 rw [e];exact hv
end
section
open Go Go.RowKit
def Bx (s0:Nat) (w:World) (p:af):Prop:=w.heap[s0]? = some (.cells p.arr 35 (0,0))
def Mk (s0:Nat) (w w':World):Prop:=Below w.heap.size (mask s0 w) (mask s0 w')
section
variable {s0 lo:Nat} {w w' w2:World} {p q:af}
theorem Mk.refl:Mk s0 w w:=Below.refl _ _
theorem Mk.size (h:Mk s0 w w'):w.heap.size≤w'.heap.size:=kL h
theorem Mk.trans (h:Mk s0 w w') (h2:Mk s0 w' w2):Mk s0 w w2:=Below.trans h (Below.mono h2 h.size)
theorem Mk.of (h:Below w.heap.size w w') (hs:s0<w.heap.size):Mk s0 w w':=gF hs h
theorem Mk.set (_:s0<w.heap.size) (i:Nat) (v:Value):Mk s0 w (w.setCell ⟨s0,i,none⟩ v):=by
 unfold Mk;rw [jF];exact Below.refl _ _
theorem Mk.below (h:Mk s0 w w') {n:Nat} (hn:n≤s0) (hs:s0<w.heap.size):Below n w w':=lQ hn (Below.mono h (by omega))
theorem Mk.heap (h:Mk s0 w w') {b:Nat} (hb:b≠s0) (hl:b<w.heap.size):w'.heap[b]? = w.heap[b]? := by
 have:=Below.block h b hl
 rwa [bP hb,bP hb] at this
theorem Mk.cell (h:Mk s0 w w') {a:Addr} (hb:a.block≠s0) (hl:a.block<w.heap.size):w'.cell? a=w.cell? a:=World.cell?_of_block (h.heap hb hl)
theorem Bx.cell (h:Bx s0 w p) (i:Nat) {v:Value} (hi:p.cells[i]? = some v):w.cell? ⟨s0,i,none⟩=some v:=by
 have hh:w.heap[s0]? = _:=h;simp [World.cell?,hh,af.arr,hi]
theorem Bx.on (h:Bx s0 w p) (hb:Below w.heap.size w w'):Bx s0 w' p:=(hb.block s0 (zgs h).1).trans h
theorem Bx.lt (h:Bx s0 w p):s0<w.heap.size:=(zgs h).1
theorem Bx.put (h:Bx s0 w p) (i:Nat) (v:Value) (hq:q.arr=p.arr.setIfInBounds i v):Bx s0 (w.setCell ⟨s0,i,none⟩ v) q:=by
 have hh:w.heap[s0]? = _:=h;unfold Bx;simp [World.setCell,Array.getElem?_modify,hh,hq]
theorem Bx.free (h:Bx s0 w p) (i:Nat):w.frozen? ⟨s0,i,none⟩=false:=by
 have:w.heap[s0]? = _:=h;simp [World.frozen?,this]
theorem NewRow.on {α:Type} {k:Nat} {enc:α→List Value} {sp:Sp} {l:List α} (h:RowOf w.heap.size (dK lo w) sp k enc l) (hm:Mk s0 w w') (hs:s0<lo):RowOf w'.heap.size (dK lo w') sp k enc l :=
 (h.cells (lw hm hs)).more hm.size
def Jn (lo:Nat) (b:Bool) (w:World) (e e1:ae):Prop:=(b=true→av e1=av e∧gM lo w e1)∧(b=false→e1=e)
theorem Jn.on {b:Bool} {e e1:ae} (h:Jn lo b w e e1) (hm:Mk s0 w w') (hs:s0<lo):Jn lo b w' e e1:=⟨fun hb=>⟨(h.1 hb).1,(h.1 hb).2.on hm hs⟩,h.2⟩
theorem Jn.off {e:ae}:Jn lo false w e e:=⟨fun h=>(by cases h),fun _=>rfl⟩
def Jl (lo:Nat) (b:Bool) (w:World) (sp:Sp) (l:List aa) (sp1:Sp) (l1:List aa):Prop:=(b=true→l1.map ah=l.map ah∧bQ lo w sp1 l1)∧(b=false→sp1=sp∧l1=l)
theorem Jl.on {b:Bool} {sp sp1:Sp} {l l1:List aa} (h:Jl lo b w sp l sp1 l1) (hm:Mk s0 w w') (hs:s0<lo):Jl lo b w' sp l sp1 l1:=⟨fun hb=>⟨(h.1 hb).1,(h.1 hb).2.on hm hs⟩,h.2⟩
theorem Jl.off {sp:Sp} {l:List aa}:Jl lo false w sp l sp l:=⟨fun h=>(by cases h),fun _=>⟨rfl,rfl⟩⟩
def zZ {α:Type} (B:Nat) (ty:TypeId) (k:Nat) (enc:α→List Value) (b:Bool) (w:World) (sp sp1:Sp) (l:List α):Prop:=(b=true→aI B w ty k enc (.slice sp1.at_ l.length sp1.cap) l)∧(b=false→sp1=sp)
theorem aI.onM {α:Type} {B:Nat} {ty:TypeId} {k:Nat} {enc:α→List Value} {v:Value} {l:List α} (h:aI B w ty k enc v l) (hm:Mk s0 w w') (hs:s0<B):aI B w' ty k enc v l :=
 h.kept fun g _ _ hg hh=>hm.heap (by omega) (zgs hh).1
theorem zZ.on {α:Type} {B:Nat} {ty:TypeId} {k:Nat} {enc:α→List Value} {b:Bool} {sp sp1:Sp} {l:List α} (h:zZ B ty k enc b w sp sp1 l) (hm:Mk s0 w w') (hs:s0<B):zZ B ty k enc b w' sp sp1 l:=⟨fun hb=>(h.1 hb).onM hm hs,h.2⟩
theorem zZ.off {α:Type} {B:Nat} {ty:TypeId} {k:Nat} {enc:α→List Value} {sp:Sp} {l:List α}:zZ B ty k enc false w sp sp l:=⟨fun h=>(by cases h),fun _=>rfl⟩
theorem Mk.six (_:s0<w.heap.size) (o:Nat) (v0 v1 v2 v3 v4 v5:Value):Mk s0 w (six w s0 o v0 v1 v2 v3 v4 v5):=by
 unfold Mk Go.Proofs.YtepacjkacjabbaaGreatDoor.six;simp only [jF];exact Below.refl _ _
theorem Bx.six (h:Bx s0 w p) (o:Nat) (v0 v1 v2 v3 v4 v5:Value) (hq:q.arr=(((((p.arr.setIfInBounds o v0).setIfInBounds (o+1) v1).setIfInBounds (o+2) v2).setIfInBounds (o+3) v3).setIfInBounds (o+4) v4).setIfInBounds (o+5) v5):Bx s0 (six w s0 o v0 v1 v2 v3 v4 v5) q:=by
 have hh:w.heap[s0]? = _:=h;unfold Bx Go.Proofs.YtepacjkacjabbaaGreatDoor.six;simp [World.setCell,Array.getElem?_modify,hh,hq]
end
end
end Go.Proofs.YtepacjkacjabbaaGreatDoor
