import Derived.Test.YtepacjkacjabbaaGreatDoorWAA
import Derived.Test.YtepacjkacjabbaaGreatDoorWAE
import Derived.Test.YtepacjkacjabbaaGreatDoorWAH
import Derived.Test.YtepacjkacjabbaaGreatDoorProg
import Derived.WalkKit
import Derived.Handy
import Derived.StringKeys
import Derived.Lib.Hide
import Derived.Deep.CutBlock
import Derived.Deep.CutRange
import Derived.Deep.WholeRow
import Derived.Laws.Tables
import Derived.Outline
namespace Go.Proofs.YtepacjkacjabbaaGreatDoor
section
open Go Go.RowKit Go.Maps
def IR:Value→Option (DataW Unit × List MemPlace)
 | .agg cs=>match cs.toList with
  | [.int .u8 a,.int .i64 b]=>some (.agg [.lit (.int .u8 a),.lit (.int .i64 b)],[])
  | _=>none
 | _=>none
def cK.val (x:cK):Value:=.agg #[.int .u8 x.kind,.int .i64 x.width]
def Di:xC Tryz.prog 264 cK where
 val:=cK.val
 dat x:=.agg [.lit (.int .u8 x.kind),.lit (.int .i64 x.width)]
 read:=IR
 put _:=rfl
 inv v z h:=by
  unfold IR at h
  split at h
  ·rename_i cs
   split at h
   ·rename_i a b he
    cases h
    refine ⟨⟨a,b⟩,?_,rfl⟩;have:cs=#[.int .u8 a,.int .i64 b]:=by rw [←Array.toList_inj];exact he
    rw [this];rfl
   ·cases h
  ·cases h
 inj x y h:=by cases x;cases y;simp at h;simp [h]
 zero:=⟨0,0⟩
 zrun w:=by kernel_rfl
def MJ:Value→Option (DataW Unit × List MemPlace)
 | .int .i64 a=>some (.lit (.int .i64 a),[])
 | _=>none
def vN:xC Tryz.prog 3 Int where
 val x:=.int .i64 x
 dat x:=.lit (.int .i64 x)
 read:=MJ
 put _:=rfl
 inv v z h:=by
  unfold MJ at h
  split at h
  ·rename_i a
   cases h
   exact ⟨a,rfl,rfl⟩
  ·cases h
 inj x y h:=by simpa using h
 zero:=0
 zrun w:=by kernel_rfl
theorem rU:Keyed Tryz.prog 9:=string_keyed Tryz.underlying9
theorem LY:Keyed Tryz.prog 3:=int_keyed Tryz.underlying3
theorem vO {s:ByteArray} (h:s.size≤maxLen):keyOf Tryz.prog 9 (.string s)=some (lG s):=Go.WideMaps.keyOf_string_mk Tryz.underlying9 h
theorem M4 {a:Int} (h:(Lit.int .i64 a).wf=true):keyOf Tryz.prog 3 (.int .i64 a)=some (.int .i64 a):=keyOf_int_mk Tryz.underlying3 h
structure iA where
 q:Nat
 p:af
 n₀:Nat
 B:Nat
 yv:Value
 mt:Nat
 mp:Nat
def iA.cells (K:iA) (pm:Option Nat) (E:Env) (n:Int) (over:Bool):Array Value :=
 #[.int .i64 K.p.blocks,.int .i64 K.p.width,.slice K.p.is.at_ K.p.inputs.length K.p.is.cap,.slice K.p.gs.at_ K.p.ghosts.length K.p.gs.cap,.slice K.p.vs.at_ K.p.vars.length K.p.vs.cap,.slice K.p.as.at_ K.p.arrays.length K.p.as.cap,.int .u8 K.p.require.kind,.int .u8 K.p.require.op,.int .u32 K.p.require.value,.int .i64 K.p.require.width,.string K.p.require.name,.slice K.p.require.sp.at_ K.p.require.subs.length K.p.require.sp.cap,.slice K.p.ns.at_ K.p.inits.length K.p.ns.cap,.slice K.p.rs.at_ K.p.procs.length K.p.rs.cap,.slice K.p.ws.at_ K.p.work.length K.p.ws.cap,.slice K.p.cs.at_ K.p.recover.length K.p.cs.cap,.int .u8 K.p.invariant.kind,.int .u8 K.p.invariant.op,.int .u32 K.p.invariant.value,.int .i64 K.p.invariant.width,.string K.p.invariant.name,.slice K.p.invariant.sp.at_ K.p.invariant.subs.length K.p.invariant.sp.cap,
  .map (some K.mt),.map (some K.mp),.map pm,.int .i64 E.within,.int .i64 n,.int .i64 0,K.yv,.bool over]
def sU (K:iA) (E:Env) (W:World):Option Nat→Prop
 | none=>E.params=[]
 | some m=>K.B≤m∧∃n,eX Di 9 W m n (jM (look E.params))
structure kC (K:iA) (pm:Option Nat) (E:Env) (n:Int) (over:Bool) (W:World):Prop where
 box:W.heap[K.q]? = some (.cells (K.cells pm E n over) 246 (0,0))
 params:sU K E W pm
 things:∃n,eX Di 9 W K.mt n (jM (look (fO K.p)))
 procs:∃n,eX vN 9 W K.mp n (jM (look (dI K.p)))
 prog:fe K.n₀ W K.p
 n0:K.n₀≤K.B
 q:K.B≤K.q
 mt:K.B≤K.mt
 mp:K.B≤K.mp
theorem sU.stays {K:iA} {E:Env} {W W':World} {pm:Option Nat} (h:sU K E W pm) (hk:∀k o,K.B≤k→W.heap[k]? = some o→o.isCells=false→W'.heap[k]? = some o):sU K E W' pm:=by
 cases pm with
 | none=>exact h
 | some m =>
  obtain ⟨h1,n,h2⟩:=h;obtain ⟨es,cl,h3⟩:=h2.obj;exact ⟨h1,n,h2.of_block ((hk m _ h1 h3 rfl).trans h3.symm)⟩
theorem kQ {P:Program} {e:TypeId} {α:Type} {C:xC P e α} {t:TypeId} {B m:Nat} {f:Lit→Option α} {W W':World} (h:∃n,eX C t W m n f) (hB:B≤m) (hk:∀k o,B≤k→W.heap[k]? = some o→o.isCells=false→W'.heap[k]? = some o):∃n,eX C t W' m n f:=by
 obtain ⟨n,h2⟩:=h;obtain ⟨es,cl,h3⟩:=h2.obj;exact ⟨n,h2.of_block ((hk m _ hB h3 rfl).trans h3.symm)⟩
def TK (t:TypeId):Bool:=t == 246 || t == 35 || t == 30 || t == 43 || t == 50 || t == 54 || t == 149
structure bO (K:iA) (W W':World):Prop where
 size:W.heap.size≤W'.heap.size
 same:∀(k:Nat) (o:Obj),K.B≤k→W.heap[k]? = some o→o.isCells=false→W'.heap[k]? = some o
 cells:∀(k:Nat) (cs:Array Value) (t:TypeId) (fr:Nat × Nat),W.heap[k]? = some (.cells cs t fr)→TK t=true→k≠K.q→W'.heap[k]? = some (.cells cs t fr)
 low:Below K.n₀ W W'
section
variable {K:iA} {W W' W'':World}
theorem bO.refl (K:iA) (W:World):bO K W W:=⟨Nat.le_refl _,fun _ _ _ h _=>h,fun _ _ _ _ h _ _=>h,Below.refl _ _⟩
theorem bO.trans (h:bO K W W') (k:bO K W' W''):bO K W W'' :=
 ⟨Nat.le_trans h.size k.size,fun i o hB hi ho=>k.same i o hB (h.same i o hB hi ho) ho,fun i cs t fr hi ht hq=>k.cells i cs t fr (h.cells i cs t fr hi ht hq) ht hq,h.low.trans k.low⟩
theorem bO.of_below (h:Below W.heap.size W W') (hn:K.n₀≤W.heap.size):bO K W W' :=
 ⟨h.size,fun k _ _ hk _=>(h.block k (zgs hk).1).trans hk,fun k _ _ _ hk _ _=>(h.block k (zgs hk).1).trans hk,h.mono hn⟩
theorem bO.of_keeps (h:ax TK K.B W W') (hl:Below K.n₀ W W'):bO K W W':=⟨h.size,h.same,fun k cs t fr hk ht _=>h.cells k cs t fr hk ht,hl⟩
theorem bO.set {cs:Array Value} {t:TypeId} {fr:Nat × Nat} {i:Nat} (hb:W.heap[K.q]? = some (.cells cs t fr)) (hn:K.n₀≤K.q) (v:Value):bO K W (W.setCell ⟨K.q,i,none⟩ v) :=
 ⟨by simp,fun k o _ hk ho=>(Below.heap_setCell _ _ _ k (fun e=>by simp only at e;subst e;rw [hb] at hk;cases hk;cases ho)).trans hk,
  fun k cs' t' fr' hk _ hq=>(Below.heap_setCell _ _ _ k (fun e=>hq e)).trans hk,(Below.refl _ _).setCell hn _⟩
end
theorem kC.stays {K:iA} {pm:Option Nat} {E:Env} {n:Int} {over:Bool} {W W':World} (h:kC K pm E n over W) (hk:bO K W W') {n':Int} {over':Bool}
  (hb:W'.heap[K.q]? = some (.cells (K.cells pm E n' over') 246 (0,0))):kC K pm E n' over' W' :=
 ⟨hb,h.params.stays hk.same,kQ h.things h.mt hk.same,kQ h.procs h.mp hk.same,h.prog.below hk.low,h.n0,h.q,h.mt,h.mp⟩
theorem kC.lt {K:iA} {pm:Option Nat} {E:Env} {n:Int} {over:Bool} {W:World} (h:kC K pm E n over W):K.q<W.heap.size:=(zgs h.box).1
theorem kC.new {K:iA} {pm:Option Nat} {E:Env} {n:Int} {over:Bool} {W W':World} (h:kC K pm E n over W) (hb:Below W.heap.size W W'):kC K pm E n over W' :=
 h.stays (.of_below hb (by have:=h.lt;have:=h.q;have:=h.n0;omega)) ((hb.block _ h.lt).trans h.box)
def lT (J Jx:List (Int × Int)→World→Prop) (cs:List Int) (over:Bool) (W:World):Prop :=
 (over=false∧J (fU cs 0) W)∨(over=true∧∃l,l≠[]∧l <+: fU cs 0∧Jx l W)
structure jO (K:iA) (J Jx:List (Int × Int)→World→Prop) (pm:Option Nat) (E:Env) (cs:List Int) (W:World):Prop where
 ex:∃over,kC K pm E cs.length over W∧lT J Jx cs over W
structure Told (K:iA) (J Jx:List (Int × Int)→World→Prop) (pm:Option Nat) (E:Env) (cs:List Int) (W W':World):Prop where
 st:jO K J Jx pm E cs W'
 keeps:bO K W W'
def lM (K:iA) (J Jx:List (Int × Int)→World→Prop):Prop :=
 ∀(pm:Option Nat) (E:Env) (cs:List Int) (W:World) (c:Int),jO K J Jx pm E cs W→cs.length<1000000 →
  Calls Tryz.prog 228 #[.pointer (some ⟨K.q,0,none⟩),.int .i64 c] W fun o W'=>o=.returned (.tuple #[])∧Told K J Jx pm E (cs++[c]) W W'
theorem jO.new {K:iA} {J Jx:List (Int × Int)→World→Prop} {pm:Option Nat} {E:Env} {cs:List Int} {W W':World} (h:jO K J Jx pm E cs W)
  (hJ:dG 246 K.B J) (hJx:dG 246 K.B Jx) (hb:Below W.heap.size W W'):jO K J Jx pm E cs W':=by
 obtain ⟨over,h1,h2⟩:=h.ex;refine ⟨over,h1.new hb,?_⟩;rcases h2 with ⟨e,h2⟩ | ⟨e,l,h3,h4,h5⟩
 ·exact .inl ⟨e,hJ.new h2 hb⟩
 ·exact .inr ⟨e,l,h3,h4,hJx.new h5 hb⟩
end
section
open Go Go.RowKit
theorem dS (n:Int) (w:World):Calls Tryz.prog 254 #[.int .i64 n] w fun o w'=>o=.returned (.bool (bQ n))∧w=w':=by
 by_cases h1:1≤n
 ·by_cases h2:n≤16
  ·have e:bQ n=true:=decide_eq_true ⟨h1,h2⟩
   rw [e];go_enter Tryz.func254,Tryz.ntmps254
   go_wp2
   go_ret
   exact ⟨by simp,rfl⟩
  ·have e:bQ n=false:=decide_eq_false (fun h=>h2 h.2)
   rw [e];go_enter Tryz.func254,Tryz.ntmps254
   go_wp2
   go_ret
   exact ⟨by simp,rfl⟩
 ·have e:bQ n=false:=decide_eq_false (fun h=>h1 h.1)
  rw [e];go_enter Tryz.func254,Tryz.ntmps254
  go_wp2
  go_ret
  exact ⟨by simp,rfl⟩
theorem jc (a b:Int) (w:World):Calls Tryz.prog 229 #[.int .i64 a,.int .i64 b] w fun o w'=>o=.returned (.bool (dE a b))∧w=w':=by
 have HA:=zhd (dS a w);have HB:=zhd (dS b w);have hd:dE a b=(bQ a && bQ b && decide (a≠b)):=rfl;rw [hd];clear hd;cases h1:bQ a with
 | false =>
  rw [h1] at HA;clear h1 HB;go_enter Tryz.func229,Tryz.ntmps229
  go_wp2_with fail
  refine HA.out.mono ?_;rintro o w1 ⟨rfl,rfl⟩;go_wp2_with fail
  go_ret
  exact ⟨by simp,rfl⟩
 | true =>
  rw [h1] at HA;clear h1;cases h2:bQ b with
  | false =>
   rw [h2] at HB;clear h2;go_enter Tryz.func229,Tryz.ntmps229
   go_wp2_with fail
   refine HA.out.mono ?_;rintro o w1 ⟨rfl,rfl⟩;go_wp2_with fail
   refine HB.out.mono ?_;rintro o w2 ⟨rfl,rfl⟩;go_wp2_with fail
   go_ret
   exact ⟨by simp,rfl⟩
  | true =>
   rw [h2] at HB;clear h2;go_enter Tryz.func229,Tryz.ntmps229
   go_wp2_with fail
   refine HA.out.mono ?_;rintro o w1 ⟨rfl,rfl⟩;go_wp2_with fail
   refine HB.out.mono ?_;rintro o w2 ⟨rfl,rfl⟩;go_wp2_with fail
   go_ret
   exact ⟨by simp [bne,BEq.beq],rfl⟩
theorem BI (n:Int) (w:World):Calls Tryz.prog 257 #[.int .i64 n] w fun o w'=>o=.returned (.tuple #[.int .u32 (oh n),.int .i64 (qd n)])∧w=w':=by
 by_cases h:1≤n∧n≤16
 ·rcases (show n=1∨n=2∨n=3∨n=4∨n=5∨n=6∨n=7∨n=8∨n=9∨n=10∨n=11∨n=12∨n=13∨n=14∨n=15∨n=16 by omega) with rfl | rfl | rfl | rfl | rfl | rfl | rfl | rfl | rfl | rfl | rfl | rfl | rfl | rfl | rfl | rfl
  all_goals
   clear h;go_enter Tryz.func257,Tryz.ntmps257
   go_wp2
   go_returns
   exact ⟨by kernel_rfl,rfl⟩
 ·have e1:oh n=0:=if_neg (by simp [bQ];omega)
  have e2:qd n=220:=if_neg (by simp [bQ];omega);rw [e1,e2];clear e1 e2;by_cases h1:n<1
  ·have hd:decide (n<1)=true:=decide_eq_true h1
   clear h h1;go_enter Tryz.func257,Tryz.ntmps257
   go_wp2
   go_returns
   exact ⟨rfl,rfl⟩
  ·have hd:decide (n<1)=false:=decide_eq_false h1
   have hd2:decide (16<n)=true:=decide_eq_true (by omega);clear h h1;go_enter Tryz.func257,Tryz.ntmps257
   go_wp2
   go_returns
   exact ⟨rfl,rfl⟩
end
section
open Go Go.RowKit Go.Maps
theorem kC.cell {K:iA} {pm:Option Nat} {E:Env} {n:Int} {over:Bool} {W:World} (h:kC K pm E n over W) (i:Nat) (v:Value) (hv:(K.cells pm E n over)[i]? = some v):W.cell? ⟨K.q,i,none⟩=some v:=by
 simp [World.cell?,h.box,hv]
theorem kC.frozen {K:iA} {pm:Option Nat} {E:Env} {n:Int} {over:Bool} {W:World} (h:kC K pm E n over W) (i:Nat):W.frozen? ⟨K.q,i,none⟩=false:=by
 simp [World.frozen?,h.box]
section
variable {K:iA} {pm:Option Nat} {E:Env} {n:Int} {over:Bool} {W:World}
theorem kC.c1 (h:kC K pm E n over W):W.cell? ⟨K.q,1,none⟩=some (.int .i64 K.p.width):=h.cell 1 _ rfl
theorem kC.c13 (h:kC K pm E n over W):W.cell? ⟨K.q,13,none⟩=some (.slice K.p.rs.at_ K.p.procs.length K.p.rs.cap):=h.cell 13 _ rfl
theorem kC.c22 (h:kC K pm E n over W):W.cell? ⟨K.q,22,none⟩=some (.map (some K.mt)):=h.cell 22 _ rfl
theorem kC.c23 (h:kC K pm E n over W):W.cell? ⟨K.q,23,none⟩=some (.map (some K.mp)):=h.cell 23 _ rfl
theorem kC.c24 (h:kC K pm E n over W):W.cell? ⟨K.q,24,none⟩=some (.map pm):=h.cell 24 _ rfl
theorem kC.c25 (h:kC K pm E n over W):W.cell? ⟨K.q,25,none⟩=some (.int .i64 E.within):=h.cell 25 _ rfl
theorem kC.c26 (h:kC K pm E n over W):W.cell? ⟨K.q,26,none⟩=some (.int .i64 n):=h.cell 26 _ rfl
theorem kC.c28 (h:kC K pm E n over W):W.cell? ⟨K.q,28,none⟩=some K.yv:=h.cell 28 _ rfl
theorem kC.c29 (h:kC K pm E n over W):W.cell? ⟨K.q,29,none⟩=some (.bool over):=h.cell 29 _ rfl
end
theorem kC.lookP {K:iA} {pm:Option Nat} {E:Env} {n:Int} {over:Bool} {W:World} (h:kC K pm E n over W) {s:ByteArray} (hs:s.size≤maxLen) :
  (Instr.lookup 244 (.map pm) (.string s) true).run Tryz.prog W=.ok (.tuple #[.agg #[.int .u8 ((look E.params s).getD ⟨0,0⟩).kind,.int .i64 ((look E.params s).getD ⟨0,0⟩).width],.bool (look E.params s).isSome]) W:=by
 cases pm with
 | none =>
  have e:look E.params s=none:=by rw [show E.params=[] from h.params];rfl
  rw [e];exact eX.look_nil Di W rU Tryz.underlying244 (vO hs)
 | some m =>
  obtain ⟨_,k,hm⟩:=h.params;have:=hm.look_ok rU Tryz.underlying244 (vO hs);rw [gB] at this;exact this
theorem kC.lookT {K:iA} {pm:Option Nat} {E:Env} {n:Int} {over:Bool} {W:World} (h:kC K pm E n over W) {s:ByteArray} (hs:s.size≤maxLen) :
  (Instr.lookup 244 (.map (some K.mt)) (.string s) false).run Tryz.prog W=.ok (.agg #[.int .u8 ((look (fO K.p) s).getD ⟨0,0⟩).kind,.int .i64 ((look (fO K.p) s).getD ⟨0,0⟩).width]) W:=by
 obtain ⟨k,hm⟩:=h.things;have:=hm.look rU Tryz.underlying244 (vO hs);rw [gB] at this;exact this
set_option maxRecDepth 1000000 in
theorem rE {K:iA} {pm:Option Nat} {E:Env} {n:Int} {over:Bool} (w:World) (h:kC K pm E n over w) (s:ByteArray) (hs:s.size≤maxLen) :
  Calls Tryz.prog 256 #[.pointer (some ⟨K.q,0,none⟩),.string s] w fun o w'=>o=.returned (.agg #[.int .u8 (aJ K.p E s).kind,.int .i64 (aJ K.p E s).width])∧Below w.heap.size w w':=by
 have hb1:=zba w (.cells #[.int .u8 0,.int .i64 0] 264);have h1:=h.new hb1;have c24:=h1.c24;have l24:=h1.lookP hs;cases hl:look E.params s with
 | some x =>
  have hf:aJ K.p E s=x:=by unfold aJ;rw [hl]
  rw [hf];rw [hl] at l24;simp only [Option.getD_some,Option.isSome_some] at l24;clear hf hl hb1 h1 h;go_enter Tryz.func256,Tryz.ntmps256
  go_wp2
  go_returns
  exact ⟨rfl,((Below.refl _ _).alloc (Nat.le_refl _) _).alloc (by simp) _⟩
 | none =>
  have hf:aJ K.p E s=(look (fO K.p) s).getD ⟨0,0⟩:=by unfold aJ;rw [hl]
  rw [hl] at l24;simp only [Option.getD_none,Option.isSome_none] at l24;have hb2:Below w.heap.size w ((w.alloc (.cells #[.int .u8 0,.int .i64 0] 264)).alloc (.cells #[.int .u8 0,.int .i64 0] 264)):=hb1.alloc (Nat.le_of_lt (by simp)) _;have h2:=h.new hb2;have c22:=h2.c22;have l22:=h2.lookT hs;rw [←hf] at l22;generalize aJ K.p E s=y at *;clear hf hl hb1 h1 h h2 hb2;go_enter Tryz.func256,Tryz.ntmps256
  go_wp2
  go_returns
  exact ⟨rfl,((Below.refl _ _).alloc (Nat.le_refl _) _).alloc (by simp) _⟩
set_option maxRecDepth 1000000 in
theorem uy {K:iA} {pm:Option Nat} {E:Env} {n:Int} {over:Bool} (w:World) (h:kC K pm E n over w) (small large:Int) :
  Calls Tryz.prog 253 #[.pointer (some ⟨K.q,0,none⟩),.int .i64 small,.int .i64 large] w fun o w'=>o=.returned (.int .i64 (dX K.p small large))∧w=w':=by
 have c13:=h.c13;have hl:=h.prog.prow.few;clear h;by_cases hp:0<K.p.procs.length
 ·have e:dX K.p small large=small:=if_pos hp
  rw [e];have hd:decide (0<K.p.procs.length)=true:=decide_eq_true hp;clear e hp;go_enter Tryz.func253,Tryz.ntmps253
  go_wp2
  go_ret
  exact ⟨rfl,rfl⟩
 ·have e:dX K.p small large=large:=if_neg hp
  rw [e];have hd:decide (0<K.p.procs.length)=false:=decide_eq_false hp;clear e hp;go_enter Tryz.func253,Tryz.ntmps253
  go_wp2
  go_ret
  exact ⟨rfl,rfl⟩
end
section
open Go Go.RowKit Go.Maps Go.Lib
def MxAt (W:World):Prop:=∃m,W.cell? ⟨0,0,none⟩=some (.int .i64 m)
theorem MxAt.below {B:Nat} {W W':World} (h:MxAt W) (hb:Below B W W') (hB:0<B):MxAt W':=by
 obtain ⟨m,hm⟩:=h;exact ⟨m,(hb.cell (p:=⟨0,0,none⟩) hB).trans hm⟩
def DD:ByteArray:=⟨#[97,98,99,100,101,102,103,104,105,106,107,108,109,110,111,112,113,114,115,116,117,118,119,120,121,122,48,49,50,51,52,53,54,55,56,57,95]⟩
theorem Gr:DD.data.toList=uC:=by decide
def uz:ByteArray:=⟨#[32,100,101,118,105,99,101,32,119,105,100,116,104,32,105,110,112,117,116,32,103,104,111,115,116,32,118,97,114,32,97,114,114,97,121,32,114,101,113,117,105,114,101,32,105,110,105,116,32,112,114,111,99,32,119,111,114,107,32,114,101,99,111,118,101,114,32,105,110,118,97,114,105,97,110,116,32,102,108,117,115,104,32,98,97,114,114,105,101,114,32,119,114,105,116,101,32,105,102,32,101,108,115,101,32,119,104,105,108,101,32,98,111,117,110,100,32,99,97,108,108,32,100,105,115,107,32]⟩
theorem Ap:uz.data.toList=sQ yf:=by decide
theorem sO (t:ByteArray):t.toList.isEmpty=t.data.toList.isEmpty:=by rw [ByteArray.toList_eq]
theorem LP (s:ByteArray):(({ data:=#[32] }:ByteArray)++s++{ data:=#[32] }).data.toList=32::(s.data.toList++[32]):=by simp
set_option maxRecDepth 100000 in
set_option maxHeartbeats 2000000 in
theorem EQ (w:World) (s:ByteArray) (hs:s.size≤4294967200) (hmx:MxAt w) :
  Calls Tryz.prog 272 #[.string s] w fun o w'=>o=.returned (.bool (jh s.data.toList))∧Below w.heap.size w w':=by
 obtain ⟨m,hm⟩:=hmx;have hT:=Any.strings_Trim_laid Tryz.lays160 (by kernel_rfl) s DD w (by omega) (by decide) (ascii_of_all (by decide));have hC:=Tryz.strings_Contains uz ({ data:=#[32] }++s++{ data:=#[32] }) m w (by decide) hm;rw [Ap,LP] at hC;rw [Gr] at hT;have hem:=sO s;have hsz:s.size=s.data.toList.length:=by simp
 have hG:=DR s.data.toList;unfold Bi at hG;rw [←hG];clear hG hm;obtain ⟨tr,htr⟩:∃tr,Lib.trimS s.data.toList uC=tr:=⟨_,rfl⟩;rw [htr] at hT ⊢;obtain ⟨ct,hct⟩:∃ct,Lib.contains (sQ yf) (32::(s.data.toList++[32]))=ct:=⟨_,rfl⟩;rw [hct] at hC ⊢;have HC:=zhd hC;have HT:=zhd hT;unfold uz at HC;unfold DD at HT;clear hC hT htr hct;cases hL:s.data.toList with
 | nil =>
  rw [hL] at hem hsz;have hem2:s.toList.isEmpty=true:=hem;clear hem HC HT hL;go_enter Tryz.func272,Tryz.ntmps272
  go_wp2_with fail
  go_ret
  exact ⟨by simp,Below.refl _ _⟩
 | cons c r =>
  rw [hL] at hem hsz;have hem2:s.toList.isEmpty=false:=hem;have h0:0<s.size:=by rw [hsz];simp
  have hc0:s[0]'h0=c:=by
   show s.data[0]=c;rw [←Array.getElem_toList];simp only [hL,List.getElem_cons_zero]
  have HSZ:=zhd hsz;clear hem hsz hL;by_cases h16:s.size≤16
  ·have hd16:decide ((16:Int)<(s.size:Int))=false:=decide_eq_false (by omega)
   have hr16:decide ((c::r).length≤16)=true:=decide_eq_true (by rw [←HSZ.out];exact h16);rw [hr16];have hca:(s[0]'h0).toNat=c.toNat:=by rw [hc0]
   obtain ⟨k,hk⟩:∃k,c.toNat=k:=⟨_,rfl⟩;have hlw:lower c=decide (97≤k∧k≤122):=by unfold lower;rw [hk]
   rw [hk] at hca
   dsimp only
   rw [hlw];clear hlw hk hc0;by_cases h97:k<97
   ·have hd97:decide ((k:Int)<97)=true:=decide_eq_true (by omega)
    have hres:decide (97≤k∧k≤122)=false:=decide_eq_false (by omega);rw [hres];clear hres HC HT;go_enter Tryz.func272,Tryz.ntmps272
    go_wp2_with fail
    go_ret
    exact ⟨by simp,Below.refl _ _⟩
   ·have hd97:decide ((k:Int)<97)=false:=decide_eq_false (by omega)
    by_cases h122:122<k
    ·have hd122:decide ((122:Int)<(k:Int))=true:=decide_eq_true (by omega)
     have hres:decide (97≤k∧k≤122)=false:=decide_eq_false (by omega);rw [hres];clear hres HC HT;go_enter Tryz.func272,Tryz.ntmps272
     go_wp2_with fail
     go_ret
     exact ⟨by simp,Below.refl _ _⟩
    ·have hd122:decide ((122:Int)<(k:Int))=false:=decide_eq_false (by omega)
     have hres:decide (97≤k∧k≤122)=true:=decide_eq_true (by omega);rw [hres];clear hres;cases ct with
     | true =>
      clear HT;go_enter Tryz.func272,Tryz.ntmps272
      go_wp2_with (first | (go_at_call 279;refine HC.out.mono ?_;rintro o2 w2 ⟨rfl,rfl⟩) | fail)
      go_ret
      exact ⟨by simp,Below.refl _ _⟩
     | false =>
      have hte:=sO ⟨tr.toArray⟩;cases htt:tr.isEmpty
      all_goals
       have hte2:(ByteArray.mk tr.toArray).toList.isEmpty=_:=hte.trans htt;have HTT:=zhd htt;clear hte htt;go_enter Tryz.func272,Tryz.ntmps272
       go_wp2_with (first | (go_at_call 279;refine HC.out.mono ?_;rintro o2 w2 ⟨rfl,rfl⟩) | (go_at_call 280;refine HT.out.mono ?_;rintro o3 w3 ⟨rfl,hb3⟩) | fail)
       go_ret
       exact ⟨by have h:=HTT.out;cases tr <;> simp at h ⊢,hb3⟩
  ·have hd16:decide ((16:Int)<(s.size:Int))=true:=decide_eq_true (by omega)
   have hr16:decide ((c::r).length≤16)=false:=decide_eq_false (by rw [←HSZ.out];exact h16);rw [hr16];clear HC HT;go_enter Tryz.func272,Tryz.ntmps272
   go_wp2_with fail
   go_ret
   exact ⟨by simp,Below.refl _ _⟩
theorem IZ (s sep:List UInt8):(Lib.cut s sep).1.length≤s.length∧(Lib.cut s sep).2.1.length≤s.length:=by
 unfold Lib.cut
 split
 ·simp;omega
 ·simp
set_option maxRecDepth 1000000 in
set_option maxHeartbeats 2000000 in
theorem vX {K:iA} {pm:Option Nat} {E:Env} {n:Int} {over:Bool} (w:World) (hk:kC K pm E n over w) (s:ByteArray) (hs:s.size≤4294967200) (hmx:MxAt w) :
  Calls Tryz.prog 255 #[.pointer (some ⟨K.q,0,none⟩),.string s] w fun o w'=>o=.returned (.bool (iY K.p s.data.toList))∧Below w.heap.size w w':=by
 have hmx2:=hmx;obtain ⟨m,hm⟩:=hmx;have hC:=Tryz.strings_Cut s ⟨#[46]⟩ m w (by omega) hm;have h46:(⟨#[46]⟩:ByteArray).data.toList=[46]:=rfl;rw [h46] at hC;have hcd:=yT s.data.toList;obtain ⟨hl1,hl2⟩:=IZ s.data.toList [46];have hsz:s.data.toList.length=s.size:=by simp
 have hnb:iY K.p s.data.toList=if (Lib.cut s.data.toList [46]).2.2=true then (if K.p.procs.length=0 then jh (Lib.cut s.data.toList [46]).1 && jh (Lib.cut s.data.toList [46]).2.1 else jh s.data.toList) else jh s.data.toList:=by
  unfold iY;rw [hcd]
  split
  ·rename_i h;split at h
   ·rename_i h2;rw [if_pos h2];cases h;rfl
   ·cases h
  ·rename_i h;split at h
   ·cases h
   ·rename_i h2;rw [if_neg h2]
 rw [hnb];clear hcd hnb hm h46;generalize (Lib.cut s.data.toList [46]).1=a at *;generalize (Lib.cut s.data.toList [46]).2.1=b at *;generalize (Lib.cut s.data.toList [46]).2.2=two at *;have hk0:=hk.new (W':=w) (Below.refl _ _);have HNX:Hid (∀(t:ByteArray) (W:World),t.size≤s.size→Below w.heap.size w W→Calls Tryz.prog 272 #[.string t] W fun o w'=>o=.returned (.bool (jh t.data.toList))∧Below W.heap.size W w'):=zhd fun t W ht hW =>
  EQ W t (by omega) (hmx2.below hW (by have:=hk.lt;have:=hk.q;have:=hk.n0;omega))
 have ha:(⟨a.toArray⟩:ByteArray).size≤s.size:=by show a.toArray.size≤_;simp;omega
 have hb:(⟨b.toArray⟩:ByteArray).size≤s.size:=by show b.toArray.size≤_;simp;omega
 have HA:=zhd ha;have HB:=zhd hb;have HC:=zhd hC;have HK:=zhd hk;have hpl:=hk.prog.prow.few;clear hk hk0 ha hb hl1 hl2 hsz hC hs hmx2;have hea:(⟨a.toArray⟩:ByteArray).data.toList=a:=by simp
 have heb:(⟨b.toArray⟩:ByteArray).data.toList=b:=by simp
 generalize (⟨a.toArray⟩:ByteArray)=ab at *;generalize (⟨b.toArray⟩:ByteArray)=bb at *;subst hea heb;have hbd:∀n,Below w.heap.size w (w.drewN n):=fun n=>⟨rfl,rfl,rfl,Nat.le_refl _,fun _ _=>rfl⟩
 have HBD:=zhd hbd;clear hbd;have c13:=HK.out.c13;cases two with
 | false =>
  go_enter Tryz.func255,Tryz.ntmps255
  go_wp2_with (first | (go_at_call 19;refine HC.out.mono ?_;rintro o2 w2 ⟨rfl,nq,rfl⟩) | (go_at_call 272;refine (HNX.out s _ (Nat.le_refl _) (HBD.out nq)).mono ?_;rintro o3 w3 ⟨rfl,hb3⟩) | fail)
  go_ret
  exact ⟨rfl,(HBD.out nq).trans (hb3.mono (Nat.le_refl _))⟩
 | true =>
  by_cases hp:K.p.procs.length=0
  ·have hz:((K.p.procs.length:Int) == 0)=true:=beq_iff_eq.2 (by omega)
   have hzd:decide (K.p.procs.length=0)=true:=decide_eq_true hp;rw [if_pos rfl,if_pos hp];clear hp;cases hia:jh ab.data.toList with
   | true =>
    have HIA:=zhd hia;clear hia;go_enter Tryz.func255,Tryz.ntmps255
    go_upto_region 3 with (first | (go_at_call 19;refine HC.out.mono ?_;rintro o2 w2 ⟨rfl,nq,rfl⟩) | fail)
    have HN1:=zhd (HNX.out ab _ HA.out (HBD.out nq));rw [HIA.out] at HN1;clear c13;go_wp2_with (first | (go_at_call 272;refine HN1.out.mono ?_;clear HN1;rintro o3 w3 ⟨rfl,hb3⟩;have HB3:=zhd hb3;have HN2:=zhd (HNX.out bb w3 HB.out ((HBD.out nq).trans (hb3.mono (Nat.le_refl _))));clear hb3) | (go_at_call 272;refine HN2.out.mono ?_;rintro o4 w4 ⟨rfl,hb4⟩) | fail)
    go_ret
    have h3:w.heap.size≤w3.heap.size:=HB3.out.size;have h03:Below w.heap.size w w3:=(HBD.out nq).trans HB3.out;exact ⟨by rw [Bool.true_and];rfl,h03.trans (hb4.mono h3)⟩
   | false =>
    have HIA:=zhd hia;clear hia;go_enter Tryz.func255,Tryz.ntmps255
    go_upto_region 3 with (first | (go_at_call 19;refine HC.out.mono ?_;rintro o2 w2 ⟨rfl,nq,rfl⟩) | fail)
    have HN1:=zhd (HNX.out ab _ HA.out (HBD.out nq));rw [HIA.out] at HN1;go_wp2_with (first | (go_at_call 272;refine HN1.out.mono ?_;rintro o3 w3 ⟨rfl,hb3⟩) | fail)
    go_ret
    exact ⟨by rw [Bool.false_and];rfl,(HBD.out nq).trans (hb3.mono (Nat.le_refl _))⟩
  ·have hz:((K.p.procs.length:Int) == 0)=false:=beq_eq_false_iff_ne.2 (by omega)
   have hzd:decide (K.p.procs.length=0)=false:=decide_eq_false hp;rw [if_pos rfl,if_neg hp];clear hp;go_enter Tryz.func255,Tryz.ntmps255
   go_wp2_with (first | (go_at_call 19;refine HC.out.mono ?_;rintro o2 w2 ⟨rfl,nq,rfl⟩) | (go_at_call 272;refine (HNX.out s _ (Nat.le_refl _) (HBD.out nq)).mono ?_;rintro o3 w3 ⟨rfl,hb3⟩) | fail)
   go_ret
   exact ⟨rfl,(HBD.out nq).trans (hb3.mono (Nat.le_refl _))⟩
end
section
open Go Go.RowKit
def bM:Array Value:=#[.string ⟨#[]⟩,.int .i64 0,.bool false,.nilFunc,
  .string ⟨#[126]⟩,.int .i64 0,.bool false,.func (.func 282) #[] #[],
  .string ⟨#[45]⟩,.int .i64 0,.bool false,.func (.func 283) #[] #[],
  .string ⟨#[43]⟩,.int .i64 5,.bool false,.func (.func 284) #[] #[],
  .string ⟨#[45]⟩,.int .i64 5,.bool false,.func (.func 285) #[] #[],
  .string ⟨#[42]⟩,.int .i64 6,.bool false,.func (.func 286) #[] #[],
  .string ⟨#[47]⟩,.int .i64 6,.bool false,.func (.func 287) #[] #[],
  .string ⟨#[37]⟩,.int .i64 6,.bool false,.func (.func 288) #[] #[],
  .string ⟨#[38]⟩,.int .i64 2,.bool false,.func (.func 289) #[] #[],
  .string ⟨#[124]⟩,.int .i64 1,.bool false,.func (.func 290) #[] #[],
  .string ⟨#[94]⟩,.int .i64 1,.bool false,.func (.func 291) #[] #[],
  .string ⟨#[60,60]⟩,.int .i64 4,.bool false,.func (.func 292) #[] #[],
  .string ⟨#[62,62]⟩,.int .i64 4,.bool false,.func (.func 293) #[] #[],
  .string ⟨#[61,61]⟩,.int .i64 3,.bool true,.func (.func 294) #[] #[],
  .string ⟨#[33,61]⟩,.int .i64 3,.bool true,.func (.func 296) #[] #[],
  .string ⟨#[60]⟩,.int .i64 3,.bool true,.func (.func 297) #[] #[],
  .string ⟨#[60,61]⟩,.int .i64 3,.bool true,.func (.func 298) #[] #[]]
def Ki:Array Value:=#[.string ⟨#[]⟩,.int .i64 0,.bool false,.nilFunc,.string ⟨#[]⟩,.int .i64 0,.bool false,.nilFunc,.string ⟨#[]⟩,.int .i64 0,.bool false,.nilFunc,.string ⟨#[]⟩,.int .i64 0,.bool false,.nilFunc,.string ⟨#[]⟩,.int .i64 0,.bool false,.nilFunc,.string ⟨#[]⟩,.int .i64 0,.bool false,.nilFunc,.string ⟨#[]⟩,.int .i64 0,.bool false,.nilFunc,.string ⟨#[]⟩,.int .i64 0,.bool false,.nilFunc,.string ⟨#[]⟩,.int .i64 0,.bool false,.nilFunc,.string ⟨#[]⟩,.int .i64 0,.bool false,.nilFunc,.string ⟨#[]⟩,.int .i64 0,.bool false,.nilFunc,.string ⟨#[]⟩,.int .i64 0,.bool false,.nilFunc,.string ⟨#[]⟩,.int .i64 0,.bool false,.nilFunc,.string ⟨#[]⟩,.int .i64 0,.bool false,.nilFunc,.string ⟨#[]⟩,.int .i64 0,.bool false,.nilFunc,.string ⟨#[]⟩,.int .i64 0,.bool false,.nilFunc,.string ⟨#[]⟩,.int .i64 0,.bool false,.nilFunc]
theorem su:(Tryz.prog.info? 311).map (·.size)=some bM.size:=by kernel_rfl
theorem Ha:Tryz.prog.underlying 311=some (.array 17 310):=by kernel_rfl
theorem Az:bM.all (·.oneCell')=true:=by kernel_rfl
section
variable {P:Program} {ops:Array Oper} {Q:Exit→Act→World→Prop} {a:Act} {w w':World} {rest:List Oper} {o:Oper}
theorem EF {v:Value} (hg:o.guard=none) (h:(execOp a.eval o).run P w=.ok (.value v) w') (k:wpList P ops Q rest (a.put o.dst v) w'):wpList P ops Q (o::rest) a w :=
 wpList_plain hg fun K hK=>by unfold Oper.wp;rw [h];exact hK _ _ k
theorem uQ (hg:o.guard=none) (h:(execOp a.eval o).run P w=.ok .skip w') (k:wpList P ops Q rest (a.put o.dst undef) w'):wpList P ops Q (o::rest) a w :=
 wpList_plain hg fun K hK=>by unfold Oper.wp;rw [h];exact hK _ _ k
theorem cZ {t:TypeId} {c c':Array Value} (hg:o.guard=none) (x v:Operand) (ho:o.op=.store t x v) (hx:a.eval x=.pointer (some ⟨w.heap.size,0,none⟩)) (hv:a.eval v=.agg c')
  (hi:(P.info? t).map (·.size)=some c'.size) (hs:c.size=c'.size) (h1:c'.all (·.oneCell')=true) (k:wpList P ops Q rest (a.put o.dst undef) (w.alloc (.cells c' t))):wpList P ops Q (o::rest) a (w.alloc (.cells c t)) :=
 uQ hg (by simp only [execOp,ho,hx,hv,Sem.run_bind,run_storeAt_new w t c c' hi hs h1];rfl) k
theorem aC {t:TypeId} {z:Array Value} (hg:o.guard=none) (ho:o.op=.alloc t) (hz:(zeroValue t).run P w=.ok (.agg z) w) (k:wpList P ops Q rest (a.put o.dst (.pointer (some ⟨w.heap.size,0,none⟩))) (w.alloc (.cells z t))):wpList P ops Q (o::rest) a w :=
 EF hg (by simp [execOp,ho,Sem.run_bind,Instr.alloc,hz,go_sem,Value.cells]) k
theorem wpList_build (hg:o.guard=none) (t:TypeId) (parts:Array (Nat × Operand)) (ho:o.op=.build t parts) (cells:Array Value)
  (h:P.built t (parts.map fun (i,x)=>(i,a.eval x)).toList=some cells) (k:wpList P ops Q rest (a.put o.dst (.agg cells)) w):wpList P ops Q (o::rest) a w :=
 wpList_plain hg fun K hK=>wp_build t parts ho (by rw [h];rfl) (hK _ _ (by rw [h];exact k))
end
theorem oK (w:World):(zeroValue 311).run Tryz.prog w=.ok (.agg Ki) w:=(zero_of_info (n:=68) (by kernel_rfl)).1 w
set_option maxRecDepth 1000000 in
set_option maxHeartbeats 4000000 in
theorem pE (w:World):Calls Tryz.prog 275 #[] w fun o w'=>o=.returned (.agg bM)∧w'=w.alloc (.cells bM 311):=by
 go_enter Tryz.func275,Tryz.ntmps275
 go_wp2_with (first
  | (refine aC (t:=311) rfl rfl (oK _) ?_)
  | (refine wpList_build rfl 311 _ rfl bM (by kernel_rfl) ?_)
  | (refine cZ (t:=311) rfl _ _ rfl rfl rfl su (by kernel_rfl) Az ?_)
  | fail)
 exact bodyPost_ret (v:=.agg bM) (results_cell_row rfl _ _ w.heap.size _ bM (0,0) _ rfl (heap_alloc_last w _) Ha rfl su) rfl ⟨rfl,rfl⟩
end
section
open Go Go.RowKit
def KU:List ByteArray:=[⟨#[]⟩,⟨#[126]⟩,⟨#[45]⟩,⟨#[43]⟩,⟨#[45]⟩,⟨#[42]⟩,⟨#[47]⟩,⟨#[37]⟩,⟨#[38]⟩,⟨#[124]⟩,⟨#[94]⟩,⟨#[60,60]⟩,⟨#[62,62]⟩,⟨#[61,61]⟩,⟨#[33,61]⟩,⟨#[60]⟩,⟨#[60,61]⟩]
def jW (k:Nat):ByteArray:=KU.getD k ⟨#[]⟩
def kD (k:Nat):Int:=[0,0,0,5,5,6,6,6,2,1,1,4,4,3,3,3,3].getD k 0
def Gx (k:Nat):Value:=bM.getD (k*4+3) undef
theorem tL {p:Nat→Prop} (k:Nat) (h:k≤16) (h0:p 0) (h1:p 1) (h2:p 2) (h3:p 3) (h4:p 4) (h5:p 5) (h6:p 6) (h7:p 7) (h8:p 8) (h9:p 9) (h10:p 10) (h11:p 11) (h12:p 12) (h13:p 13) (h14:p 14) (h15:p 15) (h16:p 16):p k:=by
 rcases (show k=0∨k=1∨k=2∨k=3∨k=4∨k=5∨k=6∨k=7∨k=8∨k=9∨k=10∨k=11∨k=12∨k=13∨k=14∨k=15∨k=16 by omega) with rfl | rfl | rfl | rfl | rfl | rfl | rfl | rfl | rfl | rfl | rfl | rfl | rfl | rfl | rfl | rfl | rfl <;> assumption
theorem IY (k:Nat) (h:k≤16):bM[k*4]? = some (.string (jW k)):=by
 refine tL (p:=fun k=>bM[k*4]? = some (.string (jW k))) k h ?_ ?_ ?_ ?_ ?_ ?_ ?_ ?_ ?_ ?_ ?_ ?_ ?_ ?_ ?_ ?_ ?_ <;> rfl
theorem Ac (k:Nat) (h:k≤16):(jW k).toList.isEmpty=decide (k=0):=by
 refine tL (p:=fun k=>(jW k).toList.isEmpty=decide (k=0)) k h ?_ ?_ ?_ ?_ ?_ ?_ ?_ ?_ ?_ ?_ ?_ ?_ ?_ ?_ ?_ ?_ ?_ <;> (rw [ByteArray.toList_eq];rfl)
theorem zG (k:Nat) (h:k≤16) (w:World):(Instr.index 311 (.agg bM) (.int .u8 (k:Int))).run Tryz.prog w=.ok (.agg #[.string (jW k),.int .i64 (kD k),.bool (iM (k:Int)),Gx k]) w:=by
 refine tL (p:=fun k=>(Instr.index 311 (.agg bM) (.int .u8 (k:Int))).run Tryz.prog w=.ok (.agg #[.string (jW k),.int .i64 (kD k),.bool (iM (k:Int)),Gx k]) w) k h ?_ ?_ ?_ ?_ ?_ ?_ ?_ ?_ ?_ ?_ ?_ ?_ ?_ ?_ ?_ ?_ ?_ <;> kernel_rfl
theorem JM (k:Nat) (h:k≤16) (w:World):(Instr.field 310 (.agg #[.string (jW k),.int .i64 (kD k),.bool (iM (k:Int)),Gx k]) 1).run Tryz.prog w=.ok (.int .i64 (kD k)) w:=by
 refine tL (p:=fun k=>(Instr.field 310 (.agg #[.string (jW k),.int .i64 (kD k),.bool (iM (k:Int)),Gx k]) 1).run Tryz.prog w=.ok (.int .i64 (kD k)) w) k h ?_ ?_ ?_ ?_ ?_ ?_ ?_ ?_ ?_ ?_ ?_ ?_ ?_ ?_ ?_ ?_ ?_ <;> kernel_rfl
theorem GV (k:Nat) (h:k≤16) (w:World):(Instr.field 310 (.agg #[.string (jW k),.int .i64 (kD k),.bool (iM (k:Int)),Gx k]) 2).run Tryz.prog w=.ok (.bool (iM (k:Int))) w:=by
 refine tL (p:=fun k=>(Instr.field 310 (.agg #[.string (jW k),.int .i64 (kD k),.bool (iM (k:Int)),Gx k]) 2).run Tryz.prog w=.ok (.bool (iM (k:Int))) w) k h ?_ ?_ ?_ ?_ ?_ ?_ ?_ ?_ ?_ ?_ ?_ ?_ ?_ ?_ ?_ ?_ ?_ <;> kernel_rfl
set_option maxRecDepth 1000000 in
set_option maxHeartbeats 2000000 in
theorem Gz (k:Nat) (h:k≤16) (w:World):Calls Tryz.prog 273 #[.int .u8 (k:Int)] w fun o w'=>o=.returned (.string (jW k))∧Below w.heap.size w w':=by
 have hb:=zba w (.cells bM 311);have hT:=pE w;have hc:∀w1:World,(w1.alloc (.cells bM 311)).cell? ⟨w1.heap.size,k*4,none⟩=some (.string (jW k)):=fun w1=>(cell_of_row _ _ _ _ _ _ (heap_alloc_last w1 _)).trans (IY k h)
 have h0:(0:Int)≤(k:Int):=by omega
 have h1:decide (17≤(k:Int))=false:=decide_eq_false (by omega);have h1':decide (17≤k)=false:=decide_eq_false (by omega);have h2:(k:Int)<17:=by omega
 have HT:=zhd hT;have HB:=zhd hb;clear hT hb;go_enter Tryz.func273,Tryz.ntmps273
 go_wp2_with fail
 refine HT.out.mono ?_;rintro o w1 ⟨rfl,rfl⟩;have hcc:=hc (w.alloc (.cells bM 311));have HB2:=zhd (HB.out.alloc HB.out.size (.cells bM 311));clear hc;generalize w.alloc (.cells bM 311)=w1 at *;go_wp2_with (first
  | (refine aC (t:=311) rfl rfl (oK _) ?_)
  | (refine cZ (t:=311) rfl _ _ rfl rfl rfl su (by kernel_rfl) Az ?_)
  | fail)
 go_ret
 exact ⟨rfl,HB2.out⟩
set_option maxRecDepth 1000000 in
set_option maxHeartbeats 2000000 in
theorem Hm (k:Nat) (h:17≤k) (h':k≤255) (w:World):Calls Tryz.prog 273 #[.int .u8 (k:Int)] w fun o w'=>o=.returned (.string ⟨#[]⟩)∧Below w.heap.size w w':=by
 have hb:=zba w (.cells bM 311);have hT:=pE w;have h0:(0:Int)≤(k:Int):=by omega
 have h1:decide (17≤(k:Int))=true:=decide_eq_true (by omega);have h1':decide (17≤k)=true:=decide_eq_true (by omega);have h2:(k:Int)<256:=by omega
 have HT:=zhd hT;have HB:=zhd hb;clear hT hb;go_enter Tryz.func273,Tryz.ntmps273
 go_wp2_with fail
 refine HT.out.mono ?_;rintro o w1 ⟨rfl,rfl⟩;have HB2:=zhd (HB.out.alloc HB.out.size (.cells bM 311));generalize w.alloc (.cells bM 311)=w1 at *;go_wp2_with (first
  | (refine aC (t:=311) rfl rfl (oK _) ?_)
  | (refine cZ (t:=311) rfl _ _ rfl rfl rfl su (by kernel_rfl) Az ?_)
  | fail)
 go_ret
 exact ⟨rfl,HB2.out⟩
def jB (k:Nat):ByteArray:=if k≤16 then jW k else ⟨#[]⟩
theorem xS (k:Nat) (h:k≤255) (w:World):Calls Tryz.prog 273 #[.int .u8 (k:Int)] w fun o w'=>o=.returned (.string (jB k))∧Below w.heap.size w w':=by
 by_cases hk:k≤16
 ·rw [jB,if_pos hk];exact Gz k hk w
 ·rw [jB,if_neg hk];exact Hm k (by omega) h w
theorem mX (k:Nat):(jB k).toList.isEmpty=!nN (k:Int):=by
 unfold jB;by_cases hk:k≤16
 ·rw [if_pos hk,Ac k hk,nN]
  by_cases h0:k=0
  ·subst h0;rfl
  ·rw [decide_eq_false h0,decide_eq_true (by omega:1≤(k:Int)∧(k:Int)≤16)];rfl
 ·rw [if_neg hk,nN,decide_eq_false (by omega:¬(1≤(k:Int)∧(k:Int)≤16)),ByteArray.toList_eq];rfl
set_option maxRecDepth 1000000 in
set_option maxHeartbeats 2000000 in
theorem JJ (k:Nat) (h:k≤255) (w:World):Calls Tryz.prog 281 #[.int .u8 (k:Int)] w fun o w'=>o=.returned (.int .i64 (if nN (k:Int)=true then kD k else 0))∧Below w.heap.size w w':=by
 have HN:=zhd (xS k h w);have hE:=mX k;cases ho:nN (k:Int) with
 | false =>
  rw [ho] at hE;have hE':(jB k).toList=[]:=by simpa using hE
  generalize jB k=s at *;go_enter Tryz.func281,Tryz.ntmps281
  go_wp2_with fail
  refine HN.out.mono ?_;rintro o w1 ⟨rfl,hb1⟩;have HB1:=zhd hb1;clear hb1;go_wp2_with fail
  go_ret
  exact ⟨by simp,HB1.out⟩
 | true =>
  rw [ho] at hE;have hk:k≤16:=by have:=of_decide_eq_true ho;omega
  have hE':(!(jB k).toList.isEmpty)=true:=by rw [hE];rfl
  simp only [Bool.not_true] at hE;have hT:=fun W=>pE W
  have hI:=zG k hk;have hF:=JM k hk;generalize jB k=s at *;have HT:=zhd hT;clear hT;go_enter Tryz.func281,Tryz.ntmps281
  go_wp2_with fail
  refine HN.out.mono ?_;rintro o w1 ⟨rfl,hb1⟩;have HB1:=zhd hb1;clear hb1;go_wp2_with fail
  refine (HT.out _).mono ?_;rintro o w2 ⟨rfl,rfl⟩;have HB2:=zhd (HB1.out.alloc HB1.out.size (.cells bM 311));generalize w1.alloc (.cells bM 311)=w2 at *;go_wp2_with fail
  go_ret
  exact ⟨by simp,HB2.out⟩
theorem EI (k:Nat):decide ((0:Int)<(if nN (k:Int)=true then kD k else 0))=l8 (k:Int):=by
 by_cases hk:k≤16
 ·refine tL (p:=fun k=>decide ((0:Int)<(if nN (k:Int)=true then kD k else 0))=l8 (k:Int)) k hk ?_ ?_ ?_ ?_ ?_ ?_ ?_ ?_ ?_ ?_ ?_ ?_ ?_ ?_ ?_ ?_ ?_ <;> rfl
 ·rw [nN,decide_eq_false (by omega:¬(1≤(k:Int)∧(k:Int)≤16)),l8,decide_eq_false (by omega:¬(3≤(k:Int)∧(k:Int)≤16))];rfl
set_option maxRecDepth 1000000 in
theorem FJ (k:Nat) (h:k≤255) (w:World):Calls Tryz.prog 274 #[.int .u8 (k:Int)] w fun o w'=>o=.returned (.bool (l8 (k:Int)))∧Below w.heap.size w w':=by
 have HN:=zhd (JJ k h w);have hE:=EI k;rw [←hE];clear hE;generalize (if nN (k:Int)=true then kD k else 0)=r at *;go_enter Tryz.func274,Tryz.ntmps274
 go_wp2_with fail
 refine HN.out.mono ?_;rintro o w1 ⟨rfl,hb1⟩;have HB1:=zhd hb1;clear hb1;go_wp2_with fail
 go_ret
 exact ⟨rfl,HB1.out⟩
def Nt (w:World) (r:Int) (o:Ending) (w':World):Prop:=∃er:Int,o=.returned (.tuple #[.int .i64 r,.int .i64 er])∧Below w.heap.size w w'
set_option maxRecDepth 1000000 in
set_option maxHeartbeats 2000000 in
theorem vg (k:Nat) (h:k≤255) (n:Int) (w:World):Calls Tryz.prog 261 #[.int .u8 (k:Int),.int .i64 n] w (Nt w (iB (k:Int) n)):=by
 have HN:=zhd (xS k h w);have hE:=mX k;unfold iB;cases ho:nN (k:Int) with
 | false =>
  rw [ho] at hE;have hE':(jB k).toList=[]:=by simpa using hE
  generalize jB k=s at *;go_enter Tryz.func261,Tryz.ntmps261
  go_wp2_with fail
  refine HN.out.mono ?_;rintro o w1 ⟨rfl,hb1⟩;have HB1:=zhd hb1;clear hb1;go_wp2_with fail
  go_returns
  exact ⟨_,rfl,HB1.out⟩
 | true =>
  rw [ho] at hE;have hk:k≤16:=by have:=of_decide_eq_true ho;omega
  have hE':(!(jB k).toList.isEmpty)=true:=by rw [hE];rfl
  simp only [Bool.not_true] at hE;have hM:=fun W=>BI n W
  generalize jB k=s at *;have HM:=zhd hM;clear hM;cases hw:bQ n with
  | false =>
   have e2:qd n=220:=by simp [qd,hw]
   rw [e2] at HM;generalize oh n=mw at *;go_enter Tryz.func261,Tryz.ntmps261
   go_wp2_with fail
   refine HN.out.mono ?_;rintro o w1 ⟨rfl,hb1⟩;have HB1:=zhd hb1;clear hb1;go_wp2_with fail
   refine (HM.out _).mono ?_;rintro o w2 ⟨rfl,rfl⟩;go_wp2_with fail
   go_returns
   exact ⟨_,rfl,HB1.out⟩
  | true =>
   have e2:qd n=0:=by simp [qd,hw]
   rw [e2] at HM;generalize oh n=mw at *;have hI:=zG k hk;have hF:=GV k hk;have hT:=fun W=>pE W
   have HT:=zhd hT;clear hT;cases ht:iM (k:Int) with
   | false =>
    simp only [ht] at hI hF;go_enter Tryz.func261,Tryz.ntmps261
    go_wp2_with fail
    refine HN.out.mono ?_;rintro o w1 ⟨rfl,hb1⟩;have HB1:=zhd hb1;clear hb1;go_wp2_with fail
    refine (HM.out _).mono ?_;rintro o w2 ⟨rfl,rfl⟩;go_wp2_with fail
    refine (HT.out _).mono ?_;rintro o w2 ⟨rfl,rfl⟩;have HB2:=zhd (HB1.out.alloc HB1.out.size (.cells bM 311));generalize w1.alloc (.cells bM 311)=w2 at *;go_wp2_with fail
    go_returns
    exact ⟨_,rfl,HB2.out⟩
   | true =>
    simp only [ht] at hI hF;go_enter Tryz.func261,Tryz.ntmps261
    go_wp2_with fail
    refine HN.out.mono ?_;rintro o w1 ⟨rfl,hb1⟩;have HB1:=zhd hb1;clear hb1;go_wp2_with fail
    refine (HM.out _).mono ?_;rintro o w2 ⟨rfl,rfl⟩;go_wp2_with fail
    refine (HT.out _).mono ?_;rintro o w2 ⟨rfl,rfl⟩;have HB2:=zhd (HB1.out.alloc HB1.out.size (.cells bM 311));generalize w1.alloc (.cells bM 311)=w2 at *;go_wp2_with fail
    go_returns
    exact ⟨_,rfl,HB2.out⟩
end
end Go.Proofs.YtepacjkacjabbaaGreatDoor
