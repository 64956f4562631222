import Derived.Test.YtepacjkacjabbaaGreatDoorYAC
import Derived.Test.YtepacjkacjabbaaGreatDoorYAE
import Derived.Handy
import Derived.Deep.WholeRow
set_option linter.all false
set_option maxRecDepth 10000000
set_option maxHeartbeats 64000000
namespace Go.Proofs.YtepacjkacjabbaaGreatDoor
open Go Go.Maps Go.RowKit
section
def jK(Tc:TypeId){β:Type}(B:Nat)(I:β->World->Prop):Prop :=
 ∀s W W' row,I s W->W.grownBy W' row->(∀r,row=some r->B<=r/\∃o:Obj,W.heap[r]?=some o/\(o.isCells=false\/∃cs fr,o=.cells cs Tc fr))->I s W'
section
variable {Tc:TypeId}{β:Type}{B:Nat}{I:β->World->Prop}
theorem jK.putObj(h:jK Tc B I){s:β}{W:World}{l:Nat}{o:Obj}(D:Obj)(V:I s W)(O:B<=l)(hl:W.heap[l]?=some o)(U:o.isCells=false):I s (W.putObj l D):=
 h s W _ (some l) V (grownBy_putObj' W l D) (λr e=>by cases e;exact⟨O,o,hl,.inl U⟩)
theorem jK.alloc(h:jK Tc B I){s:β}{W:World}(o:Obj)(D:I s W):I s (W.alloc o):=
 h s W _ none D (World.grownBy_alloc W o none) (λr e=>by cases e)
theorem jK.new(h:jK Tc B I){s:β}{W W':World}(D:I s W)(hb:Below W.heap.size W W'):I s W' :=
 h s W _ none D ⟨hb.os,hb.tape,hb.output,hb.size,λk hk _=>hb.block k hk⟩ (λr e=>by cases e)
theorem jK.cell(h:jK Tc B I){s:β}{W:World}{a:Addr}{cs:Array Value}{fr:Nat × Nat}(v:Value)(O:I s W)(D:B<=a.block)(hl:W.heap[a.block]?=some (.cells cs Tc fr)):I s (W.setCell a v):=
 h s W _ (some a.block) O ⟨rfl,rfl,rfl,by simp,λk _ hk=>aN _ _ _ k (λe=>hk (by rw[e]))⟩ (λr e=>by cases e;exact⟨D,_,hl,.inr ⟨cs,fr,rfl⟩⟩)
theorem jK.turned(h:jK Tc B I){s:β}{W W':World}{b:Nat}(V:I s W)(U:B<=b)(ht:W.mapTurned W' b):I s W':=by
 obtain⟨es,cl,O,D,hb,e⟩:=id ht;exact h s W _ (some b) V ht.grown (λr e=>by cases e;exact⟨U,_,hb,.inl rfl⟩)
end
variable {F:Fence}{n:Nat}{P:Program}{w:World}
end
section
def Qp:Value->Option (DataW Unit × List MemPlace)
 |.agg cs=>match cs.toList with
  |[.int .u8 a,.int .i64 b]=>some (.agg [.lit (.int .u8 a),.lit (.int .i64 b)],[])
  |_=>none
 |_=>none
def gV.val(x:gV):Value:=.agg #[.int .u8 x.bI,.int .i64 x.aS]
def JO:vM Tryz.prog 264 gV where
 val:=gV.val
 dat x:=.agg [.lit (.int .u8 x.bI),.lit (.int .i64 x.aS)]
 read:=Qp
 put _:=rfl
 inv v z h:=by
  unfold Qp at h
  split at h
  .rename_i cs
   split at h
   .rename_i a b he
    cases h
    refine⟨⟨a,b⟩,?_,rfl⟩;have:cs=#[.int .u8 a,.int .i64 b]:=by rw[<-Array.toList_inj];exact he
    rw[this];rfl
   .cases h
  .cases h
 inj x y h:=by cases x;cases y;simp at h;simp[h]
 zero:=⟨0,0⟩
 zrun w:=by kernel_rfl
def Uo:Value->Option (DataW Unit × List MemPlace)
 |.int .i64 a=>some (.lit (.int .i64 a),[])
 |_=>none
def uh:vM Tryz.prog 3 Int where
 val x:=.int .i64 x
 dat x:=.lit (.int .i64 x)
 read:=Uo
 put _:=rfl
 inv v z h:=by
  unfold Uo at h
  split at h
  .rename_i a
   cases h
   exact⟨a,rfl,rfl⟩
  .cases h
 inj x y h:=by simpa using h
 zero:=0
 zrun w:=by kernel_rfl
theorem xH:Keyed Tryz.prog 9:=string_keyed Tryz.underlying9
theorem GM:Keyed Tryz.prog 3:=int_keyed Tryz.underlying3
theorem zx{s:ByteArray}(h:s.size<=maxLen):keyOf Tryz.prog 9 (.string s)=some (sM s):=Go.WideMaps.keyOf_string_mk Tryz.underlying9 h
theorem Tp{a:Int}(h:(Lit.int .i64 a).wf=true):keyOf Tryz.prog 3 (.int .i64 a)=some (.int .i64 a):=keyOf_int_mk Tryz.underlying3 h
structure mq where
 q:Nat
 p:aj
 n₀:Nat
 B:Nat
 yv:Value
 mt:Nat
 mp:Nat
def mq.cells(K:mq)(pm:Option Nat)(E:Env)(n:Int)(over:Bool):Array Value :=
 #[.int .i64 K.p.iF,.int .i64 K.p.aS,.slice K.p.is.dO K.p.fB.length K.p.is.df,.slice K.p.gs.dO K.p.ek.length K.p.gs.df,.slice K.p.vs.dO K.p.gp.length K.p.vs.df,.slice K.p.as.dO K.p.fP.length K.p.as.df,.int .u8 K.p.eD.bI,.int .u8 K.p.eD.op,.int .u32 K.p.eD.bv,.int .i64 K.p.eD.aS,.string K.p.eD.aT,.slice K.p.eD.sp.dO K.p.eD.cu.length K.p.eD.sp.df,.slice K.p.ns.dO K.p.eQ.length K.p.ns.df,.slice K.p.rs.dO K.p.aA.length K.p.rs.df,.slice K.p.ws.dO K.p.eX.length K.p.ws.df,.slice K.p.cs.dO K.p.eB.length K.p.cs.df,.int .u8 K.p.d9.bI,.int .u8 K.p.d9.op,.int .u32 K.p.d9.bv,.int .i64 K.p.d9.aS,.string K.p.d9.aT,.slice K.p.d9.sp.dO K.p.d9.cu.length K.p.d9.sp.df,
  .map (some K.mt),.map (some K.mp),.map pm,.int .i64 E.within,.int .i64 n,.int .i64 0,K.yv,.bool over]
def yX(K:mq)(E:Env)(W:World):Option Nat->Prop
 |none=>E.bC=[]
 |some m=>K.B<=m/\∃n,iZ JO 9 W m n (og (look E.bC))
structure qQ(K:mq)(pm:Option Nat)(E:Env)(n:Int)(over:Bool)(W:World):Prop where
 box:W.heap[K.q]?=some (.cells (K.cells pm E n over) 246 (0,0))
 bC:yX K E W pm
 things:∃n,iZ JO 9 W K.mt n (og (look (lH K.p)))
 aA:∃n,iZ uh 9 W K.mp n (og (look (eG K.p)))
 prog:jT K.n₀ W K.p
 n0:K.n₀<=K.B
 q:K.B<=K.q
 mt:K.B<=K.mt
 mp:K.B<=K.mp
theorem yX.stays{K:mq}{E:Env}{W W':World}{pm:Option Nat}(h:yX K E W pm)(hk:∀k o,K.B<=k->W.heap[k]?=some o->o.isCells=false->W'.heap[k]?=some o):yX K E W' pm:=by
 cases pm with
 |none=>exact h
 |some m =>
  obtain⟨h1,n,D⟩:=h;obtain⟨es,U,O⟩:=D.obj;exact⟨h1,n,D.of_block ((hk m _ h1 O rfl).trans O.symm)⟩
theorem rG{P:Program}{e:TypeId}{α:Type}{C:vM P e α}{t:TypeId}{B m:Nat}{f:Lit->Option α}{W W':World}(h:∃n,iZ C t W m n f)(U:B<=m)(hk:∀k o,B<=k->W.heap[k]?=some o->o.isCells=false->W'.heap[k]?=some o):∃n,iZ C t W' m n f:=by
 obtain⟨n,D⟩:=h;obtain⟨es,V,O⟩:=D.obj;exact⟨n,D.of_block ((hk m _ U O rfl).trans O.symm)⟩
def TK(t:TypeId):Bool:=t == 246 || t == 35 || t == 30 || t == 43 || t == 50 || t == 54 || t == 149
structure gY(K:mq)(W W':World):Prop where
 size:W.heap.size<=W'.heap.size
 same:∀(k:Nat) (o:Obj),K.B<=k->W.heap[k]?=some o->o.isCells=false->W'.heap[k]?=some o
 cells:∀(k:Nat) (cs:Array Value) (t:TypeId) (fr:Nat × Nat),W.heap[k]?=some (.cells cs t fr)->TK t=true->k≠K.q->W'.heap[k]?=some (.cells cs t fr)
 low:Below K.n₀ W W'
section
variable {K:mq}{W W' W'':World}
theorem gY.refl(K:mq)(W:World):gY K W W:=⟨af _,λ_ _ _ h _=>h,λ_ _ _ _ h _ _=>h,ag _ _⟩
theorem gY.trans(h:gY K W W')(k:gY K W' W''):gY K W W'' :=
 ⟨ai h.size k.size,λi o D hi O=>k.same i o D (h.same i o D hi O) O,λi cs t fr hi ht hq=>k.cells i cs t fr (h.cells i cs t fr hi ht hq) ht hq,h.low.trans k.low⟩
theorem gY.of_below(h:Below W.heap.size W W')(D:K.n₀<=W.heap.size):gY K W W' :=
 ⟨h.size,λk _ _ hk _=>(h.block k (dM hk).1).trans hk,λk _ _ _ hk _ _=>(h.block k (dM hk).1).trans hk,h.mono D⟩
theorem gY.of_keeps(h:dD TK K.B W W')(hl:Below K.n₀ W W'):gY K W W':=⟨h.size,h.same,λk cs t fr hk ht _=>h.cells k cs t fr hk ht,hl⟩
theorem gY.set{cs:Array Value}{t:TypeId}{fr:Nat × Nat}{i:Nat}(hb:W.heap[K.q]?=some (.cells cs t fr))(U:K.n₀<=K.q)(v:Value):gY K W (W.setCell ⟨K.q,i,none⟩ v):=
 ⟨by simp,λk o _ hk V=>(aN _ _ _ k (λe=>by simp only at e;subst e;rw[hb]at hk;cases hk;cases V)).trans hk,
  λk D t' O hk _ hq=>(aN _ _ _ k (λe=>hq e)).trans hk,(ag _ _).setCell U _⟩
end
theorem qQ.stays{K:mq}{pm:Option Nat}{E:Env}{n:Int}{over:Bool}{W W':World}(h:qQ K pm E n over W)(hk:gY K W W'){n':Int}{over':Bool}
  (hb:W'.heap[K.q]?=some (.cells (K.cells pm E n' over') 246 (0,0))):qQ K pm E n' over' W' :=
 ⟨hb,h.bC.stays hk.same,rG h.things h.mt hk.same,rG h.aA h.mp hk.same,h.prog.below hk.low,h.n0,h.q,h.mt,h.mp⟩
theorem qQ.lt{K:mq}{pm:Option Nat}{E:Env}{n:Int}{over:Bool}{W:World}(h:qQ K pm E n over W):K.q<W.heap.size:=(dM h.box).1
theorem qQ.new{K:mq}{pm:Option Nat}{E:Env}{n:Int}{over:Bool}{W W':World}(h:qQ K pm E n over W)(hb:Below W.heap.size W W'):qQ K pm E n over W' :=
 h.stays (.of_below hb (by have:=h.lt;have:=h.q;have:=h.n0;omega)) ((hb.block _ h.lt).trans h.box)
def sZ(J Jx:List (Int × Int)->World->Prop)(cs:List Int)(over:Bool)(W:World):Prop :=
 (over=false/\J (lD cs 0) W)\/(over=true/\∃l,l≠[]/\l <+: lD cs 0/\Jx l W)
structure pW(K:mq)(J Jx:List (Int × Int)->World->Prop)(pm:Option Nat)(E:Env)(cs:List Int)(W:World):Prop where
 ex:∃over,qQ K pm E cs.length over W/\sZ J Jx cs over W
structure Told(K:mq)(J Jx:List (Int × Int)->World->Prop)(pm:Option Nat)(E:Env)(cs:List Int)(W W':World):Prop where
 st:pW K J Jx pm E cs W'
 fE:gY K W W'
def sV(K:mq)(J Jx:List (Int × Int)->World->Prop):Prop :=
 ∀(pm:Option Nat) (E:Env) (cs:List Int) (W:World) (c:Int),pW K J Jx pm E cs W->cs.length<1000000 ->
  Calls Tryz.prog 228 #[.pointer (some ⟨K.q,0,none⟩),.int .i64 c] W λo W'=>o=.returned (.tuple #[])/\Told K J Jx pm E (cs++[c]) W W'
theorem pW.new{K:mq}{J Jx:List (Int × Int)->World->Prop}{pm:Option Nat}{E:Env}{cs:List Int}{W W':World}(h:pW K J Jx pm E cs W)
  (hJ:jK 246 K.B J) (O:jK 246 K.B Jx) (hb:Below W.heap.size W W'):pW K J Jx pm E cs W':=by
 obtain⟨over,h1,D⟩:=h.ex;refine⟨over,h1.new hb,?_⟩;rcases D with ⟨e,D⟩|⟨e,l,U,V,h5⟩
 .exact .inl ⟨e,hJ.new D hb⟩
 .exact .inr ⟨e,l,U,V,O.new h5 hb⟩
end
theorem jJ(n:Int)(w:World):Calls Tryz.prog 254 #[.int .i64 n] w λo w'=>o=.returned (.bool (ik n))/\w=w':=by
 by_cases h1:1<=n
 .by_cases D:n<=16
  .have e:ik n=true:=aC ⟨h1,D⟩
   rw[e];go_enter Tryz.func254,Tryz.ntmps254
   go_wp2
   go_ret
   exact⟨by simp,rfl⟩
  .have e:ik n=false:=az (λh=>D h.2)
   rw[e];go_enter Tryz.func254,Tryz.ntmps254
   go_wp2
   go_ret
   exact⟨by simp,rfl⟩
 .have e:ik n=false:=az (λh=>h1 h.1)
  rw[e];go_enter Tryz.func254,Tryz.ntmps254
  go_wp2
  go_ret
  exact⟨by simp,rfl⟩
theorem oz(a b:Int)(w:World):Calls Tryz.prog 229 #[.int .i64 a,.int .i64 b] w λo w'=>o=.returned (.bool (iT a b))/\w=w':=by
 have D:=ae (jJ a w);have O:=ae (jJ b w);have U:iT a b=(ik a && ik b && decide (a≠b)):=rfl;rw[U];clear U;cases h1:ik a with
 |false =>
  rw[h1]at D;clear h1 O;go_enter Tryz.func229,Tryz.ntmps229
  go_wp2_with fail
  refine D.o.mono ?_;rintro o V ⟨rfl,rfl⟩;go_wp2_with fail
  go_ret
  exact⟨by simp,rfl⟩
 |true =>
  rw[h1]at D;clear h1;cases h2:ik b with
  |false =>
   rw[h2]at O;clear h2;go_enter Tryz.func229,Tryz.ntmps229
   go_wp2_with fail
   refine D.o.mono ?_;rintro o V ⟨rfl,rfl⟩;go_wp2_with fail
   refine O.o.mono ?_;rintro o w2 ⟨rfl,rfl⟩;go_wp2_with fail
   go_ret
   exact⟨by simp,rfl⟩
  |true =>
   rw[h2]at O;clear h2;go_enter Tryz.func229,Tryz.ntmps229
   go_wp2_with fail
   refine D.o.mono ?_;rintro o V ⟨rfl,rfl⟩;go_wp2_with fail
   refine O.o.mono ?_;rintro o w2 ⟨rfl,rfl⟩;go_wp2_with fail
   go_ret
   exact⟨by simp[bne,BEq.beq],rfl⟩
theorem IZ(n:Int)(w:World):Calls Tryz.prog 257 #[.int .i64 n] w λo w'=>o=.returned (.tuple #[.int .u32 (ug n),.int .i64 (xN n)])/\w=w':=by
 by_cases h:1<=n/\n<=16
 .rcases(show n=1\/n=2\/n=3\/n=4\/n=5\/n=6\/n=7\/n=8\/n=9\/n=10\/n=11\/n=12\/n=13\/n=14\/n=15\/n=16 by omega)with rfl|rfl|rfl|rfl|rfl|rfl|rfl|rfl|rfl|rfl|rfl|rfl|rfl|rfl|rfl|rfl
  all_goals
   clear h;go_enter Tryz.func257,Tryz.ntmps257
   go_wp2
   go_returns
   exact⟨by kernel_rfl,rfl⟩
 .have D:ug n=0:=if_neg (by simp[ik];omega)
  have O:xN n=220:=if_neg (by simp[ik];omega);rw[D,O];clear D O;by_cases h1:n<1
  .have U:decide (n<1)=true:=aC h1
   clear h h1;go_enter Tryz.func257,Tryz.ntmps257
   go_wp2
   go_returns
   exact⟨rfl,rfl⟩
  .have U:decide (n<1)=false:=az h1
   have V:decide (16<n)=true:=aC (by omega);clear h h1;go_enter Tryz.func257,Tryz.ntmps257
   go_wp2
   go_returns
   exact⟨rfl,rfl⟩
section
theorem qQ.cell{K:mq}{pm:Option Nat}{E:Env}{n:Int}{over:Bool}{W:World}(h:qQ K pm E n over W)(i:Nat)(v:Value)(D:(K.cells pm E n over)[i]?=some v):W.cell? ⟨K.q,i,none⟩=some v:=by
 simp[World.cell?,h.box,D]
theorem qQ.frozen{K:mq}{pm:Option Nat}{E:Env}{n:Int}{over:Bool}{W:World}(h:qQ K pm E n over W)(i:Nat):W.frozen? ⟨K.q,i,none⟩=false:=by
 simp[World.frozen?,h.box]
section
variable {K:mq}{pm:Option Nat}{E:Env}{n:Int}{over:Bool}{W:World}
theorem qQ.c1(h:qQ K pm E n over W):W.cell? ⟨K.q,1,none⟩=some (.int .i64 K.p.aS):=h.cell 1 _ rfl
theorem qQ.c13(h:qQ K pm E n over W):W.cell? ⟨K.q,13,none⟩=some (.slice K.p.rs.dO K.p.aA.length K.p.rs.df):=h.cell 13 _ rfl
theorem qQ.c22(h:qQ K pm E n over W):W.cell? ⟨K.q,22,none⟩=some (.map (some K.mt)):=h.cell 22 _ rfl
theorem qQ.c23(h:qQ K pm E n over W):W.cell? ⟨K.q,23,none⟩=some (.map (some K.mp)):=h.cell 23 _ rfl
theorem qQ.c24(h:qQ K pm E n over W):W.cell? ⟨K.q,24,none⟩=some (.map pm):=h.cell 24 _ rfl
theorem qQ.c25(h:qQ K pm E n over W):W.cell? ⟨K.q,25,none⟩=some (.int .i64 E.within):=h.cell 25 _ rfl
theorem qQ.c26(h:qQ K pm E n over W):W.cell? ⟨K.q,26,none⟩=some (.int .i64 n):=h.cell 26 _ rfl
theorem qQ.c28(h:qQ K pm E n over W):W.cell? ⟨K.q,28,none⟩=some K.yv:=h.cell 28 _ rfl
theorem qQ.c29(h:qQ K pm E n over W):W.cell? ⟨K.q,29,none⟩=some (.bool over):=h.cell 29 _ rfl
end
theorem qQ.lookP{K:mq}{pm:Option Nat}{E:Env}{n:Int}{over:Bool}{W:World}(h:qQ K pm E n over W){s:ByteArray}(D:s.size<=maxLen) :
  (Instr.lookup 244 (.map pm) (.string s) true).run Tryz.prog W=.ok (.tuple #[.agg #[.int .u8 ((look E.bC s).getD ⟨0,0⟩).bI,.int .i64 ((look E.bC s).getD ⟨0,0⟩).aS],.bool (look E.bC s).isSome]) W:=by
 cases pm with
 |none =>
  have e:look E.bC s=none:=by rw[show E.bC=[] from h.bC];rfl
  rw[e];exact iZ.look_nil JO W xH Tryz.underlying244 (zx D)
 |some m =>
  obtain⟨_,k,hm⟩:=h.bC;have:=hm.look_ok xH Tryz.underlying244 (zx D);rw[kR]at this;exact this
theorem qQ.lookT{K:mq}{pm:Option Nat}{E:Env}{n:Int}{over:Bool}{W:World}(h:qQ K pm E n over W){s:ByteArray}(D:s.size<=maxLen) :
  (Instr.lookup 244 (.map (some K.mt)) (.string s) false).run Tryz.prog W=.ok (.agg #[.int .u8 ((look (lH K.p) s).getD ⟨0,0⟩).bI,.int .i64 ((look (lH K.p) s).getD ⟨0,0⟩).aS]) W:=by
 obtain⟨k,hm⟩:=h.things;have:=hm.look xH Tryz.underlying244 (zx D);rw[kR]at this;exact this
theorem zk{K:mq}{pm:Option Nat}{E:Env}{n:Int}{over:Bool}(w:World)(h:qQ K pm E n over w)(s:ByteArray)(hs:s.size<=maxLen) :
  Calls Tryz.prog 256 #[.pointer (some ⟨K.q,0,none⟩),.string s] w λo w'=>o=.returned (.agg #[.int .u8 (dJ K.p E s).bI,.int .i64 (dJ K.p E s).aS])/\Below w.heap.size w w':=by
 have D:=jc w (.cells #[.int .u8 0,.int .i64 0] 264);have h1:=h.new D;have al:=h1.c24;have O:=h1.lookP hs;cases hl:look E.bC s with
 |some x =>
  have hf:dJ K.p E s=x:=by unfold dJ;rw[hl]
  rw[hf];rw[hl]at O;simp only[iq,Option.isSome_some]at O;clear hf hl D h1 h;go_enter Tryz.func256,Tryz.ntmps256
  go_wp2
  go_returns
  exact⟨rfl,((ag _ _).alloc (af _) _).alloc (by simp) _⟩
 |none =>
  have hf:dJ K.p E s=(look (lH K.p) s).getD ⟨0,0⟩:=by unfold dJ;rw[hl]
  rw[hl]at O;simp only[Option.getD_none,Option.isSome_none]at O;have U:Below w.heap.size w ((w.alloc (.cells #[.int .u8 0,.int .i64 0] 264)).alloc (.cells #[.int .u8 0,.int .i64 0] 264)):=D.alloc (dI (by simp)) _;have V:=h.new U;have ad:=V.c22;have ab:=V.lookT hs;rw[<-hf]at ab;generalize dJ K.p E s=y at *;clear hf hl D h1 h V U;go_enter Tryz.func256,Tryz.ntmps256
  go_wp2
  go_returns
  exact⟨rfl,((ag _ _).alloc (af _) _).alloc (by simp) _⟩
theorem AU{K:mq}{pm:Option Nat}{E:Env}{n:Int}{over:Bool}(w:World)(h:qQ K pm E n over w)(O D:Int) :
  Calls Tryz.prog 253 #[.pointer (some ⟨K.q,0,none⟩),.int .i64 O,.int .i64 D] w λo w'=>o=.returned (.int .i64 (jd K.p O D))/\w=w':=by
 have U:=h.c13;clear h;by_cases hp:0<K.p.aA.length
 .have e:jd K.p O D=O:=if_pos hp
  rw[e];have V:decide (0<K.p.aA.length)=true:=aC hp;clear e hp;go_enter Tryz.func253,Tryz.ntmps253
  go_wp2
  go_ret
  exact⟨rfl,rfl⟩
 .have e:jd K.p O D=D:=if_neg hp
  rw[e];have V:decide (0<K.p.aA.length)=false:=az hp;clear e hp;go_enter Tryz.func253,Tryz.ntmps253
  go_wp2
  go_ret
  exact⟨rfl,rfl⟩
end
section
def gW:Array Value:=#[.string ⟨#[]⟩,.int .i64 0,.bool false,.nilFunc,
  .string ⟨#[126]⟩,.int .i64 0,.bool false,.func (.func 282) #[] #[],
  .string ⟨#[45]⟩,.int .i64 0,.bool false,.func (.func 283) #[] #[],
  .string ⟨#[43]⟩,.int .i64 5,.bool false,.func (.func 284) #[] #[],
  .string ⟨#[45]⟩,.int .i64 5,.bool false,.func (.func 285) #[] #[],
  .string ⟨#[42]⟩,.int .i64 6,.bool false,.func (.func 286) #[] #[],
  .string ⟨#[47]⟩,.int .i64 6,.bool false,.func (.func 287) #[] #[],
  .string ⟨#[37]⟩,.int .i64 6,.bool false,.func (.func 288) #[] #[],
  .string ⟨#[38]⟩,.int .i64 2,.bool false,.func (.func 289) #[] #[],
  .string ⟨#[124]⟩,.int .i64 1,.bool false,.func (.func 290) #[] #[],
  .string ⟨#[94]⟩,.int .i64 1,.bool false,.func (.func 291) #[] #[],
  .string ⟨#[60,60]⟩,.int .i64 4,.bool false,.func (.func 292) #[] #[],
  .string ⟨#[62,62]⟩,.int .i64 4,.bool false,.func (.func 293) #[] #[],
  .string ⟨#[61,61]⟩,.int .i64 3,.bool true,.func (.func 294) #[] #[],
  .string ⟨#[33,61]⟩,.int .i64 3,.bool true,.func (.func 296) #[] #[],
  .string ⟨#[60]⟩,.int .i64 3,.bool true,.func (.func 297) #[] #[],
  .string ⟨#[60,61]⟩,.int .i64 3,.bool true,.func (.func 298) #[] #[]]
def Sj:Array Value:=#[.string ⟨#[]⟩,.int .i64 0,.bool false,.nilFunc,.string ⟨#[]⟩,.int .i64 0,.bool false,.nilFunc,.string ⟨#[]⟩,.int .i64 0,.bool false,.nilFunc,.string ⟨#[]⟩,.int .i64 0,.bool false,.nilFunc,.string ⟨#[]⟩,.int .i64 0,.bool false,.nilFunc,.string ⟨#[]⟩,.int .i64 0,.bool false,.nilFunc,.string ⟨#[]⟩,.int .i64 0,.bool false,.nilFunc,.string ⟨#[]⟩,.int .i64 0,.bool false,.nilFunc,.string ⟨#[]⟩,.int .i64 0,.bool false,.nilFunc,.string ⟨#[]⟩,.int .i64 0,.bool false,.nilFunc,.string ⟨#[]⟩,.int .i64 0,.bool false,.nilFunc,.string ⟨#[]⟩,.int .i64 0,.bool false,.nilFunc,.string ⟨#[]⟩,.int .i64 0,.bool false,.nilFunc,.string ⟨#[]⟩,.int .i64 0,.bool false,.nilFunc,.string ⟨#[]⟩,.int .i64 0,.bool false,.nilFunc,.string ⟨#[]⟩,.int .i64 0,.bool false,.nilFunc,.string ⟨#[]⟩,.int .i64 0,.bool false,.nilFunc]
theorem zY:(Tryz.prog.info? 311).map (·.size)=some gW.size:=by kernel_rfl
theorem Oj:Tryz.prog.underlying 311=some (.array 17 310):=by kernel_rfl
theorem Hl:gW.all (·.oneCell')=true:=by kernel_rfl
section
variable {P:Program}{ops:Array Oper}{Q:Exit->Act->World->Prop}{a:Act}{w w':World}{rest:List Oper}{o:Oper}
theorem LF{v:Value}(O:o.guard=none)(h:(execOp a.eval o).run P w=.ok (.value v) w')(k:wpList P ops Q rest (a.put o.dst v) w'):wpList P ops Q (o::rest) a w :=
 wpList_plain O λK D=>by unfold Oper.wp;rw[h];exact D _ _ k
theorem BU(O:o.guard=none)(h:(execOp a.eval o).run P w=.ok .skip w')(k:wpList P ops Q rest (a.put o.dst undef) w'):wpList P ops Q (o::rest) a w :=
 wpList_plain O λK D=>by unfold Oper.wp;rw[h];exact D _ _ k
theorem mi{t:TypeId}{c D:Array Value}(O:o.guard=none)(x v:Operand)(U:o.op=.store t x v)(hx:a.eval x=.pointer (some ⟨w.heap.size,0,none⟩))(hv:a.eval v=.agg D)
  (hi:(P.info? t).map (·.size)=some D.size) (V:c.size=D.size) (h1:D.all (·.oneCell')=true) (k:wpList P ops Q rest (a.put o.dst undef) (w.alloc (.cells D t))):wpList P ops Q (o::rest) a (w.alloc (.cells c t)):=
 BU O (by simp only[execOp,U,hx,hv,Sem.run_bind,run_storeAt_new w t c D hi V h1];rfl) k
theorem dY{t:TypeId}{z:Array Value}(D:o.guard=none)(O:o.op=.alloc t)(hz:(zeroValue t).run P w=.ok (.agg z) w)(k:wpList P ops Q rest (a.put o.dst (.pointer (some ⟨w.heap.size,0,none⟩))) (w.alloc (.cells z t))):wpList P ops Q (o::rest) a w :=
 LF D (by simp[execOp,O,Sem.run_bind,Instr.alloc,hz,go_sem,Value.cells]) k
theorem wpList_build(U:o.guard=none)(t:TypeId)(D:Array (Nat × Operand))(V:o.op=.build t D)(cells:Array Value)
  (h:P.built t (D.map λ(i,x)=>(i,a.eval x)).toList=some cells) (k:wpList P ops Q rest (a.put o.dst (.agg cells)) w):wpList P ops Q (o::rest) a w :=
 wpList_plain U λK O=>wp_build t D V (by rw[h];rfl) (O _ _ (by rw[h];exact k))
end
theorem wJ(w:World):(zeroValue 311).run Tryz.prog w=.ok (.agg Sj) w:=(zero_of_info (n:=68) (by kernel_rfl)).1 w
theorem xC(w:World):Calls Tryz.prog 275 #[] w λo w'=>o=.returned (.agg gW)/\w'=w.alloc (.cells gW 311):=by
 go_enter Tryz.func275,Tryz.ntmps275
 go_wp2_with(first
  |(refine dY (t:=311) rfl rfl (wJ _) ?_)
  |(refine wpList_build rfl 311 _ rfl gW (by kernel_rfl) ?_)
  |(refine mi (t:=311) rfl _ _ rfl rfl rfl zY (by kernel_rfl) Hl ?_)
  |fail)
 exact aW (v:=.agg gW) (aL rfl _ _ w.heap.size _ gW (0,0) _ rfl (heap_alloc_last w _) Oj rfl zY) rfl ⟨rfl,rfl⟩
end
section
def TZ{α:Type}(F:Fence)(n:Nat)(P:Program)(g:Nat)(lb:Array Value)(O:α->Array Value)(T:TypeId->Bool)(Tc:TypeId)(n₀:Nat)(S Sp:List α->Prop)(N:Nat)(w:World):Prop :=
 ∀(l:Nat) (J Jx:List α->World->Prop) (W:World),Below w.heap.size w W->jK Tc W.heap.size J->jK Tc W.heap.size Jx ->
  (∀pre x D,J pre D->pre.length<N->YieldAt F (n - 1) P l (O x) D λe W' =>
   (e=.returned (.bool true)/\J (pre++[x]) W'/\dD T W.heap.size D W'/\Below n₀ D W')\/(e=.returned (.bool false)/\Jx (pre++[x]) W'/\dD T W.heap.size D W'/\Below n₀ D W')) ->
  J [] W ->
  CallsIn F n P g (#[.func (.yield l) #[] #[]]++lb) W λe W'=>(∃v,e=.returned v)/\((∃U,S U/\J U W')\/(∃pre,Sp pre/\Jx pre W'))
def PW{α:Type}(T:TypeId->Bool)(B n₀:Nat)(I:List α->World->Prop)(O:Code->List α->World->Prop)(D:List α)(W:World):Exit->Act->World->Prop
 |.normal,_,W'=>dD T B W W'/\Below n₀ W W'/\I D W'
 |.ret,_,W'=>dD T B W W'/\Below n₀ W W'/\O .ret D W'
 |.exit id,_,W'=>dD T B W W'/\Below n₀ W W'/\O (.exit id) D W'
 |.goto t,_,W'=>dD T B W W'/\Below n₀ W W'/\O (.goto t) D W'
 |_,_,_=>False
variable {F:Fence}{n:Nat}{P:Program}{w:World}
theorem xI{α:Type}{g:Operand}{ps:Array Tmp}{assign body:Code}{Q:Exit->Act->World->Prop}{a:Act}{w:World}
  (b5:F.round=none) (h1:F.depth.isSome=true->1<=n) {gf:Nat}{lb:Array Value}(hg:a.eval g=.func (.func gf) #[] lb) (bk:F.fn gf) (eg:∀args w,(callFunc gf args).run P w=.ok (.enter gf args) w)
  {aw:α->Array Value}{T:TypeId->Bool}{n₀:Nat}{S Sp:List α->Prop}{N:Nat}{w0:World}{Tc:TypeId}(bi:TZ F (n - 1) P gf lb aw T Tc n₀ S Sp N w0) (b7:n₀<=w.heap.size) (bd:Below w0.heap.size w0 w) (b4:∀x,(aw x).size=ps.size)
  (I:List α->World->Prop) (Ix:Code->List α->World->Prop) (hI:jK Tc w.heap.size I) (a4:∀c,jK Tc w.heap.size (Ix c)) (h0:I [] w) (Ax:α->Act->World->Prop) (bj:∀x a',jK Tc w.heap.size (λ(_:Unit) W=>Ax x a' W))
  (a5:∀(l:Nat) (pre:List α) (x:α) (W:World) (K:Act->World->Prop),I pre W->(∀a' W',dD T w.heap.size W W'->Below n₀ W W'->I pre W'->Ax x a' W'->K a' W') ->
   assign.wpIn (F.inRound l) (n - 1 - 1) P (Exit.then K (λ_ _ _=>False)) { tmps:=(ps.zip (aw x)).foldl (λt (p,v)=>t.setIfInBounds p v) a.tmps,defers:=[] } W)
  (a9:∀(l:Nat) (pre:List α) (x:α) (a':Act) (W:World),w.heap.size<=l->I pre W->Ax x a' W->pre.length<N->body.wpIn (F.inRound l) (n - 1 - 1) P (PW T w.heap.size n₀ I Ix (pre++[x]) W) a' W)
  (aE:∀(D:Nat) (xs:List α) (W:World),w.heap.size<=D->S xs->I xs W->W.heap[D]?=some (.deferred (some []))->Q .normal { a with defers:={ target:=.collected D,args:=#[] }::a.defers } W)
  (bc:∀(D:Nat) (c:Code) (pre:List α) (W:World),w.heap.size<=D->Sp pre->Ix c pre W->W.heap[D]?=some (.deferred (some []))->c.wpIn F n P Q { a with defers:={ target:=.collected D,args:=#[] }::a.defers } W) :
  (Code.rangeFunc g ps assign body).wpIn F n P Q a w:=by
 refine wpIn_rangeFunc ?_;intro fn hfn;rw[b5];obtain⟨U,O⟩:∃U:LoopState->Option Code->Loop,U=λst pe=>{ state:=st,pending:=pe,fn,tmps:=a.tmps,params:=ps,assign,body,defers:=w.heap.size }:=⟨_,rfl⟩
 obtain⟨W1,a1⟩:∃W1,(w.alloc (.deferred (some []))).alloc (.loop (U .ready none))=W1:=⟨_,rfl⟩;have bo:W1.heap[w.heap.size+1]?=some (.loop (U .ready none)):=by
  rw[<-a1];have:=gM (w.alloc (.deferred (some []))) (.loop (U .ready none));rwa [di]at this
 have bm:W1.heap[w.heap.size]?=some (.deferred (some [])):=by
  rw[<-a1];exact(eZ _ _ _ (by simp)).trans (gM w _)
 have bl:I [] W1:=by rw[<-a1];exact hI.alloc _ (hI.alloc _ h0)
 have b6:W1.heap.size=w.heap.size+2:=by rw[<-a1];simp
 have b0:Below w.heap.size w W1:=by rw[<-a1];exact((ag _ w).alloc (af _) _).alloc (by simp) _
 have bw:Below w0.heap.size w0 W1:=bd.trans (b0.mono bd.size);refine⟨w.heap.size+1,[{ target:=.collected w.heap.size,args:=#[] }],W1,{ target:=.fn (.func gf) lb,args:=#[.func (.yield (w.heap.size+1)) #[] #[]] },W1,gf,
  #[.func (.yield (w.heap.size+1)) #[] #[]]++lb,W1,?_,?_,?_,?_,h1,?_⟩
 .rw[<-a1,O];exact run_enterLoop_outer _ _ _ _ _
 .simp only[resolve,hg]
  simp[go_sem]
 .intro f' be;simp[Target.leads]at be;subst be;exact bk
 .simp[invoke,go_sem,eg]
 .have a8:∀{A:World}{row:Option Nat},(∀r,row=some r->W1.heap.size<=r/\∃o:Obj,A.heap[r]?=some o/\(o.isCells=false\/∃cs fr,o=.cells cs Tc fr))->(∀r,row=some r->w.heap.size<=r/\∃o:Obj,A.heap[r]?=some o/\(o.isCells=false\/∃cs fr,o=.cells cs Tc fr)):=
   λhr r e=>⟨by have:=(hr r e).1;omega,(hr r e).2⟩
  have am:∀{A B:World}{row:Option Nat}{k:Nat}{o:Obj},k<W1.heap.size->A.heap[k]?=some o->A.grownBy B row->(∀r,row=some r->W1.heap.size<=r/\∃o:Obj,A.heap[r]?=some o/\(o.isCells=false\/∃cs fr,o=.cells cs Tc fr))->B.heap[k]?=some o :=
   λ{A B row k o} hk h al hr=>(al.block k (dM h).1 (λe=>by have:=(hr k e.symm).1;omega)).trans h
  refine(bi (w.heap.size+1)
   (λpre W=>I pre W/\W.heap[w.heap.size+1]?=some (.loop (U .ready none))/\W.heap[w.heap.size]?=some (.deferred (some [])))
   (λpre W=>∃c,Ix c pre W/\W.heap[w.heap.size+1]?=some (.loop (U .done (some c)))/\W.heap[w.heap.size]?=some (.deferred (some [])))
   W1 bw
   (λs A B row hs al hr=>⟨hI s A B row hs.1 al (a8 hr),am (by omega) hs.2.1 al hr,am (by omega) hs.2.2 al hr⟩)
   (λs A B row hs al hr=>by
    obtain⟨c,hc,hl,hk⟩:=hs;exact⟨c,a4 c s A B row hc al (a8 hr),am (by omega) hl al hr,am (by omega) hk al hr⟩)
   ?_ ⟨bl,bo,bm⟩).mono ?_
  .rintro pre x W ⟨hi,hl,hk⟩ bh
   have hy:=run_yield (P:=P) (args:=aw x) hl (by rw[O];exact b4 x);rw[O]at hy;refine⟨fn,_,assign,body,hy,roundIn_of_wpIn hfn (a5 _ pre x W _ hi ?_)⟩;clear hy;intro a' Wa ba a7 b1 bt
   replace hl:=ba.same _ _ (by omega) hl rfl
   replace hk:=ba.same _ _ (af _) hk rfl
   replace hlt:w.heap.size+1<Wa.heap.size:=(dM hl).1
   clear hi;refine⟨_,run_beginRound hl (by rw[O]),?_⟩;have b3:(Wa.putObj (w.heap.size+1) (.loop { U .ready none with state:=.busy })).heap[w.heap.size+1]?=some (.loop { U .ready none with state:=.busy }):=World.putObj_heap_same hlt;have b2:(Wa.putObj (w.heap.size+1) (.loop { U .ready none with state:=.busy })).heap[w.heap.size]?=some (.deferred (some [])):=(dE (by omega)).trans hk;refine wpIn_mono (a9 _ pre x a' _ (by omega) (hI.putObj _ b1 (by omega) hl rfl) ((bj x a').putObj (s:=()) _ bt (by omega) hl rfl) bh) ?_;have a6:∀(ab:Option Code) (W3:World),dD T w.heap.size (Wa.putObj (w.heap.size+1) (.loop { U .ready none with state:=.busy })) W3 ->
     ∃W4,(Instr.endRound (w.heap.size+1) ab).run P W3=.ok (.bool ab.isNone) W4/\W4=W3.putObj (w.heap.size+1) (.loop (U (if ab.isNone then .ready else .done) ab)) /\
     W3.heap[w.heap.size+1]?=some (.loop { U .ready none with state:=.busy }) /\
     W4.heap[w.heap.size+1]?=some (.loop (U (if ab.isNone then .ready else .done) ab))/\W4.heap[w.heap.size]?=some (.deferred (some []))/\dD T W1.heap.size W W4:=λab W3 ad=>by
    have V:=ad.same _ _ (by omega) b3 rfl;have hr:=run_endRound (P:=P) ab V;rw[O]at hr;refine⟨_,hr,by rw[O],by rw[O]at V;rw[O];exact V,?_,(dE (by omega)).trans (ad.same _ _ (af _) b2 rfl),?_⟩
    .rw[O];exact World.putObj_heap_same (dM V).1
    .exact((ba.up (by omega)).trans (dD.put _ (by omega) hl rfl)).trans ((ad.up (by omega)).trans (dD.put _ (by omega) V rfl))
   rintro e a3 W3 hp;cases e with
   |normal =>
    obtain⟨ad,an,ao⟩:=hp;obtain⟨W4,hr,rfl,V,ar,ap,aq⟩:=a6 none W3 ad;exact⟨_,_,hr,.inl ⟨rfl,⟨hI.putObj _ ao (by omega) V rfl,ar,ap⟩,aq,(a7.trans ((jk Wa _ (by omega)).trans an)).trans (jk W3 _ (by omega))⟩⟩
   |ret =>
    obtain⟨ad,an,ao⟩:=hp;obtain⟨W4,hr,rfl,V,ar,ap,aq⟩:=a6 (some .ret) W3 ad;exact⟨_,_,hr,.inr ⟨rfl,⟨.ret,(a4 _).putObj _ ao (by omega) V rfl,ar,ap⟩,aq,(a7.trans ((jk Wa _ (by omega)).trans an)).trans (jk W3 _ (by omega))⟩⟩
   |exit id =>
    obtain⟨ad,an,ao⟩:=hp;obtain⟨W4,hr,rfl,V,ar,ap,aq⟩:=a6 (some (.exit id)) W3 ad;exact⟨_,_,hr,.inr ⟨rfl,⟨.exit id,(a4 _).putObj _ ao (by omega) V rfl,ar,ap⟩,aq,(a7.trans ((jk Wa _ (by omega)).trans an)).trans (jk W3 _ (by omega))⟩⟩
   |goto t =>
    obtain⟨ad,an,ao⟩:=hp;obtain⟨W4,hr,rfl,V,ar,ap,aq⟩:=a6 (some (.goto t)) W3 ad;exact⟨_,_,hr,.inr ⟨rfl,⟨.goto t,(a4 _).putObj _ ao (by omega) V rfl,ar,ap⟩,aq,(a7.trans ((jk Wa _ (by omega)).trans an)).trans (jk W3 _ (by omega))⟩⟩
   |panic ch=>exact hp.elim
   |outgrown=>exact hp.elim
  .rintro e W2 ⟨⟨v,rfl⟩,(⟨xs,hS,hi,hl,hk⟩|⟨pre,br,c,hi,hl,hk⟩)⟩
   .exact⟨none,_,by have:=run_endLoop (P:=P) hl (by rw[O];simp);rw[O]at this;exact this,
     aE w.heap.size xs _ (af _) hS (hI.putObj _ hi (by omega) hl rfl) ((dE (by omega)).trans hk)⟩
   .exact⟨some c,_,by have:=run_endLoop (P:=P) hl (by rw[O];simp);rw[O]at this;exact this,
     bc w.heap.size c pre _ (af _) br ((a4 c).putObj _ hi (by omega) hl rfl) ((dE (by omega)).trans hk)⟩
end
end Go.Proofs.YtepacjkacjabbaaGreatDoor
