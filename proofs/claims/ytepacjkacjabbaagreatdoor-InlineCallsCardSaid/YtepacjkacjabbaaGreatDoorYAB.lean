import Derived.WalkKit
set_option linter.all false
namespace Go.Proofs.YtepacjkacjabbaaGreatDoor
open Go Go.RowKit
section
structure Sp where
 dO:Option Addr
 df:Nat
def Sp.none:Sp:=⟨.none,0⟩
def Sp.val(s:Sp)(n:Nat):Value:=.slice s.dO n s.df
structure RowOf{α:Type}(n₀:Nat)(W:World)(s:Sp)(k:Nat)(enc:α->List Value)(l:List α):Prop where
 df:l.length<=s.df
 big:s.df<=maxLen
 few:l.length<=4398046511104
 row:0<l.length->∃b off,s.dO=some ⟨b,off,.none⟩/\b<n₀/\∀j (h:j<l.length) r u,(enc (l[j]))[r]?=some u->W.cell? ⟨b,off+j*k+r,.none⟩=some u
section
variable {α:Type}{n₀ n₁:Nat}{W W':World}{s:Sp}{k:Nat}{enc:α->List Value}{l:List α}
theorem RowOf.below(h:RowOf n₀ W s k enc l)(hb:Below n₀ W W'):RowOf n₀ W' s k enc l :=
 ⟨h.df,h.big,h.few,λO=>by
  obtain⟨b,off,e,D,hc⟩:=h.row O;exact⟨b,off,e,D,λj U r u V=>(hb.cell (p:=⟨b,off+j*k+r,.none⟩) D).trans (hc j U r u V)⟩⟩
theorem RowOf.more(h:RowOf n₀ W s k enc l)(U:n₀<=n₁):RowOf n₁ W s k enc l :=
 ⟨h.df,h.big,h.few,λD=>by
  obtain⟨b,off,e,O,hc⟩:=h.row D;exact⟨b,off,e,by omega,hc⟩⟩
theorem RowOf.nil:RowOf n₀ W Sp.none k enc ([]:List α):=⟨Nat.le_refl _,Nat.zero_le _,Nat.zero_le _,λh=>absurd h (by simp)⟩
end
inductive ah where
 |mk (bI op bv aS:Int) (aT:ByteArray) (sp:Sp) (cu:List ah)
namespace ah
def bI:ah->Int|mk k _ _ _ _ _ _=>k
def op:ah->Int|mk _ o _ _ _ _ _=>o
def bv:ah->Int|mk _ _ v _ _ _ _=>v
def aS:ah->Int|mk _ _ _ w _ _ _=>w
def aT:ah->ByteArray|mk _ _ _ _ n _ _=>n
def sp:ah->Sp|mk _ _ _ _ _ s _=>s
def cu:ah->List ah|mk _ _ _ _ _ _ l=>l
def cells(e:ah):List Value:=[.int .u8 e.bI,.int .u8 e.op,.int .u32 e.bv,.int .i64 e.aS,.string e.aT,e.sp.val e.cu.length]
def val(e:ah):Value:=.agg #[.int .u8 e.bI,.int .u8 e.op,.int .u32 e.bv,.int .i64 e.aS,.string e.aT,e.sp.val e.cu.length]
end ah
inductive mM(n₀:Nat)(W:World):ah->Prop
 |mk (e:ah) (k:0<=e.bI/\e.bI<=255) (o:0<=e.op/\e.op<=255) (v:0<=e.bv/\e.bv<=4294967295) (w:(Lit.int .i64 e.aS).wf=true) (n:e.aT.size<=maxLen)
   (row:RowOf n₀ W e.sp 6 ah.cells e.cu) (cu:∀s,s∈e.cu->mM n₀ W s):mM n₀ W e
theorem mM.stays{n₀:Nat}{W W':World}{e:ah}(h:mM n₀ W e)(hb:Below n₀ W W'):mM n₀ W' e:=by
 induction h with
 |mk e k o v w n row _ D=>exact .mk e k o v w n (row.below hb) D
theorem mM.more{n₀ n₁:Nat}{W:World}{e:ah}(h:mM n₀ W e)(D:n₀<=n₁):mM n₁ W e:=by
 induction h with
 |mk e k o v w n row _ O=>exact .mk e k o v w n (row.more D) O
theorem mM.row{n₀:Nat}{W:World}{e:ah}(h:mM n₀ W e):RowOf n₀ W e.sp 6 ah.cells e.cu:=by cases h;assumption
theorem mM.sub{n₀:Nat}{W:World}{e:ah}(h:mM n₀ W e):∀s,s∈e.cu->mM n₀ W s:=by cases h;assumption
inductive aa where
 |mk (bI:Int) (aT:ByteArray) (es:Sp) (bf:List ah) (gT:Int) (ts:Sp) (gy:List aa) (os:Sp) (iD:List aa)
namespace aa
def bI:aa->Int|mk k _ _ _ _ _ _ _ _=>k
def aT:aa->ByteArray|mk _ n _ _ _ _ _ _ _=>n
def es:aa->Sp|mk _ _ s _ _ _ _ _ _=>s
def bf:aa->List ah|mk _ _ _ l _ _ _ _ _=>l
def gT:aa->Int|mk _ _ _ _ b _ _ _ _=>b
def ts:aa->Sp|mk _ _ _ _ _ s _ _ _=>s
def gy:aa->List aa|mk _ _ _ _ _ _ l _ _=>l
def os:aa->Sp|mk _ _ _ _ _ _ _ s _=>s
def iD:aa->List aa|mk _ _ _ _ _ _ _ _ l=>l
def cells(s:aa):List Value:=[.int .u8 s.bI,.string s.aT,s.es.val s.bf.length,.int .i64 s.gT,s.ts.val s.gy.length,s.os.val s.iD.length]
def val(s:aa):Value:=.agg #[.int .u8 s.bI,.string s.aT,s.es.val s.bf.length,.int .i64 s.gT,s.ts.val s.gy.length,s.os.val s.iD.length]
end aa
inductive lV(n₀:Nat)(W:World):aa->Prop
 |mk (s:aa) (k:0<=s.bI/\s.bI<=255) (b:(Lit.int .i64 s.gT).wf=true) (n:s.aT.size<=maxLen)
   (erow:RowOf n₀ W s.es 6 ah.cells s.bf) (bf:∀e,e∈s.bf->mM n₀ W e)
   (trow:RowOf n₀ W s.ts 6 aa.cells s.gy) (gy:∀t,t∈s.gy->lV n₀ W t)
   (orow:RowOf n₀ W s.os 6 aa.cells s.iD) (iD:∀t,t∈s.iD->lV n₀ W t):lV n₀ W s
theorem lV.stays{n₀:Nat}{W W':World}{s:aa}(h:lV n₀ W s)(hb:Below n₀ W W'):lV n₀ W' s:=by
 induction h with
 |mk s k b n U ex V _ or _ D O=>exact .mk s k b n (U.below hb) (λe he=>(ex e he).stays hb) (V.below hb) D (or.below hb) O
theorem lV.more{n₀ n₁:Nat}{W:World}{s:aa}(h:lV n₀ W s)(D:n₀<=n₁):lV n₁ W s:=by
 induction h with
 |mk s k b n V ex tr _ or _ O U=>exact .mk s k b n (V.more D) (λe he=>(ex e he).more D) (tr.more D) O (or.more D) U
structure bO where
 aT:ByteArray
 aS:Int
 size:Int
def bO.cells(d:bO):List Value:=[.string d.aT,.int .i64 d.aS,.int .i64 d.size]
def bO.val(d:bO):Value:=.agg #[.string d.aT,.int .i64 d.aS,.int .i64 d.size]
def Gb(d:bO):Prop:=d.aT.size<=maxLen/\(Lit.int .i64 d.aS).wf=true/\(Lit.int .i64 d.size).wf=true
structure q8(n₀:Nat)(W:World)(s:Sp)(l:List bO):Prop where
 row:RowOf n₀ W s 3 bO.cells l
 ok:∀d∈l,Gb d
theorem q8.below{n₀:Nat}{W W':World}{s:Sp}{l:List bO}(h:q8 n₀ W s l)(hb:Below n₀ W W'):q8 n₀ W' s l:=⟨h.row.below hb,h.ok⟩
theorem q8.more{n₀ n₁:Nat}{W:World}{s:Sp}{l:List bO}(h:q8 n₀ W s l)(D:n₀<=n₁):q8 n₁ W s l:=⟨h.row.more D,h.ok⟩
structure gq(n₀:Nat)(W:World)(s:Sp)(l:List aa):Prop where
 row:RowOf n₀ W s 6 aa.cells l
 ok:∀t∈l,lV n₀ W t
theorem gq.below{n₀:Nat}{W W':World}{s:Sp}{l:List aa}(h:gq n₀ W s l)(hb:Below n₀ W W'):gq n₀ W' s l:=⟨h.row.below hb,λt ht=>(h.ok t ht).stays hb⟩
theorem gq.more{n₀ n₁:Nat}{W:World}{s:Sp}{l:List aa}(h:gq n₀ W s l)(D:n₀<=n₁):gq n₁ W s l:=⟨h.row.more D,λt ht=>(h.ok t ht).more D⟩
structure H8(n₀:Nat)(W:World)(s:Sp)(l:List ah):Prop where
 row:RowOf n₀ W s 6 ah.cells l
 ok:∀e∈l,mM n₀ W e
theorem H8.below{n₀:Nat}{W W':World}{s:Sp}{l:List ah}(h:H8 n₀ W s l)(hb:Below n₀ W W'):H8 n₀ W' s l:=⟨h.row.below hb,λt ht=>(h.ok t ht).stays hb⟩
theorem H8.more{n₀ n₁:Nat}{W:World}{s:Sp}{l:List ah}(h:H8 n₀ W s l)(D:n₀<=n₁):H8 n₁ W s l:=⟨h.row.more D,λt ht=>(h.ok t ht).more D⟩
theorem lV.xs{n₀:Nat}{W:World}{s:aa}(h:lV n₀ W s):H8 n₀ W s.es s.bf:=by cases h with|mk _ _ _ _ er ex=>exact⟨er,ex⟩
theorem lV.kS{n₀:Nat}{W:World}{s:aa}(h:lV n₀ W s):gq n₀ W s.ts s.gy:=by cases h with|mk _ _ _ _ _ _ tr th=>exact⟨tr,th⟩
theorem lV.ko{n₀:Nat}{W:World}{s:aa}(h:lV n₀ W s):gq n₀ W s.os s.iD:=by cases h with|mk _ _ _ _ _ _ _ _ orow el=>exact⟨orow,el⟩
structure dH where
 block:Int
 bv:ah
def dH.cells(i:dH):List Value:=.int .i64 i.block::i.bv.cells
def dH.val(i:dH):Value:=.agg #[.int .i64 i.block,.int .u8 i.bv.bI,.int .u8 i.bv.op,.int .u32 i.bv.bv,.int .i64 i.bv.aS,.string i.bv.aT,i.bv.sp.val i.bv.cu.length]
structure bG where
 aT:ByteArray
 ps:Sp
 bC:List bO
 bs:Sp
 eY:List aa
def bG.cells(p:bG):List Value:=[.string p.aT,p.ps.val p.bC.length,p.bs.val p.eY.length]
structure aj where
 iF:Int
 aS:Int
 is:Sp
 fB:List bO
 gs:Sp
 ek:List bO
 vs:Sp
 gp:List bO
 as:Sp
 fP:List bO
 eD:ah
 ns:Sp
 eQ:List dH
 rs:Sp
 aA:List bG
 ws:Sp
 eX:List aa
 cs:Sp
 eB:List aa
 d9:ah
def aj.val(p:aj):Value:=.agg #[.int .i64 p.iF,.int .i64 p.aS,p.is.val p.fB.length,p.gs.val p.ek.length,p.vs.val p.gp.length,p.as.val p.fP.length,.int .u8 p.eD.bI,.int .u8 p.eD.op,.int .u32 p.eD.bv,.int .i64 p.eD.aS,.string p.eD.aT,p.eD.sp.val p.eD.cu.length,p.ns.val p.eQ.length,p.rs.val p.aA.length,p.ws.val p.eX.length,p.cs.val p.eB.length,.int .u8 p.d9.bI,.int .u8 p.d9.op,.int .u32 p.d9.bv,.int .i64 p.d9.aS,.string p.d9.aT,p.d9.sp.val p.d9.cu.length]
def aj.cells(p:aj):List Value:=[.int .i64 p.iF,.int .i64 p.aS,p.is.val p.fB.length,p.gs.val p.ek.length,p.vs.val p.gp.length,p.as.val p.fP.length,.int .u8 p.eD.bI,.int .u8 p.eD.op,.int .u32 p.eD.bv,.int .i64 p.eD.aS,.string p.eD.aT,p.eD.sp.val p.eD.cu.length,p.ns.val p.eQ.length,p.rs.val p.aA.length,p.ws.val p.eX.length,p.cs.val p.eB.length,.int .u8 p.d9.bI,.int .u8 p.d9.op,.int .u32 p.d9.bv,.int .i64 p.d9.aS,.string p.d9.aT,p.d9.sp.val p.d9.cu.length]
structure OQ(n₀:Nat)(W:World)(i:dH):Prop where
 block:(Lit.int .i64 i.block).wf=true
 bv:mM n₀ W i.bv
structure tH(n₀:Nat)(W:World)(p:bG):Prop where
 aT:p.aT.size<=maxLen
 bC:q8 n₀ W p.ps p.bC
 eY:gq n₀ W p.bs p.eY
structure jT(n₀:Nat)(W:World)(p:aj):Prop where
 iF:(Lit.int .i64 p.iF).wf=true
 aS:(Lit.int .i64 p.aS).wf=true
 fB:q8 n₀ W p.is p.fB
 ek:q8 n₀ W p.gs p.ek
 gp:q8 n₀ W p.vs p.gp
 fP:q8 n₀ W p.as p.fP
 eD:mM n₀ W p.eD
 irow:RowOf n₀ W p.ns 7 dH.cells p.eQ
 eQ:∀i∈p.eQ,OQ n₀ W i
 prow:RowOf n₀ W p.rs 3 bG.cells p.aA
 aA:∀q∈p.aA,tH n₀ W q
 eX:gq n₀ W p.ws p.eX
 eB:gq n₀ W p.cs p.eB
 d9:mM n₀ W p.d9
theorem OQ.below{n₀:Nat}{W W':World}{i:dH}(h:OQ n₀ W i)(hb:Below n₀ W W'):OQ n₀ W' i:=⟨h.block,h.bv.stays hb⟩
theorem tH.below{n₀:Nat}{W W':World}{p:bG}(h:tH n₀ W p)(hb:Below n₀ W W'):tH n₀ W' p:=⟨h.aT,h.bC.below hb,h.eY.below hb⟩
theorem jT.below{n₀:Nat}{W W':World}{p:aj}(h:jT n₀ W p)(hb:Below n₀ W W'):jT n₀ W' p :=
 ⟨h.iF,h.aS,h.fB.below hb,h.ek.below hb,h.gp.below hb,h.fP.below hb,h.eD.stays hb,h.irow.below hb,λi hi=>(h.eQ i hi).below hb,h.prow.below hb,λq hq=>(h.aA q hq).below hb,h.eX.below hb,h.eB.below hb,h.d9.stays hb⟩
theorem jT.more{n₀ n₁:Nat}{W:World}{p:aj}(h:jT n₀ W p)(D:n₀<=n₁):jT n₁ W p :=
 ⟨h.iF,h.aS,h.fB.more D,h.ek.more D,h.gp.more D,h.fP.more D,h.eD.more D,h.irow.more D,λi hi=>⟨(h.eQ i hi).block,(h.eQ i hi).bv.more D⟩,h.prow.more D,λq hq=>⟨(h.aA q hq).aT,(h.aA q hq).bC.more D,(h.aA q hq).eY.more D⟩,h.eX.more D,h.eB.more D,h.d9.more D⟩
def ah.pre:ah->List ah
 |mk k o v w n s l=>mk k o v w n s l::l.flatMap ah.pre
theorem ah.pre_eq(e:ah):e.pre=e::e.cu.flatMap ah.pre:=by
 cases e;rw[ah.pre];rfl
def aa.pre:aa->List aa
 |mk k n es ex b ts th os el=>mk k n es ex b ts th os el::(th.flatMap aa.pre++el.flatMap aa.pre)
theorem aa.pre_eq(s:aa):s.pre=s::(s.gy.flatMap aa.pre++s.iD.flatMap aa.pre):=by
 cases s;rw[aa.pre];rfl
end
end Go.Proofs.YtepacjkacjabbaaGreatDoor
