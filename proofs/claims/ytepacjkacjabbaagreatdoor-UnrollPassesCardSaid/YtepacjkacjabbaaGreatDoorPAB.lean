import Derived.Below
import Derived.RowKit
import Derived.WalkKit
namespace Go.Proofs.YtepacjkacjabbaaGreatDoor
section
open Go Go.RowKit
structure Sp where
 at_:Option Addr
 cap:Nat
def Sp.none:Sp:=⟨.none,0⟩
def Sp.val (s:Sp) (n:Nat):Value:=.slice s.at_ n s.cap
structure RowOf {α:Type} (n₀:Nat) (W:World) (s:Sp) (k:Nat) (enc:α→List Value) (l:List α):Prop where
 cap:l.length≤s.cap
 big:s.cap≤maxLen
 few:l.length≤4398046511104
 row:0<l.length→∃b off,s.at_=some ⟨b,off,.none⟩∧b<n₀∧∀j (h:j<l.length) r u,(enc (l[j]))[r]? = some u→W.cell? ⟨b,off+j*k+r,.none⟩=some u
section
variable {α:Type} {n₀ n₁:Nat} {W W':World} {s:Sp} {k:Nat} {enc:α→List Value} {l:List α}
theorem RowOf.below (h:RowOf n₀ W s k enc l) (hb:Below n₀ W W'):RowOf n₀ W' s k enc l :=
 ⟨h.cap,h.big,h.few,fun h0=>by
  obtain ⟨b,off,e,hlt,hc⟩:=h.row h0;exact ⟨b,off,e,hlt,fun j hj r u hu=>(hb.cell (p:=⟨b,off+j*k+r,.none⟩) hlt).trans (hc j hj r u hu)⟩⟩
theorem RowOf.more (h:RowOf n₀ W s k enc l) (hn:n₀≤n₁):RowOf n₁ W s k enc l :=
 ⟨h.cap,h.big,h.few,fun h0=>by
  obtain ⟨b,off,e,hlt,hc⟩:=h.row h0;exact ⟨b,off,e,by omega,hc⟩⟩
theorem RowOf.nil:RowOf n₀ W Sp.none k enc ([]:List α):=⟨Nat.le_refl _,Nat.zero_le _,Nat.zero_le _,fun h=>absurd h (by simp)⟩
end
inductive ae where
 | mk (kind op value width:Int) (name:ByteArray) (sp:Sp) (subs:List ae)
namespace ae
def kind:ae→Int | mk k _ _ _ _ _ _=>k
def op:ae→Int | mk _ o _ _ _ _ _=>o
def value:ae→Int | mk _ _ v _ _ _ _=>v
def width:ae→Int | mk _ _ _ w _ _ _=>w
def name:ae→ByteArray | mk _ _ _ _ n _ _=>n
def sp:ae→Sp | mk _ _ _ _ _ s _=>s
def subs:ae→List ae | mk _ _ _ _ _ _ l=>l
def cells (e:ae):List Value:=[.int .u8 e.kind,.int .u8 e.op,.int .u32 e.value,.int .i64 e.width,.string e.name,e.sp.val e.subs.length]
def val (e:ae):Value:=.agg #[.int .u8 e.kind,.int .u8 e.op,.int .u32 e.value,.int .i64 e.width,.string e.name,e.sp.val e.subs.length]
end ae
inductive iw (n₀:Nat) (W:World):ae→Prop
 | mk (e:ae) (k:0≤e.kind∧e.kind≤255) (o:0≤e.op∧e.op≤255) (v:0≤e.value∧e.value≤4294967295) (w:(Lit.int .i64 e.width).wf=true) (n:e.name.size≤maxLen)
   (row:RowOf n₀ W e.sp 6 ae.cells e.subs) (subs:∀s,s∈e.subs→iw n₀ W s):iw n₀ W e
theorem iw.stays {n₀:Nat} {W W':World} {e:ae} (h:iw n₀ W e) (hb:Below n₀ W W'):iw n₀ W' e:=by
 induction h with
 | mk e k o v w n row _ ih=>exact .mk e k o v w n (row.below hb) ih
theorem iw.more {n₀ n₁:Nat} {W:World} {e:ae} (h:iw n₀ W e) (hn:n₀≤n₁):iw n₁ W e:=by
 induction h with
 | mk e k o v w n row _ ih=>exact .mk e k o v w n (row.more hn) ih
theorem iw.row {n₀:Nat} {W:World} {e:ae} (h:iw n₀ W e):RowOf n₀ W e.sp 6 ae.cells e.subs:=by cases h;assumption
theorem iw.sub {n₀:Nat} {W:World} {e:ae} (h:iw n₀ W e):∀s,s∈e.subs→iw n₀ W s:=by cases h;assumption
inductive aa where
 | mk (kind:Int) (name:ByteArray) (es:Sp) (exprs:List ae) (bound:Int) (ts:Sp) (thn:List aa) (os:Sp) (els:List aa)
namespace aa
def kind:aa→Int | mk k _ _ _ _ _ _ _ _=>k
def name:aa→ByteArray | mk _ n _ _ _ _ _ _ _=>n
def es:aa→Sp | mk _ _ s _ _ _ _ _ _=>s
def exprs:aa→List ae | mk _ _ _ l _ _ _ _ _=>l
def bound:aa→Int | mk _ _ _ _ b _ _ _ _=>b
def ts:aa→Sp | mk _ _ _ _ _ s _ _ _=>s
def thn:aa→List aa | mk _ _ _ _ _ _ l _ _=>l
def os:aa→Sp | mk _ _ _ _ _ _ _ s _=>s
def els:aa→List aa | mk _ _ _ _ _ _ _ _ l=>l
def cells (s:aa):List Value:=[.int .u8 s.kind,.string s.name,s.es.val s.exprs.length,.int .i64 s.bound,s.ts.val s.thn.length,s.os.val s.els.length]
def val (s:aa):Value:=.agg #[.int .u8 s.kind,.string s.name,s.es.val s.exprs.length,.int .i64 s.bound,s.ts.val s.thn.length,s.os.val s.els.length]
end aa
inductive eu (n₀:Nat) (W:World):aa→Prop
 | mk (s:aa) (k:0≤s.kind∧s.kind≤255) (b:(Lit.int .i64 s.bound).wf=true) (n:s.name.size≤maxLen)
   (erow:RowOf n₀ W s.es 6 ae.cells s.exprs) (exprs:∀e,e∈s.exprs→iw n₀ W e)
   (trow:RowOf n₀ W s.ts 6 aa.cells s.thn) (thn:∀t,t∈s.thn→eu n₀ W t)
   (orow:RowOf n₀ W s.os 6 aa.cells s.els) (els:∀t,t∈s.els→eu n₀ W t):eu n₀ W s
theorem eu.stays {n₀:Nat} {W W':World} {s:aa} (h:eu n₀ W s) (hb:Below n₀ W W'):eu n₀ W' s:=by
 induction h with
 | mk s k b n er ex tr _ or _ ih1 ih2=>exact .mk s k b n (er.below hb) (fun e he=>(ex e he).stays hb) (tr.below hb) ih1 (or.below hb) ih2
theorem eu.more {n₀ n₁:Nat} {W:World} {s:aa} (h:eu n₀ W s) (hn:n₀≤n₁):eu n₁ W s:=by
 induction h with
 | mk s k b n er ex tr _ or _ ih1 ih2=>exact .mk s k b n (er.more hn) (fun e he=>(ex e he).more hn) (tr.more hn) ih1 (or.more hn) ih2
structure aG where
 name:ByteArray
 width:Int
 size:Int
def aG.cells (d:aG):List Value:=[.string d.name,.int .i64 d.width,.int .i64 d.size]
def aG.val (d:aG):Value:=.agg #[.string d.name,.int .i64 d.width,.int .i64 d.size]
def Gn (d:aG):Prop:=d.name.size≤maxLen∧(Lit.int .i64 d.width).wf=true∧(Lit.int .i64 d.size).wf=true
structure nQ (n₀:Nat) (W:World) (s:Sp) (l:List aG):Prop where
 row:RowOf n₀ W s 3 aG.cells l
 ok:∀d∈l,Gn d
theorem nQ.below {n₀:Nat} {W W':World} {s:Sp} {l:List aG} (h:nQ n₀ W s l) (hb:Below n₀ W W'):nQ n₀ W' s l:=⟨h.row.below hb,h.ok⟩
theorem nQ.more {n₀ n₁:Nat} {W:World} {s:Sp} {l:List aG} (h:nQ n₀ W s l) (hn:n₀≤n₁):nQ n₁ W s l:=⟨h.row.more hn,h.ok⟩
structure bX (n₀:Nat) (W:World) (s:Sp) (l:List aa):Prop where
 row:RowOf n₀ W s 6 aa.cells l
 ok:∀t∈l,eu n₀ W t
theorem bX.below {n₀:Nat} {W W':World} {s:Sp} {l:List aa} (h:bX n₀ W s l) (hb:Below n₀ W W'):bX n₀ W' s l:=⟨h.row.below hb,fun t ht=>(h.ok t ht).stays hb⟩
theorem bX.more {n₀ n₁:Nat} {W:World} {s:Sp} {l:List aa} (h:bX n₀ W s l) (hn:n₀≤n₁):bX n₁ W s l:=⟨h.row.more hn,fun t ht=>(h.ok t ht).more hn⟩
structure yN (n₀:Nat) (W:World) (s:Sp) (l:List ae):Prop where
 row:RowOf n₀ W s 6 ae.cells l
 ok:∀e∈l,iw n₀ W e
theorem yN.below {n₀:Nat} {W W':World} {s:Sp} {l:List ae} (h:yN n₀ W s l) (hb:Below n₀ W W'):yN n₀ W' s l:=⟨h.row.below hb,fun t ht=>(h.ok t ht).stays hb⟩
theorem yN.more {n₀ n₁:Nat} {W:World} {s:Sp} {l:List ae} (h:yN n₀ W s l) (hn:n₀≤n₁):yN n₁ W s l:=⟨h.row.more hn,fun t ht=>(h.ok t ht).more hn⟩
theorem iw.xs {n₀:Nat} {W:World} {e:ae} (h:iw n₀ W e):yN n₀ W e.sp e.subs:=⟨h.row,h.sub⟩
theorem eu.xs {n₀:Nat} {W:World} {s:aa} (h:eu n₀ W s):yN n₀ W s.es s.exprs:=by cases h with | mk _ _ _ _ er ex=>exact ⟨er,ex⟩
theorem eu.then_ {n₀:Nat} {W:World} {s:aa} (h:eu n₀ W s):bX n₀ W s.ts s.thn:=by cases h with | mk _ _ _ _ _ _ tr th=>exact ⟨tr,th⟩
theorem eu.else_ {n₀:Nat} {W:World} {s:aa} (h:eu n₀ W s):bX n₀ W s.os s.els:=by cases h with | mk _ _ _ _ _ _ _ _ orow el=>exact ⟨orow,el⟩
structure bn where
 block:Int
 value:ae
def bn.cells (i:bn):List Value:=.int .i64 i.block::i.value.cells
def bn.val (i:bn):Value:=.agg #[.int .i64 i.block,.int .u8 i.value.kind,.int .u8 i.value.op,.int .u32 i.value.value,.int .i64 i.value.width,.string i.value.name,i.value.sp.val i.value.subs.length]
structure aK where
 name:ByteArray
 ps:Sp
 params:List aG
 bs:Sp
 body:List aa
def aK.cells (p:aK):List Value:=[.string p.name,p.ps.val p.params.length,p.bs.val p.body.length]
def aK.val (p:aK):Value:=.agg #[.string p.name,p.ps.val p.params.length,p.bs.val p.body.length]
structure af where
 blocks:Int
 width:Int
 is:Sp
 inputs:List aG
 gs:Sp
 ghosts:List aG
 vs:Sp
 vars:List aG
 as:Sp
 arrays:List aG
 require:ae
 ns:Sp
 inits:List bn
 rs:Sp
 procs:List aK
 ws:Sp
 work:List aa
 cs:Sp
 recover:List aa
 invariant:ae
def af.val (p:af):Value:=.agg #[.int .i64 p.blocks,.int .i64 p.width,p.is.val p.inputs.length,p.gs.val p.ghosts.length,p.vs.val p.vars.length,p.as.val p.arrays.length,.int .u8 p.require.kind,.int .u8 p.require.op,.int .u32 p.require.value,.int .i64 p.require.width,.string p.require.name,p.require.sp.val p.require.subs.length,p.ns.val p.inits.length,p.rs.val p.procs.length,p.ws.val p.work.length,p.cs.val p.recover.length,.int .u8 p.invariant.kind,.int .u8 p.invariant.op,.int .u32 p.invariant.value,.int .i64 p.invariant.width,.string p.invariant.name,p.invariant.sp.val p.invariant.subs.length]
def af.cells (p:af):List Value:=[.int .i64 p.blocks,.int .i64 p.width,p.is.val p.inputs.length,p.gs.val p.ghosts.length,p.vs.val p.vars.length,p.as.val p.arrays.length,.int .u8 p.require.kind,.int .u8 p.require.op,.int .u32 p.require.value,.int .i64 p.require.width,.string p.require.name,p.require.sp.val p.require.subs.length,p.ns.val p.inits.length,p.rs.val p.procs.length,p.ws.val p.work.length,p.cs.val p.recover.length,.int .u8 p.invariant.kind,.int .u8 p.invariant.op,.int .u32 p.invariant.value,.int .i64 p.invariant.width,.string p.invariant.name,p.invariant.sp.val p.invariant.subs.length]
structure Jo (n₀:Nat) (W:World) (i:bn):Prop where
 block:(Lit.int .i64 i.block).wf=true
 value:iw n₀ W i.value
structure Jp (n₀:Nat) (W:World) (p:aK):Prop where
 name:p.name.size≤maxLen
 params:nQ n₀ W p.ps p.params
 body:bX n₀ W p.bs p.body
structure jW (n₀:Nat) (W:World) (p:af):Prop where
 blocks:(Lit.int .i64 p.blocks).wf=true
 width:(Lit.int .i64 p.width).wf=true
 inputs:nQ n₀ W p.is p.inputs
 ghosts:nQ n₀ W p.gs p.ghosts
 vars:nQ n₀ W p.vs p.vars
 arrays:nQ n₀ W p.as p.arrays
 require:iw n₀ W p.require
 irow:RowOf n₀ W p.ns 7 bn.cells p.inits
 inits:∀i∈p.inits,Jo n₀ W i
 prow:RowOf n₀ W p.rs 3 aK.cells p.procs
 procs:∀q∈p.procs,Jp n₀ W q
 work:bX n₀ W p.ws p.work
 recover:bX n₀ W p.cs p.recover
 invariant:iw n₀ W p.invariant
theorem Jo.below {n₀:Nat} {W W':World} {i:bn} (h:Jo n₀ W i) (hb:Below n₀ W W'):Jo n₀ W' i:=⟨h.block,h.value.stays hb⟩
theorem Jp.below {n₀:Nat} {W W':World} {p:aK} (h:Jp n₀ W p) (hb:Below n₀ W W'):Jp n₀ W' p:=⟨h.name,h.params.below hb,h.body.below hb⟩
theorem jW.below {n₀:Nat} {W W':World} {p:af} (h:jW n₀ W p) (hb:Below n₀ W W'):jW n₀ W' p :=
 ⟨h.blocks,h.width,h.inputs.below hb,h.ghosts.below hb,h.vars.below hb,h.arrays.below hb,h.require.stays hb,h.irow.below hb,fun i hi=>(h.inits i hi).below hb,h.prow.below hb,fun q hq=>(h.procs q hq).below hb,h.work.below hb,h.recover.below hb,h.invariant.stays hb⟩
theorem jW.more {n₀ n₁:Nat} {W:World} {p:af} (h:jW n₀ W p) (hn:n₀≤n₁):jW n₁ W p :=
 ⟨h.blocks,h.width,h.inputs.more hn,h.ghosts.more hn,h.vars.more hn,h.arrays.more hn,h.require.more hn,h.irow.more hn,fun i hi=>⟨(h.inits i hi).block,(h.inits i hi).value.more hn⟩,h.prow.more hn,fun q hq=>⟨(h.procs q hq).name,(h.procs q hq).params.more hn,(h.procs q hq).body.more hn⟩,h.work.more hn,h.recover.more hn,h.invariant.more hn⟩
def ae.pre:ae→List ae
 | mk k o v w n s l=>mk k o v w n s l::l.flatMap ae.pre
theorem ae.pre_eq (e:ae):e.pre=e::e.subs.flatMap ae.pre:=by
 cases e;rw [ae.pre];rfl
def aa.pre:aa→List aa
 | mk k n es ex b ts th os el=>mk k n es ex b ts th os el::(th.flatMap aa.pre++el.flatMap aa.pre)
theorem aa.pre_eq (s:aa):s.pre=s::(s.thn.flatMap aa.pre++s.els.flatMap aa.pre):=by
 cases s;rw [aa.pre];rfl
end
end Go.Proofs.YtepacjkacjabbaaGreatDoor
