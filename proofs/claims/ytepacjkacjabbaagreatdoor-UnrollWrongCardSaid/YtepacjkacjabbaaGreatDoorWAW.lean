import Derived.Test.YtepacjkacjabbaaGreatDoorWAA
import Derived.Test.YtepacjkacjabbaaGreatDoorWAV
import Derived.Test.YtepacjkacjabbaaGreatDoorWAH
import Derived.Test.YtepacjkacjabbaaGreatDoorWAP
import Derived.Test.YtepacjkacjabbaaGreatDoorWAT
import Derived.Test.YtepacjkacjabbaaGreatDoorWAF
import Derived.Test.YtepacjkacjabbaaGreatDoorWAG
import Derived.Laws.Rows
import Derived.Laws.Tables
import Derived.Laws.CopyOwn
namespace Go.Proofs.YtepacjkacjabbaaGreatDoor
section
open Go Go.RowKit Go.Maps
theorem WX.up {M:gy} {wh:Int} {d:Nat} {wd:Int} {e:ae} (h:WX M wh d wd e):WX M wh (d+1) wd e:=by
 induction h with
 | num h1 h2 h3 h4=>exact .num h1 h2 h3 h4
 | var h1=>exact .var h1
 | cmp h1 h2 _ _ i1 i2=>exact .cmp h1 h2 i1 i2
 | bin h1 h2 _ _ i1 i2=>exact .bin h1 h2 i1 i2
 | mux _ _ _ i1 i2 i3=>exact .mux i1 i2 i3
 | un h1 h2 _ i=>exact .un h1 h2 i
 | cast h1 h2 _ i=>exact .cast h1 h2 i
 | disk h1 _ i=>exact .disk h1 i
 | elem h1 _ i=>exact .elem h1 i
def zT:Array Value:=#[.int .u8 0,.string ⟨#[]⟩,.slice none 0 0,.int .i64 0,.slice none 0 0,.slice none 0 0]
theorem dm (a b:Int) (s:ByteArray) (x y z:Value):(Tryz.prog.info? 43).map (·.size)=some (#[Value.int .u8 a,.string s,x,.int .i64 b,y,z]:Array Value).size:=by kernel_rfl
theorem eY (a b:Int) (s:ByteArray) (A1 A2 A3:Option Addr) (n1 c1 n2 c2 n3 c3:Nat):(#[Value.int .u8 a,.string s,.slice A1 n1 c1,.int .i64 b,.slice A2 n2 c2,.slice A3 n3 c3]:Array Value).all (·.oneCell')=true:=by kernel_rfl
structure AU (q n:Nat) (lv:Sp) (ls:List Int) (at_:Nat) (p:af) (M:gy) (w W:World):Prop where
 base:Am q n lv ls at_ p M W
 old:q<w.heap.size
 oldn:n≤w.heap.size
 low:Below w.heap.size (mask q w) (mask q W)
 cr:W.heap[w.heap.size]? = some (.cells zT 43 (0,0))
section
variable {q n:Nat} {lv:Sp} {ls:List Int} {at_ at':Nat} {p:af} {M:gy} {w W W':World}
theorem AU.size (h:AU q n lv ls at_ p M w W):w.heap.size+1≤W.heap.size:=(zgs h.cr).1
theorem AU.lt (h:AU q n lv ls at_ p M w W):q<W.heap.size:=by have:=h.size;have:=h.old;omega
theorem AU.next (h:AU q n lv ls at_ p M w W) (h0:mP q n lv ls at' p M.prm W') (hb:Below W.heap.size (mask q W) (mask q W')):AU q n lv ls at' p M w W':=by
 have hs:=h.size;have ho:=h.old;exact ⟨h.base.next h0 hb,ho,h.oldn,h.low.trans (hb.mono (by omega)),(dB hb (by omega) (by omega)).trans h.cr⟩
theorem AU.on (h:AU q n lv ls at_ p M w W) (hb:Below W.heap.size W W'):AU q n lv ls at_ p M w W':=h.next (h.base.base.on hb) (ai h.base.base.box_lt hb)
theorem AU.on1 (h:AU q n lv ls at_ p M w W) (hb:Below (w.heap.size+1) W W'):AU q n lv ls at_ p M w W' :=
 have hn:=h.oldn;have hm:=ai (B:=n) h.base.base.box_lt (hb.mono (by omega))
 ⟨⟨h.base.base.low (hb.mono (by omega)),h.base.ok,h.base.std,h.base.width,h.base.inputs,h.base.ghosts,h.base.vars,h.base.irow.below hm,h.base.grow.below hm,h.base.vrow.below hm⟩,h.old,h.oldn,h.low.trans (ai h.lt (hb.mono (Nat.le_succ _))),(hb.block _ (Nat.lt_succ_self _)).trans h.cr⟩
structure MK (q n:Nat) (lv:Sp) (ls:List Int) (p:af) (M:gy) (hasP:Bool) (dp:Nat) (w W:World):Prop where
 ex:∃(s:aa) (at_:Nat),W.heap[w.heap.size]? = some (.cells #[.int .u8 s.kind,.string s.name,.slice s.es.at_ s.exprs.length s.es.cap,.int .i64 s.bound,.slice s.ts.at_ s.thn.length s.ts.cap,.slice s.os.at_ s.els.length s.os.cap] 43 (0,0))∧WT M hasP dp s∧gN (w.heap.size+1) W s∧Am q n lv ls at_ p M W
 low:Below w.heap.size (mask q w) (mask q W)
theorem Am.low (h:Am q n lv ls at_ p M W) (hb:Below n W W'):Am q n lv ls at_ p M W' :=
 have hm:=ai h.base.box_lt hb
 ⟨h.base.low hb,h.ok,h.std,h.width,h.inputs,h.ghosts,h.vars,h.irow.below hm,h.grow.below hm,h.vrow.below hm⟩
theorem AU.fin {hasP:Bool} {dp:Nat} (h:AU q n lv ls at_ p M w W) (s:aa) (hw:WT M hasP dp s) (hn:gN (w.heap.size+1) W s) {cs:Array Value} (hcs:cs=#[.int .u8 s.kind,.string s.name,.slice s.es.at_ s.exprs.length s.es.cap,.int .i64 s.bound,.slice s.ts.at_ s.thn.length s.ts.cap,.slice s.os.at_ s.els.length s.os.cap]):MK q n lv ls p M hasP dp w (W.setRow w.heap.size cs):=by
 subst hcs;have hb:=Go.below_setRow (Below.refl w.heap.size W) (Nat.le_refl _) #[.int .u8 s.kind,.string s.name,.slice s.es.at_ s.exprs.length s.es.cap,.int .i64 s.bound,.slice s.ts.at_ s.thn.length s.ts.cap,.slice s.os.at_ s.els.length s.os.cap];exact ⟨⟨s,at_,setRow_heap _ _ _ _ _ _ h.cr,hw,hn.set (Nat.lt_succ_self _),h.base.low (hb.mono h.oldn)⟩,h.low.trans (ai h.lt hb)⟩
theorem sH {W:World} {b i:Nat} {t:TypeId} {cs:Array Value} {v:Value} (h:W.heap[b]? = some (.cells cs t (0,0))):W.setCell ⟨b,i,none⟩ v=W.setRow b (cs.setIfInBounds i v):=by
 refine oV rfl rfl rfl rfl fun k=>?_
 by_cases hk:k=b
 ·subst hk
  rw [setRow_heap _ _ _ _ _ _ h];simp [World.setCell,Array.getElem?_modify,h]
 ·rw [setRow_other _ _ _ _ hk]
  exact Below.heap_setCell _ _ _ _ hk
theorem KG {W:World} {b:Nat} {cs ds:Array Value}:(W.setRow b cs).setRow b ds=W.setRow b ds:=by
 refine oV rfl rfl rfl rfl fun k=>?_
 simp only [World.setRow,Array.getElem?_modify];by_cases hk:b=k
 ·simp only [hk,if_true]
  cases W.heap[k]? with
  | none=>rfl
  | some o=>cases o <;> rfl
 ·simp only [hk,if_false]
theorem gG {W:World} {b i:Nat} {t:TypeId} {old cs:Array Value} {v:Value} (h:W.heap[b]? = some (.cells old t (0,0))):(W.setRow b cs).setCell ⟨b,i,none⟩ v=W.setRow b (cs.setIfInBounds i v):=by
 rw [sH (setRow_heap W b old cs t (0,0) h),KG]
theorem Fh {W:World} {b:Nat} {t:TypeId} {v0 v1 v2 v3 v4 v5:Value} (h:W.heap[b]? = some (.cells zT t (0,0))):(((((W.setCell ⟨b,0,none⟩ v0).setCell ⟨b,1,none⟩ v1).setCell ⟨b,2,none⟩ v2).setCell ⟨b,3,none⟩ v3).setCell ⟨b,4,none⟩ v4).setCell ⟨b,5,none⟩ v5=W.setRow b #[v0,v1,v2,v3,v4,v5]:=by
 rw [sH h,gG h,gG h,gG h,gG h,gG h]
 rfl
theorem AU.fin1 {hasP:Bool} {dp:Nat} (h:AU q n lv ls at_ p M w W) {k:Int} (hk:k=4∨k=5):MK q n lv ls p M hasP dp w (W.setCell ⟨w.heap.size,0,none⟩ (.int .u8 k)):=by
 have hb:=(Below.refl w.heap.size W).setCell (p:=⟨w.heap.size,0,none⟩) (Nat.le_refl _) (.int .u8 k);have hbx:(W.setCell ⟨w.heap.size,0,none⟩ (.int .u8 k)).heap[w.heap.size]? = some (.cells #[.int .u8 k,.string ⟨#[]⟩,.slice none 0 0,.int .i64 0,.slice none 0 0,.slice none 0 0] 43 (0,0)):=by
  simp [World.setCell,Array.getElem?_modify,h.cr,zT]
 refine ⟨⟨zZ k,at_,hbx,.flush hk,bN RowOf.nil (fun _ h=>absurd h (by simp)) aI aI (by omega) (show (Lit.int .i64 0).wf=true by decide) (show (0:Nat)≤maxLen by decide),h.base.low (hb.mono h.oldn)⟩,h.low.trans (ai h.lt hb)⟩
end
def oI (dp:Nat):Prop:=∀(q n:Nat) (lv:Sp) (ls:List Int) (at_:Nat) (p:af) (M:gy) (hasP:Bool) (w:World),Am q n lv ls at_ p M w→(M.prm=false→hasP=decide (0<p.procs.length))→∀(most:Int),0≤most∧most≤5 →
 Calls Tryz.prog 100 #[.pointer (some ⟨q,0,none⟩),.int .i64 most,.int .i64 dp] w fun o w'=>∃(A:Option Addr) (c:Nat) (l:List aa) (at':Nat),o=.returned (.slice A l.length c)∧(l.length:Int)≤most∧aG w.heap.size w' 43 6 aa.cells (.slice A l.length c) l∧(∀s,s∈l→WT M hasP dp s)∧(∀s,s∈l→dK w.heap.size (Value.slice A l.length c).ownBlock w' s)∧mP q n lv ls at' p M.prm w'∧Below w.heap.size (mask q w) (mask q w')
theorem JE (w:World):Calls Tryz.prog 158 #[.int .u8 3,.agg #[.int .u8 2,.int .u8 0,.int .u32 0,.int .i64 0,.string ⟨#[99]⟩,.slice none 0 0],.agg #[.int .u8 1,.int .u8 0,.int .u32 1,.int .i64 2,.string ⟨#[]⟩,.slice none 0 0]] w fun o w'=>∃b,o=.returned (.agg #[.int .u8 6,.int .u8 3,.int .u32 0,.int .i64 0,.string ⟨#[]⟩,.slice (some ⟨b,0,none⟩) 2 2])∧w.heap.size≤b∧b<w'.heap.size∧w'.heap[b]? = some (.cells ((bP ⟨#[99]⟩).cells++(aR 1 2).cells).toArray 30 (0,0))∧Below w.heap.size w w' :=
 jE 3 (bP ⟨#[99]⟩) (aR 1 2) w
theorem Iz (x:Int) (w:World):Calls Tryz.prog 158 #[.int .u8 15,.agg #[.int .u8 2,.int .u8 0,.int .u32 0,.int .i64 0,.string ⟨#[99]⟩,.slice none 0 0],.agg #[.int .u8 1,.int .u8 0,.int .u32 x,.int .i64 2,.string ⟨#[]⟩,.slice none 0 0]] w fun o w'=>∃b,o=.returned (.agg #[.int .u8 6,.int .u8 15,.int .u32 0,.int .i64 0,.string ⟨#[]⟩,.slice (some ⟨b,0,none⟩) 2 2])∧w.heap.size≤b∧b<w'.heap.size∧w'.heap[b]? = some (.cells ((bP ⟨#[99]⟩).cells++(aR x 2).cells).toArray 30 (0,0))∧Below w.heap.size w w' :=
 jE 15 (bP ⟨#[99]⟩) (aR x 2) w
theorem DW (W:World) (x wd:Int) (hx:0≤x∧x≤4294967295) (hw:(Lit.int .i64 wd).wf=true):iG 0 W (aR x wd) :=
 .mk _ (show (0:Int)≤1∧(1:Int)≤255 by decide) (show (0:Int)≤0∧(0:Int)≤255 by decide) hx hw (show (0:Nat)≤maxLen by decide) RowOf.nil (fun _ h=>absurd h (by simp [aR,ae.subs]))
theorem yc {w W:World} {b:Nat} {k o:Int} {e1 e2:ae} (h:W.heap[b]? = some (.cells (e1.cells++e2.cells).toArray 30 (0,0))) (hb:w.heap.size≤b) (h1:∀V:World,iG 0 V e1) (h2:∀V:World,iG 0 V e2) (hk:0≤k∧k≤255) (ho:0≤o∧o≤255):aU w.heap.size W (.mk k o 0 0 ⟨#[]⟩ ⟨some ⟨b,0,none⟩,2⟩ [e1,e2]) :=
 iT (rO (enc:=ae.cells) rfl h) hb (fun s hs=>by
  simp only [List.mem_cons,List.not_mem_nil,or_false] at hs;rcases hs with rfl | rfl
  ·exact (h1 _).more (Nat.zero_le _)
  ·exact (h2 _).more (Nat.zero_le _)) hk ho (show (0:Int)≤0∧(0:Int)≤4294967295 by decide) (show (Lit.int .i64 0).wf=true by decide) (show (⟨#[]⟩:ByteArray).size≤maxLen by decide)
end
section
open Go Go.RowKit Go.Maps
section
variable {n:Nat} {W W':World}
theorem kM.cells {s:Sp} {l:List aF} (h:kM n W s l) (hc:∀p u,p.block<n→W.cell? p=some u→W'.cell? p=some u):kM n W' s l:=⟨h.row.cells hc,h.ok⟩
theorem dJ.cells {s:Sp} {l:List aa} (h:dJ n W s l) (hc:∀p u,p.block<n→W.cell? p=some u→W'.cell? p=some u):dJ n W' s l:=⟨h.row.cells hc,fun t ht=>(h.ok t ht).cells hc⟩
theorem fe.cells {p:af} (h:fe n W p) (hc:∀p u,p.block<n→W.cell? p=some u→W'.cell? p=some u):fe n W' p :=
 ⟨h.blocks,h.width,h.inputs.cells hc,h.ghosts.cells hc,h.vars.cells hc,h.arrays.cells hc,h.require.cells hc,h.irow.cells hc,fun i hi=>⟨(h.inits i hi).block,(h.inits i hi).value.cells hc⟩,h.prow.cells hc,fun x hx=>⟨(h.procs x hx).name,(h.procs x hx).params.cells hc,(h.procs x hx).body.cells hc⟩,h.work.cells hc,h.recover.cells hc,h.invariant.cells hc⟩
end
def lS (lo:Nat) (W:World) (p:af):Prop:=fe W.heap.size (dA lo W) p
section
variable {lo q:Nat} {W W':World} {p:af}
theorem lS.on (h:lS lo W p) (hb:Below W.heap.size (mask q W) (mask q W')) (hq:q<lo):lS lo W' p:=(fe.cells h (fI hb hq)).more (bS hb)
theorem lS.below (h:lS lo W p) (hb:Below W.heap.size W W'):lS lo W' p :=
 (fe.cells h fun _ _ hp hc=>av.2 ⟨(av.1 hc).1,(hb.cell hp).trans (av.1 hc).2⟩).more hb.size
theorem lS.less {lo':Nat} (h:lS lo W p) (hl:lo'≤lo):lS lo' W p:=fe.cells h (lh hl)
theorem lS.set {g:Nat} {cs:Array Value} (h:lS lo W p) (hg:g<lo):lS lo (W.setRow g cs) p:=by
 unfold lS;rw [size_setRow];exact fe.cells h (pI hg)
theorem lS.rd (h:lS lo W p):fe W.heap.size W p:=fe.cells h pK
end
structure rf (q:Nat) (lv:Sp) (ls:List Int) (at_:Nat) (p:af) (prm:Bool) (w W:World):Prop where
 mkr0:mP q (q+1) lv ls at_ p prm W
 eq:q=w.heap.size+1
 rd:lS (q+1) W p
 low:Below w.heap.size w W
 res:W.heap[w.heap.size]? = some (.cells aD.arr 35 (0,0))
section
variable {q:Nat} {lv:Sp} {ls:List Int} {at_ at':Nat} {p:af} {prm:Bool} {w W W':World}
theorem rf.lt (h:rf q lv ls at_ p prm w W):q<W.heap.size:=h.mkr0.box_lt
theorem mP.raise {n n':Nat} (h:mP q n lv ls at_ p prm W) (hn:n≤n') (hW:n'≤W.heap.size):mP q n' lv ls at_ p prm W :=
 ⟨h.box,h.le,h.few,h.list.more hn,h.byte,by have:=h.qn;omega,hW⟩
theorem rf.full (h:rf q lv ls at_ p prm w W):mP q W.heap.size lv ls at_ p prm W:=h.mkr0.raise h.mkr0.nW (Nat.le_refl _)
theorem rf.next {n':Nat} (h:rf q lv ls at_ p prm w W) (h0:mP q n' lv ls at' p prm W') (hb:Below W.heap.size (mask q W) (mask q W')):rf q lv ls at' p prm w W':=by
 have hq:=h.lt;have he:=h.eq;have hs:=bS hb;refine ⟨⟨h0.box,h0.le,h0.few,h.mkr0.list.below (hb.mono h.mkr0.nW),h0.byte,Nat.lt_succ_self _,by omega⟩,he,h.rd.on hb (Nat.lt_succ_self _),?_,(dB hb (by omega) (by omega)).trans h.res⟩;exact h.low.trans (mZ (by omega) (hb.mono (by omega)))
theorem rf.on (h:rf q lv ls at_ p prm w W) (hb:Below W.heap.size W W'):rf q lv ls at_ p prm w W':=h.next (h.full.on hb) (ai h.lt hb)
theorem rf.row (h:rf q lv ls at_ p prm w W) (p':af) (prm':Bool) {cs:Array Value} (hc:cs=(gW lv ls.length at_ p' prm').toArray) (hrd:lS (q+1) W p'):rf q lv ls at_ p' prm' w (W.setRow q cs):=by
 subst hc;have he:=h.eq;have hb:=Go.below_setRow (Below.refl w.heap.size W) (show w.heap.size≤q by omega) (gW lv ls.length at_ p' prm').toArray;have hm:mask q (W.setRow q (gW lv ls.length at_ p' prm').toArray)=mask q W:=by
  refine oV rfl rfl rfl rfl fun k=>?_
  by_cases hk:k=q
  ·subst hk;rw [jG,jG,size_setRow]
  ·rw [bg hk,bg hk,setRow_other _ _ _ _ hk]
 exact ⟨⟨setRow_heap _ _ _ _ _ _ h.mkr0.box,h.mkr0.le,h.mkr0.few,by rw [hm];exact h.mkr0.list,h.mkr0.byte,Nat.lt_succ_self _,by rw [size_setRow];exact h.mkr0.nW⟩,he,hrd.set (Nat.lt_succ_self _),h.low.trans hb,(setRow_other _ _ _ _ (by omega)).trans h.res⟩
theorem rf.put (h:rf q lv ls at_ p prm w W) (p':af) (prm':Bool) {i:Nat} {v:Value} (hc:(gW lv ls.length at_ p prm).toArray.setIfInBounds i v=(gW lv ls.length at_ p' prm').toArray) (hrd:lS (q+1) W p'):rf q lv ls at_ p' prm' w (W.setCell ⟨q,i,none⟩ v):=by
 rw [sH h.mkr0.box];exact h.row p' prm' hc hrd
theorem rZ {b i:Nat} {t:TypeId} {cs:Array Value} {v0 v1 v2 v3 v4 v5:Value} (h:W.heap[b]? = some (.cells cs t (0,0))):(((((W.setCell ⟨b,i,none⟩ v0).setCell ⟨b,i+1,none⟩ v1).setCell ⟨b,i+2,none⟩ v2).setCell ⟨b,i+3,none⟩ v3).setCell ⟨b,i+4,none⟩ v4).setCell ⟨b,i+5,none⟩ v5=W.setRow b ((((((cs.setIfInBounds i v0).setIfInBounds (i+1) v1).setIfInBounds (i+2) v2).setIfInBounds (i+3) v3).setIfInBounds (i+4) v4).setIfInBounds (i+5) v5):=by
 rw [sH h,gG h,gG h,gG h,gG h,gG h]
theorem rf.mkr (h:rf q lv ls at_ p prm w W) {M:gy} (hp:prm=M.prm) (hM:M.ok) (hN:M.N=std) (hw:p.width=M.w) (hi:p.inputs=gL M) (hg:p.ghosts=lI M) (hv:p.vars=wQ M):Am q W.heap.size lv ls at_ p M W:=by
 have hc:∀(a:Addr) (u:Value),a.block<W.heap.size→(dA (q+1) W).cell? a=some u→(mask q W).cell? a=some u:=fun a u _ hu=>by
  obtain ⟨h1,h2⟩:=av.1 hu;exact (World.cell?_of_block (bg (show a.block≠q by omega))).trans h2
 subst hp;exact ⟨h.full,hM,hN,hw,hi,hg,hv,h.rd.inputs.row.cells hc,h.rd.ghosts.row.cells hc,h.rd.vars.row.cells hc⟩
end
end
section
open Go Go.RowKit Go.Maps
def IK (p:af):af:={ p with ws:=Sp.none,work:=[] }
structure pY (lo:Nat) (W:World) (A:Option Addr) (c:Nat) (l:List aa) (p:af):Prop where
 own:aG lo W 43 6 aa.cells (.slice A l.length c) l
 elems:∀s∈l,dK lo (Value.slice A l.length c).ownBlock W s
 rest:fe W.heap.size (dA lo (gH (Value.slice A l.length c).ownBlock W)) p
section
variable {lo q:Nat} {W W':World} {A:Option Addr} {c:Nat} {l:List aa} {p:af}
theorem dz.toxW {lo' n:Nat} {g:Option Nat} {sp:Sp} {k:List aa} (h:dz lo W sp k) (hg:∀b,g=some b→b<lo) (hl:lo'≤lo) (hn:W.heap.size≤n):dJ n (dA lo' (gH g W)) sp k :=
 ⟨(h.1.cells fun p u _ hc=>bH.2 ⟨by have:=(av.1 hc).1;omega,fun e=>by have:=hg _ e;have:=(av.1 hc).1;omega,(av.1 hc).2⟩).more hn,fun s hs=>((h.2 s hs).cells fun p u _ hc=>bH.2 ⟨by have:=(av.1 hc).1;omega,fun e=>by have:=hg _ e;have:=(av.1 hc).1;omega,(av.1 hc).2⟩).more hn⟩
theorem aU.toxW {lo' n:Nat} {g:Option Nat} {e:ae} (h:aU lo W e) (hg:∀b,g=some b→b<lo) (hl:lo'≤lo) (hn:W.heap.size≤n):iG n (dA lo' (gH g W)) e :=
 (iG.cells h fun p u _ hc=>bH.2 ⟨by have:=(av.1 hc).1;omega,fun e=>by have:=hg _ e;have:=(av.1 hc).1;omega,(av.1 hc).2⟩).more hn
theorem pY.start {p0:af} {W0:World} (h0:lS lo W0 p0) (hb:Below W0.heap.size (mask q W0) (mask q W)) (hq:q<lo) (hlo:lo≤W0.heap.size) (ho:aG W0.heap.size W 43 6 aa.cells (.slice A l.length c) l)
  (hx:∀s∈l,dK W0.heap.size (Value.slice A l.length c).ownBlock W s):pY lo W A c l p0 :=
 ⟨ho.less hlo,fun s hs=>(hx s hs).less hlo,(fe.cells h0 fun p u hp hc=>bH.2 ⟨(av.1 hc).1,fun e=>by have:=(ho.own_type e).1;omega,(World.cell?_of_block (ow hb hp (by have:=(av.1 hc).1;omega))).trans (av.1 hc).2⟩).more (bS hb)⟩
theorem pY.kept (h:pY lo W A c l p) (hs:W.heap.size≤W'.heap.size) (hk:∀b,lo≤b→b<W.heap.size→W'.heap[b]? = W.heap[b]?):pY lo W' A c l p:=by
 have hc:∀(a:Addr) (u:Value),a.block<W.heap.size→(dA lo (gH (Value.slice A l.length c).ownBlock W)).cell? a=some u→(dA lo (gH (Value.slice A l.length c).ownBlock W')).cell? a=some u:=fun a u ha hc=>by
  obtain ⟨h1,h2,h3⟩:=bH.1 hc;exact bH.2 ⟨h1,h2,(World.cell?_of_block (hk _ h1 ha)).trans h3⟩
 exact ⟨h.own.kept fun g _ _ hg hh=>hk g hg (zgs hh).1,fun s hs2=>(gz.cells (h.elems s hs2) hc).more hs,(fe.cells h.rest hc).more hs⟩
theorem pY.on (h:pY lo W A c l p) (hb:Below W.heap.size (mask q W) (mask q W')) (hq:q<lo):pY lo W' A c l p:=h.kept (bS hb) fun b h1 h2=>ow hb h2 (by omega)
theorem pY.put (h:pY lo W A c l p) (hq:q<lo) (i:Nat) (v:Value):pY lo (W.setCell ⟨q,i,none⟩ v) A c l p:=h.kept (by simp) fun b h1 _=>Below.heap_setCell _ _ _ _ (by show b≠q;omega)
theorem pY.row (h:pY lo W A c l p) (hq:q<lo) (cs:Array Value):pY lo (W.setRow q cs) A c l p:=h.kept (by rw [size_setRow];exact Nat.le_refl _) fun b h1 _=>setRow_other _ _ _ _ (by omega)
theorem pY.below (h:pY lo W A c l p) (hb:Below W.heap.size W W'):pY lo W' A c l p:=h.kept hb.size fun b _ h2=>hb.block b h2
theorem pY.recover {lo2:Nat} {sp:Sp} {k:List aa} (h:pY lo W A c l p) (hn:dz lo2 W sp k) (hl:lo≤lo2) (hg:∀b,(Value.slice A l.length c).ownBlock=some b→b<lo2):pY lo W A c l { p with cs:=sp,recover:=k } :=
 ⟨h.own,h.elems,{ h.rest with recover:=hn.toxW hg hl (Nat.le_refl _) }⟩
theorem pY.inv {lo2:Nat} {e:ae} (h:pY lo W A c l p) (hn:aU lo2 W e) (hl:lo≤lo2) (hg:∀b,(Value.slice A l.length c).ownBlock=some b→b<lo2):pY lo W A c l { p with invariant:=e } :=
 ⟨h.own,h.elems,{ h.rest with invariant:=hn.toxW hg hl (Nat.le_refl _) }⟩
theorem pY.less {lo':Nat} (h:pY lo W A c l p) (hl:lo'≤lo):pY lo' W A c l p:=by
 have hc:∀(a:Addr) (u:Value),a.block<W.heap.size→(dA lo (gH (Value.slice A l.length c).ownBlock W)).cell? a=some u→(dA lo' (gH (Value.slice A l.length c).ownBlock W)).cell? a=some u:=fun a u _ hc=>bH.2 ⟨by have:=(bH.1 hc).1;omega,(bH.1 hc).2⟩
 exact ⟨h.own.less hl,fun s hs=>gz.cells (h.elems s hs) hc,fe.cells h.rest hc⟩
end
structure ja (n B:Nat) (W:World) (p:af):Prop where
 own:aG B W 43 6 aa.cells (.slice p.ws.at_ p.work.length p.ws.cap) p.work
 elems:∀s∈p.work,gz n (dA B (gH (Value.slice p.ws.at_ p.work.length p.ws.cap).ownBlock W)) s
 rest:fe n (dA B (gH (Value.slice p.ws.at_ p.work.length p.ws.cap).ownBlock W)) (IK p)
 full:p.rs.cap=p.procs.length
theorem pY.whole {B:Nat} {W:World} {p:af} (h:pY B W p.ws.at_ p.ws.cap p.work (IK p)) (hf:p.rs.cap=p.procs.length):ja W.heap.size B W p:=⟨h.own,h.elems,h.rest,hf⟩
theorem ja.below {n B:Nat} {W W':World} {p:af} (h:ja n B W p) (hn:n≤W.heap.size) (hb:Below W.heap.size W W'):ja n B W' p:=by
 have hc:∀(a:Addr) (u:Value),a.block<n→(dA B (gH (Value.slice p.ws.at_ p.work.length p.ws.cap).ownBlock W)).cell? a=some u→(dA B (gH (Value.slice p.ws.at_ p.work.length p.ws.cap).ownBlock W')).cell? a=some u:=fun a u ha hc=>by
  obtain ⟨h1,h2,h3⟩:=bH.1 hc;exact bH.2 ⟨h1,h2,(hb.cell (by omega)).trans h3⟩
 exact ⟨h.own.on hb,fun s hs=>gz.cells (h.elems s hs) hc,fe.cells h.rest hc,h.full⟩
theorem ja.set {n B q:Nat} {W:World} {p:af} (h:ja n B W p) (hq:n≤q) (hne:(Value.slice p.ws.at_ p.work.length p.ws.cap).ownBlock≠some q) (i:Nat) (v:Value):ja n B (W.setCell ⟨q,i,none⟩ v) p:=by
 have hc:∀(a:Addr) (u:Value),a.block<n→(dA B (gH (Value.slice p.ws.at_ p.work.length p.ws.cap).ownBlock W)).cell? a=some u→(dA B (gH (Value.slice p.ws.at_ p.work.length p.ws.cap).ownBlock (W.setCell ⟨q,i,none⟩ v))).cell? a=some u:=fun a u ha hc=>by
  obtain ⟨h1,h2,h3⟩:=bH.1 hc;exact bH.2 ⟨h1,h2,(World.cell?_of_block (Below.heap_setCell _ _ _ _ (by show a.block≠q;omega))).trans h3⟩
 refine ⟨?_,fun s hs=>gz.cells (h.elems s hs) hc,fe.cells h.rest hc,h.full⟩;obtain ⟨hlen,ho⟩:=h.own;refine ⟨hlen,?_⟩;rcases ho with h0 | ⟨g,cap,cur,e,h1,h2,h3⟩
 ·exact .inl h0
 ·refine .inr ⟨g,cap,cur,e,h1,(Below.heap_setCell _ _ _ _ ?_).trans h2,h3⟩
  rintro rfl;exact hne (by rw [e];rfl)
theorem ja.more {n B q lo:Nat} {W W':World} {p:af} (h:ja n B W p) (hq1:n≤q) (hq2:q<lo) (hlo:lo≤W.heap.size) (hg0:∀b,(Value.slice p.ws.at_ p.work.length p.ws.cap).ownBlock=some b→b<lo∧b≠q) {v':Value} {s:aa} (hs:gN lo W s)
  (ho:aG B W' 43 6 aa.cells v' (p.work++[s])) (hg:W.grownBy W' (Value.slice p.ws.at_ p.work.length p.ws.cap).ownBlock) (hat:v'.ownBlock=(Value.slice p.ws.at_ p.work.length p.ws.cap).ownBlock∨v'.ownBlock=some W.heap.size) (hl:p.work.length<1000) :
  ∃sp:Sp,v'=sp.val (p.work.length+1)∧fe W'.heap.size (mask q W') { p with ws:=sp,work:=p.work++[s] }:=by
 obtain ⟨A,c,rfl⟩:=ho.form;have hmc:∀(a:Addr) (u:Value),a.block≠q→W'.cell? a=some u→(mask q W').cell? a=some u:=fun a u ha hc=>(World.cell?_of_block (bg ha)).trans hc
 have hc:∀(a:Addr) (u:Value),a.block<n→(dA B (gH (Value.slice p.ws.at_ p.work.length p.ws.cap).ownBlock W)).cell? a=some u→(mask q W').cell? a=some u:=fun a u ha hc=>by
  obtain ⟨h1,h2,h3⟩:=bH.1 hc;exact hmc _ _ (by omega) ((World.cell?_of_block (hg.block _ (by omega) (fun e=>h2 e.symm))).trans h3)
 have hc2:∀(a:Addr) (u:Value),a.block<W.heap.size→(dA lo W).cell? a=some u→(mask q W').cell? a=some u:=fun a u ha hc=>by
  obtain ⟨h1,h3⟩:=av.1 hc;exact hmc _ _ (by omega) ((World.cell?_of_block (hg.block _ ha (fun e=>by have:=(hg0 _ e.symm).1;omega))).trans h3)
 have hn:n≤W'.heap.size:=Nat.le_trans (by omega) hg.size;have hr:=(fe.cells h.rest hc).more hn;obtain ⟨sp,e,hrow,hblk⟩:=ho.row (fun _=>rfl) (by rw [List.length_append];simp;omega);have hsp:sp=⟨A,c⟩:=by
  unfold Sp.val at e;injection e with e1 e2 e3;rw [e1,e3]
 subst hsp;have hrow2:RowOf W'.heap.size (mask q W') ⟨A,c⟩ 6 aa.cells (p.work++[s]):=by
  refine ⟨hrow.cap,hrow.big,hrow.few,fun h0=>?_⟩;obtain ⟨b,off,e1,hlt,hx⟩:=hrow.row h0;refine ⟨b,off,e1,hlt,fun j hj r u hu=>hmc _ _ ?_ (hx j hj r u hu)⟩;show b≠q;obtain rfl:A=some ⟨b,off,none⟩:=e1;have hob:(Value.slice (some ⟨b,off,none⟩) (p.work++[s]).length c).ownBlock=some b:=rfl;rw [hob] at hat;rcases hat with e2 | e2
  ·exact (hg0 b e2.symm).2
  ·have:=Option.some.inj e2
   omega
 refine ⟨⟨A,c⟩,by unfold Sp.val;rw [List.length_append];rfl,hr.blocks,hr.width,hr.inputs,hr.ghosts,hr.vars,hr.arrays,hr.require,hr.irow,hr.inits,hr.prow,hr.procs,⟨hrow2,fun t ht=>?_⟩,hr.recover,hr.invariant⟩;rcases List.mem_append.1 ht with ht | ht
 ·exact (gz.cells (h.elems t ht) hc).more hn
 ·rw [List.mem_singleton.1 ht]
  exact (gz.cells hs hc2).more hg.size
end
section
open Go
def Ag (work rec:List aa):af:=⟨1,2,Sp.none,[],Sp.none,[],Sp.none,[⟨xB,2,0⟩],Sp.none,[],aR 1 1,Sp.none,[],Sp.none,[],Sp.none,work,Sp.none,rec,aR 1 1⟩
def J8 (n:Int) (l:List aa):aa:=.mk 7 ⟨#[]⟩ Sp.none [bP xB] n Sp.none l Sp.none []
def MX (k:Int) (ex:List ae):aa:=.mk k ⟨#[]⟩ Sp.none ex 0 Sp.none [] Sp.none []
def Le (y:Int):aa:=J8 y [MX 5 []]
def Md (x y z:Int):List aa:=[J8 x [MX 4 [],Le y],J8 z [MX 3 [aR 0 1,bP xB]]]
def xJ (x y z:Int):af:=Ag (Md x y z) [Le y]
def Lj (x y z:Nat):List Int:=((List.range x).flatMap fun _=>4::(List.range y).map fun _=>5)++(List.range z).map fun _=>3
mutual
def nX:ae→Nat
 | .mk _ _ _ _ _ _ l=>1+Ll l
def Ll:List ae→Nat
 | []=>0
 | e::l=>nX e+Ll l
end
theorem Eg:∀{l:List ae},(∀e∈l,nX e=e.pre.length)→Ll l=aN l
 | [],_=>rfl
 | e::l,h=>by
  rw [Ll,h e (List.mem_cons_self ..),Eg fun x hx=>h x (List.mem_cons_of_mem _ hx)];unfold aN;rw [List.map_cons,List.sum_cons]
theorem Ms (e:ae):nX e=e.pre.length:=by
 induction e using ae.ind with
 | h k o v w n sp l ih =>
  rw [nX,Eg ih,mf]
  rfl
theorem AL (l:List ae):Ll l=aN l:=Eg fun e _=>Ms e
mutual
def IE:aa→Int
 | .mk k n es ex b ts th os el=>if fK (.mk k n es ex b ts th os el)=true then b*(1+(Ll ex:Int)+qw th 0)+(1+(Ll ex:Int))+2 else 1+(Ll ex:Int)+qw th 0+qw el 0
def qw:List aa→Int→Int
 | [],n=>n
 | s::l,n=>if n+IE s>20000 then 20001 else qw l (n+IE s)
end
theorem rX:∀{l:List aa},(∀s∈l,IE s=uj s)→∀n,qw l n=eT l n
 | [],_,n=>by rw [qw,eT]
 | s::l,h,n=>by rw [qw,eT,h s (List.mem_cons_self ..),rX fun t ht=>h t (List.mem_cons_of_mem _ ht)]
theorem Kv (s:aa):IE s=uj s:=by
 induction s using aa.ind with
 | h k n es ex b ts th os el i1 i2=>rw [IE,uj,AL,rX i1,rX i2]
theorem Cj (l:List aa) (n:Int):qw l n=eT l n:=rX (fun s _=>Kv s) n
mutual
def FC:aa→List aa
 | .mk k n es ex b ts th os el=>.mk k n es ex b ts th os el::(nk th++nk el)
def nk:List aa→List aa
 | []=>[]
 | s::l=>FC s++nk l
end
theorem pM:∀{l:List aa},(∀s∈l,FC s=s.pre)→nk l=l.flatMap aa.pre
 | [],_=>by rw [nk];rfl
 | s::l,h=>by rw [nk,h s (List.mem_cons_self ..),pM fun t ht=>h t (List.mem_cons_of_mem _ ht),List.flatMap_cons]
theorem IX (s:aa):FC s=s.pre:=by
 induction s using aa.ind with
 | h k n es ex b ts th os el i1 i2 =>
  rw [FC,pM i1,pM i2,aa.pre_eq]
  rfl
theorem zD (l:List aa):nk l=l.flatMap aa.pre:=pM fun s _=>IX s
def Mg (l:List aa):List Int:=((nk l).filter fun s=>decide (s.kind=3∨s.kind=4∨s.kind=5)).map aa.kind
def sJ (l:List aa):Nat:=(nk l).countP eO
theorem uZ (l:List aa):sJ l=fQ l:=by unfold sJ fQ;rw [zD]
theorem DJ {p:af} {k:Nat} (h:(bJ p 0).length=k):aP p=k:=by rw [←gY p 0,h]
def rR (p:af):Int:=min (((bJ (gJ p) 0).length:Int)+qw p.work 0+qw p.recover 0) 20001
theorem nZ (p:af):rR p=bD p:=by
 unfold rR bD;rw [Cj,Cj,gY]
def M7 (x y z:Nat):Bool :=
 let p:=xJ x y z
 decide ((bJ p 0).length=18) && (decide (((fU (bJ p 18) 0).headD (0,0)).2=0) && (decide (rR p≤20000) && (decide (gV p=max ((x:Int)+max ((y:Int)+2) 2) ((z:Int)+2)) && (decide (Mg (aZ p.work)=Lj x y z) && (decide (sJ (aZ p.work)=x+2) && decide (sJ (aZ p.recover)=1))))))
theorem FZ (work rec:List aa):dP (Ag work rec) :=
 ⟨fun d hd=>by
  have:d=⟨xB,2,0⟩:=by simpa [Ag] using hd
  rw [this];decide,fun q hq=>absurd hq (by simp [Ag])⟩
theorem wC {work rec:List aa} {k:Nat} (h:(bJ (Ag work rec) 0).length=k) (hk:k≤20000) (h0:((fU (bJ (Ag work rec) k) 0).headD (0,0)).2=0):dM (Ag work rec):=by
 have e:=DJ h;refine ⟨by omega,FZ _ _,?_,rfl⟩;rw [kJ (by omega),e];exact h0
structure Na (x y z:Nat):Prop where
 ready:dM (xJ x y z)
 weight:bD (xJ x y z)≤20000
 depth:gV (xJ x y z)=max ((x:Int)+max ((y:Int)+2) 2) ((z:Int)+2)
 ops:qF (aZ (xJ x y z).work)=Lj x y z
 pass:fQ (aZ (xJ x y z).work)=x+2
 recv:fQ (aZ (xJ x y z).recover)=1
end
section
open Go
def Nf:ae:=.mk 6 15 0 0 ⟨#[]⟩ Sp.none [bP xB,aR 3 2]
def uu:aa:=.mk 1 xB Sp.none [.mk 6 3 0 0 ⟨#[]⟩ Sp.none [bP xB,aR 1 2]] 0 Sp.none [] Sp.none []
def ic (n:Int):aa:=.mk 7 ⟨#[]⟩ Sp.none [Nf] n Sp.none [uu] Sp.none []
def F9 (l:List aa):aa:=.mk 6 ⟨#[]⟩ Sp.none [Nf] 0 Sp.none l Sp.none []
theorem Dg:dM (Ag [ic 2] []):=wC (k:=12) (by kernel_rfl) (by decide) (by kernel_rfl)
theorem BZ:dM (Ag [] []):=wC (k:=4) (by kernel_rfl) (by decide) (by kernel_rfl)
theorem Ar:bD (Ag [ic 2] [])=26:=by rw [←nZ];kernel_rfl
theorem AQ:bD (Ag [] [])=4:=by rw [←nZ];kernel_rfl
theorem BH:gV (Ag [ic 2] [])=4:=by kernel_rfl
theorem IV:(aZ [ic 2]).map ag=[F9 [uu,F9 [uu,F9 [eG]]]]:=by kernel_rfl
theorem ym:fQ (aZ [ic 2])=1∧fQ (aZ [])=0:=⟨by rw [←uZ];kernel_rfl,by rw [←uZ];kernel_rfl⟩
theorem Dn:nJ [ic 2]=false:=by unfold nJ;rw [←zD];kernel_rfl
theorem D8:eO (ic 1)=false:=by kernel_rfl
theorem I8:eO (.mk 7 ⟨#[]⟩ Sp.none [aR 1 1] 1 Sp.none [] Sp.none [])=true:=by kernel_rfl
theorem Ff {α β:Type} {f:α→β} {l:List α} {y:β} (h:l.map f=[y]):∃x,l=[x]∧f x=y:=by
 match l,h with
 | [x],h=>exact ⟨x,rfl,by simpa using h⟩
theorem Fg {α β:Type} {f:α→β} {l:List α} {y z:β} (h:l.map f=[y,z]):∃x x',l=[x,x']∧f x=y∧f x'=z:=by
 match l,h with
 | [x,x'],h=>exact ⟨x,x',rfl,by simpa using h⟩
theorem Bg {s:aa} {l:List aa} (h:ag s=F9 l):s.kind=6∧s.thn.map ag=l:=by
 have h1:(ag s).kind=6:=by rw [h];rfl
 have h2:(ag s).thn=l:=by rw [h];rfl
 exact ⟨by rw [←gD];exact h1,by rw [←jS];exact h2⟩
theorem Ch {l:List aa} (h:l.map ag=[F9 [uu,F9 [uu,F9 [eG]]]]):∃s0 x0 s1 x1 s2 t,l=[s0]∧s0.kind=6∧s0.thn=[x0,s1]∧s1.kind=6∧s1.thn=[x1,s2]∧s2.thn=[t]∧eO t=true:=by
 obtain ⟨s0,e0,h0⟩:=Ff h;obtain ⟨k0,t0⟩:=Bg h0;obtain ⟨x0,s1,e1,_,h1⟩:=Fg t0;obtain ⟨k1,t1⟩:=Bg h1;obtain ⟨x1,s2,e2,_,h2⟩:=Fg t1;obtain ⟨_,t2⟩:=Bg h2;obtain ⟨t,e3,h3⟩:=Ff t2;refine ⟨s0,x0,s1,x1,s2,t,e0,k0,e1,k1,e2,e3,?_⟩;rw [←j5,h3]
 kernel_rfl
end
section
open Go Go.RowKit Go.Maps
def qb (v ws cs:Sp) (work rec:List aa):af:=⟨1,2,Sp.none,[],Sp.none,[],v,[⟨xB,2,0⟩],Sp.none,[],aR 1 1,Sp.none,[],Sp.none,[],ws,work,cs,rec,aR 1 1⟩
theorem wH (v ws cs:Sp) (work rec:List aa):aH (qb v ws cs work rec)=aH (Ag work rec):=rfl
theorem oJ (x wd:Int) (hx:IntKind.u32.wrap x=x) (w:World):Calls Tryz.prog 41 #[.int .i64 x,.int .i64 wd] w fun o w'=>o=.returned (aR x wd).val∧Below w.heap.size w w':=by
 go_enter Tryz.func41,Tryz.ntmps41
 go_wp2_with fail
 exact bodyPost_ret (results_cell_row rfl _ _ w.heap.size 30 _ (0,0) _ rfl (zan _ _) Tryz.underlying30 rfl (by kernel_rfl)) rfl ⟨rfl,(Below.refl _ _).alloc (Nat.le_refl _) _⟩
theorem tu (s:ByteArray) (w:World):Calls Tryz.prog 57 #[.string s] w fun o w'=>o=.returned (bP s).val∧Below w.heap.size w w':=by
 go_enter Tryz.func57,Tryz.ntmps57
 go_wp2_with fail
 exact bodyPost_ret (results_cell_row rfl _ _ w.heap.size 30 _ (0,0) _ rfl (zan _ _) Tryz.underlying30 rfl (by kernel_rfl)) rfl ⟨rfl,(Below.refl _ _).alloc (Nat.le_refl _) _⟩
def Gy (op:Int) (e1 e2:ae) (sp:Sp):ae:=.mk 6 op 0 0 ⟨#[]⟩ sp [e1,e2]
theorem uK (op:Int) (ho:0≤op∧op≤255) (e1 e2:ae) (w:World) (he1:wF w e1) (he2:wF w e2):Calls Tryz.prog 118 #[.int .u8 op,e1.val,e2.val] w fun o w'=>∃sp:Sp,o=.returned (Gy op e1 e2 sp).val∧wF w' (Gy op e1 e2 sp)∧Below w.heap.size w w':=by
 have HE1:=zhd he1;have HE2:=zhd he2;clear he1 he2;simp only [ae.val,Sp.val];go_enter Tryz.func118,Tryz.ntmps118
 go_wp2_with fail
 obtain ⟨h1,h2,h3,h4,h6,h5⟩:=DU w (.cells #[.int .u8 e1.kind,.int .u8 e1.op,.int .u32 e1.value,.int .i64 e1.width,.string e1.name,.slice e1.sp.at_ e1.subs.length e1.sp.cap] 30) (.cells #[.int .u8 e2.kind,.int .u8 e2.op,.int .u32 e2.value,.int .i64 e2.width,.string e2.name,.slice e2.sp.at_ e2.subs.length e2.sp.cap] 30) (.cells #[.int .u8 6,.int .u8 op,.int .u32 0,.int .i64 0,.string ⟨#[]⟩,.slice (some ⟨w.heap.size+1+1+1,0,none⟩) 2 2] 30) (.cells #[.int .u8 e1.kind,.int .u8 e1.op,.int .u32 e1.value,.int .i64 e1.width,.string e1.name,.slice e1.sp.at_ e1.subs.length e1.sp.cap,.int .u8 e2.kind,.int .u8 e2.op,.int .u32 e2.value,.int .i64 e2.width,.string e2.name,.slice e2.sp.at_ e2.subs.length e2.sp.cap] 30);refine bodyPost_ret (results_cell_row rfl _ _ (w.heap.size+1+1) 30 _ (0,0) _ rfl h3 Tryz.underlying30 rfl (by kernel_rfl)) rfl ⟨⟨some ⟨w.heap.size+1+1+1,0,none⟩,2⟩,rfl,?_,h5⟩;exact .mk _ (show (0:Int)≤6∧(6:Int)≤255 by decide) ho (show (0:Int)≤0∧(0:Int)≤4294967295 by decide) (show (Lit.int .i64 0).wf=true by decide) (show (0:Nat)≤maxLen by decide) (rO (enc:=ae.cells) (x:=e1) (y:=e2) rfl h4) (fun y hy=>by
  have hy2:y=e1∨y=e2:=by simpa [Gy,ae.subs] using hy
  rcases hy2 with rfl | rfl
  ·exact HE1.out.on h5
  ·exact HE2.out.on h5)
set_option maxHeartbeats 1000000 in
theorem JD (s:ByteArray) (hs:s.size≤maxLen) (e:ae) (w:World) (he:wF w e):Calls Tryz.prog 40 #[.string s,e.val] w fun o w'=>∃sp,o=.returned (gp sp s e).val∧p9 w' (gp sp s e)∧Below w.heap.size w w':=by
 have HE:=zhd he;clear he;simp only [ae.val,Sp.val];go_enter Tryz.func40,Tryz.ntmps40
 go_wp2_with fail
 obtain ⟨h1,h2,h3,h4,h5⟩:=tZ w (.cells #[.int .u8 e.kind,.int .u8 e.op,.int .u32 e.value,.int .i64 e.width,.string e.name,.slice e.sp.at_ e.subs.length e.sp.cap] 30) (.cells #[.int .u8 1,.string s,.slice (some ⟨w.heap.size+1+1,0,none⟩) 1 1,.int .i64 0,.slice none 0 0,.slice none 0 0] 43) (.cells #[.int .u8 e.kind,.int .u8 e.op,.int .u32 e.value,.int .i64 e.width,.string e.name,.slice e.sp.at_ e.subs.length e.sp.cap] 30);refine bodyPost_ret (results_cell_row rfl _ _ (w.heap.size+1) 43 _ (0,0) _ rfl h2 Tryz.underlying43 rfl (by kernel_rfl)) rfl ⟨⟨some ⟨w.heap.size+1+1,0,none⟩,1⟩,rfl,?_,h5⟩;exact .mk _ (show (0:Int)≤1∧(1:Int)≤255 by decide) (show (Lit.int .i64 0).wf=true by decide) hs (row_one (enc:=ae.cells) (x:=e) h3) (fun y hy=>by
  have:y=e:=by simpa [gp,aa.exprs] using hy
  rw [this];exact HE.out.on h5) RowOf.nil (fun _ h=>absurd h (by simp [gp,aa.thn])) RowOf.nil (fun _ h=>absurd h (by simp [gp,aa.els]))
def Aq (es:Sp) (e:ae) (n:Int) (ts:Sp) (l:List aa):aa:=.mk 7 ⟨#[]⟩ es [e] n ts l Sp.none []
set_option maxHeartbeats 1000000 in
theorem qC (n:Int) (hn:(Lit.int .i64 n).wf=true) (e:ae) (ts:Sp) (l:List aa) (w:World) (he:wF w e) (hl:dJ w.heap.size w ts l):Calls Tryz.prog 60 #[.int .i64 n,e.val,ts.val l.length] w fun o w'=>∃sp,o=.returned (Aq sp e n ts l).val∧p9 w' (Aq sp e n ts l)∧Below w.heap.size w w':=by
 have HE:=zhd he;have HL:=zhd hl;clear he hl;simp only [ae.val,Sp.val];go_enter Tryz.func60,Tryz.ntmps60
 go_wp2_with fail
 obtain ⟨h1,h2,h3,h4,h5⟩:=tZ w (.cells #[.int .u8 e.kind,.int .u8 e.op,.int .u32 e.value,.int .i64 e.width,.string e.name,.slice e.sp.at_ e.subs.length e.sp.cap] 30) (.cells #[.int .u8 7,.string ⟨#[]⟩,.slice (some ⟨w.heap.size+1+1,0,none⟩) 1 1,.int .i64 n,.slice ts.at_ l.length ts.cap,.slice none 0 0] 43) (.cells #[.int .u8 e.kind,.int .u8 e.op,.int .u32 e.value,.int .i64 e.width,.string e.name,.slice e.sp.at_ e.subs.length e.sp.cap] 30);refine bodyPost_ret (results_cell_row rfl _ _ (w.heap.size+1) 43 _ (0,0) _ rfl h2 Tryz.underlying43 rfl (by kernel_rfl)) rfl ⟨⟨some ⟨w.heap.size+1+1,0,none⟩,1⟩,rfl,?_,h5⟩;have hl:=HL.out.on h5;exact .mk _ (show (0:Int)≤7∧(7:Int)≤255 by decide) hn (show (0:Nat)≤maxLen by decide) (row_one (enc:=ae.cells) (x:=e) h3) (fun y hy=>by
  have:y=e:=by simpa [Aq,aa.exprs] using hy
  rw [this];exact HE.out.on h5) hl.row hl.ok RowOf.nil (fun _ h=>absurd h (by simp [Aq,aa.els]))
theorem Kb {W:World} {v ws:Sp} {l:List aa} (hv:RowOf W.heap.size W v 3 aF.cells [⟨xB,2,0⟩]) (hl:dJ W.heap.size W ws l):fe W.heap.size W (qb v ws Sp.none l []):=by
 have hd:kM W.heap.size W Sp.none []:=⟨RowOf.nil,fun _ h=>absurd h (by simp)⟩;have ht:dJ W.heap.size W Sp.none []:=⟨RowOf.nil,fun _ h=>absurd h (by simp)⟩;have hn:wF W (aR 1 1):=rJ W 1 1 (by decide) (by decide);refine ⟨show (Lit.int .i64 1).wf=true by decide,show (Lit.int .i64 2).wf=true by decide,hd,hd,⟨hv,fun d h=>?_⟩,hd,hn,RowOf.nil,fun _ h=>absurd h (by simp [qb]),RowOf.nil,fun _ h=>absurd h (by simp [qb]),hl,ht,hn⟩;have:d=⟨xB,2,0⟩:=by simpa [qb] using h
 rw [this];exact ⟨by decide,by decide,by decide⟩
set_option maxRecDepth 1000000 in
set_option maxHeartbeats 2000000 in
theorem kW (ws:Sp) (l:List aa) (w:World) (h:dJ w.heap.size w ws l):Calls Tryz.prog 48 #[ws.val l.length] w fun o w'=>∃b:Nat,o=.returned (qb ⟨some ⟨b,0,none⟩,1⟩ ws Sp.none l []).val∧fe w'.heap.size w' (qb ⟨some ⟨b,0,none⟩,1⟩ ws Sp.none l [])∧Below w.heap.size w w':=by
 have HTS:=zhd h;have hb0:=zba w (.cells aD.arr 35);have hB0:=zan w (.cells aD.arr 35);have hs0:(w.alloc (.cells aD.arr 35)).heap.size=w.heap.size+1:=by simp
 have hN:=fun W=>oJ 1 1 (by decide) W
 simp only [aR,ae.val,ae.kind,ae.op,ae.value,ae.width,ae.name,ae.sp,ae.subs,Sp.val,Sp.none,List.length_nil] at hN;have HNM:=zhd hN;clear h hN;simp only [Sp.val];go_enter Tryz.func48,Tryz.ntmps48
 go_upto_region 1 with (first | (refine aC (t:=35) rfl rfl (bU _) ?_) | fail)
 generalize w.alloc (.cells aD.arr 35)=W0 at *;have HB0:=zhd hb0;have HX0:=zhd hB0;have hb1:=zba W0 (.cells #[.string xB,.int .i64 2,.int .i64 0] 50);have hB1:=zan W0 (.cells #[.string xB,.int .i64 2,.int .i64 0] 50);have HB1:=zhd hb1;have HX1:=zhd hB1;clear hb0 hB0 hb1 hB1;have hst:(W0.alloc (.cells #[.string xB,.int .i64 2,.int .i64 0] 50)).heap[w.heap.size]? = some (.cells aD.arr 35 (0,0))∧(W0.alloc (.cells #[.string xB,.int .i64 2,.int .i64 0] 50)).heap[w.heap.size+1]? = some (.cells #[.string xB,.int .i64 2,.int .i64 0] 50 (0,0))∧Below w.heap.size w (W0.alloc (.cells #[.string xB,.int .i64 2,.int .i64 0] 50)) :=
  ⟨(HB1.out.block _ (by omega)).trans HX0.out,by have h:=HX1.out;rw [hs0] at h;exact h,HB0.out.trans (HB1.out.mono (by omega))⟩
 have UPD:Hid (∀A B:World,Below A.heap.size A B→(A.heap[w.heap.size]? = some (.cells aD.arr 35 (0,0))∧A.heap[w.heap.size+1]? = some (.cells #[.string xB,.int .i64 2,.int .i64 0] 50 (0,0))∧Below w.heap.size w A)→(B.heap[w.heap.size]? = some (.cells aD.arr 35 (0,0))∧B.heap[w.heap.size+1]? = some (.cells #[.string xB,.int .i64 2,.int .i64 0] 50 (0,0))∧Below w.heap.size w B)):=zhd fun A B hb ⟨h1,h2,h3⟩ =>
  ⟨(hb.block _ (zgs h1).1).trans h1,(hb.block _ (zgs h2).1).trans h2,h3.trans (hb.mono h3.size)⟩
 have HST:=zhd hst;clear hst;go_wp2_with (first
  | (go_at_call 41;refine (HNM.out _).mono ?_;rintro o2 w2 ⟨rfl,hb2⟩;have HST:=zhd (UPD.out _ _ hb2 HST.out);clear hb2)
  | (refine wpList_store_row rfl 35 _ _ rfl w.heap.size (qb ⟨some ⟨w.heap.size+1,0,none⟩,1⟩ ws Sp.none l []).arr (by rfl) (by rfl) 35 aD.arr HST.out.1 (aB _) (by kernel_rfl) (eD _) ?_)
  | fail)
 obtain ⟨h1,h2,h3⟩:=HST.out;have h4:=setRow_heap w2 w.heap.size aD.arr (qb ⟨some ⟨w.heap.size+1,0,none⟩,1⟩ ws Sp.none l []).arr 35 (0,0) h1;have h5:Below w.heap.size w (w2.setRow w.heap.size (qb ⟨some ⟨w.heap.size+1,0,none⟩,1⟩ ws Sp.none l []).arr):=below_setRow h3 (Nat.le_refl _);refine bodyPost_ret (results_cell_row rfl _ _ w.heap.size 35 _ (0,0) _ rfl h4 Tryz.underlying35 rfl (aB _)) rfl ⟨w.heap.size+1,rfl,?_,h5⟩;exact Kb (row_one (enc:=aF.cells) (x:=⟨xB,2,0⟩) (t:=50) (fr:=(0,0)) ((setRow_other _ _ _ _ (by omega)).trans h2)) (HTS.out.on h5)
end
end Go.Proofs.YtepacjkacjabbaaGreatDoor
