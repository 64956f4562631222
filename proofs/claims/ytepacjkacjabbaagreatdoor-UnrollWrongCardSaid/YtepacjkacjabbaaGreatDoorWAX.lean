import Derived.Test.YtepacjkacjabbaaGreatDoorWAF
import Derived.Test.YtepacjkacjabbaaGreatDoorWAT
import Derived.Laws.OwnMore
import Derived.Test.YtepacjkacjabbaaGreatDoorWAA
import Derived.Test.YtepacjkacjabbaaGreatDoorWAS
import Derived.Deep.RegionWith
import Derived.RegionTactic
import Derived.BigQuiet
import Derived.Deep.QuietTactic
import Derived.Deep.CutRange
import Derived.Deep.CutBlock
import Derived.Deep.DeepCutAuto
import Derived.StillTailTactics
import Derived.Outline
import Derived.Laws.EntriesVeiled
import Derived.Carry
import Derived.Test.YtepacjkacjabbaaGreatDoorWAP
import Derived.Test.YtepacjkacjabbaaGreatDoorWAV
import Derived.Test.YtepacjkacjabbaaGreatDoorWAR
import Derived.Test.YtepacjkacjabbaaGreatDoorWAG
import Derived.Test.YtepacjkacjabbaaGreatDoorWAW
namespace Go.Proofs.YtepacjkacjabbaaGreatDoor
section
open Go Go.RowKit Go.Maps
section
variable {α:Type} {k:Nat} {enc:α→List Value}
theorem zu (hk:∀x,(enc x).length=k):∀(l:List α) (j r:Nat) (v:Value) (x:α) (hj:j<l.length),r<k→(enc (l[j])).set r v=enc x→(l.flatMap enc).set (j*k+r) v=(l.set j x).flatMap enc
 | y::l,0,r,v,x,_,hr,h=>by
  rw [List.flatMap_cons,List.set_cons_zero,List.flatMap_cons,Nat.zero_mul,Nat.zero_add,List.set_append_left _ _ (by rw [hk];exact hr)];rw [show (y::l)[0]=y from rfl] at h;rw [h]
 | y::l,j+1,r,v,x,hj,hr,h=>by
  rw [List.flatMap_cons,List.set_cons_succ,List.flatMap_cons];have e:(j+1)*k+r=(enc y).length+(j*k+r):=by rw [hk,Nat.add_mul];omega
  rw [e,List.set_append_right _ _ (Nat.le_add_right _ _),Nat.add_sub_cancel_left,zu hk l j r v x (by simpa using hj) hr (by simpa using h)]
theorem zz (hk:∀x,(enc x).length=6) (v0 v1 v2 v3 v4 v5:Value):∀(l:List α) (j:Nat) (x:α),j<l.length→enc x=[v0,v1,v2,v3,v4,v5] →
  ((((((l.flatMap enc).set (j*6) v0).set (j*6+1) v1).set (j*6+2) v2).set (j*6+3) v3).set (j*6+4) v4).set (j*6+5) v5=(l.set j x).flatMap enc
 | y::l,0,x,_,h=>by
  rw [List.flatMap_cons,List.set_cons_zero,List.flatMap_cons,h];have hy:=hk y
  match enc y,hy with
  | [a,b,c,d,e,g],_=>simp
 | y::l,j+1,x,hj,h=>by
  rw [List.flatMap_cons,List.set_cons_succ,List.flatMap_cons,←zz hk v0 v1 v2 v3 v4 v5 l j x (by simpa using hj) h];have e:(j+1)*6=(enc y).length+j*6:=by rw [hk,Nat.add_mul];omega
  rw [e];simp only [List.set_append_right _ _ (Nat.le_add_right _ _),Nat.add_assoc,Nat.add_sub_cancel_left]
variable {B:Nat} {W:World} {t:TypeId} {g n c:Nat} {l:List α}
theorem aG.frozen (h:aG B W t k enc (.slice (some ⟨g,0,none⟩) n c) l) (j:Nat):W.frozen? ⟨g,j,none⟩=false:=by
 have hn:=h.len;subst hn;exact World.ownsRow.frozenAt h j
theorem aG.put1 (h:aG B W t k enc (.slice (some ⟨g,0,none⟩) n c) l) (hk:∀x,(enc x).length=k) {j r:Nat} {v:Value} {x:α} (hj:j<l.length) (hr:r<k) (hx:(enc (l[j])).set r v=enc x) :
  aG B (W.setCell ⟨g,j*k+r,none⟩ v) t k enc (.slice (some ⟨g,0,none⟩) n c) (l.set j x):=by
 have hn:=h.len;subst hn;have h1:=(World.ownsRow.stored h (j*k+r) v).1;unfold aG;rw [List.length_set,←zu hk l j r v x hj hr hx];exact h1
theorem aG.put6 {enc:α→List Value} (h:aG B W t 6 enc (.slice (some ⟨g,0,none⟩) n c) l) (hk:∀x,(enc x).length=6) {j:Nat} {x:α} {v0 v1 v2 v3 v4 v5:Value} (hj:j<l.length) (hx:enc x=[v0,v1,v2,v3,v4,v5]) :
  aG B ((((((W.setCell ⟨g,j*6,none⟩ v0).setCell ⟨g,j*6+1,none⟩ v1).setCell ⟨g,j*6+2,none⟩ v2).setCell ⟨g,j*6+3,none⟩ v3).setCell ⟨g,j*6+4,none⟩ v4).setCell ⟨g,j*6+5,none⟩ v5) t 6 enc (.slice (some ⟨g,0,none⟩) n c) (l.set j x):=by
 have hn:=h.len;subst hn;unfold aG;rw [List.length_set,←zz hk v0 v1 v2 v3 v4 v5 l j x hj hx];exact (World.ownsRow.stored (World.ownsRow.stored (World.ownsRow.stored (World.ownsRow.stored (World.ownsRow.stored (World.ownsRow.stored h _ v0).1 _ v1).1 _ v2).1 _ v3).1 _ v4).1 _ v5).1
end
theorem xq (w:World) (c:Nat):Calls Tryz.prog 196 #[.slice none 0 c] w fun o w'=>o=.returned (.slice none 0 0)∧w'=w:=by
 have q22:∀(w:World) (a:Option Addr) (n c n' c':Nat),(binOp .eql 28 (.slice a n c) (.slice none n' c')).run Tryz.prog w=.ok (.bool a.isNone) w:=fun w a n c n' c'=>Lib.run_eql_slice_nil w _ _ a n c n' c' Tryz.underlying28
 go_enter Tryz.func196,Tryz.ntmps196
 go_wp2_with fail
 go_ret
 exact ⟨rfl,rfl⟩
theorem yj (w:World) (c:Nat):Calls Tryz.prog 70 #[.slice none 0 c] w fun o w'=>o=.returned (.slice none 0 0)∧w'=w:=by
 have q22:∀(w:World) (a:Option Addr) (n c n' c':Nat),(binOp .eql 33 (.slice a n c) (.slice none n' c')).run Tryz.prog w=.ok (.bool a.isNone) w:=fun w a n c n' c'=>Lib.run_eql_slice_nil w _ _ a n c n' c' Tryz.underlying33
 go_enter Tryz.func70,Tryz.ntmps70
 go_wp2_with fail
 go_ret
 exact ⟨rfl,rfl⟩
theorem Cu {α:Type} {B k:Nat} {W:World} {sp:Sp} {enc:α→List Value} {l:List α} (h:RowOf B W sp k enc l) (hat:sp.at_=none):l=[]:=by
 cases l with
 | nil=>rfl
 | cons x l=>obtain ⟨b,off,e,_⟩:=h.row (by simp);rw [hat] at e;cases e
theorem vw (w:World) (sp:Sp) (l:List ae) (B:Nat) (h:RowOf B w sp 6 ae.cells l) (hl:l.length≤1000000) :
  Calls Tryz.prog 196 #[.slice sp.at_ l.length sp.cap] w fun o w'=>(∃sp':Sp,o=.returned (.slice sp'.at_ l.length sp'.cap)∧aG w.heap.size w' 30 6 ae.cells (.slice sp'.at_ l.length sp'.cap) l∧(sp.at_=none→sp'=Sp.none))∧Below w.heap.size w w':=by
 cases hat:sp.at_ with
 | none =>
  have h0:=Cu h hat;subst h0;refine (xq w sp.cap).mono ?_;rintro o w' ⟨rfl,rfl⟩;exact ⟨⟨Sp.none,rfl,aG.nil,fun _=>rfl⟩,Below.refl _ _⟩
 | some a =>
  have h1:=DC w sp l B h hl;rw [hat] at h1;refine h1.mono ?_;rintro o w' ⟨⟨v,rfl,hv⟩,hb⟩;obtain ⟨A,c,rfl⟩:=hv.form;exact ⟨⟨⟨A,c⟩,rfl,hv,fun h=>by cases h⟩,hb⟩
theorem BV (w:World) (sp:Sp) (l:List aa) (B:Nat) (h:RowOf B w sp 6 aa.cells l) (hl:l.length≤1000000) :
  Calls Tryz.prog 70 #[.slice sp.at_ l.length sp.cap] w fun o w'=>(∃sp':Sp,o=.returned (.slice sp'.at_ l.length sp'.cap)∧aG w.heap.size w' 43 6 aa.cells (.slice sp'.at_ l.length sp'.cap) l∧(sp.at_=none→sp'=Sp.none))∧Below w.heap.size w w':=by
 cases hat:sp.at_ with
 | none =>
  have h0:=Cu h hat;subst h0;refine (yj w sp.cap).mono ?_;rintro o w' ⟨rfl,rfl⟩;exact ⟨⟨Sp.none,rfl,aG.nil,fun _=>rfl⟩,Below.refl _ _⟩
 | some a =>
  have h1:=Ej w sp l B h hl;rw [hat] at h1;refine h1.mono ?_;rintro o w' ⟨⟨v,rfl,hv⟩,hb⟩;obtain ⟨A,c,rfl⟩:=hv.form;exact ⟨⟨⟨A,c⟩,rfl,hv,fun h=>by cases h⟩,hb⟩
end
section
open Go Go.RowKit Go.Maps
structure JC (γ:ql) (w W:World) (e:ae) (sa:Option Addr) (sc lo k:Nat) (cur:List ae):Prop where
 low:Below w.heap.size w W
 hlo:w.heap.size+2≤lo
 loW:lo≤W.heap.size
 at_:∀a,sa=some a→a.block<lo
 box:W.heap[w.heap.size]? = some (.cells #[.int .u8 e.kind,.int .u8 e.op,.int .u32 e.value,.int .i64 e.width,.string (γ e.kind e.name),.slice sa e.subs.length sc] 30 (0,0))
 res:W.heap[w.heap.size+1]? = some (.cells #[.int .u8 0,.int .u8 0,.int .u32 0,.int .i64 0,.string ⟨#[]⟩,.slice none 0 0] 30 (0,0))
 own:aG (w.heap.size+2) W 30 6 ae.cells (.slice sa e.subs.length sc) cur
 len:cur.length=e.subs.length
 done:∀i (h:i<e.subs.length) (h':i<cur.length),i<k→Ea γ e.subs[i] cur[i]∧aU lo W cur[i]
 todo:∀i (h:i<e.subs.length) (h':i<cur.length),k≤i→cur[i]=e.subs[i]
section
variable {γ:ql} {w W W':World} {e:ae} {sa:Option Addr} {sc lo k:Nat} {cur:List ae}
theorem aU.lowerC {lo:Nat} {e:ae} (h:aU lo W e) (hb:Below W.heap.size W W'):aU lo W' e :=
 (iG.cells h fun _ _ hp hc=>av.2 ⟨(av.1 hc).1,(hb.cell hp).trans (av.1 hc).2⟩).more hb.size
theorem JC.on (h:JC γ w W e sa sc lo k cur) (hb:Below W.heap.size W W'):JC γ w W' e sa sc lo k cur :=
 ⟨h.low.trans (hb.mono h.low.size),h.hlo,Nat.le_trans h.loW hb.size,h.at_,(hb.block _ (zgs h.box).1).trans h.box,(hb.block _ (zgs h.res).1).trans h.res,h.own.on hb,h.len,fun i h1 h2 h3=>⟨(h.done i h1 h2 h3).1,(h.done i h1 h2 h3).2.lowerC hb⟩,h.todo⟩
def six (W:World) (g o:Nat) (v0 v1 v2 v3 v4 v5:Value):World:=(((((W.setCell ⟨g,o,none⟩ v0).setCell ⟨g,o+1,none⟩ v1).setCell ⟨g,o+2,none⟩ v2).setCell ⟨g,o+3,none⟩ v3).setCell ⟨g,o+4,none⟩ v4).setCell ⟨g,o+5,none⟩ v5
theorem j6 (W:World) (g o:Nat) (v0 v1 v2 v3 v4 v5:Value):(six W g o v0 v1 v2 v3 v4 v5).heap.size=W.heap.size:=by simp [six]
theorem jI (W:World) (g o:Nat) (v0 v1 v2 v3 v4 v5:Value) {b:Nat} (h:b≠g):(six W g o v0 v1 v2 v3 v4 v5).heap[b]? = W.heap[b]? := by
 unfold six;rw [Below.heap_setCell _ _ _ _ h,Below.heap_setCell _ _ _ _ h,Below.heap_setCell _ _ _ _ h,Below.heap_setCell _ _ _ _ h,Below.heap_setCell _ _ _ _ h,Below.heap_setCell _ _ _ _ h]
theorem pO {W:World} {g:Nat} {ty:TypeId} {a0 a1 a2 a3 a4 a5:Value} (h:W.heap[g]? = some (.cells #[a0,a1,a2,a3,a4,a5] ty (0,0))) (v0 v1 v2 v3 v4 v5:Value):(six W g 0 v0 v1 v2 v3 v4 v5).heap[g]? = some (.cells #[v0,v1,v2,v3,v4,v5] ty (0,0)):=by
 simp [six,World.setCell,Array.getElem?_modify,h]
theorem jN {B:Nat} {w W:World} (h:Below B w W) {g:Nat} (hg:B≤g) (o:Nat) (v0 v1 v2 v3 v4 v5:Value):Below B w (six W g o v0 v1 v2 v3 v4 v5) :=
 (((((h.setCell (p:=⟨g,o,none⟩) hg _).setCell (p:=⟨g,o+1,none⟩) hg _).setCell (p:=⟨g,o+2,none⟩) hg _).setCell (p:=⟨g,o+3,none⟩) hg _).setCell (p:=⟨g,o+4,none⟩) hg _).setCell (p:=⟨g,o+5,none⟩) hg _
theorem rM {lo g:Nat} {e:ae} (h:aU lo W e) (hg:g<lo) (o:Nat) (v0 v1 v2 v3 v4 v5:Value):aU lo (six W g o v0 v1 v2 v3 v4 v5) e:=by
 unfold aU;rw [j6];refine iG.cells h fun p u _ hc=>?_
 obtain ⟨h1,h2⟩:=av.1 hc;exact av.2 ⟨h1,(World.cell?_of_block (jI W g o v0 v1 v2 v3 v4 v5 (by omega))).trans h2⟩
theorem JC.put {g:Nat} (h:JC γ w W e (some ⟨g,0,none⟩) sc lo k cur) (hk:k<e.subs.length) {x:ae} (hr:Ea γ e.subs[k] x) (hx:aU lo W x) (hg:w.heap.size+2≤g) :
  JC γ w (six W g (k*6) (.int .u8 x.kind) (.int .u8 x.op) (.int .u32 x.value) (.int .i64 x.width) (.string x.name) (.slice x.sp.at_ x.subs.length x.sp.cap)) e (some ⟨g,0,none⟩) sc lo (k+1) (cur.set k x):=by
 have hgl:=h.at_ _ rfl;refine ⟨jN h.low (by omega) _ _ _ _ _ _ _,h.hlo,by rw [j6];exact h.loW,h.at_,(jI _ _ _ _ _ _ _ _ _ (by omega)).trans h.box,(jI _ _ _ _ _ _ _ _ _ (by omega)).trans h.res,h.own.put6 (fun _=>rfl) (by rw [h.len];exact hk) rfl,by rw [List.length_set];exact h.len,fun i h1 h2 h3=>?_,fun i h1 h2 h3=>?_⟩
 ·by_cases hi:i=k
  ·subst hi
   rw [List.getElem_set_self];exact ⟨hr,rM hx hgl _ _ _ _ _ _ _⟩
  ·rw [List.getElem_set_ne (Ne.symm hi)]
   have:=h.done i h1 (by rw [h.len];exact h1) (by omega);exact ⟨this.1,rM this.2 hgl _ _ _ _ _ _ _⟩
 ·rw [List.getElem_set_ne (by omega)]
  exact h.todo i h1 (by rw [h.len];exact h1) (by omega)
def MN (γ:ql) (e:ae) (sa:Option Addr) (sc:Nat) (cur:List ae):ae:=.mk e.kind e.op e.value e.width (γ e.kind e.name) ⟨sa,sc⟩ cur
theorem aG.low {α:Type} {enc:α→List Value} {B B2 kk n c:Nat} {W:World} {ty:TypeId} {A:Option Addr} {l:List α} (h:aG B W ty kk enc (.slice A n c) l) (hk:∀x,(enc x).length=kk) (hl:l.length≤2199023255552) (hB:B2≤B):RowOf W.heap.size (dA B2 W) ⟨A,c⟩ kk enc l:=by
 obtain ⟨sp,e,hr,ha⟩:=h.row hk hl;obtain ⟨A2,c2⟩:=sp;have e2:=Value.slice.inj e;obtain ⟨rfl,_,rfl⟩:=e2;cases A with
 | none=>exact ⟨hr.cap,hr.big,hr.few,fun h0=>by obtain ⟨b,off,e,_⟩:=hr.row h0;cases e⟩
 | some a =>
  obtain ⟨h1,h2,h3⟩:=ha a rfl;obtain ⟨b,off,sp⟩:=a
  dsimp only at h1 h2 h3
  subst h2;subst h3;exact hr.low (by omega)
theorem JC.fin (h:JC γ w W e sa sc lo e.subs.length cur) (hrd:iG w.heap.size w e) (hγ:∀k s,s.size≤maxLen→(γ k s).size≤maxLen) :
  Ea γ e (MN γ e sa sc cur)∧aU w.heap.size (six W (w.heap.size+1) 0 (.int .u8 e.kind) (.int .u8 e.op) (.int .u32 e.value) (.int .i64 e.width) (.string (γ e.kind e.name)) (.slice sa e.subs.length sc)) (MN γ e sa sc cur) ∧
  Below w.heap.size w (six W (w.heap.size+1) 0 (.int .u8 e.kind) (.int .u8 e.op) (.int .u32 e.value) (.int .i64 e.width) (.string (γ e.kind e.name)) (.slice sa e.subs.length sc)):=by
 have hn:∀s∈cur,iG W.heap.size (dA lo W) s:=fun s hs=>by
  obtain ⟨i,hi,rfl⟩:=List.getElem_of_mem hs;have hi2:i<e.subs.length:=by rw [←h.len];exact hi
  exact (h.done i hi2 hi hi2).2
 refine ⟨?_,?_,jN h.low (by omega) _ _ _ _ _ _ _⟩
 ·obtain ⟨k0,o0,v0,w0,nm0,sp0,l0⟩:=e
  exact Ea.mk h.len fun i h1 h2=>(h.done i h1 h2 h1).1
 ·have hrow:=h.own
  have hlo:=h.hlo;unfold aU;rw [j6];obtain ⟨k0,o0,v0,w0,n0⟩:=(match hrd with | .mk _ a b c d e _ _=>⟨a,b,c,d,e⟩:_∧_∧_∧_∧_);have hfew:cur.length≤2199023255552:=by rw [h.len];exact hrd.row.few
  have hcells:∀(lo':Nat),w.heap.size+2≤lo'→∀p u,p.block<W.heap.size→(dA lo' W).cell? p=some u→(dA w.heap.size (six W (w.heap.size+1) 0 (.int .u8 e.kind) (.int .u8 e.op) (.int .u32 e.value) (.int .i64 e.width) (.string (γ e.kind e.name)) (.slice sa e.subs.length sc))).cell? p=some u:=fun lo' hlo' p u _ hc=>by
   obtain ⟨h1,h2⟩:=av.1 hc;exact av.2 ⟨by omega,(World.cell?_of_block (jI _ _ _ _ _ _ _ _ _ (by omega))).trans h2⟩
  refine .mk _ k0 o0 v0 w0 ?_ ((h.own.low (B2:=w.heap.size+2) (fun _=>rfl) hfew (Nat.le_refl _)).cells (hcells _ (Nat.le_refl _))) fun s hs=>(hn s hs).cells (hcells _ hlo)
  show (γ e.kind e.name).size≤maxLen;exact hγ _ _ n0
end
end
section
open Go Go.RowKit
def Bx (s0:Nat) (w:World) (p:af):Prop:=w.heap[s0]? = some (.cells p.arr 35 (0,0))
def Mk (s0:Nat) (w w':World):Prop:=Below w.heap.size (mask s0 w) (mask s0 w')
section
variable {s0 lo:Nat} {w w' w2:World} {p q:af}
theorem Mk.refl:Mk s0 w w:=Below.refl _ _
theorem Mk.size (h:Mk s0 w w'):w.heap.size≤w'.heap.size:=bS h
theorem Mk.trans (h:Mk s0 w w') (h2:Mk s0 w' w2):Mk s0 w w2:=Below.trans h (Below.mono h2 h.size)
theorem Mk.of (h:Below w.heap.size w w') (hs:s0<w.heap.size):Mk s0 w w':=ai hs h
theorem Mk.set (_:s0<w.heap.size) (i:Nat) (v:Value):Mk s0 w (w.setCell ⟨s0,i,none⟩ v):=by
 unfold Mk;rw [jC];exact Below.refl _ _
theorem Mk.below (h:Mk s0 w w') {n:Nat} (hn:n≤s0) (hs:s0<w.heap.size):Below n w w':=mZ hn (Below.mono h (by omega))
theorem Mk.heap (h:Mk s0 w w') {b:Nat} (hb:b≠s0) (hl:b<w.heap.size):w'.heap[b]? = w.heap[b]? := by
 have:=Below.block h b hl
 rwa [bg hb,bg hb] at this
theorem Mk.cell (h:Mk s0 w w') {a:Addr} (hb:a.block≠s0) (hl:a.block<w.heap.size):w'.cell? a=w.cell? a:=World.cell?_of_block (h.heap hb hl)
theorem Bx.cell (h:Bx s0 w p) (i:Nat) {v:Value} (hi:p.cells[i]? = some v):w.cell? ⟨s0,i,none⟩=some v:=by
 have hh:w.heap[s0]? = _:=h;simp [World.cell?,hh,af.arr,hi]
theorem Bx.on (h:Bx s0 w p) (hb:Below w.heap.size w w'):Bx s0 w' p:=(hb.block s0 (zgs h).1).trans h
theorem Bx.lt (h:Bx s0 w p):s0<w.heap.size:=(zgs h).1
theorem Bx.put (h:Bx s0 w p) (i:Nat) (v:Value) (hq:q.arr=p.arr.setIfInBounds i v):Bx s0 (w.setCell ⟨s0,i,none⟩ v) q:=by
 have hh:w.heap[s0]? = _:=h;unfold Bx;simp [World.setCell,Array.getElem?_modify,hh,hq]
theorem Bx.free (h:Bx s0 w p) (i:Nat):w.frozen? ⟨s0,i,none⟩=false:=by
 have:w.heap[s0]? = _:=h;simp [World.frozen?,this]
theorem NewRow.on {α:Type} {k:Nat} {enc:α→List Value} {sp:Sp} {l:List α} (h:RowOf w.heap.size (dA lo w) sp k enc l) (hm:Mk s0 w w') (hs:s0<lo):RowOf w'.heap.size (dA lo w') sp k enc l :=
 (h.cells (fI hm hs)).more hm.size
def KE (lo:Nat) (b:Bool) (w:World) (e e1:ae):Prop:=(b=true→aK e1=aK e∧aU lo w e1)∧(b=false→e1=e)
theorem KE.on {b:Bool} {e e1:ae} (h:KE lo b w e e1) (hm:Mk s0 w w') (hs:s0<lo):KE lo b w' e e1:=⟨fun hb=>⟨(h.1 hb).1,(h.1 hb).2.on hm hs⟩,h.2⟩
theorem KE.off {e:ae}:KE lo false w e e:=⟨fun h=>(by cases h),fun _=>rfl⟩
def Kc (lo:Nat) (b:Bool) (w:World) (sp:Sp) (l:List aa) (sp1:Sp) (l1:List aa):Prop:=(b=true→l1.map ag=l.map ag∧dz lo w sp1 l1)∧(b=false→sp1=sp∧l1=l)
theorem Kc.on {b:Bool} {sp sp1:Sp} {l l1:List aa} (h:Kc lo b w sp l sp1 l1) (hm:Mk s0 w w') (hs:s0<lo):Kc lo b w' sp l sp1 l1:=⟨fun hb=>⟨(h.1 hb).1,(h.1 hb).2.on hm hs⟩,h.2⟩
theorem Kc.off {sp:Sp} {l:List aa}:Kc lo false w sp l sp l:=⟨fun h=>(by cases h),fun _=>⟨rfl,rfl⟩⟩
def CV {α:Type} (B:Nat) (ty:TypeId) (k:Nat) (enc:α→List Value) (b:Bool) (w:World) (sp sp1:Sp) (l:List α):Prop:=(b=true→aG B w ty k enc (.slice sp1.at_ l.length sp1.cap) l)∧(b=false→sp1=sp)
theorem aG.onM {α:Type} {B:Nat} {ty:TypeId} {k:Nat} {enc:α→List Value} {v:Value} {l:List α} (h:aG B w ty k enc v l) (hm:Mk s0 w w') (hs:s0<B):aG B w' ty k enc v l :=
 h.kept fun g _ _ hg hh=>hm.heap (by omega) (zgs hh).1
theorem CV.on {α:Type} {B:Nat} {ty:TypeId} {k:Nat} {enc:α→List Value} {b:Bool} {sp sp1:Sp} {l:List α} (h:CV B ty k enc b w sp sp1 l) (hm:Mk s0 w w') (hs:s0<B):CV B ty k enc b w' sp sp1 l:=⟨fun hb=>(h.1 hb).onM hm hs,h.2⟩
theorem CV.off {α:Type} {B:Nat} {ty:TypeId} {k:Nat} {enc:α→List Value} {sp:Sp} {l:List α}:CV B ty k enc false w sp sp l:=⟨fun h=>(by cases h),fun _=>rfl⟩
theorem Mk.six (_:s0<w.heap.size) (o:Nat) (v0 v1 v2 v3 v4 v5:Value):Mk s0 w (six w s0 o v0 v1 v2 v3 v4 v5):=by
 unfold Mk Go.Proofs.YtepacjkacjabbaaGreatDoor.six;simp only [jC];exact Below.refl _ _
theorem Bx.six (h:Bx s0 w p) (o:Nat) (v0 v1 v2 v3 v4 v5:Value) (hq:q.arr=(((((p.arr.setIfInBounds o v0).setIfInBounds (o+1) v1).setIfInBounds (o+2) v2).setIfInBounds (o+3) v3).setIfInBounds (o+4) v4).setIfInBounds (o+5) v5):Bx s0 (six w s0 o v0 v1 v2 v3 v4 v5) q:=by
 have hh:w.heap[s0]? = _:=h;unfold Bx Go.Proofs.YtepacjkacjabbaaGreatDoor.six;simp [World.setCell,Array.getElem?_modify,hh,hq]
end
end
section
open Go Go.RowKit
structure Dj (w wr:World) (l:List aa) (k:Nat) (A:Option Addr) (c:Nat) (cur:List aa):Prop where
 own:aG w.heap.size wr 43 6 aa.cells (.slice A cur.length c) cur
 new:∀s,s∈cur→dK w.heap.size (Value.slice A cur.length c).ownBlock wr s
 low:Below w.heap.size w wr
 eq:cur.map ag=(aZ (l.take k)).map ag
section
variable {w wr W':World} {l cur:List aa} {k:Nat} {A:Option Addr} {c:Nat}
theorem Dj.start:Dj w w l 0 none 0 []:=⟨aG.nil,fun _ h=>absurd h (by simp),Below.refl _ _,rfl⟩
theorem Dj.on (h:Dj w wr l k A c cur) (hb:Below wr.heap.size wr W'):Dj w W' l k A c cur :=
 ⟨h.own.on hb,fun s hs=>(h.new s hs).below hb,h.low.trans (hb.mono h.low.size),h.eq⟩
theorem Dj.len (h:Dj w wr l k A c cur) (hk:k≤l.length):cur.length=k:=by
 have:=congrArg List.length h.eq;rw [List.length_map,List.length_map,jJ,List.length_map,List.length_take] at this;omega
theorem Dj.old (h:Dj w wr l k A c cur):∀b,(Value.slice A cur.length c).ownBlock=some b→b<wr.heap.size:=h.own.old_block
theorem Dj.push (h:Dj w wr l k A c cur) (hk:k<l.length) {y:aa} (hy:dK w.heap.size (Value.slice A cur.length c).ownBlock wr y) (hbare:ag y=ag (uX l[k])) {v':Value} (ho:aG w.heap.size W' 43 6 aa.cells v' (cur++[y])) (hg:wr.grownBy W' (Value.slice A cur.length c).ownBlock) (hat:v'.ownBlock=(Value.slice A cur.length c).ownBlock∨v'.ownBlock=some wr.heap.size) :
  ∃A' c',v'=.slice A' (cur++[y]).length c'∧Dj w W' l (k+1) A' c' (cur++[y]):=by
 obtain ⟨A',c',rfl⟩:=ho.form;refine ⟨A',c',rfl,ho,fun s hs=>?_,h.own.below hg (Nat.le_refl _) h.low h.low.size,?_⟩
 ·rcases List.mem_append.1 hs with h1 | h1
  ·exact (h.new s h1).grow hg hat
  ·rw [List.mem_singleton] at h1
   subst h1;exact hy.grow hg hat
 ·rw [List.map_append,h.eq,jJ,jJ,List.take_succ_eq_append_getElem hk,List.map_append,List.map_append,List.map_cons,List.map_cons,List.map_cons,hbare]
  rfl
theorem Dj.done (h:Dj w wr l k A c cur) (hk:k=l.length):cur.map ag=(aZ l).map ag:=by
 have:=h.eq
 rwa [hk,List.take_length] at this
end
theorem mR {lo:Nat} {W:World} {A:Option Addr} {c:Nat} {l:List aa} (h:aG lo W 43 6 aa.cells (.slice A l.length c) l) (hs:∀s,s∈l→gN lo W s) (hl:l.length≤1000000):dz lo W ⟨A,c⟩ l:=by
 obtain ⟨sp,e,hr,hb⟩:=h.row (fun _=>rfl) (by omega);have:sp=⟨A,c⟩:=by
  unfold Sp.val at e;injection e with e1 e2 e3;rw [e1,e3]
 subst this;exact ⟨hr.low' fun a ha=>(hb a ha).1,hs⟩
theorem gN.tox' {lo:Nat} {g:Option Nat} {W W':World} {s:aa} (h:gN lo W s) (hb:Below W.heap.size W W') (hg:∀b,g=some b→W.heap.size≤b):dK lo g W' s :=
 (gz.cells h fun p u hp hc=>by
  obtain ⟨h1,h2⟩:=av.1 hc;exact bH.2 ⟨h1,fun e=>by have:=hg _ e;omega,(hb.cell hp).trans h2⟩).more hb.size
theorem aG.from {α:Type} {k B:Nat} {enc:α→List Value} {e:TypeId} {v:Value} {l:List α} {W:World} (h:aG B W e k enc v l):∀b,v.ownBlock=some b→B≤b:=fun _ hb=>(h.own_type hb).1
theorem Gl {ex:List ae} {e e':ae} {th th':List aa} (hx:ex=[e]) (he:aK e'=aK e) (ht:th'.map ag=th.map ag) (es ts:Sp):ag (.mk 6 ⟨#[]⟩ es [e'] 0 ts th' Sp.none [])=ag (fV ex th):=by
 subst hx;unfold fV;rw [bV,bV];simp [he,ht]
end
section
open Go Go.RowKit Go.Maps
theorem oO {L:Nat→Bool} (i:Nat) {j:Nat} (h:L j=true):lU L i j=true:=by unfold lU;split <;> simp [*]
theorem JA (lo:Nat) (w:World) (x wd:Int) (hx:0≤x∧x≤4294967295) (hw:(Lit.int .i64 wd).wf=true):aU lo w (aR x wd) :=
 .mk _ (show (0:Int)≤1∧(1:Int)≤255 by decide) (show (0:Int)≤0∧(0:Int)≤255 by decide) hx hw (show (0:Nat)≤maxLen by decide) RowOf.nil (fun _ h=>absurd h (by simp [aR,ae.subs]))
set_option maxHeartbeats 1000000 in
theorem I6 {lo:Nat} (s:ByteArray) (hs:s.size≤maxLen) (e:ae) (w:World) (he:aU lo w e) (hlo:lo≤w.heap.size):Calls Tryz.prog 40 #[.string s,e.val] w fun o w'=>∃sp:Sp,o=.returned (gp sp s e).val∧gN lo w' (gp sp s e)∧Below w.heap.size w w':=by
 have HE:=zhd he;clear he;simp only [ae.val,Sp.val];go_enter Tryz.func40,Tryz.ntmps40
 go_wp2_with fail
 obtain ⟨h1,h2,h3,h4,h5⟩:=tZ w (.cells #[.int .u8 e.kind,.int .u8 e.op,.int .u32 e.value,.int .i64 e.width,.string e.name,.slice e.sp.at_ e.subs.length e.sp.cap] 30) (.cells #[.int .u8 1,.string s,.slice (some ⟨w.heap.size+1+1,0,none⟩) 1 1,.int .i64 0,.slice none 0 0,.slice none 0 0] 43) (.cells #[.int .u8 e.kind,.int .u8 e.op,.int .u32 e.value,.int .i64 e.width,.string e.name,.slice e.sp.at_ e.subs.length e.sp.cap] 30);refine bodyPost_ret (results_cell_row rfl _ _ (w.heap.size+1) 43 _ (0,0) _ rfl h2 Tryz.underlying43 rfl (by kernel_rfl)) rfl ⟨⟨some ⟨w.heap.size+1+1,0,none⟩,1⟩,rfl,?_,h5⟩;exact .mk _ (show (0:Int)≤1∧(1:Int)≤255 by decide) (show (Lit.int .i64 0).wf=true by decide) hs ((row_one (enc:=ae.cells) (x:=e) h3).low (by omega)) (fun y hy=>by
  have:y=e:=by simpa [gp,aa.exprs] using hy
  rw [this];exact HE.out.below h5) RowOf.nil (fun _ h=>absurd h (by simp [gp,aa.thn])) RowOf.nil (fun _ h=>absurd h (by simp [gp,aa.els]))
theorem Bx.not_own {bp lo:Nat} {w:World} {p:af} {v:Value} {l:List aa} (h:Bx bp w p) (ho:aG lo w 43 6 aa.cells v l):v.ownBlock≠some bp:=fun e=>by
 obtain ⟨_,cs,fr,hh⟩:=ho.own_type e;have h2:w.heap[bp]? = _:=h;rw [h2] at hh;injection hh with hh;injection hh with _ hh;exact absurd hh (by decide)
theorem J5 {bp:Nat} {w w':World} {p:af} (h:fe w.heap.size (mask bp w) p) (hb:Below w.heap.size w w') (hq:bp<w.heap.size):fe w'.heap.size (mask bp w') p:=(fe.below h (ai hq hb)).more hb.size
noncomputable def opsU5:Array Oper:=((Tryz.f6.body.bind (opsOf 5)).getD #[])
def Av (t:Nat):Bool:=decide (t≤40) || decide (48≤t)
theorem IL:iW opsU5 8 188 Av=true:=by kernel_rfl
def De (bp n0:Nat) (Wn w0:World) (p:af) (L:Nat→Bool) (w:World):Prop:=Below n0 Wn w∧(L 5=false→Below w0.heap.size w0 w)∧(L 7=false→Bx bp w p)∧(L 7=true→∃s2 sp:Sp,Bx bp w (vW p s2 sp)∧fe w.heap.size (mask bp w) (vW p s2 sp))
theorem De.flag {bp n0:Nat} {Wn w0:World} {p:af} {k:Nat} {L:Nat→Bool} {w:World} (hk:k≠5∧k≠7) (h:De bp n0 Wn w0 p L w):De bp n0 Wn w0 p (lU L k) w:=by
 unfold De at h ⊢;rw [az (Ne.symm hk.1),az (Ne.symm hk.2)];exact h
theorem De.on {bp n0:Nat} {Wn w0:World} {p:af} {L:Nat→Bool} {w w':World} (h:De bp n0 Wn w0 p L w) (hn:n0≤Wn.heap.size) (hb:Below w.heap.size w w'):De bp n0 Wn w0 p L w' :=
 ⟨h.1.trans (hb.mono (Nat.le_trans hn h.1.size)),fun h5=>(h.2.1 h5).trans (hb.mono (h.2.1 h5).size),fun h7=>(h.2.2.1 h7).on hb,fun e=>by
  obtain ⟨s2,sp,h1,h2⟩:=h.2.2.2 e;exact ⟨s2,sp,h1.on hb,J5 h2 hb h1.lt⟩⟩
set_option maxRecDepth 10000000 in
set_option maxHeartbeats 64000000 in
theorem KC {a0:Act} {w0:World} (hsz:a0.tmps.size=188) (bp n B n0:Nat) (Wn:World) (p:af) (f7:a0.tmps[7]?.getD undef=.pointer (some ⟨bp,0,none⟩)) (hbx0:Bx bp w0 p) (hwo:ja n B w0 p) (hnq:n≤bp) (hnB:n0≤B) (hnn:n0≤Wn.heap.size) (hBw:B≤w0.heap.size) (hnb:n0≤bp) (hlow0:Below n0 Wn w0) (hl:p.work.length≤900) :
  (Code.region 5 opsU5 true).wp Tryz.prog (fun e a w=>e=.normal∧a.tmps.size=188∧a.defers=a0.defers∧(∀t:Nat,Av t=true→a.tmps[t]?.getD undef=a0.tmps[t]?.getD undef)∧Below n0 Wn w∧∃s2 sp:Sp,Bx bp w (vW p s2 sp)∧fe w.heap.size (mask bp w) (vW p s2 sp)) a0 w0:=by
 have hbp:bp<w0.heap.size:=hbx0.lt;have hnw:n≤w0.heap.size:=by omega
 refine dh (n:=8) (sz:=188) (keep:=Av) rfl IL hsz (De bp n0 Wn w0 p) (fun i w w'=>i=5∨i=7∨Below w.heap.size w w') ⟨hlow0.drew,fun _=>(Below.refl _ _).drew,fun _=>hbx0.on (Below.refl _ _).drew,fun h=>(by cases h)⟩ ?_;have e:opsU5.toList=opsU5.toList:=rfl
 conv at e=>rhs;arg 1;whnf
 simp only at e;rw [e];clear e
 apply aj.exact rfl rfl
 ·exact fun _ _ h=>De.flag (by decide) h
 ·exact fun w=>.inr (.inr (Below.refl _ w))
 ·rintro L a w ⟨-,hS,hbeh,hsm,haft⟩
  have f7:a.tmps[7]?.getD undef=_:=(hsm 7 rfl).trans f7;simp [go_sem,f7];exact rfl
 apply aj.exact rfl rfl
 ·exact fun _ _ h=>De.flag (by decide) h
 ·exact fun w=>.inr (.inr (Below.refl _ w))
 ·rintro L a w ⟨-,hS,hbeh,hsm,haft⟩
  have f41:a.tmps[41]?.getD undef=_:=ak (haft.1 rfl).2;have hc:=(hS.2.2.1 (hbeh 7 rfl)).cell 14 rfl;simp [go_sem,f41,hc];exact rfl
 refine aj.any (fun L v w=>v=.agg #[.int .u8 1,.int .u8 0,.int .u32 0,.int .i64 1,.string ⟨#[]⟩,.slice none 0 0]) rfl ?_ ?_ ?_
 ·exact fun _ _ _ _ _ _ _ h=>h
 ·rintro L a w ⟨hL,hS,hbeh,hsm,haft⟩
  refine Oper.wp_enter (f:=41) (args:=#[.int .i64 0,.int .i64 1]) (w':=w) ?_ ?_
  ·simp [go_sem]
  ·refine (oJ 0 1 (by decide) w).mono ?_
   rintro o w' ⟨rfl,hb2⟩;exact ⟨_,rfl,_,rfl,fun e=>(by cases e),rfl,De.flag (by decide) (De.on hS hnn hb2),.inr (.inr hb2)⟩
 refine aj.any (fun L v w=>(L 5=true∨L 7=true)∨∃sp:Sp,v=(gp sp gP (aR 0 1)).val∧gN w0.heap.size w (gp sp gP (aR 0 1))) rfl ?_ ?_ ?_
 ·intro i L v w w' _ hR hP
  rcases hR with rfl | rfl | hR
  ·exact .inl (.inl bA)
  ·exact .inl (.inr bA)
  ·exact hP.imp (fun h=>h.imp (oO _) (oO _)) fun h=>h.imp fun sp h2=>⟨h2.1,h2.2.below hR⟩
 ·rintro L a w ⟨hL,hS,hbeh,hsm,haft⟩
  have f43:a.tmps[43]?.getD undef=_:=ak (haft.1 rfl).2;obtain ⟨hlow,hbw,hbx⟩:Below n0 Wn w∧Below w0.heap.size w0 w∧Bx bp w p:=⟨hS.1,hS.2.1 (hbeh 5 rfl),hS.2.2.1 (hbeh 7 rfl)⟩;refine Oper.wp_enter (f:=40) (args:=#[.string gP,.agg #[.int .u8 1,.int .u8 0,.int .u32 0,.int .i64 1,.string ⟨#[]⟩,.slice none 0 0]]) (w':=w) ?_ ?_
  ·simp [go_sem,f43,gP]
  ·refine (I6 gP (by decide) (aR 0 1) w (JA w0.heap.size w 0 1 (by decide) (by decide)) hbw.size).mono ?_
   rintro o w' ⟨sp,rfl,hn,hb2⟩;exact ⟨_,rfl,_,rfl,fun e=>(by cases e),.inr ⟨sp,rfl,hn⟩,De.flag (by decide) (De.on hS hnn hb2),.inr (.inr hb2)⟩
 refine aj.any (fun L v w=>(L 5=true∨L 7=true)∨∃(b:Nat) (sp:Sp),v=.slice (some ⟨b,0,none⟩) 1 1∧RowOf w.heap.size w ⟨some ⟨b,0,none⟩,1⟩ 6 aa.cells [(gp sp gP (aR 0 1))]∧gN w0.heap.size w (gp sp gP (aR 0 1))) rfl ?_ ?_ ?_
 ·intro i L v w w' _ hR hP
  rcases hR with rfl | rfl | hR
  ·exact .inl (.inl bA)
  ·exact .inl (.inr bA)
  ·exact hP.imp (fun h=>h.imp (oO _) (oO _)) fun h=>h.imp fun b h=>h.imp fun sp h2=>⟨h2.1,(h2.2.1.below hR).more hR.size,h2.2.2.below hR⟩
 ·rintro L a w ⟨hL,hS,hbeh,hsm,haft⟩
  obtain ⟨hlow,hbw,hbx⟩:Below n0 Wn w∧Below w0.heap.size w0 w∧Bx bp w p:=⟨hS.1,hS.2.1 (hbeh 5 rfl),hS.2.2.1 (hbeh 7 rfl)⟩;obtain ⟨sp,e44,hn⟩:∃sp:Sp,a.eval (.tmp 44)=(gp sp gP (aR 0 1)).val∧gN w0.heap.size w (gp sp gP (aR 0 1)):=(haft.1 rfl).2.resolve_left (by rw [hbeh 5 rfl,hbeh 7 rfl];simp);have hb2:=zba w (.cells (gp sp gP (aR 0 1)).cells.toArray 43);refine Oper.wp_value (v:=.slice (some ⟨w.heap.size,0,none⟩) 1 1) (w':=w.alloc (.cells (gp sp gP (aR 0 1)).cells.toArray 43)) ?_ ?_
  ·have f44:a.tmps[44]?.getD undef=_:=ak e44
   simp [go_sem,f44,aa.val,aa.cells,Sp.val,gp]
  ·exact ⟨_,rfl,fun e=>(by cases e),.inr ⟨_,sp,rfl,row_one (zan w _),hn.below hb2⟩,De.flag (by decide) (De.on hS hnn hb2),.inr (.inr hb2)⟩
 refine aj.any (fun L v w=>L 7=true∨(bp<w.heap.size∧∃(s2 sp:Sp),v=s2.val (p.work.length+1)∧fe w.heap.size (mask bp w) (vW p s2 sp))) rfl ?_ ?_ ?_
 ·intro i L v w w' hi hR hP
  rcases hR with rfl | rfl | hR
  ·exact absurd rfl hi
  ·exact .inl bA
  ·exact hP.imp (oO _) fun h=>⟨Nat.lt_of_lt_of_le h.1 hR.size,h.2.imp fun s2 h2=>h2.imp fun sp h3=>⟨h3.1,J5 h3.2 hR h.1⟩⟩
 ·rintro L a w ⟨hL,hS,hbeh,hsm,haft⟩
  have f42:a.tmps[42]?.getD undef=_:=ak (haft.1 rfl).2;obtain ⟨hlow,hbw,hbx⟩:Below n0 Wn w∧Below w0.heap.size w0 w∧Bx bp w p:=⟨hS.1,hS.2.1 hL,hS.2.2.1 (hbeh 7 rfl)⟩;obtain ⟨b,sp,e45,hrow,hn⟩:∃(b:Nat) (sp:Sp),a.eval (.tmp 45)=.slice (some ⟨b,0,none⟩) 1 1∧RowOf w.heap.size w ⟨some ⟨b,0,none⟩,1⟩ 6 aa.cells [(gp sp gP (aR 0 1))]∧gN w0.heap.size w (gp sp gP (aR 0 1)):=(haft.2.1 rfl).2.resolve_left (by rw [hL,hbeh 7 rfl];simp);have hwk:=hwo.below hnw hbw;have f42e:a.eval (.tmp 42)=.slice p.ws.at_ p.work.length p.ws.cap:=(haft.1 rfl).2;refine Oper.wp_append (.tmp 42) (.tmp 45) 33 rfl vY (fun _=>rfl) ku _ p.work f42e hwk.own ⟨some ⟨b,0,none⟩,1⟩ [_] e45 hrow (by simp;omega) (Nat.le_trans hBw hbw.size) ?_;intro v' w' ho hg hat;obtain ⟨s2,rfl,hrd2⟩:=hwk.more hnq hbp hbw.size (fun b e=>⟨hwo.own.old_block b e,fun e2=>hbx.not_own hwk.own (e2 ▸ e)⟩) hn ho hg hat (by omega);have hlow2:=hwk.own.below hg hnB hlow (Nat.le_trans hBw hbw.size);have hbx2:Bx bp w' p:=(hg.block bp hbx.lt (fun e=>hbx.not_own hwk.own e.symm)).trans hbx;exact ⟨_,rfl,fun e=>(by cases e),.inr ⟨Nat.lt_of_lt_of_le hbx.lt hg.size,s2,sp,rfl,hrd2⟩,⟨hlow2,fun h=>(by rw [bA] at h;cases h),fun _=>hbx2,fun h=>by rw [az (by decide),hbeh 7 rfl] at h;cases h⟩,.inl rfl⟩
 apply aj.exact rfl rfl
 ·exact fun _ _ h=>De.flag (by decide) h
 ·exact fun w=>.inr (.inr (Below.refl _ w))
 ·rintro L a w ⟨-,hS,hbeh,hsm,haft⟩
  have f7:a.tmps[7]?.getD undef=_:=(hsm 7 rfl).trans f7;simp [go_sem,f7];exact rfl
 refine aj.any (fun L v w=>True) rfl ?_ ?_ ?_
 ·exact fun _ _ _ _ _ _ _ h=>h
 ·rintro L a w ⟨hL,hS,hbeh,hsm,haft⟩
  have f47:a.tmps[47]?.getD undef=_:=ak (haft.1 rfl).2;obtain ⟨-,s2,sp,e46,hrd⟩:bp<w.heap.size∧∃(s2 sp:Sp),a.eval (.tmp 46)=s2.val (p.work.length+1)∧fe w.heap.size (mask bp w) (vW p s2 sp):=(haft.2.1 rfl).2.resolve_left (by rw [hL];exact Bool.false_ne_true);have f46:a.tmps[46]?.getD undef=_:=ak e46;have hbx:=hS.2.2.1 hL;have hc:=hbx.cell 14 rfl;have hf:=hbx.free 14;refine Oper.wp_skip (w':=w.setCell ⟨bp,14,none⟩ (s2.val (p.work.length+1))) ?_ ?_
  ·simp [go_sem,f47,f46,hc,hf,Sp.val]
  ·refine ⟨undef,rfl,fun _=>rfl,trivial,⟨hS.1.setCell (p:=⟨bp,14,none⟩) hnb _,fun h=>?_,fun h=>(by rw [bA] at h;cases h),fun _=>⟨s2,sp,?_,?_⟩⟩,.inr (.inl rfl)⟩
   ·rw [az (by decide),(haft.2.1 rfl).1] at h
    cases h
   ·exact hbx.put 14 _ (by simp [vW,af.arr,af.cells,Sp.val])
   ·rw [jC];simpa using hrd
 rintro L a w hL ⟨hS,hsame,hv⟩;exact ⟨rfl,hsame.1.trans hsz,hsame.2.1,hsame.2.2,hS.1,hS.2.2.2 (hL 7 (by decide))⟩
end
end Go.Proofs.YtepacjkacjabbaaGreatDoor
