import Derived.Test.YtepacjkacjabbaaGreatDoorPAA
import Derived.Test.YtepacjkacjabbaaGreatDoorPAF
import Derived.ArgAppend
import Derived.Test.YtepacjkacjabbaaGreatDoorPAP
import Derived.StillTailTactics
import Derived.Deep.CutBlock
import Derived.Deep.CutRange
import Derived.Carry
import Derived.Laws.EntriesVeiled
import Derived.Outline
namespace Go.Proofs.YtepacjkacjabbaaGreatDoor
section
open Go Go.RowKit
structure jD (q:Nat) (W:World) (v:Value) (l:List Nat):Prop where
 ex:∃ao cap,v=.slice ao l.length cap∧l.length≤cap∧cap≤maxLen∧(ao=none→cap=0) ∧
  (0<cap→∃g off cur,ao=some ⟨g,off,none⟩∧q≤g∧W.heap[g]? = some (.cells cur 3 (0,0))∧cur.size=off+cap∧∀j (h:j<l.length),cur[off+j]? = some (.int .i64 (l[j]:Nat)))
def jJ (q:Nat) (W W':World):Prop:=∀k o,q≤k→W.heap[k]? = some o→(∀cs fr,o≠.cells cs 3 fr)→W'.heap[k]? = some o
theorem jJ.trans {q:Nat} {A B C:World} (h:jJ q A B) (k:jJ q B C):jJ q A C:=fun i o hi ho hc=>k i o hi (h i o hi ho hc) hc
theorem jJ.of_new {q:Nat} {A B:World} (h:Below A.heap.size A B):jJ q A B:=fun i _ _ ho _=>(h.block i (zgs ho).1).trans ho
theorem jD.kept {q:Nat} {W W':World} {v:Value} {l:List Nat} (h:jD q W v l) (hk:∀k cs fr,q≤k→W.heap[k]? = some (.cells cs 3 fr)→W'.heap[k]? = W.heap[k]?):jD q W' v l:=by
 obtain ⟨ao,cap,h1,h2,h3,h3b,h4⟩:=h.ex;refine ⟨ao,cap,h1,h2,h3,h3b,fun hc=>?_⟩;obtain ⟨g,off,cur,e1,e2,e3,e4,e5⟩:=h4 hc;exact ⟨g,off,cur,e1,e2,(hk g _ _ e2 e3).trans e3,e4,e5⟩
theorem jD.new {q:Nat} {W W':World} {v:Value} {l:List Nat} (h:jD q W v l) (hb:Below W.heap.size W W'):jD q W' v l :=
 h.kept fun k _ _ _ hk=>hb.block k (zgs hk).1
theorem jD.first {q:Nat} {W:World} (i:Nat) (hq:q≤W.heap.size):jD q (W.alloc (.cells #[.int .i64 i] 3)) (.slice (some ⟨W.heap.size,0,none⟩) 1 1) [i] :=
 ⟨_,1,rfl,Nat.le_refl _,by simp [maxLen],by simp,fun _=>⟨W.heap.size,0,_,rfl,hq,zan _ _,rfl,fun j hj=>by
  have:j=0:=by simp at hj;omega
  subst this;rfl⟩⟩
theorem jD.front {q:Nat} {W:World} {v:Value} {i:Nat} {l:List Nat} (h:jD q W v (i::l)):∃g off cap,v=.slice (some ⟨g,off,none⟩) (l.length+1) (cap+1)∧l.length≤cap∧cap+1≤maxLen∧W.cell? ⟨g,off,none⟩=some (.int .i64 i)∧jD q W (.slice (if cap=0 then some ⟨g,off,none⟩ else some ⟨g,off+1,none⟩) l.length cap) l:=by
 obtain ⟨ao,cap,rfl,h2,h3,h3b,h4⟩:=h.ex;have hc:0<cap:=by simp at h2;omega
 obtain ⟨g,off,cur,rfl,e2,e3,e4,e5⟩:=h4 hc;simp only [List.length_cons] at h2 e5;refine ⟨g,off,cap - 1,by rw [Nat.sub_add_cancel hc];rfl,by omega,by omega,?_,?_⟩
 ·have:=e5 0 (by omega)
  simp only [Nat.add_zero,List.getElem_cons_zero] at this;simp [World.cell?,e3,this]
 ·by_cases h0:cap - 1=0
  ·rw [if_pos h0]
   exact ⟨_,cap - 1,rfl,by omega,by omega,by simp,fun h=>by omega⟩
  ·rw [if_neg h0]
   refine ⟨_,cap - 1,rfl,by omega,by omega,by simp,fun _=>⟨g,off+1,cur,rfl,e2,e3,by omega,fun j hj=>?_⟩⟩;have:=e5 (j+1) (by omega);simp only [List.getElem_cons_succ] at this;rw [←this]
   congr 1;omega
theorem Hf:(Tryz.prog.info? 3).map (fun i=>(i.zero,i.size,i.bytes))=some (some (.int .i64 0),1,8):=by kernel_rfl
theorem Gz (q:Nat) (w:World) (ty:TypeId) (v:Value) (l:List Nat) (k:Nat) (h:jD q w v l) (hl:l.length≤1000000) (hq:q≤w.heap.size) (ad:Addr) (c:Nat) (hc:w.cell? (ad.add 0)=some (.int .i64 k)) :
  ∃v' w',(Builtin.append_ #[87,87] ty #[v,.slice (some ad) 1 c]).run Tryz.prog w=.ok v' w'∧jD q w' v' (l++[k])∧Below q w w'∧jJ q w w':=by
 obtain ⟨i0,hi,hz0,hz1,hz2⟩:=jZ Hf;obtain ⟨ao,cap,rfl,h2,h3,h3b,h4⟩:=h.ex;have hnews:∀j u,[Value.int .i64 k][j]? = some u→w.cell? (ad.add j)=some u:=by
  intro j u hj
  match j,hj with
  | 0,hj=>simp at hj;subst hj;exact hc
 have ofGrown:∀v' w' n,w'.ownsRow w.heap.size 3 1 v' n ((l++[k]).map fun x=>Value.int .i64 (x:Nat))→n=l.length+1→w.grownBy w' none→jD q w' v' (l++[k])∧Below q w w'∧jJ q w w':=by
  intro v' w' n ho hn hg;refine ⟨?_,⟨hg.os,hg.tape,hg.output,hg.size,fun k hk=>hg.block k (by omega) (by simp)⟩,fun k o _ hk _=>(hg.block k (zgs hk).1 (by simp)).trans hk⟩;obtain ⟨hlen,ho⟩:=ho;rcases ho with ⟨_,h0⟩ | ⟨g,cp,cur,rfl,g1,g2,g3,g4,g5,g6⟩
  ·omega
  ·refine ⟨_,cp,by rw [hn];simp,by simp;omega,g4,by simp,fun _=>⟨g,0,cur,rfl,by omega,g2,by omega,fun j hj=>?_⟩⟩
   have e:(cur.toList.take (n*1))[j]? = ((l++[k]).map fun x=>Value.int .i64 (x:Nat))[j]? := by rw [g6]
   rw [List.getElem?_take_of_lt (by simp at hj;omega),List.getElem?_map,List.getElem?_eq_getElem hj] at e;rw [Nat.zero_add,←Array.getElem?_toList,e];rfl
 by_cases hr:l.length+1≤cap
 ·obtain ⟨g,off,cur,rfl,e2,e3,e4,e5⟩:=h4 (by omega)
  have hidx:off+l.length<cur.size:=by omega
  have hrun:=run_append_room_cells (P:=Tryz.prog) w 87 ty 3 i0 Tryz.underlying87 hi g off l.length cap ad 1 c [.int .i64 k] (by simp [hz1]) hnews (by simp [Value.oneCell']) hr
   (fun j hj=>by
    have:j=0:=by simp at hj;omega
    subst this;simp [World.cell?,e3,hz1,hidx])
   (fun j hj=>by simp [World.frozen?,e3])
  rw [hz1,Nat.mul_one] at hrun;refine ⟨_,_,hrun,?_,?_,?_⟩
  ·refine ⟨_,cap,by simp,by simp;omega,h3,by simp,fun _=>⟨g,off,cur.set! (off+l.length) (.int .i64 k),rfl,e2,?_,by simp;omega,fun j hj=>?_⟩⟩
   ·simp [World.setCells,World.setCell,Array.getElem?_modify,e3,Array.set!_eq_setIfInBounds]
   ·by_cases hjl:j=l.length
    ·subst hjl
     simp [hidx]
    ·have hj2:j<l.length:=by simp at hj;omega
     rw [Array.set!_eq_setIfInBounds,Array.getElem?_setIfInBounds_ne (by omega),e5 j hj2,List.getElem_append_left hj2]
  ·exact (Below.refl _ _).setCell (p:=⟨g,_,none⟩) e2 _
  ·intro k' o hk' ho hcell
   refine (Below.heap_setCell _ _ _ k' (fun e=>?_)).trans ho;simp only at e;rw [e,e3] at ho;cases ho
   exact absurd rfl (hcell _ _)
 ·cases ao with
  | some b =>
   have holds:∀j u,(l.map fun x=>Value.int .i64 (x:Nat))[j]? = some u→w.cell? (b.add j)=some u:=by
    intro j u hj;have hjl:j<l.length:=by have:=(List.getElem?_eq_some_iff.1 hj).1;simpa using this
    obtain ⟨g,off,cur,e1,e2,e3,e4,e5⟩:=h4 (by omega);cases e1
    have:=e5 j hjl;rw [List.getElem?_map,List.getElem?_eq_getElem hjl] at hj;simp at hj;rw [←hj,Addr.add_lit];simp [World.cell?,e3,this]
   obtain ⟨v',w',hrun,r1,r2⟩:=run_append_arg_grows (P:=Tryz.prog) w 87 ty 3 i0 (.int .i64 0) 1 8 Tryz.underlying87 hi hz0 hz1 hz2 rfl (by decide) b l.length cap (l.map fun x=>Value.int .i64 (x:Nat)) (by simp) holds ad 1 c [.int .i64 k] (by simp) hnews (by omega) (by simp only [maxLen];omega) (by omega);obtain ⟨a1,a2,a3⟩:=ofGrown v' w' _ (by simpa using r1) rfl r2;exact ⟨v',w',hrun,a1,a2,a3⟩
  | none =>
   have hcap:=h3b rfl;subst hcap;have hl0:l=[]:=List.eq_nil_of_length_eq_zero (by omega);subst hl0;obtain ⟨v',w',hrun,r1,r2,_⟩:=run_append_own (P:=Tryz.prog) w w.heap.size 87 ty 3 i0 (.int .i64 0) 1 8 Tryz.underlying87 hi hz0 hz1 hz2 rfl (by decide) (.slice none 0 0) 0 [] (World.ownsRow_nil w _ _ 1) ad 1 c [.int .i64 k] (by simp) hnews (by simp [Value.oneCell']) (by simp [maxLen]) (by omega) (Nat.le_refl _);obtain ⟨a1,a2,a3⟩:=ofGrown v' w' _ (by simpa using r1) rfl r2;exact ⟨v',w',hrun,a1,a2,a3⟩
theorem ui {ops:Array Oper} {rest:List Oper} {o:Oper} {a:Act} {w:World} {Q:Exit→Act→World→Prop} (hgd:o.guard=none) (s x:Operand)
  (ho:o.op=.call { callee:=.builtin .append,args:=#[s,x],argTypes:=#[87,87] }) (q:Nat) (v:Value) (l:List Nat) (k:Nat) (hs:a.eval s=v) (h:jD q w v l) (hl:l.length≤1000000) (hq:q≤w.heap.size)
  (ad:Addr) (c:Nat) (hx:a.eval x=.slice (some ad) 1 c) (hc:w.cell? (ad.add 0)=some (.int .i64 k))
  (hK:∀v' w',jD q w' v' (l++[k])→Below q w w'→jJ q w w'→wpList Tryz.prog ops Q rest (a.put o.dst v') w'):wpList Tryz.prog ops Q (o::rest) a w:=by
 refine wpList_plain hgd fun K hK'=>?_
 obtain ⟨v',w',hr,h2,h3,h4⟩:=Gz q w o.type v l k h hl hq ad c hc;unfold Oper.wp execOp;simp only [ho,resolve,invoke,builtin,Sem.run_bind,Sem.run_pure,Result.andThen_ok,List.map_toArray,List.map_cons,List.map_nil,hs,hx,hr];exact hK' _ _ (hK v' w' h2 h3 h4)
theorem jD.turned {q b:Nat} {W W':World} {v:Value} {l:List Nat} (h:jD q W v l) (ht:W.mapTurned W' b):jD q W' v l:=by
 obtain ⟨es,cl,es',cl',hb,e⟩:=id ht;exact h.kept fun k cs fr _ hk=>ht.grown.block k (zgs hk).1 (fun e2=>by cases e2;rw [hb] at hk;cases hk)
end
section
open Go Go.RowKit Go.Maps
theorem kI {α:Type} (T:List (ByteArray × α)) (a:ByteArray) (x:α) (s:ByteArray):look (T++[(a,x)]) s=match look T s with | some y=>some y | none=>if a=s then some x else none:=by
 unfold look;rw [List.find?_append];cases h:T.find? (fun x=>decide (x.1=s)) with
 | some y=>simp
 | none =>
  by_cases e:a=s
  ·simp [e]
  ·simp [e]
theorem JP {K:gp} {pm pm':Option Nat} {E E':Env} {n:Int} {over:Bool} {W:World} (h:W.heap[K.q]? = some (.cells (K.cells pm E n over) 246 (0,0))) :
  ((W.setCell ⟨K.q,25,none⟩ (.int .i64 E'.within)).setCell ⟨K.q,24,none⟩ (.map pm')).heap[K.q]? = some (.cells (K.cells pm' E' n over) 246 (0,0)):=by
 simp [World.setCell,Array.getElem?_modify,h,gp.cells]
structure pI (K:gp) (J Jx:List (Int × Int)→World→Prop) (E:Env) (cs:List Int) (w w':World):Prop where
 st:∃pm,iU K J Jx pm E cs w'∧∀m,pm=some m→w.heap.size≤m
 keeps:bg K w w'
def cleared (K:gp) (i:Int) (w:World):World:=((w.alloc (.map #[] 0)).setCell ⟨K.q,25,none⟩ (.int .i64 i)).setCell ⟨K.q,24,none⟩ (.map (some w.heap.size))
structure Jk (K:gp) (J Jx:List (Int × Int)→World→Prop) (i:Int) (cs:List Int) (w:World):Prop where
 st:iU K J Jx (some w.heap.size) ⟨i,[]⟩ cs (cleared K i w)
 keeps:bg K w (cleared K i w)
 map:dn Ci 9 (cleared K i w) w.heap.size 0 (fun _=>none)
theorem sG {K:gp} {J Jx:List (Int × Int)→World→Prop} (hJ:bN 246 K.B J) (hJx:bN 246 K.B Jx) {pm:Option Nat} {E:Env} {cs:List Int} {w:World} (hst:iU K J Jx pm E cs w) (i:Int):Jk K J Jx i cs w:=by
 obtain ⟨over,hk,hs⟩:=hst.ex;have hb1:=zba w (.map #[] 0);have hk1:=hk.new hb1;have hn:K.n₀≤K.q:=by have:=hk.q;have:=hk.n0;omega
 have hlt:=hk.lt;have hqB:=hk.q;have hn0:=hk.n0;have k1:bg K w (w.alloc (.map #[] 0)):=.of_below hb1 (by omega);have k2:bg K (w.alloc (.map #[] 0)) ((w.alloc (.map #[] 0)).setCell ⟨K.q,25,none⟩ (.int .i64 i)):=.set hk1.box hn _;have hbx2:((w.alloc (.map #[] 0)).setCell ⟨K.q,25,none⟩ (.int .i64 i)).heap[K.q]? = some (.cells (K.cells pm ⟨i,E.params⟩ cs.length over) 246 (0,0)):=by
  simp [World.setCell,Array.getElem?_modify,hk1.box,gp.cells]
 have k3:=bg.set (i:=24) hbx2 hn (.map (some w.heap.size));have kk:=(k1.trans k2).trans k3;have hbx:=JP (E':=⟨i,[]⟩) (pm':=some w.heap.size) hk1.box;have hm0:=dn.made Ci 9 w;obtain ⟨es,cl,ho⟩:=hm0.obj;have hm:dn Ci 9 (cleared K i w) w.heap.size 0 (fun _=>none):=hm0.of_block (((k2.trans k3).same _ _ (by omega) ho rfl).trans ho.symm);refine ⟨⟨over,⟨hbx,⟨by omega,0,hm.congr fun l _=>?_⟩,jI hk.things hk.mt kk.same,jI hk.procs hk.mp kk.same,hk.prog.below kk.low,hk.n0,hk.q,hk.mt,hk.mp⟩,?_⟩,kk,hm⟩
 ·show none=iT (look []) l
  cases l <;> rfl
 ·refine hs.keep (fun l h=>?_) (fun l h=>?_)
  ·exact hJ.cell _ (hJ.cell _ (hJ.new h hb1) hqB hk1.box) hqB hbx2
  ·exact hJx.cell _ (hJx.cell _ (hJx.new h hb1) hqB hk1.box) hqB hbx2
set_option maxRecDepth 1000000 in
set_option maxHeartbeats 2000000 in
theorem E8 {K:gp} {J Jx:List (Int × Int)→World→Prop} (hJ:bN 246 K.B J) (hJx:bN 246 K.B Jx) {pm:Option Nat} {E:Env} {cs:List Int} (w:World) (hst:iU K J Jx pm E cs w) :
  Calls Tryz.prog 262 #[.pointer (some ⟨K.q,0,none⟩),.int .i64 (-1)] w fun o w'=>o=.returned (.tuple #[])∧pI K J Jx outside cs w w':=by
 obtain ⟨over,hk,hs⟩:=hst.ex;have hmm:=@run_makeMap Tryz.prog;have hb1:=zba w (.map #[] 0);have hk1:=hk.new hb1;have c25:=hk1.c25;have f25:=hk1.frozen 25;have c24:=hk1.c24;have f24:=hk1.frozen 24;have hC:=sG hJ hJx hst (-1);have FIN:Hid (pI K J Jx outside cs w (cleared K (-1) w)):=zhd ⟨⟨_,hC.st,fun m e=>by cases e;exact Nat.le_refl _⟩,hC.keeps⟩;clear hst hk hs hC hb1 hk1;unfold cleared at FIN;go_enter Tryz.func262,Tryz.ntmps262
 go_wp2_with fail
 go_returns
 exact ⟨rfl,FIN.out⟩
theorem aQ {W:World} {b:Nat} {t:TypeId} {fr:Nat × Nat} {v0 v1 v2:Value} (h:W.heap[b]? = some (.cells #[v0,v1,v2] t fr)) :
  W.cell? ⟨b,0,none⟩=some v0∧W.cell? ⟨b,1,none⟩=some v1∧W.cell? ⟨b,2,none⟩=some v2:=by
 simp [World.cell?,h]
structure Entering (K:gp) (J Jx:List (Int × Int)→World→Prop) (m:Nat) (i:Int) (T:List (ByteArray × fA)) (n:Nat) (cs:List Int) (w wr:World):Prop where
 st:iU K J Jx (some m) ⟨i,T⟩ cs wr
 keeps:bg K w wr
 map:dn Ci 9 wr m n (iT (look T))
theorem Entering.new {K:gp} {J Jx:List (Int × Int)→World→Prop} (hJ:bN 246 K.B J) (hJx:bN 246 K.B Jx) {m:Nat} {i:Int} {T:List (ByteArray × fA)} {n:Nat} {cs:List Int} {w wr wr':World} (h:Entering K J Jx m i T n cs w wr) (hb:Below wr.heap.size wr wr') (hn:K.n₀≤w.heap.size) :
  Entering K J Jx m i T n cs w wr':=⟨h.st.new hJ hJx hb,h.keeps.trans (.of_below hb (Nat.le_trans hn h.keeps.size)),h.map.below hb h.map.lt⟩
theorem Entering.dup {K:gp} {J Jx:List (Int × Int)→World→Prop} {m:Nat} {i:Int} {T:List (ByteArray × fA)} {n:Nat} {cs:List Int} {w wr:World} (h:Entering K J Jx m i T n cs w wr) {s:ByteArray} {x y:fA} (hs:look T s=some y):Entering K J Jx m i (T++[(s,x)]) n cs w wr:=by
 have e:look (T++[(s,x)])=look T:=by
  funext t
  rw [kI];cases ht:look T t with
  | some z=>rfl
  | none =>
   have:s≠t:=by rintro rfl;rw [hs] at ht;cases ht
   simp [this]
 obtain ⟨over,hk,hst⟩:=h.st.ex;refine ⟨⟨over,⟨hk.box,?_,hk.things,hk.procs,hk.prog,hk.n0,hk.q,hk.mt,hk.mp⟩,hst⟩,h.keeps,by rw [e];exact h.map⟩;obtain ⟨h1,n',h2⟩:=hk.params;exact ⟨h1,n',by show dn _ _ _ _ _ (iT (look (T++[(s,x)])));rw [e];exact h2⟩
theorem Entering.put {K:gp} {J Jx:List (Int × Int)→World→Prop} (hJ:bN 246 K.B J) (hJx:bN 246 K.B Jx) {m:Nat} {i:Int} {T:List (ByteArray × fA)} {n:Nat} {cs:List Int} {w wr wr':World} (h:Entering K J Jx m i T n cs w wr) (hm:w.heap.size≤m) (hmt:K.mt<w.heap.size) (hmp:K.mp<w.heap.size) (hn:K.n₀≤w.heap.size) (hB:K.B≤w.heap.size)
  (ht:wr.mapTurned wr' m) {s:ByteArray} {x:fA} (hs:look T s=none) (hmap:dn Ci 9 wr' m (n+1) (vV (iT (look T)) (jX s) x)):Entering K J Jx m i (T++[(s,x)]) (n+1) cs w wr':=by
 obtain ⟨over,hk,hst⟩:=h.st.ex;have hg:=ht.grown;have hother:∀k,k≠m→k<wr.heap.size→wr'.heap[k]? = wr.heap[k]? := fun k hk2 hlt=>hg.block k hlt (by simpa using hk2)
 obtain ⟨es,cl,es',cl',hb0,he⟩:=id ht;have hqm:K.q≠m:=by
  intro e;have:=hk.box;rw [e,hb0] at this;cases this
 have hlt2:∀(k:Nat) (o:Obj),w.heap[k]? = some o→k<wr.heap.size:=fun k o ho=>by have:=(zgs ho).1;have:=h.keeps.size;omega
 have hks:bg K w wr':=by
  refine ⟨Nat.le_trans h.keeps.size hg.size,fun k o hB ho hc=>?_,fun k cs t fr ho htk hq=>?_,?_⟩
  ·have hlt:=(zgs ho).1
   exact (hother k (by omega) (hlt2 k _ ho)).trans (h.keeps.same k o hB ho hc)
  ·have hlt:=(zgs ho).1
   exact (hother k (by omega) (hlt2 k _ ho)).trans (h.keeps.cells k cs t fr ho htk hq)
  ·refine ⟨hg.os.trans h.keeps.low.os,hg.tape.trans h.keeps.low.tape,hg.output.trans h.keeps.low.output,Nat.le_trans h.keeps.size hg.size,fun k hk2=>?_⟩
   exact (hother k (by omega) (by have:=h.keeps.size;omega)).trans (h.keeps.low.block k hk2)
 have hmap2:dn Ci 9 wr' m (n+1) (iT (look (T++[(s,x)]))):=by
  refine hmap.congr fun l _=>?_
  rw [oP]
  congr 1
  funext t
  rw [kI];by_cases e:t=s
  ·subst e;rw [if_pos rfl,hs];simp
  ·rw [if_neg e]
   cases look T t with
   | some y=>rfl
   | none=>simp [Ne.symm e]
 have hwl:∀k,k≠m→k<wr.heap.size→wr'.heap[k]? = wr.heap[k]? := hother;refine ⟨⟨over,⟨(hother _ hqm hk.lt).trans hk.box,⟨by omega,_,hmap2⟩,?_,?_,hk.prog.below ⟨hg.os,hg.tape,hg.output,hg.size,fun k hk2=>hother k (by omega) (by have:=h.keeps.size;omega)⟩,hk.n0,hk.q,hk.mt,hk.mp⟩,?_⟩,hks,hmap2⟩
 ·obtain ⟨n',hm'⟩:=hk.things
  exact ⟨n',hm'.of_block (hother _ (by omega) hm'.lt)⟩
 ·obtain ⟨n',hm'⟩:=hk.procs
  exact ⟨n',hm'.of_block (hother _ (by omega) hm'.lt)⟩
 ·exact hst.keep (fun l hl=>hJ.turned hl (by omega) ht) (fun l hl=>hJx.turned hl (by omega) ht)
set_option maxRecDepth 1000000 in
set_option maxHeartbeats 4000000 in
theorem xO {K:gp} {J Jx:List (Int × Int)→World→Prop} (hJ:bN 246 K.B J) (hJx:bN 246 K.B Jx) {pm:Option Nat} {E:Env} {cs:List Int} (w:World) (hst:iU K J Jx pm E cs w) (i:Nat) (hi:i<K.p.procs.length) :
  Calls Tryz.prog 262 #[.pointer (some ⟨K.q,0,none⟩),.int .i64 i] w fun o w'=>o=.returned (.tuple #[])∧pI K J Jx (inside K.p i) cs w w':=by
 obtain ⟨over,hk,hs⟩:=hst.ex;have hmm:=@run_makeMap Tryz.prog;have hb1:=zba w (.map #[] 0);have hk1:=hk.new hb1;have c24:=hk1.c24;have c25:=hk1.c25;have f24:=hk1.frozen 24;have f25:=hk1.frozen 25;have hC:=sG hJ hJx hst i;have hq:=hk.prog.procs _ (List.getElem_mem hi);have hpf:=hk.prog.prow.few;obtain ⟨b,off,eA,hbn,hcell⟩:=hk.prog.prow.row (by omega);have hpc:w.cell? ⟨b,off+i*3+1,none⟩=some (.slice K.p.procs[i].ps.at_ K.p.procs[i].params.length K.p.procs[i].ps.cap):=hcell i hi 1 _ rfl;have hpc2:(cleared K i w).cell? ⟨b,off+i*3+1,none⟩=some (.slice K.p.procs[i].ps.at_ K.p.procs[i].params.length K.p.procs[i].ps.cap):=(hC.keeps.low.cell (p:=⟨b,_,none⟩) hbn).trans hpc;have hin:inside K.p i=⟨i,jk K.p.procs[i]⟩:=by unfold inside;rw [List.getElem?_eq_getElem hi]
 obtain ⟨over2,hk2,-⟩:=hC.st.ex;have c13:=hk2.c13;rw [eA] at c13;have hn0:K.n₀≤w.heap.size:=by have:=hk.lt;have:=hk.q;have:=hk.n0;omega
 have hBw:K.B≤w.heap.size:=by have:=hk.lt;have:=hk.q;omega
 have hmtw:K.mt<w.heap.size:=by obtain ⟨_,h⟩:=hk.things;exact h.lt
 have hmpw:K.mp<w.heap.size:=by obtain ⟨_,h⟩:=hk.procs;exact h.lt
 have hE0:Entering K J Jx w.heap.size i [] 0 cs w (cleared K i w):=⟨hC.st,hC.keeps,hC.map.congr fun l _=>by cases l <;> rfl⟩;have HIN:=zhd hin;have HE0:=zhd hE0;have HN:=zhd (And.intro hn0 (And.intro hBw (And.intro hmtw hmpw)));have HQ:=zhd hq.params;generalize K.p.procs[i]=pq at *;have hpl:=HQ.out.row.few;have hi0:(0:Int)≤(i:Int):=by omega
 have hi1:(i:Int)<(K.p.procs.length:Int):=by omega
 have hi2:decide ((i:Int)<0)=false:=decide_eq_false (by omega);have HK:=zhd hk;clear hst hk hs hC hb1 hk1 hq hcell hpc hin hk2 hE0 eA hn0 hBw hmtw hmpw;obtain ⟨W1,hW1⟩:∃W1,cleared K i w=W1:=⟨_,rfl⟩;rw [hW1] at c13 hpc2;have HW1:=zhd hW1;unfold cleared at hW1;go_enter Tryz.func262,Tryz.ntmps262
 go_upto_region 1 with fail
 clear hW1 c24 c25 f24 f25;go_wp2_with fail
 go_loopw [28] (fun v wr=>∃(k n:Nat),k≤pq.params.length∧n≤k∧v=.int .i64 k∧Entering K J Jx w.heap.size i ((jk pq).take k) n cs w wr) (fun v _=>pq.params.length - (intOf v).toNat)
 case atStart=>exact ⟨0,0,Nat.zero_le _,Nat.le_refl _,rfl,by rw [←HW1.out];exact HE0.out⟩
 case round =>
  obtain ⟨k,n,hk,hn,rfl,hent⟩:=hrel;obtain ⟨hn0,hBw,hmtw,hmpw⟩:=HN.out;have HENT:=zhd hent;clear hent c13 hpc2;by_cases hlt2:k<pq.params.length
  ·have hlow:=HENT.out.keeps.low
   obtain ⟨b2,off2,eA,hbn2,hcell⟩:=(HQ.out.row.below hlow).row (by omega);have hok:=HQ.out.ok _ (List.getElem_mem hlt2);have k0:wr.cell? ⟨b2,off2+k*3,none⟩=some (.string pq.params[k].name):=hcell k hlt2 0 _ rfl;have k1:wr.cell? ⟨b2,off2+k*3+1,none⟩=some (.int .i64 pq.params[k].width):=hcell k hlt2 1 _ rfl;have k2:wr.cell? ⟨b2,off2+k*3+2,none⟩=some (.int .i64 pq.params[k].size):=hcell k hlt2 2 _ rfl;have hts:(jk pq).take (k+1)=(jk pq).take k++[(pq.params[k].name,⟨5,pq.params[k].width⟩)]:=by
    rw [List.take_succ_eq_append_getElem (by simpa [jk] using hlt2)];simp [jk]
   have HTS:=zhd hts;generalize pq.params[k]=x at *;have hba:=zba wr (.cells #[.string x.name,.int .i64 x.width,.int .i64 x.size] 50);have hB5:=zan wr (.cells #[.string x.name,.int .i64 x.width,.int .i64 x.size] 50);have hE5:=HENT.out.new hJ hJx hba hn0;have hj0:(0:Int)≤(k:Int):=by omega
   have hj1:(k:Int)<(pq.params.length:Int):=by omega
   have hsz5:wr.heap.size<(wr.alloc (.cells #[.string x.name,.int .i64 x.width,.int .i64 x.size] 50)).heap.size:=by simp
   clear hcell hts hlow;rw [eA];clear eA;go_upto_region 5 with fail
   generalize wr.alloc (.cells #[.string x.name,.int .i64 x.width,.int .i64 x.size] 50)=W5 at *;have HE5:=zhd hE5;have HB5:=zhd hB5;obtain ⟨over5,hk5,-⟩:=hE5.st.ex;have c24:=hk5.c24;have l24:=hk5.lookP hok.1;obtain ⟨d0,d1,d2⟩:=aQ hB5;have hbd:Below W5.heap.size W5 W5.drew:=(Below.refl _ _).drew;have l24':=(hk5.new hbd).lookP hok.1;have hba6:=zba W5 (.cells #[.int .u8 0,.int .i64 0] 264);have hk6:=hk5.new hba6;have c24b:=hk6.c24;have l24b:=(hk6.new ((Below.refl _ _).drew:Below _ _ (W5.alloc (.cells #[.int .u8 0,.int .i64 0] 264)).drew)).lookP hok.1;obtain ⟨e0,e1,e2⟩:=aQ ((hba6.block _ (zgs hB5).1).trans hB5);clear hba hE5 hB5 k0 k1 k2 hk5 hba6 hk6;cases hl:look ((jk pq).take k) x.name with
   | some y =>
    simp only [hl,Option.getD_some,Option.isSome_some] at l24 l24' l24b
    go_region
    all_goals
     have hbz:Below W5.heap.size W5 (W5.alloc (.cells #[.int .u8 y.kind,.int .i64 y.width] 264)).drew:=((Below.refl _ _).alloc (Nat.le_refl _) _).drew;have HE6:=zhd ((HE5.out.new hJ hJx hbz hn0).dup (x:=⟨5,x.width⟩) hl);clear hbz l24 l24' l24b c24 c24b hl;go_wp2_with fail
     go_roundw
     case rel=>exact ⟨k+1,n,by omega,by omega,by go_num,by rw [HTS.out];exact HE6.out⟩
     case measure=>simp [intOf];omega
   | none =>
    simp only [hl,Option.getD_none,Option.isSome_none] at l24 l24' l24b
    go_region
    all_goals
     have hbz:Below W5.heap.size W5 (W5.alloc (.cells #[.int .u8 0,.int .i64 0] 264)).drew:=((Below.refl _ _).alloc (Nat.le_refl _) _).drew;have HE6:=zhd (HE5.out.new hJ hJx hbz hn0);have HB6:=zhd ((hbz.block _ (zgs HB5.out).1).trans HB5.out);clear hbz l24 l24' l24b c24 c24b d0 d1 d2 e0 e1 e2;go_upto_region 7 with fail
     generalize (W5.alloc (.cells #[.int .u8 0,.int .i64 0] 264)).drew=W6 at *;have hbd6:Below W6.heap.size W6 W6.drew:=(Below.refl _ _).drew;have hE7:=HE6.out.new hJ hJx hbd6 hn0;obtain ⟨over6,hk6,-⟩:=HE6.out.st.ex;have c24:=hk6.c24;obtain ⟨d0,d1,d2⟩:=aQ HB6.out;obtain ⟨w8,hrun,hmap8,hturn8⟩:=hE7.map.store qf Tryz.underlying244 (by unfold maxLen;omega) (tV hok.1) (⟨5,x.width⟩:fA);have HE8:=zhd (hE7.put hJ hJx (Nat.le_refl _) hmtw hmpw hn0 hBw hturn8 hl hmap8)
     replace hrun:(Instr.mapUpdate 244 (.map (some w.heap.size)) (.string x.name) (.agg #[.int .u8 5,.int .i64 x.width])).run Tryz.prog W6.drew=.ok () w8:=hrun
     clear hE7 hk6 hmap8 hturn8 hl hbd6
     go_still_tail 9,(by kernel_rfl)
     change wpList _ _ _ _ _ W6.drew;go_wp2_with fail
     go_roundw
     case rel=>exact ⟨k+1,n+1,by omega,by omega,by go_num,by rw [HTS.out];exact HE8.out⟩
     case measure=>simp [intOf];omega
  ·obtain rfl:k=pq.params.length:=by omega
   go_wp2_with fail
   go_returns
   have:=HENT.out;rw [show pq.params.length=(jk pq).length by simp [jk],List.take_length] at this;rw [HIN.out];exact ⟨rfl,⟨_,this.st,fun m e=>by cases e;exact Nat.le_refl _⟩,this.keeps⟩
end
end Go.Proofs.YtepacjkacjabbaaGreatDoor
