import Derived.Test.YtepacjkacjabbaaGreatDoorPAA
import Derived.Test.YtepacjkacjabbaaGreatDoorPAG
import Derived.Test.YtepacjkacjabbaaGreatDoorPAH
import Derived.Test.YtepacjkacjabbaaGreatDoorPAI
import Derived.Test.YtepacjkacjabbaaGreatDoorPAC
namespace Go.Proofs.YtepacjkacjabbaaGreatDoor
section
open Go Go.RowKit Go.Maps
theorem il {L:Nat→Bool} (i:Nat) {j:Nat} (h:L j=true):jr L i j=true:=by unfold jr;split <;> simp [*]
theorem own_ne {α:Type} {k B b:Nat} {enc:α→List Value} {e t:TypeId} {v:Value} {l:List α} {W:World} {cs:Array Value} {fr:Nat × Nat} (ho:aI B W e k enc v l) (h:W.heap[b]? = some (.cells cs t fr)) (ht:t≠e):v.ownBlock≠some b:=fun e2=>by
 obtain ⟨_,cs2,fr2,hh⟩:=ho.own_type e2;rw [h] at hh;injection hh with hh;injection hh with _ hh;exact ht hh
theorem EM:(Tryz.prog.info? 101).map (fun i=>(i.zero,i.size,i.bytes))=some (some (.agg #[.int .i64 0,.int .i64 0,.int .i64 0,.int .i64 0,.string ⟨#[]⟩,.slice none 0 0]),6,72):=by kernel_rfl
theorem GQ:uC Tryz.prog 60 101 6:=vg EM Tryz.underlying60 (by decide) rfl (by decide)
theorem yo:∀x:ae,∀u∈x.cellsR,u.oneCell'=true:=by
 intro x u hu;simp only [ae.cellsR,List.mem_cons,List.not_mem_nil,or_false] at hu;rcases hu with rfl | rfl | rfl | rfl | rfl | rfl <;> rfl
noncomputable def opsRX:Array Oper:=((Tryz.f93.body.bind (opsOf 5)).getD #[])
def zu (t:Nat):Bool:=decide (t≤26) || decide (34≤t)
theorem Ip:dR opsRX 8 36 zu=true:=by kernel_rfl
def Cg (q b5 lo:Nat) (Wn w0:World) (bx:Option Addr→Nat→Nat→Obj) (x:ae) (A:Option Addr) (c:Nat) (cur:List ae) (L:Nat→Bool) (w:World):Prop:=Below lo (mask q Wn) (mask q w)∧(L 5=false→Below w0.heap.size w0 w)∧(L 7=false→w.heap[q]? = some (bx A cur.length c))∧w.heap[b5]? = some (.cells #[.int .u8 x.kind,.int .u8 x.op,.int .u32 x.value,.int .i64 x.width,.string x.name,.slice x.sp.at_ x.subs.length x.sp.cap] 30 (0,0))∧(L 7=true→∃(y:ae) (A':Option Addr) (c':Nat),w.heap[q]? = some (bx A' (cur++[y]).length c')∧av y=av x∧gX tN 101 ae.cellsR lo w A' c' (cur++[y]))
theorem Cg.flag {q b5 lo:Nat} {Wn w0:World} {bx:Option Addr→Nat→Nat→Obj} {x:ae} {A:Option Addr} {c:Nat} {cur:List ae} {k:Nat} {L:Nat→Bool} {w:World} (hk:k≠5∧k≠7) (h:Cg q b5 lo Wn w0 bx x A c cur L w):Cg q b5 lo Wn w0 bx x A c cur (jr L k) w:=by
 unfold Cg at h ⊢;rw [ai (Ne.symm hk.1),ai (Ne.symm hk.2)];exact h
theorem Cg.on {q b5 lo:Nat} {Wn w0:World} {bx:Option Addr→Nat→Nat→Obj} {x:ae} {A:Option Addr} {c:Nat} {cur:List ae} {L:Nat→Bool} {w w':World} (h:Cg q b5 lo Wn w0 bx x A c cur L w) (hn:lo≤Wn.heap.size∧q<lo) (hb:Below w.heap.size w w'):Cg q b5 lo Wn w0 bx x A c cur L w' :=
 ⟨h.1.trans (gF (by have:=h.1.size;rw [bE,bE] at this;omega) (hb.mono (by have:=h.1.size;rw [bE,bE] at this;omega))),fun h5=>(h.2.1 h5).trans (hb.mono (h.2.1 h5).size),fun h7=>(hb.block q (zgs (h.2.2.1 h7)).1).trans (h.2.2.1 h7),(hb.block b5 (zgs h.2.2.2.1).1).trans h.2.2.2.1,fun e=>by
  obtain ⟨y,A',c',h1,h2,h3⟩:=h.2.2.2.2 e;exact ⟨y,A',c',(hb.block q (zgs h1).1).trans h1,h2,h3.on tQ hb⟩⟩
set_option maxRecDepth 10000000 in
set_option maxHeartbeats 64000000 in
theorem La {a0:Act} {w0:World} (hsz:a0.tmps.size=36) (q b5 lo:Nat) (Wn:World) (x:ae) (A:Option Addr) (c:Nat) (cur:List ae) (e0:ae) (f3:a0.tmps[3]?.getD undef=.pointer (some ⟨q,0,none⟩)) (f5:a0.tmps[5]?.getD undef=.pointer (some ⟨b5,0,none⟩)) (hbx0:w0.heap[q]? = some (.cells #[.int .i64 e0.kind,.int .i64 e0.op,.int .i64 e0.value,.int .i64 e0.width,.string e0.name,.slice A cur.length c] 101 (0,0)))
  (h5:w0.heap[b5]? = some (.cells #[.int .u8 x.kind,.int .u8 x.op,.int .u32 x.value,.int .i64 x.width,.string x.name,.slice x.sp.at_ x.subs.length x.sp.cap] 30 (0,0))) (hcall:∀W,Below w0.heap.size w0 W→Calls Tryz.prog 93 #[.agg #[.int .u8 x.kind,.int .u8 x.op,.int .u32 x.value,.int .i64 x.width,.string x.name,.slice x.sp.at_ x.subs.length x.sp.cap]] W fun o w'=>∃y:ae,o=.returned y.valR∧av y=av x∧tN W.heap.size none w' y∧Below W.heap.size W w')
  (hacc:gX tN 101 ae.cellsR lo w0 A c cur) (hnw:lo≤Wn.heap.size) (hql:q<lo) (hlo:lo≤w0.heap.size) (hlow0:Below lo (mask q Wn) (mask q w0)) (hl:cur.length≤900000) :
  (Code.region 5 opsRX true).wp Tryz.prog (fun e a w=>e=.normal∧a.tmps.size=36∧a.defers=a0.defers∧(∀t:Nat,zu t=true→a.tmps[t]?.getD undef=a0.tmps[t]?.getD undef)∧Below lo (mask q Wn) (mask q w)∧∃(y:ae) (A':Option Addr) (c':Nat),w.heap[q]? = some (.cells #[.int .i64 e0.kind,.int .i64 e0.op,.int .i64 e0.value,.int .i64 e0.width,.string e0.name,(.slice A' (cur++[y]).length c')] 101 (0,0))∧av y=av x∧gX tN 101 ae.cellsR lo w A' c' (cur++[y])) a0 w0:=by
 have hq:q<w0.heap.size:=by omega
 have hnn:lo≤Wn.heap.size∧q<lo:=⟨hnw,hql⟩;have hb5:b5<w0.heap.size:=(zgs h5).1;refine aP (n:=8) (sz:=36) (keep:=zu) rfl Ip hsz (Cg q b5 lo Wn w0 (fun A n c=>.cells #[.int .i64 e0.kind,.int .i64 e0.op,.int .i64 e0.value,.int .i64 e0.width,.string e0.name,.slice A n c] 101 (0,0)) x A c cur) (fun i w w'=>i=5∨i=7∨Below w.heap.size w w') ⟨hlow0.trans (gF hq (Below.refl lo w0).drew),fun _=>(Below.refl _ _).drew,fun _=>hbx0,h5,fun h=>(by cases h)⟩ ?_;have e:opsRX.toList=opsRX.toList:=rfl
 conv at e=>rhs;arg 1;whnf
 simp only at e;rw [e];clear e
 apply ak.exact rfl rfl
 ·exact fun _ _ h=>Cg.flag (by decide) h
 ·exact fun w=>.inr (.inr (Below.refl _ w))
 ·rintro L a w ⟨-,hS,hbeh,hsm,haft⟩
  have f3:a.tmps[3]?.getD undef=_:=(hsm 3 rfl).trans f3;simp [go_sem,f3];exact rfl
 apply ak.exact rfl rfl
 ·exact fun _ _ h=>Cg.flag (by decide) h
 ·exact fun w=>.inr (.inr (Below.refl _ w))
 ·rintro L a w ⟨-,hS,hbeh,hsm,haft⟩
  have f27:a.tmps[27]?.getD undef=_:=aj (haft.1 rfl).2;have hc:w.cell? ⟨q,5,none⟩=some (.slice A cur.length c):=by have h:=hS.2.2.1 (hbeh 7 rfl);simp [World.cell?,h]
  simp [go_sem,f27,hc];exact rfl
 apply ak.exact rfl rfl
 ·exact fun _ _ h=>Cg.flag (by decide) h
 ·exact fun w=>.inr (.inr (Below.refl _ w))
 ·rintro L a w ⟨-,hS,hbeh,hsm,haft⟩
  have f5:a.tmps[5]?.getD undef=_:=(hsm 5 rfl).trans f5;obtain ⟨x0,x1,x2,x3,x4,x5⟩:=ag hS.2.2.2.1;simp [go_sem,f5,x0,x1,x2,x3,x4,x5];exact rfl
 refine ak.any (fun L v w=>(L 5=true∨L 7=true)∨∃y:ae,v=y.valR∧av y=av x∧tN w0.heap.size none w y) rfl ?_ ?_ ?_
 ·intro i L v w w' _ hR hP
  rcases hR with rfl | rfl | hR
  ·exact .inl (.inl aC)
  ·exact .inl (.inr aC)
  ·exact hP.imp (fun h=>h.imp (il _) (il _)) fun h=>h.imp fun y h2=>⟨h2.1,h2.2.1,tQ.below h2.2.2 hR⟩
 ·rintro L a w ⟨hL,hS,hbeh,hsm,haft⟩
  have f29:a.tmps[29]?.getD undef=_:=aj (haft.1 rfl).2;have hbw:Below w0.heap.size w0 w:=hS.2.1 (hbeh 5 rfl);refine Oper.wp_enter (f:=93) (args:=#[.agg #[.int .u8 x.kind,.int .u8 x.op,.int .u32 x.value,.int .i64 x.width,.string x.name,.slice x.sp.at_ x.subs.length x.sp.cap]]) (w':=w) ?_ ?_
  ·simp [go_sem,f29]
  ·refine (hcall w hbw).mono ?_
   rintro o w' ⟨y,rfl,hba,hel,hb2⟩;exact ⟨_,rfl,_,rfl,fun e=>(by cases e),.inr ⟨y,rfl,hba,tQ.less hel hbw.size⟩,Cg.flag (by decide) (Cg.on hS hnn hb2),.inr (.inr hb2)⟩
 refine ak.any (fun L v w=>(L 5=true∨L 7=true)∨∃(b:Nat) (y:ae),v=.slice (some ⟨b,0,none⟩) 1 1∧RowOf w.heap.size w ⟨some ⟨b,0,none⟩,1⟩ 6 ae.cellsR [y]∧av y=av x∧tN w0.heap.size none w y) rfl ?_ ?_ ?_
 ·intro i L v w w' _ hR hP
  rcases hR with rfl | rfl | hR
  ·exact .inl (.inl aC)
  ·exact .inl (.inr aC)
  ·exact hP.imp (fun h=>h.imp (il _) (il _)) fun h=>h.imp fun b h=>h.imp fun y h2=>⟨h2.1,(h2.2.1.below hR).more hR.size,h2.2.2.1,tQ.below h2.2.2.2 hR⟩
 ·rintro L a w ⟨hL,hS,hbeh,hsm,haft⟩
  obtain ⟨y,e44,hba,hn⟩:∃y:ae,a.eval (.tmp 30)=y.valR∧av y=av x∧tN w0.heap.size none w y:=(haft.1 rfl).2.resolve_left (by rw [hbeh 5 rfl,hbeh 7 rfl];simp);have hb2:=zba w (.cells y.cellsR.toArray 101);refine Oper.wp_value (v:=.slice (some ⟨w.heap.size,0,none⟩) 1 1) (w':=w.alloc (.cells y.cellsR.toArray 101)) ?_ ?_
  ·have f44:a.tmps[30]?.getD undef=_:=aj e44
   simp [go_sem,f44,ae.valR,ae.cellsR,Sp.val]
  ·exact ⟨_,rfl,fun e=>(by cases e),.inr ⟨_,y,rfl,row_one (zan w _),hba,tQ.below hn hb2⟩,Cg.flag (by decide) (Cg.on hS hnn hb2),.inr (.inr hb2)⟩
 refine ak.any (fun L v w=>L 7=true∨∃(y:ae) (A':Option Addr) (c':Nat),v=.slice A' (cur++[y]).length c'∧av y=av x∧gX tN 101 ae.cellsR lo w A' c' (cur++[y])) rfl ?_ ?_ ?_
 ·intro i L v w w' hi hR hP
  rcases hR with rfl | rfl | hR
  ·exact absurd rfl hi
  ·exact .inl aC
  ·exact hP.imp (il _) fun h=>h.imp fun y h=>h.imp fun A' h=>h.imp fun c' h2=>⟨h2.1,h2.2.1,h2.2.2.on tQ hR⟩
 ·rintro L a w ⟨hL,hS,hbeh,hsm,haft⟩
  have f28:a.tmps[28]?.getD undef=_:=aj (haft.1 rfl).2;have hbw:Below w0.heap.size w0 w:=hS.2.1 hL;obtain ⟨b,y,e45,hrow,hba,hn⟩:∃(b:Nat) (y:ae),a.eval (.tmp 31)=.slice (some ⟨b,0,none⟩) 1 1∧RowOf w.heap.size w ⟨some ⟨b,0,none⟩,1⟩ 6 ae.cellsR [y]∧av y=av x∧tN w0.heap.size none w y:=(haft.2.1 rfl).2.resolve_left (by rw [hL,hbeh 7 rfl];simp);have f42e:a.eval (.tmp 28)=.slice A cur.length c:=(haft.1 rfl).2;have hac:=hacc.on tQ hbw;refine Oper.wp_append (.tmp 28) (.tmp 31) 60 rfl GQ (fun _=>rfl) yo _ cur f42e hac.own ⟨some ⟨b,0,none⟩,1⟩ [_] e45 hrow (by simp;omega) (Nat.le_trans hlo hbw.size) ?_;intro v' w' ho hg hat;obtain ⟨A',c',rfl,hac2⟩:=hac.push tQ (tQ.far hn (fun b e=>hacc.own.old_block b e) hlo) ho hg hat;have hlow2:=hS.1.trans (gF (Nat.lt_of_lt_of_le hq hbw.size) (hac.own.below hg (Nat.le_refl _) (Below.refl lo w) (Nat.le_trans hlo hbw.size)));have hbx2:w'.heap[q]? = _:=(hg.block q (Nat.lt_of_lt_of_le hq hbw.size) (fun e=>by have:=(hac.own.own_type e.symm).1;omega)).trans (hS.2.2.1 (hbeh 7 rfl));have hb52:w'.heap[b5]? = _:=(hg.block b5 (Nat.lt_of_lt_of_le hb5 hbw.size) (fun e=>own_ne hac.own hS.2.2.2.1 (by decide) e.symm)).trans hS.2.2.2.1;exact ⟨_,rfl,fun e=>(by cases e),.inr ⟨y,A',c',rfl,hba,hac2⟩,⟨hlow2,fun h=>(by rw [aC] at h;cases h),fun _=>hbx2,hb52,fun h=>(by rw [ai (by decide),hbeh 7 rfl] at h;cases h)⟩,.inl rfl⟩
 apply ak.exact rfl rfl
 ·exact fun _ _ h=>Cg.flag (by decide) h
 ·exact fun w=>.inr (.inr (Below.refl _ w))
 ·rintro L a w ⟨-,hS,hbeh,hsm,haft⟩
  have f3:a.tmps[3]?.getD undef=_:=(hsm 3 rfl).trans f3;simp [go_sem,f3];exact rfl
 refine ak.any (fun L v w=>True) rfl ?_ ?_ ?_
 ·exact fun _ _ _ _ _ _ _ h=>h
 ·rintro L a w ⟨hL,hS,hbeh,hsm,haft⟩
  have f33:a.tmps[33]?.getD undef=_:=aj (haft.1 rfl).2;obtain ⟨y,A',c',e46,hba,hac⟩:∃(y:ae) (A':Option Addr) (c':Nat),a.eval (.tmp 32)=.slice A' (cur++[y]).length c'∧av y=av x∧gX tN 101 ae.cellsR lo w A' c' (cur++[y]):=(haft.2.1 rfl).2.resolve_left (by rw [hL];exact Bool.false_ne_true);have f46:a.tmps[32]?.getD undef=_:=aj e46;have hbx:=hS.2.2.1 hL;have hc:w.cell? ⟨q,5,none⟩=some (.slice A cur.length c):=by simp [World.cell?,hbx]
  have hf:w.frozen? ⟨q,5,none⟩=false:=by simp [World.frozen?,hbx]
  refine Oper.wp_skip (w':=w.setCell ⟨q,5,none⟩ (.slice A' (cur++[y]).length c')) ?_ ?_
  ·simp [go_sem,f33,f46,hc,hf]
  ·refine ⟨undef,rfl,fun _=>rfl,trivial,⟨by rw [jF];exact hS.1,fun h=>?_,fun h=>(by rw [aC] at h;cases h),?_,fun _=>⟨y,A',c',?_,hba,hac.set tQ hql _ _⟩⟩,.inr (.inl rfl)⟩
   ·rw [ai (by decide),(haft.2.1 rfl).1] at h
    cases h
   ·refine (Below.heap_setCell _ _ _ _ (show b5≠q from fun e=>?_)).trans hS.2.2.2.1
    have h1:=hS.2.2.2.1;rw [e,hbx] at h1;injection h1 with h1;injection h1 with _ h1;exact absurd h1 (by decide)
   ·simp [World.setCell,Array.getElem?_modify,hbx]
 rintro L a w hL ⟨hS,hsame,hv⟩;exact ⟨rfl,hsame.1.trans hsz,hsame.2.1,hsame.2.2,hS.1,hS.2.2.2.2 (hL 7 (by decide))⟩
noncomputable def opsRS:Array Oper:=((Tryz.f29.body.bind (opsOf 9)).getD #[])
def zq (t:Nat):Bool:=decide (t≤35) || decide (43≤t)
theorem Im:dR opsRS 8 50 zq=true:=by kernel_rfl
def Ce (q b5 lo:Nat) (Wn w0:World) (bx:Option Addr→Nat→Nat→Obj) (x:ae) (A:Option Addr) (c:Nat) (cur:List ae) (L:Nat→Bool) (w:World):Prop:=Below lo (mask q Wn) (mask q w)∧(L 5=false→Below w0.heap.size w0 w)∧(L 7=false→w.heap[q]? = some (bx A cur.length c))∧w.heap[b5]? = some (.cells #[.int .u8 x.kind,.int .u8 x.op,.int .u32 x.value,.int .i64 x.width,.string x.name,.slice x.sp.at_ x.subs.length x.sp.cap] 30 (0,0))∧(L 7=true→∃(y:ae) (A':Option Addr) (c':Nat),w.heap[q]? = some (bx A' (cur++[y]).length c')∧av y=av x∧gX tN 101 ae.cellsR lo w A' c' (cur++[y]))
theorem Ce.flag {q b5 lo:Nat} {Wn w0:World} {bx:Option Addr→Nat→Nat→Obj} {x:ae} {A:Option Addr} {c:Nat} {cur:List ae} {k:Nat} {L:Nat→Bool} {w:World} (hk:k≠5∧k≠7) (h:Ce q b5 lo Wn w0 bx x A c cur L w):Ce q b5 lo Wn w0 bx x A c cur (jr L k) w:=by
 unfold Ce at h ⊢;rw [ai (Ne.symm hk.1),ai (Ne.symm hk.2)];exact h
theorem Ce.on {q b5 lo:Nat} {Wn w0:World} {bx:Option Addr→Nat→Nat→Obj} {x:ae} {A:Option Addr} {c:Nat} {cur:List ae} {L:Nat→Bool} {w w':World} (h:Ce q b5 lo Wn w0 bx x A c cur L w) (hn:lo≤Wn.heap.size∧q<lo) (hb:Below w.heap.size w w'):Ce q b5 lo Wn w0 bx x A c cur L w' :=
 ⟨h.1.trans (gF (by have:=h.1.size;rw [bE,bE] at this;omega) (hb.mono (by have:=h.1.size;rw [bE,bE] at this;omega))),fun h5=>(h.2.1 h5).trans (hb.mono (h.2.1 h5).size),fun h7=>(hb.block q (zgs (h.2.2.1 h7)).1).trans (h.2.2.1 h7),(hb.block b5 (zgs h.2.2.2.1).1).trans h.2.2.2.1,fun e=>by
  obtain ⟨y,A',c',h1,h2,h3⟩:=h.2.2.2.2 e;exact ⟨y,A',c',(hb.block q (zgs h1).1).trans h1,h2,h3.on tQ hb⟩⟩
set_option maxRecDepth 10000000 in
set_option maxHeartbeats 64000000 in
theorem K8 {a0:Act} {w0:World} (hsz:a0.tmps.size=50) (q b5 lo:Nat) (Wn:World) (x:ae) (A:Option Addr) (c:Nat) (cur:List ae) (kd bd:Int) (nm:ByteArray) (th el:Value) (f6:a0.tmps[6]?.getD undef=.pointer (some ⟨q,0,none⟩)) (f8:a0.tmps[8]?.getD undef=.pointer (some ⟨b5,0,none⟩)) (hbx0:w0.heap[q]? = some (.cells #[.int .i64 kd,.string nm,.slice A cur.length c,.int .i64 bd,th,el] 63 (0,0)))
  (h5:w0.heap[b5]? = some (.cells #[.int .u8 x.kind,.int .u8 x.op,.int .u32 x.value,.int .i64 x.width,.string x.name,.slice x.sp.at_ x.subs.length x.sp.cap] 30 (0,0))) (hcall:∀W,Below w0.heap.size w0 W→Calls Tryz.prog 93 #[.agg #[.int .u8 x.kind,.int .u8 x.op,.int .u32 x.value,.int .i64 x.width,.string x.name,.slice x.sp.at_ x.subs.length x.sp.cap]] W fun o w'=>∃y:ae,o=.returned y.valR∧av y=av x∧tN W.heap.size none w' y∧Below W.heap.size W w')
  (hacc:gX tN 101 ae.cellsR lo w0 A c cur) (hnw:lo≤Wn.heap.size) (hql:q<lo) (hlo:lo≤w0.heap.size) (hlow0:Below lo (mask q Wn) (mask q w0)) (hl:cur.length≤900000) :
  (Code.region 9 opsRS true).wp Tryz.prog (fun e a w=>e=.normal∧a.tmps.size=50∧a.defers=a0.defers∧(∀t:Nat,zq t=true→a.tmps[t]?.getD undef=a0.tmps[t]?.getD undef)∧Below lo (mask q Wn) (mask q w)∧∃(y:ae) (A':Option Addr) (c':Nat),w.heap[q]? = some (.cells #[.int .i64 kd,.string nm,(.slice A' (cur++[y]).length c'),.int .i64 bd,th,el] 63 (0,0))∧av y=av x∧gX tN 101 ae.cellsR lo w A' c' (cur++[y])) a0 w0:=by
 have hq:q<w0.heap.size:=by omega
 have hnn:lo≤Wn.heap.size∧q<lo:=⟨hnw,hql⟩;have hb5:b5<w0.heap.size:=(zgs h5).1;refine aP (n:=8) (sz:=50) (keep:=zq) rfl Im hsz (Ce q b5 lo Wn w0 (fun A n c=>.cells #[.int .i64 kd,.string nm,.slice A n c,.int .i64 bd,th,el] 63 (0,0)) x A c cur) (fun i w w'=>i=5∨i=7∨Below w.heap.size w w') ⟨hlow0.trans (gF hq (Below.refl lo w0).drew),fun _=>(Below.refl _ _).drew,fun _=>hbx0,h5,fun h=>(by cases h)⟩ ?_;have e:opsRS.toList=opsRS.toList:=rfl
 conv at e=>rhs;arg 1;whnf
 simp only at e;rw [e];clear e
 apply ak.exact rfl rfl
 ·exact fun _ _ h=>Ce.flag (by decide) h
 ·exact fun w=>.inr (.inr (Below.refl _ w))
 ·rintro L a w ⟨-,hS,hbeh,hsm,haft⟩
  have f6:a.tmps[6]?.getD undef=_:=(hsm 6 rfl).trans f6;simp [go_sem,f6];exact rfl
 apply ak.exact rfl rfl
 ·exact fun _ _ h=>Ce.flag (by decide) h
 ·exact fun w=>.inr (.inr (Below.refl _ w))
 ·rintro L a w ⟨-,hS,hbeh,hsm,haft⟩
  have f36:a.tmps[36]?.getD undef=_:=aj (haft.1 rfl).2;have hc:w.cell? ⟨q,2,none⟩=some (.slice A cur.length c):=by have h:=hS.2.2.1 (hbeh 7 rfl);simp [World.cell?,h]
  simp [go_sem,f36,hc];exact rfl
 apply ak.exact rfl rfl
 ·exact fun _ _ h=>Ce.flag (by decide) h
 ·exact fun w=>.inr (.inr (Below.refl _ w))
 ·rintro L a w ⟨-,hS,hbeh,hsm,haft⟩
  have f8:a.tmps[8]?.getD undef=_:=(hsm 8 rfl).trans f8;obtain ⟨x0,x1,x2,x3,x4,x5⟩:=ag hS.2.2.2.1;simp [go_sem,f8,x0,x1,x2,x3,x4,x5];exact rfl
 refine ak.any (fun L v w=>(L 5=true∨L 7=true)∨∃y:ae,v=y.valR∧av y=av x∧tN w0.heap.size none w y) rfl ?_ ?_ ?_
 ·intro i L v w w' _ hR hP
  rcases hR with rfl | rfl | hR
  ·exact .inl (.inl aC)
  ·exact .inl (.inr aC)
  ·exact hP.imp (fun h=>h.imp (il _) (il _)) fun h=>h.imp fun y h2=>⟨h2.1,h2.2.1,tQ.below h2.2.2 hR⟩
 ·rintro L a w ⟨hL,hS,hbeh,hsm,haft⟩
  have f38:a.tmps[38]?.getD undef=_:=aj (haft.1 rfl).2;have hbw:Below w0.heap.size w0 w:=hS.2.1 (hbeh 5 rfl);refine Oper.wp_enter (f:=93) (args:=#[.agg #[.int .u8 x.kind,.int .u8 x.op,.int .u32 x.value,.int .i64 x.width,.string x.name,.slice x.sp.at_ x.subs.length x.sp.cap]]) (w':=w) ?_ ?_
  ·simp [go_sem,f38]
  ·refine (hcall w hbw).mono ?_
   rintro o w' ⟨y,rfl,hba,hel,hb2⟩;exact ⟨_,rfl,_,rfl,fun e=>(by cases e),.inr ⟨y,rfl,hba,tQ.less hel hbw.size⟩,Ce.flag (by decide) (Ce.on hS hnn hb2),.inr (.inr hb2)⟩
 refine ak.any (fun L v w=>(L 5=true∨L 7=true)∨∃(b:Nat) (y:ae),v=.slice (some ⟨b,0,none⟩) 1 1∧RowOf w.heap.size w ⟨some ⟨b,0,none⟩,1⟩ 6 ae.cellsR [y]∧av y=av x∧tN w0.heap.size none w y) rfl ?_ ?_ ?_
 ·intro i L v w w' _ hR hP
  rcases hR with rfl | rfl | hR
  ·exact .inl (.inl aC)
  ·exact .inl (.inr aC)
  ·exact hP.imp (fun h=>h.imp (il _) (il _)) fun h=>h.imp fun b h=>h.imp fun y h2=>⟨h2.1,(h2.2.1.below hR).more hR.size,h2.2.2.1,tQ.below h2.2.2.2 hR⟩
 ·rintro L a w ⟨hL,hS,hbeh,hsm,haft⟩
  obtain ⟨y,e44,hba,hn⟩:∃y:ae,a.eval (.tmp 39)=y.valR∧av y=av x∧tN w0.heap.size none w y:=(haft.1 rfl).2.resolve_left (by rw [hbeh 5 rfl,hbeh 7 rfl];simp);have hb2:=zba w (.cells y.cellsR.toArray 101);refine Oper.wp_value (v:=.slice (some ⟨w.heap.size,0,none⟩) 1 1) (w':=w.alloc (.cells y.cellsR.toArray 101)) ?_ ?_
  ·have f44:a.tmps[39]?.getD undef=_:=aj e44
   simp [go_sem,f44,ae.valR,ae.cellsR,Sp.val]
  ·exact ⟨_,rfl,fun e=>(by cases e),.inr ⟨_,y,rfl,row_one (zan w _),hba,tQ.below hn hb2⟩,Ce.flag (by decide) (Ce.on hS hnn hb2),.inr (.inr hb2)⟩
 refine ak.any (fun L v w=>L 7=true∨∃(y:ae) (A':Option Addr) (c':Nat),v=.slice A' (cur++[y]).length c'∧av y=av x∧gX tN 101 ae.cellsR lo w A' c' (cur++[y])) rfl ?_ ?_ ?_
 ·intro i L v w w' hi hR hP
  rcases hR with rfl | rfl | hR
  ·exact absurd rfl hi
  ·exact .inl aC
  ·exact hP.imp (il _) fun h=>h.imp fun y h=>h.imp fun A' h=>h.imp fun c' h2=>⟨h2.1,h2.2.1,h2.2.2.on tQ hR⟩
 ·rintro L a w ⟨hL,hS,hbeh,hsm,haft⟩
  have f37:a.tmps[37]?.getD undef=_:=aj (haft.1 rfl).2;have hbw:Below w0.heap.size w0 w:=hS.2.1 hL;obtain ⟨b,y,e45,hrow,hba,hn⟩:∃(b:Nat) (y:ae),a.eval (.tmp 40)=.slice (some ⟨b,0,none⟩) 1 1∧RowOf w.heap.size w ⟨some ⟨b,0,none⟩,1⟩ 6 ae.cellsR [y]∧av y=av x∧tN w0.heap.size none w y:=(haft.2.1 rfl).2.resolve_left (by rw [hL,hbeh 7 rfl];simp);have f42e:a.eval (.tmp 37)=.slice A cur.length c:=(haft.1 rfl).2;have hac:=hacc.on tQ hbw;refine Oper.wp_append (.tmp 37) (.tmp 40) 60 rfl GQ (fun _=>rfl) yo _ cur f42e hac.own ⟨some ⟨b,0,none⟩,1⟩ [_] e45 hrow (by simp;omega) (Nat.le_trans hlo hbw.size) ?_;intro v' w' ho hg hat;obtain ⟨A',c',rfl,hac2⟩:=hac.push tQ (tQ.far hn (fun b e=>hacc.own.old_block b e) hlo) ho hg hat;have hlow2:=hS.1.trans (gF (Nat.lt_of_lt_of_le hq hbw.size) (hac.own.below hg (Nat.le_refl _) (Below.refl lo w) (Nat.le_trans hlo hbw.size)));have hbx2:w'.heap[q]? = _:=(hg.block q (Nat.lt_of_lt_of_le hq hbw.size) (fun e=>by have:=(hac.own.own_type e.symm).1;omega)).trans (hS.2.2.1 (hbeh 7 rfl));have hb52:w'.heap[b5]? = _:=(hg.block b5 (Nat.lt_of_lt_of_le hb5 hbw.size) (fun e=>own_ne hac.own hS.2.2.2.1 (by decide) e.symm)).trans hS.2.2.2.1;exact ⟨_,rfl,fun e=>(by cases e),.inr ⟨y,A',c',rfl,hba,hac2⟩,⟨hlow2,fun h=>(by rw [aC] at h;cases h),fun _=>hbx2,hb52,fun h=>(by rw [ai (by decide),hbeh 7 rfl] at h;cases h)⟩,.inl rfl⟩
 apply ak.exact rfl rfl
 ·exact fun _ _ h=>Ce.flag (by decide) h
 ·exact fun w=>.inr (.inr (Below.refl _ w))
 ·rintro L a w ⟨-,hS,hbeh,hsm,haft⟩
  have f6:a.tmps[6]?.getD undef=_:=(hsm 6 rfl).trans f6;simp [go_sem,f6];exact rfl
 refine ak.any (fun L v w=>True) rfl ?_ ?_ ?_
 ·exact fun _ _ _ _ _ _ _ h=>h
 ·rintro L a w ⟨hL,hS,hbeh,hsm,haft⟩
  have f42:a.tmps[42]?.getD undef=_:=aj (haft.1 rfl).2;obtain ⟨y,A',c',e46,hba,hac⟩:∃(y:ae) (A':Option Addr) (c':Nat),a.eval (.tmp 41)=.slice A' (cur++[y]).length c'∧av y=av x∧gX tN 101 ae.cellsR lo w A' c' (cur++[y]):=(haft.2.1 rfl).2.resolve_left (by rw [hL];exact Bool.false_ne_true);have f46:a.tmps[41]?.getD undef=_:=aj e46;have hbx:=hS.2.2.1 hL;have hc:w.cell? ⟨q,2,none⟩=some (.slice A cur.length c):=by simp [World.cell?,hbx]
  have hf:w.frozen? ⟨q,2,none⟩=false:=by simp [World.frozen?,hbx]
  refine Oper.wp_skip (w':=w.setCell ⟨q,2,none⟩ (.slice A' (cur++[y]).length c')) ?_ ?_
  ·simp [go_sem,f42,f46,hc,hf]
  ·refine ⟨undef,rfl,fun _=>rfl,trivial,⟨by rw [jF];exact hS.1,fun h=>?_,fun h=>(by rw [aC] at h;cases h),?_,fun _=>⟨y,A',c',?_,hba,hac.set tQ hql _ _⟩⟩,.inr (.inl rfl)⟩
   ·rw [ai (by decide),(haft.2.1 rfl).1] at h
    cases h
   ·refine (Below.heap_setCell _ _ _ _ (show b5≠q from fun e=>?_)).trans hS.2.2.2.1
    have h1:=hS.2.2.2.1;rw [e,hbx] at h1;injection h1 with h1;injection h1 with _ h1;exact absurd h1 (by decide)
   ·simp [World.setCell,Array.getElem?_modify,hbx]
 rintro L a w hL ⟨hS,hsame,hv⟩;exact ⟨rfl,hsame.1.trans hsz,hsame.2.1,hsame.2.2,hS.1,hS.2.2.2.2 (hL 7 (by decide))⟩
end
section
open Go Go.RowKit
section
variable {P:Program} {ops:Array Oper} {Q:Exit→Act→World→Prop}
def pK (dst:Nat→Option Nat) (S:(Nat→Bool)→Act→World→Prop) (Pv:(Nat→Bool)→Nat→Value→World→Prop) (i:Nat) (L:Nat→Bool) (a:Act) (w:World) (a':Act) (w':World):Prop :=
 ∃v,a'=a.put (dst i) v∧(dst i=none→v=undef)∧Pv (jr L i) i v w'∧S (jr L i) a' w'∧∀j u,j≠i→L j=true→Pv L j u w→Pv (jr L i) j u w'
def Kr (P:Program) (Q:Exit→Act→World→Prop) (ops:Array Oper) (n:Nat) (dst:Nat→Option Nat) (S:(Nat→Bool)→Act→World→Prop) (Pv:(Nat→Bool)→Nat→Value→World→Prop) (a0:Act) (i:Nat) (o:Oper):Prop :=
 ∀(L:Nat→Bool) (a:Act) (w:World),L i=false→S L a w→(∀j,(ops[j]?.any fun o'=>iW o' i)=true→L j=false)→(∀t:Nat,(∀i,i<n→dst i≠some t)→a.eval (.tmp t)=a0.eval (.tmp t))→(∀j,iW o j=true→L j=true∧Pv L j (dQ a (dst j)) w) →
  match o.guard with
  | none=>o.wp P a w (pK dst S Pv i L a w) Q
  | some (g,b)=>∃b',dQ a (dst g)=.bool b'∧(b'=b→o.wp P a w (pK dst S Pv i L a w) Q)∧(b'≠b→pK dst S Pv i L a w (a.put (dst i) undef) w)
theorem uk {id n sz:Nat} {dst:Nat→Option Nat} {a0:Act} {w0:World} (hm:P.follows .mixedOrders=true) (hB:jC ops n sz dst=true) (ha:a0.tmps.size=sz)
  (S:(Nat→Bool)→Act→World→Prop) (Pv:(Nat→Bool)→Nat→Value→World→Prop)
  (hall:jV (fun i o=>Kr P Q ops n dst S Pv a0 i o) 0 ops.toList)
  (hs:S (fun _=>false) a0 w0.drew)
  (hdone:∀(L:Nat→Bool) (a:Act) (w:World),S L a w→a.tmps.size=a0.tmps.size→a.defers=a0.defers→(∀t:Nat,(∀i,i<n→dst i≠some t)→a.eval (.tmp t)=a0.eval (.tmp t))→(∀i,i<n→L i=true∧Pv L i (dQ a (dst i)) w)→Q .normal a w):(Code.region id ops true).wp P Q a0 w0:=by
 unfold jC at hB;simp only [Bool.and_eq_true,List.all_eq_true,List.mem_range,decide_eq_true_eq] at hB;obtain ⟨hsz,hB⟩:=hB;have hop:∀i o,ops[i]? = some o→i<n∧(∀g b,o.guard=some (g,b)→g<i∧iW o g=true)∧o.dst=dst i∧(∀d,dst i=some d→d<sz)∧(∀e∈o.after,Region.binds .any e=true→e.on<i)∧∀j,j<n→dst i≠none→dst i=dst j→j=i:=by
  intro i o ho;have hi:i<n:=by rw [←hsz];exact (zgs ho).1
  have h1:=hB i hi;rw [ho] at h1;simp only [Bool.and_eq_true,List.all_eq_true,List.mem_range,Bool.or_eq_true,beq_iff_eq,Bool.not_eq_true',decide_eq_true_eq] at h1;obtain ⟨⟨⟨⟨h2,h3⟩,h3'⟩,h4⟩,h5⟩:=h1;refine ⟨hi,fun g b hg=>?_,vS h3,fun d hd=>?_,fun e he hb=>?_,fun j hj hne he=>?_⟩
  ·simp only [hg,Bool.and_eq_true,decide_eq_true_eq] at h2
   exact h2
  ·simpa [hd] using h3'
  ·have:=h4 e (by simpa using he)
   simpa [hb] using this
  ·rcases h5 j hj with (h | h) | h
   ·exact h
   ·exact absurd (by simpa using h) hne
   ·rw [←he] at h
    cases hd:dst i with
    | none=>exact absurd hd hne
    | some d=>rw [hd] at h;simp [vR] at h
 refine kr hm (fun listed a w=>listed.size=ops.size∧(∀(j:Nat) (o':Oper),ops[j]? = some o'→gP listed j=true→∀e∈o'.after,Region.binds .any e=true→gP listed e.on=true)∧S (gP listed) a w∧a.tmps.size=a0.tmps.size∧a.defers=a0.defers∧(∀t:Nat,(∀i,i<n→dst i≠some t)→a.eval (.tmp t)=a0.eval (.tmp t))∧∀i,i<n→gP listed i=true→Pv (gP listed) i (dQ a (dst i)) w) ?_ ?_ ⟨by simp,fun j o' _ h=>?_,?_,rfl,rfl,fun _ _=>rfl,fun i _ h=>?_⟩
 ·rintro listed a w i ⟨hls,hcl,hS,hsa,hde,hsm,hv⟩ hr
  obtain ⟨h0,o,ho,haft⟩:=mem_ready.1 hr;obtain ⟨hi,hg,hd,hlt,hbk,hinj⟩:=hop i o ho;have hi2:i<listed.size:=by rw [hls,hsz];exact hi
  have hfi:gP listed i=false:=by
   unfold gP;simp [Array.getD,hi2] at h0 ⊢;exact h0
  have hbeh:∀j,(ops[j]?.any fun o'=>iW o' i)=true→gP listed j=false:=fun j hj=>by
   cases hoj:ops[j]? with
   | none=>rw [hoj] at hj;cases hj
   | some oj =>
    rw [hoj] at hj;simp only [Option.any_some] at hj;unfold iW at hj;simp only [List.any_eq_true,Bool.and_eq_true] at hj;obtain ⟨e,he,hbb,hej⟩:=hj;obtain rfl:=Nat.eq_of_beq_eq_true hej;cases hlj:gP listed j with
    | false=>rfl
    | true =>
     have:=hcl j oj hoj hlj e (by simpa using he) hbb;rw [hfi] at this;cases this
  have hstep:=hall.all i o ho (gP listed) a w hfi hS hbeh hsm fun j hj=>by
   unfold iW at hj;simp only [List.any_eq_true,Bool.and_eq_true] at hj;obtain ⟨e,he,hbb,hej⟩:=hj;obtain rfl:=Nat.eq_of_beq_eq_true hej;have h2:=haft e (by simpa using he) hbb;exact ⟨h2,hv e.on (Nat.lt_trans (hbk e (by simpa using he) hbb) hi) h2⟩
  have hfin:∀a' w',pK dst S Pv i (gP listed) a w a' w'→(listed.setIfInBounds i true).size=ops.size∧(∀(j:Nat) (o':Oper),ops[j]? = some o'→gP (listed.setIfInBounds i true) j=true→∀e∈o'.after,Region.binds .any e=true→gP (listed.setIfInBounds i true) e.on=true)∧S (gP (listed.setIfInBounds i true)) a' w'∧a'.tmps.size=a0.tmps.size∧a'.defers=a0.defers∧(∀t:Nat,(∀i,i<n→dst i≠some t)→a'.eval (.tmp t)=a0.eval (.tmp t))∧∀j,j<n→gP (listed.setIfInBounds i true) j=true→Pv (gP (listed.setIfInBounds i true)) j (dQ a' (dst j)) w':=by
   rintro a' w' ⟨v,rfl,hun,hp,hs',hk⟩;rw [zi hi2] at *;refine ⟨by simpa using hls,fun j oj hoj hl e he hb=>?_,hs',by rw [size_put];exact hsa,by cases dst i <;> exact hde,fun t ht=>?_,fun j hj hl=>?_⟩
   ·by_cases hei:e.on=i
    ·rw [hei];exact aC
    ·rw [ai hei]
     by_cases hji:j=i
     ·subst hji
      rw [ho] at hoj;cases hoj
      exact haft e he hb
     ·rw [ai hji] at hl
      exact hcl j oj hoj hl e he hb
   ·rw [←hsm t ht]
    cases hdi:dst i with
    | none=>rfl
    | some d=>exact aA fun hne=>ht i hi (by rw [hdi,hne])
   ·by_cases hij:j=i
    ·subst hij
     cases hdi:dst j with
     | none=>rw [hdi] at hun;rw [hun rfl] at hp;exact hp
     | some d =>
      show Pv _ j ((a.put (some d) v).eval (.tmp d)) _;rw [eval_put_same (by rw [hsa,ha];exact hlt d hdi)];exact hp
    ·rw [ai hij] at hl
     have h2:=hk j _ hij hl (hv j hj hl);cases hdj:dst j with
     | none=>rw [hdj] at h2;exact h2
     | some d =>
      rw [hdj] at h2;cases hdi:dst i with
      | none=>exact h2
      | some d2 =>
       show Pv _ j ((a.put (some d2) v).eval (.tmp d)) _;rw [aA (fun hne=>hij (hinj j hj (by rw [hdi];simp) (by rw [hdi,hdj,hne])))];exact h2
  unfold wpOp;simp only [ho];cases hgd:o.guard with
  | none =>
   rw [hgd] at hstep;rw [if_pos (by simp [Region.wanted,hgd])];exact .inl (Oper.wp_mono hfin hstep)
  | some gb =>
   obtain ⟨g,b⟩:=gb;rw [hgd] at hstep;obtain ⟨b',hev,hy,hn⟩:=hstep;have hgi:=(hg g b hgd).1;have hgo:g<ops.size:=by rw [hsz];omega
   have hgd2:=(hop g ops[g] (Array.getElem?_eq_getElem hgo)).2.2.1;have hyi:yielded ops a.tmps g=some b':=by
    unfold yielded;rw [Array.getElem?_eq_getElem hgo];cases hdg:dst g with
    | none=>rw [hdg] at hev;cases hev
    | some d =>
     rw [hdg] at hev;simp only [Option.bind_some,hgd2,hdg,wI (show a.eval (.tmp d)=.bool b' from hev)]
   by_cases hbb:b'=b
   ·rw [if_pos (by simp [Region.wanted,hgd,hyi,hbb])]
    exact .inl (Oper.wp_mono hfin (hy hbb))
   ·rw [if_neg (by simp [Region.wanted,hgd,hyi,hbb])]
    rw [hd];exact hfin _ _ (hn hbb)
 ·rintro listed a w ⟨hls,hcl,hS,hsa,hde,hsm,hv⟩ hr
  have hall2:=rE hls (fun i o ho e he hb=>(hop i o ho).2.2.2.2.1 e he hb) hr;exact hdone (gP listed) a w hS hsa hde hsm fun i hi=>⟨hall2 i (by rw [hsz];exact hi),hv i hi (hall2 i (by rw [hsz];exact hi))⟩
 ·simp [gP,Array.getD] at h
 ·have:gP (Array.replicate ops.size false)=fun _=>false:=by funext j;simp [gP,Array.getD]
  rw [this];exact hs
 ·simp [gP,Array.getD] at h
end
end
section
open Go Go.RowKit
section
variable (P:Program) (Q:Exit→Act→World→Prop) (ops:Array Oper) (keep:Nat→Bool) (a0:Act) (S:(Nat→Bool)→Act→World→Prop) (R:Nat→World→World→Prop)
def pM (k:Nat) (d:Option Nat) (Pk:PV) (L:Nat→Bool) (a:Act) (w:World) (a':Act) (w':World):Prop :=
 ∃v,a'=a.put d v∧(d=none→v=undef)∧Pk (jr L k) v w'∧S (jr L k) a' w'∧R k w w'
structure Gr (Ps:pQ) (k:Nat) (o:Oper) (L:Nat→Bool) (a:Act) (w:World):Prop where
 new:L k=false
 world:S L a w
 behind:∀j,(ops[j]?.any fun o'=>iW o' k)=true→L j=false
 same:∀t:Nat,keep t=true→a.tmps[t]?.getD undef=a0.tmps[t]?.getD undef
 aft:Ju Ps L a w o.after.toList
def Ka (Ps:pQ) (k:Nat) (o:Oper) (Pk:PV):Prop:=∀(L:Nat→Bool) (a:Act) (w:World),Gr ops keep a0 S Ps k o L a w →
  match o.guard with
  | none=>o.wp P a w (pM S R k o.dst Pk L a w) Q
  | some (g,b)=>∃b',dQ a (gW Ps g).1=.bool b'∧(b'=b→o.wp P a w (pM S R k o.dst Pk L a w) Q)∧(b'≠b→pM S R k o.dst Pk L a w (a.put o.dst undef) w)
structure J6 (Ps:pQ) (L:Nat→Bool) (a:Act) (w:World):Prop where
 world:S L a w
 same:J7 keep a0 a
 val:∀j,(gW Ps j).2 L (dQ a (gW Ps j).1) w
def aU:Nat→pQ→List Oper→Prop
 | k,Ps,[]=>∀(L:Nat→Bool) (a:Act) (w:World),(∀i,i<k→L i=true)→J6 keep a0 S Ps L a w→Q .normal a w
 | k,Ps,o::rest=>∃Pk,uG R k Pk∧Ka P Q ops keep a0 S R Ps k o Pk∧aU (k+1) ((k,o.dst,Pk)::Ps) rest
end
section
variable {P:Program} {Q:Exit→Act→World→Prop} {ops:Array Oper} {keep:Nat→Bool} {a0:Act} {S:(Nat→Bool)→Act→World→Prop} {R:Nat→World→World→Prop}
theorem aU.all:∀(rest:List Oper) (k:Nat) (Ps:pQ),aU P Q ops keep a0 S R k Ps rest →
  ∃Ex:pQ,(∀x,x∈Ex→k≤x.1∧x.1<k+rest.length∧gW (Ex++Ps) x.1=x.2)∧(∀(L:Nat→Bool) (a:Act) (w:World),(∀i,i<k+rest.length→L i=true)→J6 keep a0 S (Ex++Ps) L a w→Q .normal a w) ∧
   ∀(i:Nat) (o:Oper),rest[i]? = some o→∃(Pk:PV) (Pi:pQ),gW (Ex++Ps) (k+i)=(o.dst,Pk)∧uG R (k+i) Pk∧Ka P Q ops keep a0 S R Pi (k+i) o Pk∧∀j,j<k+i→gW Pi j=gW (Ex++Ps) j
 | [],k,Ps,h=>⟨[],by simp,h,by simp⟩
 | o::rest,k,Ps,h=>by
  obtain ⟨Pk,h1,h2,h3⟩:=h;obtain ⟨Ex,g1,g2,g3⟩:=aU.all rest (k+1) _ h3;have e:Ex++(k,o.dst,Pk)::Ps=(Ex++[(k,o.dst,Pk)])++Ps:=by simp
  have hk:gW (Ex++(k,o.dst,Pk)::Ps) k=(o.dst,Pk):=by
   rw [nk (k:=k+1) (fun x hx=>(g1 x hx).1) (Nat.lt_succ_self k)];exact vK
  rw [e] at g1 g2 g3 hk;have e2:k+1+rest.length=k+(o::rest).length:=by simp;omega
  rw [e2] at g2;refine ⟨Ex++[(k,o.dst,Pk)],fun x hx=>?_,g2,fun i o' ho=>?_⟩
  ·rcases List.mem_append.1 hx with hx | hx
   ·have:=g1 x hx
    simp only [List.length_cons];exact ⟨by omega,by omega,this.2.2⟩
   ·obtain rfl:=List.mem_singleton.1 hx
    simp only [List.length_cons];exact ⟨Nat.le_refl _,by omega,hk⟩
  ·match i with
   | 0 =>
    simp only [List.getElem?_cons_zero,Option.some.injEq] at ho;subst ho;refine ⟨Pk,Ps,hk,h1,h2,fun j hj=>?_⟩;refine (nk (k:=k) (fun x hx=>?_) hj).symm;rcases List.mem_append.1 hx with hx | hx
    ·have:=(g1 x hx).1;omega
    ·obtain rfl:=List.mem_singleton.1 hx;exact Nat.le_refl _
   | i+1 =>
    obtain ⟨Pk',Pi,t1,t2,t3,t4⟩:=g3 i o' (by simpa using ho);rw [show k+1+i=k+(i+1) by omega] at t1 t2 t3 t4;exact ⟨Pk',Pi,t1,t2,t3,t4⟩
theorem kS {id n sz:Nat} {w0:World} (hm:P.follows .mixedOrders=true) (hB:dR ops n sz keep=true) (ha:a0.tmps.size=sz)
  (S:(Nat→Bool)→Act→World→Prop) (R:Nat→World→World→Prop) (hs:S (fun _=>false) a0 w0.drew) (h:aU P Q ops keep a0 S R 0 [] ops.toList):(Code.region id ops true).wp P Q a0 w0:=by
 unfold dR at hB;rw [Bool.and_eq_true,List.all_eq_true] at hB;obtain ⟨hB,hkp⟩:=hB;obtain ⟨Ex,h1,h2,h3⟩:=aU.all _ _ _ h;rw [List.append_nil] at h1 h2 h3;simp only [Nat.zero_add] at h1 h2 h3;have hdst:∀i o,ops[i]? = some o→nW ops i=o.dst:=fun i o ho=>by unfold nW;rw [ho];rfl
 have hn:ops.size=n:=by unfold jC at hB;rw [Bool.and_eq_true] at hB;simpa using hB.1
 have hlk:∀i o,ops[i]? = some o→(gW Ex i).1=o.dst:=fun i o ho=>by
  obtain ⟨Pk,Pi,t1,_⟩:=h3 i o (by simpa using ho);rw [t1]
 refine uk hm hB ha S (fun L i v w=>(gW Ex i).2 L v w) ?_ hs ?_
 ·refine jV.of fun i o ho=>?_
  intro L a w hL hS hbeh hsm haft;obtain ⟨Pk,Pi,t1,t2,t3,t4⟩:=h3 i o (by simpa using ho);have hdi:=hdst i o ho;have hnow:Gr ops keep a0 S Pi i o L a w:=⟨hL,hS,hbeh,fun t ht=>by
    have:=hsm t fun j hj he=>by
     have hj2:j<ops.size:=by rw [hn];exact hj
     have hd:=hdst j ops[j] (Array.getElem?_eq_getElem hj2);rw [hd] at he;have:=hkp ops[j] (by simp);rw [he] at this;simp only [ht] at this;cases this
    simpa [Act.eval] using this,uq t4 _ fun e he hb=>?_⟩
  ·have hstep:=t3 L a w hnow
   have hl:∀a' w',pM S R i o.dst Pk L a w a' w'→pK (nW ops) S (fun L i v w=>(gW Ex i).2 L v w) i L a w a' w':=by
    rintro a' w' ⟨v,e1,e2,e3,e4,e5⟩;rw [←hdi] at e1 e2;refine ⟨v,e1,e2,by show (gW Ex i).2 _ _ _;rw [t1];exact e3,e4,fun j u hji hj hu=>?_⟩;by_cases hjn:j<ops.size
    ·obtain ⟨Pj,_,u1,u2,_⟩:=h3 j ops[j] (by simp [hjn])
     show (gW Ex j).2 _ _ _
     replace hu:(gW Ex j).2 _ _ _:=hu
     rw [u1] at hu ⊢;exact u2 i L u w w' (Ne.symm hji) e5 hu
    ·have:(gW Ex j)=(none,fun _ _ _=>True):=kH fun x hx e=>hjn (by have:=(h1 x hx).2.1;rw [e] at this;simpa using this)
     show (gW Ex j).2 _ _ _;rw [this]
     trivial
   cases hg:o.guard with
   | none =>
    rw [hg] at hstep;exact Oper.wp_mono hl hstep
   | some gb =>
    obtain ⟨g,b⟩:=gb;rw [hg] at hstep;obtain ⟨b',s1,s2,s3⟩:=hstep;have hgi:g<i:=by
     unfold jC at hB;simp only [Bool.and_eq_true,List.all_eq_true,List.mem_range] at hB;have hi:i<n:=by rw [←hn];exact (zgs ho).1
     have:=hB.2 i hi;rw [ho] at this;simp only [hg,Bool.and_eq_true,decide_eq_true_eq] at this;exact this.1.1.1.1.1
    have hgs:g<ops.size:=Nat.lt_trans hgi (zgs ho).1;refine ⟨b',?_,fun e=>Oper.wp_mono hl (s2 e),fun e=>?_⟩
    ·rw [t4 g hgi,hlk g ops[g] (Array.getElem?_eq_getElem hgs),←hdst g ops[g] (Array.getElem?_eq_getElem hgs)] at s1
     exact s1
    ·rw [hdi]
     exact hl _ _ (s3 e)
  ·have hbf:iW o e.on=true:=by
    unfold iW;rw [List.any_eq_true];exact ⟨e,he,by rw [hb,Bool.true_and];exact Nat.beq_refl _⟩
   obtain ⟨g1,g2⟩:=haft e.on hbf;have hlt:e.on<i:=by
    unfold jC at hB;simp only [Bool.and_eq_true,List.all_eq_true,List.mem_range] at hB;have hi:i<n:=by rw [←hn];exact (zgs ho).1
    have:=hB.2 i hi;rw [ho] at this;simp only [Bool.and_eq_true,List.all_eq_true] at this;have:=this.1.2 e (by simpa using he)
    simpa [hb] using this
   have hes:e.on<ops.size:=Nat.lt_trans hlt (zgs ho).1;refine ⟨hlt,g1,?_⟩;rw [hlk e.on ops[e.on] (Array.getElem?_eq_getElem hes),←hdst e.on ops[e.on] (Array.getElem?_eq_getElem hes)];exact g2
 ·intro L a w hS hsz hde hsm hv
  refine h2 L a w (fun i hi=>(hv i (by rw [←hn];simpa using hi)).1) ⟨hS,⟨hsz,hde,fun t ht=>?_⟩,fun j=>?_⟩
  ·have:=hsm t fun j hj he=>by
    have hj2:j<ops.size:=by rw [hn];exact hj
    have hd:=hdst j ops[j] (Array.getElem?_eq_getElem hj2);rw [hd] at he;have:=hkp ops[j] (by simp);rw [he] at this;simp only [ht] at this;cases this
   simpa [Act.eval] using this
  ·by_cases hj:j<n
   ·have hjs:j<ops.size:=by rw [hn];exact hj
    have:=(hv j hj).2;rw [hdst _ _ (Array.getElem?_eq_getElem hjs),←hlk _ _ (Array.getElem?_eq_getElem hjs)] at this;exact this
   ·have hx:∀x,x∈Ex→x.1≠j:=fun x hx e=>hj (by have:=(h1 x hx).2.1;rw [e] at this;rw [←hn];simpa using this)
    rw [kH hx]
    trivial
section
variable {k:Nat} {Ps:pQ} {o:Oper} {rest:List Oper}
theorem aU.exact {c:Value} {d:Nat} (hg:o.guard=none) (hd:o.dst=some d) (hS:∀L a w,S L a w→S (jr L k) (a.put o.dst c) w) (hR:∀w,R k w w)
  (h:∀(L:Nat→Bool) (a:Act) (w:World),Gr ops keep a0 S Ps k o L a w→(execOp a.eval o).run P w=.ok (.value c) w)
  (t:aU P Q ops keep a0 S R (k+1) ((k,o.dst,eZ c)::Ps) rest):aU P Q ops keep a0 S R k Ps (o::rest):=by
 refine ⟨eZ c,fun _ _ _ _ _ _ _ h=>h,fun L a w hn=>?_,t⟩;rw [hg];exact Oper.wp_value (h L a w hn) ⟨c,rfl,fun e=>by rw [hd] at e;(cases e),rfl,hS L a w hn.world,hR w⟩
theorem aU.any (Pk:PV) (hg:o.guard=none) (hst:uG R k Pk)
  (h:∀(L:Nat→Bool) (a:Act) (w:World),Gr ops keep a0 S Ps k o L a w→o.wp P a w (pM S R k o.dst Pk L a w) Q)
  (t:aU P Q ops keep a0 S R (k+1) ((k,o.dst,Pk)::Ps) rest):aU P Q ops keep a0 S R k Ps (o::rest):=by
 refine ⟨Pk,hst,fun L a w hn=>?_,t⟩;rw [hg];exact h L a w hn
theorem aU.call {c:Value} {d:Nat} {f:FuncId} {args:Array Value} (hg:o.guard=none) (hd:o.dst=some d) (hS:∀L a w w',S L a w→Below w.heap.size w w'→S (jr L k) (a.put o.dst c) w') (hR:∀w w',Below w.heap.size w w'→R k w w')
  (h:∀(L:Nat→Bool) (a:Act) (w:World),Gr ops keep a0 S Ps k o L a w→(execOp a.eval o).run P w=.ok (.enter f args) w∧Calls P f args w fun e w'=>e=.returned c∧Below w.heap.size w w')
  (t:aU P Q ops keep a0 S R (k+1) ((k,o.dst,eZ c)::Ps) rest):aU P Q ops keep a0 S R k Ps (o::rest):=by
 refine ⟨eZ c,fun _ _ _ _ _ _ _ h=>h,fun L a w hn=>?_,t⟩;rw [hg];obtain ⟨h1,h2⟩:=h L a w hn;refine Oper.wp_enter h1 (h2.mono ?_);rintro e w' ⟨rfl,hb⟩;exact ⟨c,rfl,c,rfl,fun e=>by rw [hd] at e;(cases e),rfl,hS L a w w' hn.world hb,hR w w' hb⟩
end
end
end
end Go.Proofs.YtepacjkacjabbaaGreatDoor
