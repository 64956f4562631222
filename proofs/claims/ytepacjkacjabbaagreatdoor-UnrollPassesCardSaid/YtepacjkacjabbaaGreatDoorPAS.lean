import Derived.Test.YtepacjkacjabbaaGreatDoorPAA
import Derived.Test.YtepacjkacjabbaaGreatDoorPAR
import Derived.Laws.Rows
import Derived.Test.YtepacjkacjabbaaGreatDoorPAI
import Derived.BigRegion
import Derived.Test.YtepacjkacjabbaaGreatDoorPAM
import Derived.Deep.LoopGhost
import Derived.Carry
import Derived.Deep.CutBlock
import Derived.Deep.CutRange
namespace Go.Proofs.YtepacjkacjabbaaGreatDoor
section
open Go Go.RowKit Go.Maps
def Ls:Value:=.func (.func 222) #[] #[]
theorem dE {P:Program} {ops:Array Oper} {Q:Exit→Act→World→Prop} {a:Act} {w w':World} {rest:List Oper} {o:Oper} (hg:o.guard=none) (m x v:Operand) (t:TypeId) (hop:o.op=Op.mapUpdate t m x v) {mv kv vv:Value} (hm:a.eval m=mv) (hx:a.eval x=kv) (hv:a.eval v=vv)
  (hrun:(Instr.mapUpdate t mv kv vv).run P w=.ok () w') (k:wpList P ops Q rest (a.put o.dst undef) w'):wpList P ops Q (o::rest) a w :=
 tK hg (by simp only [execOp,hop,hm,hx,hv,Sem.run_bind,hrun];rfl) k
def listAt (p:af):Nat→List aG
 | 0=>p.inputs
 | 1=>p.ghosts
 | 2=>p.vars
 | _=>p.arrays
def DR (p:af):Nat→Sp
 | 0=>p.is
 | 1=>p.gs
 | 2=>p.vs
 | _=>p.as
def fI (l:List aG) (c:Int):List (ByteArray × fA):=l.map fun d=>(d.name,⟨c,d.width⟩)
def dS (p:af) (j:Nat):List (ByteArray × fA):=(List.range j).flatMap fun i=>fI (listAt p i) ((i:Int)+1)
theorem uf (p:af):dS p 4=fO p:=by
 simp [dS,List.range,List.range.loop,listAt,fI,fO]
theorem jW.listAt {n₀:Nat} {W:World} {p:af} (h:jW n₀ W p) (j:Nat):nQ n₀ W (DR p j) (listAt p j):=by
 match j with
 | 0=>exact h.inputs
 | 1=>exact h.ghosts
 | 2=>exact h.vars
 | n+3=>exact h.arrays
structure dm (q mt mp:Nat) (cells:Array Value) (T:List (ByteArray × fA)) (n:Nat) (T2:List (ByteArray × Int)) (n2:Nat) (w wr:World):Prop where
 box:wr.heap[q]? = some (.cells cells 246 (0,0))
 things:dn Ci 9 wr mt n (iT (look T))
 procs:dn tY 9 wr mp n2 (iT (look T2))
 below:Below w.heap.size w wr
 hq:w.heap.size≤q
 hmt:w.heap.size≤mt
 hmp:w.heap.size≤mp
 ne:mt≠mp
section
variable {q mt mp n n2:Nat} {cells:Array Value} {T:List (ByteArray × fA)} {T2:List (ByteArray × Int)} {w wr wr':World}
theorem dm.new (h:dm q mt mp cells T n T2 n2 w wr) (hb:Below wr.heap.size wr wr'):dm q mt mp cells T n T2 n2 w wr' :=
 ⟨(hb.block _ (zgs h.box).1).trans h.box,h.things.below hb h.things.lt,h.procs.below hb h.procs.lt,h.below.trans (hb.mono h.below.size),h.hq,h.hmt,h.hmp,h.ne⟩
theorem dm.dup (h:dm q mt mp cells T n T2 n2 w wr) {s:ByteArray} {x y:fA} (hs:look T s=some y):dm q mt mp cells (T++[(s,x)]) n T2 n2 w wr:=by
 have e:look (T++[(s,x)])=look T:=by
  funext t
  rw [kI];cases ht:look T t with
  | some z=>rfl
  | none =>
   have:s≠t:=by rintro rfl;rw [hs] at ht;cases ht
   simp [this]
 exact ⟨h.box,by rw [e];exact h.things,h.procs,h.below,h.hq,h.hmt,h.hmp,h.ne⟩
theorem Bi {α:Type} {T:List (ByteArray × α)} {s:ByteArray} {x:α} (hs:look T s=none):vV (iT (look T)) (jX s) x=iT (look (T++[(s,x)])):=by
 rw [oP]
 congr 1
 funext t
 rw [kI];by_cases e:t=s
 ·subst e;rw [if_pos rfl,hs];simp
 ·rw [if_neg e]
  cases look T t with
  | some y=>rfl
  | none=>simp [Ne.symm e]
theorem qG {B b:Nat} (h:wr.mapTurned wr' b) (hB:B≤b):Below B wr wr':=by
 have hg:=h.grown;exact ⟨hg.os,hg.tape,hg.output,hg.size,fun k hk=>by
  by_cases hlt:k<wr.heap.size
  ·exact hg.block k hlt (by simp;omega)
  ·obtain ⟨es,cl,es',cl',hb0,he⟩:=id h
   have:=(zgs hb0).1;omega⟩
theorem dm.put (h:dm q mt mp cells T n T2 n2 w wr) (ht:wr.mapTurned wr' mt) {s:ByteArray} {x:fA} (hs:look T s=none) (hmap:dn Ci 9 wr' mt (n+1) (vV (iT (look T)) (jX s) x)) :
  dm q mt mp cells (T++[(s,x)]) (n+1) T2 n2 w wr':=by
 have hg:=ht.grown;obtain ⟨es,cl,es',cl',hb0,he⟩:=id ht;have hq:q≠mt:=by
  intro e;have:=h.box;rw [e,hb0] at this;cases this
 exact ⟨(hg.block _ (zgs h.box).1 (by simpa using hq)).trans h.box,by rw [←Bi hs];exact hmap,h.procs.of_block (hg.block _ h.procs.lt (by simpa using h.ne.symm)),h.below.trans (qG ht h.hmt),h.hq,h.hmt,h.hmp,h.ne⟩
theorem dm.dupP (h:dm q mt mp cells T n T2 n2 w wr) {s:ByteArray} {x y:Int} (hs:look T2 s=some y):dm q mt mp cells T n (T2++[(s,x)]) n2 w wr:=by
 have e:look (T2++[(s,x)])=look T2:=by
  funext t
  rw [kI];cases ht:look T2 t with
  | some z=>rfl
  | none =>
   have:s≠t:=by rintro rfl;rw [hs] at ht;cases ht
   simp [this]
 exact ⟨h.box,h.things,by rw [e];exact h.procs,h.below,h.hq,h.hmt,h.hmp,h.ne⟩
theorem dm.putP (h:dm q mt mp cells T n T2 n2 w wr) (ht:wr.mapTurned wr' mp) {s:ByteArray} {x:Int} (hs:look T2 s=none) (hmap:dn tY 9 wr' mp (n2+1) (vV (iT (look T2)) (jX s) x)) :
  dm q mt mp cells T n (T2++[(s,x)]) (n2+1) w wr':=by
 have hg:=ht.grown;obtain ⟨es,cl,es',cl',hb0,he⟩:=id ht;have hq:q≠mp:=by
  intro e;have:=h.box;rw [e,hb0] at this;cases this
 exact ⟨(hg.block _ (zgs h.box).1 (by simpa using hq)).trans h.box,h.things.of_block (hg.block _ h.things.lt (by simpa using h.ne)),by rw [←Bi hs];exact hmap,h.below.trans (qG ht h.hmp),h.hq,h.hmt,h.hmp,h.ne⟩
end
theorem ug (p:af) (j:Nat):dS p (j+1)=dS p j++fI (listAt p j) ((j:Int)+1):=by
 unfold dS;rw [List.range_succ,List.flatMap_append];simp
theorem og {α:Type} (f:α→ByteArray) (x:α):∀(l:List α) (n:Nat),numbered f (l++[x]) n=numbered f l n++[(f x,((n+l.length:Nat):Int))]
 | [],n=>by simp [numbered]
 | a::l,n=>by
  rw [List.cons_append,numbered,numbered,og f x l (n+1),List.cons_append];have e:n+1+l.length=n+(a::l).length:=by simp;omega
  rw [e]
theorem dm.c22 {q mt mp:Nat} {cells:Array Value} {T:List (ByteArray × fA)} {n:Nat} {T2:List (ByteArray × Int)} {n2:Nat} {w wr:World} (h:dm q mt mp cells T n T2 n2 w wr) {i:Nat} {v:Value} (hv:cells[i]? = some v):wr.cell? ⟨q,i,none⟩=some v:=by
 simp [World.cell?,h.box,hv]
theorem dm.lookT {q mt mp:Nat} {cells:Array Value} {T:List (ByteArray × fA)} {n:Nat} {T2:List (ByteArray × Int)} {n2:Nat} {w wr:World} (h:dm q mt mp cells T n T2 n2 w wr) {s:ByteArray} (hs:s.size≤maxLen) :
  (Instr.lookup 244 (.map (some mt)) (.string s) true).run Tryz.prog wr=.ok (.tuple #[.agg #[.int .u8 ((look T s).getD ⟨0,0⟩).kind,.int .i64 ((look T s).getD ⟨0,0⟩).width],.bool (look T s).isSome]) wr:=by
 have:=h.things.look_ok qf Tryz.underlying244 (tV hs);rw [eP] at this;exact this
theorem dm.lookN {q mt mp:Nat} {cells:Array Value} {T:List (ByteArray × fA)} {n:Nat} {T2:List (ByteArray × Int)} {n2:Nat} {w wr:World} (h:dm q mt mp cells T n T2 n2 w wr) {s:ByteArray} (hs:s.size≤maxLen) :
  (Instr.lookup 119 (.map (some mp)) (.string s) true).run Tryz.prog wr=.ok (.tuple #[.int .i64 ((look T2 s).getD 0),.bool (look T2 s).isSome]) wr:=by
 have:=h.procs.look_ok qf Tryz.underlying119 (tV hs);rw [eP] at this;exact this
theorem DW {n₀:Nat} {W:World} {p:af} (h:jW n₀ W p) {j:Nat} (hj:j≤4):(dS p j).length<maxLen:=by
 have h1:=h.inputs.row.few;have h2:=h.ghosts.row.few;have h3:=h.vars.row.few;have h4:=h.arrays.row.few;have e:(dS p j).length≤p.inputs.length+p.ghosts.length+p.vars.length+p.arrays.length:=by
  rcases (show j=0∨j=1∨j=2∨j=3∨j=4 by omega) with rfl | rfl | rfl | rfl | rfl <;> simp [dS,List.range,List.range.loop,listAt,fI] <;> omega
 unfold maxLen;omega
def KR (n₀ B:Nat) (p:af) (w:World) (o:Ending) (w':World):Prop :=
 ∃q mt mp,o=.returned (.pointer (some ⟨q,0,none⟩))∧jv ⟨q,p,n₀,B,Ls,mt,mp⟩ none outside 0 false w'∧w.heap.size≤q∧w.heap.size≤mt∧w.heap.size≤mp∧Below w.heap.size w w'
set_option maxRecDepth 100000 in
set_option maxHeartbeats 8000000 in
theorem JI (w:World) (p:af) (n₀ B:Nat) (h:jW n₀ w p) (hn:n₀≤B) (hB:B≤w.heap.size):Calls Tryz.prog 203 #[p.val] w (KR n₀ B p w):=by
 have hmm:=@run_makeMap Tryz.prog;have hb1:=zba w (.cells #[.int .i64 p.blocks,.int .i64 p.width,.slice p.is.at_ p.inputs.length p.is.cap,.slice p.gs.at_ p.ghosts.length p.gs.cap,.slice p.vs.at_ p.vars.length p.vs.cap,.slice p.as.at_ p.arrays.length p.as.cap,.int .u8 p.require.kind,.int .u8 p.require.op,.int .u32 p.require.value,.int .i64 p.require.width,.string p.require.name,.slice p.require.sp.at_ p.require.subs.length p.require.sp.cap,.slice p.ns.at_ p.inits.length p.ns.cap,.slice p.rs.at_ p.procs.length p.rs.cap,.slice p.ws.at_ p.work.length p.ws.cap,.slice p.cs.at_ p.recover.length p.cs.cap,.int .u8 p.invariant.kind,.int .u8 p.invariant.op,.int .u32 p.invariant.value,.int .i64 p.invariant.width,.string p.invariant.name,.slice p.invariant.sp.at_ p.invariant.subs.length p.invariant.sp.cap] 35);have hbox:=zan w (.cells #[.int .i64 p.blocks,.int .i64 p.width,.slice p.is.at_ p.inputs.length p.is.cap,.slice p.gs.at_ p.ghosts.length p.gs.cap,.slice p.vs.at_ p.vars.length p.vs.cap,.slice p.as.at_ p.arrays.length p.as.cap,.int .u8 p.require.kind,.int .u8 p.require.op,.int .u32 p.require.value,.int .i64 p.require.width,.string p.require.name,.slice p.require.sp.at_ p.require.subs.length p.require.sp.cap,.slice p.ns.at_ p.inits.length p.ns.cap,.slice p.rs.at_ p.procs.length p.rs.cap,.slice p.ws.at_ p.work.length p.ws.cap,.slice p.cs.at_ p.recover.length p.cs.cap,.int .u8 p.invariant.kind,.int .u8 p.invariant.op,.int .u32 p.invariant.value,.int .i64 p.invariant.width,.string p.invariant.name,.slice p.invariant.sp.at_ p.invariant.subs.length p.invariant.sp.cap] 35);have HP:=zhd h;have HB1:=zhd hb1;have HBX:=zhd hbox;clear h hb1 hbox;simp only [af.val,Sp.val];go_enter Tryz.func203,Tryz.ntmps203
 go_upto_region 1 with fail
 have hs1:(w.alloc (.cells #[.int .i64 p.blocks,.int .i64 p.width,.slice p.is.at_ p.inputs.length p.is.cap,.slice p.gs.at_ p.ghosts.length p.gs.cap,.slice p.vs.at_ p.vars.length p.vs.cap,.slice p.as.at_ p.arrays.length p.as.cap,.int .u8 p.require.kind,.int .u8 p.require.op,.int .u32 p.require.value,.int .i64 p.require.width,.string p.require.name,.slice p.require.sp.at_ p.require.subs.length p.require.sp.cap,.slice p.ns.at_ p.inits.length p.ns.cap,.slice p.rs.at_ p.procs.length p.rs.cap,.slice p.ws.at_ p.work.length p.ws.cap,.slice p.cs.at_ p.recover.length p.cs.cap,.int .u8 p.invariant.kind,.int .u8 p.invariant.op,.int .u32 p.invariant.value,.int .i64 p.invariant.width,.string p.invariant.name,.slice p.invariant.sp.at_ p.invariant.subs.length p.invariant.sp.cap] 35)).heap.size=w.heap.size+1:=by simp
 generalize w.alloc (.cells #[.int .i64 p.blocks,.int .i64 p.width,.slice p.is.at_ p.inputs.length p.is.cap,.slice p.gs.at_ p.ghosts.length p.gs.cap,.slice p.vs.at_ p.vars.length p.vs.cap,.slice p.as.at_ p.arrays.length p.as.cap,.int .u8 p.require.kind,.int .u8 p.require.op,.int .u32 p.require.value,.int .i64 p.require.width,.string p.require.name,.slice p.require.sp.at_ p.require.subs.length p.require.sp.cap,.slice p.ns.at_ p.inits.length p.ns.cap,.slice p.rs.at_ p.procs.length p.rs.cap,.slice p.ws.at_ p.work.length p.ws.cap,.slice p.cs.at_ p.recover.length p.cs.cap,.int .u8 p.invariant.kind,.int .u8 p.invariant.op,.int .u32 p.invariant.value,.int .i64 p.invariant.width,.string p.invariant.name,.slice p.invariant.sp.at_ p.invariant.subs.length p.invariant.sp.cap] 35)=W1 at *;go_upto_region 2 with (first
  | (refine wpList_load_row rfl 35 _ rfl w.heap.size rfl 35 _ (0,0) _ HBX.out Tryz.underlying35 rfl (by kernel_rfl) ?_)
  | (refine wpList_build rfl 246 _ rfl (gp.cells ⟨0,p,0,0,Ls,w.heap.size+1,w.heap.size+1+1⟩ none outside 0 false) (by kernel_rfl) ?_)
  | fail)
 generalize Value.agg #[.int .i64 p.blocks,.int .i64 p.width,.slice p.is.at_ p.inputs.length p.is.cap,.slice p.gs.at_ p.ghosts.length p.gs.cap,.slice p.vs.at_ p.vars.length p.vs.cap,.slice p.as.at_ p.arrays.length p.as.cap,.int .u8 p.require.kind,.int .u8 p.require.op,.int .u32 p.require.value,.int .i64 p.require.width,.string p.require.name,.slice p.require.sp.at_ p.require.subs.length p.require.sp.cap,.slice p.ns.at_ p.inits.length p.ns.cap,.slice p.rs.at_ p.procs.length p.rs.cap,.slice p.ws.at_ p.work.length p.ws.cap,.slice p.cs.at_ p.recover.length p.cs.cap,.int .u8 p.invariant.kind,.int .u8 p.invariant.op,.int .u32 p.invariant.value,.int .i64 p.invariant.width,.string p.invariant.name,.slice p.invariant.sp.at_ p.invariant.subs.length p.invariant.sp.cap]=vp;obtain ⟨ck,hck⟩:∃ck,ck=gp.cells ⟨w.heap.size+1+1+1,p,n₀,B,Ls,w.heap.size+1,w.heap.size+1+1⟩ none outside 0 false:=⟨_,rfl⟩;have hck0:gp.cells ⟨0,p,0,0,Ls,w.heap.size+1,w.heap.size+1+1⟩ none outside 0 false=ck:=by rw [hck];rfl
 rw [hck0];have h22:ck[22]? = some (.map (some (w.heap.size+1))):=by rw [hck];rfl
 have h23:ck[23]? = some (.map (some (w.heap.size+1+1))):=by rw [hck];rfl
 have HCK:=zhd hck;have hb2:Below W1.heap.size W1 (((W1.alloc (.map #[] 0)).alloc (.map #[] 0)).alloc (.cells ck 246)):=(((Below.refl _ _).alloc (Nat.le_refl _) _).alloc (by simp) _).alloc (by simp;omega) _;have hG:dm (w.heap.size+1+1+1) (w.heap.size+1) (w.heap.size+1+1) ck [] 0 [] 0 W1 (((W1.alloc (.map #[] 0)).alloc (.map #[] 0)).alloc (.cells ck 246)):=by
  have m1:=dn.made Ci 9 W1;have m2:=dn.made tY 9 (W1.alloc (.map #[] 0));rw [hs1] at m1;rw [World.size_alloc,hs1] at m2;have b3:=zan ((W1.alloc (.map #[] 0)).alloc (.map #[] 0)) (.cells ck 246);rw [World.size_alloc,World.size_alloc,hs1] at b3;refine ⟨b3,?_,?_,hb2,by omega,by omega,by omega,by omega⟩
  ·refine (((m1.below ((Below.refl _ _).alloc (Nat.le_refl _) _) m1.lt).below ((Below.refl _ _).alloc (Nat.le_refl _) _) (by simp;omega))).congr fun l _=>by cases l <;> rfl
  ·exact (m2.below ((Below.refl _ _).alloc (Nat.le_refl _) _) m2.lt).congr fun l _=>by cases l <;> rfl
 obtain ⟨W2,hW2⟩:∃W2,((W1.alloc (.map #[] 0)).alloc (.map #[] 0)).alloc (.cells ck 246)=W2:=⟨_,rfl⟩;rw [hW2] at hG hb2 ⊢;have HG:=zhd hG;have hbx2:=(hb2.block w.heap.size (by omega)).trans HBX.out;have c2:W2.cell? ⟨w.heap.size,2,none⟩=some (.slice p.is.at_ p.inputs.length p.is.cap):=by simp [World.cell?,hbx2]
 have c3:W2.cell? ⟨w.heap.size,3,none⟩=some (.slice p.gs.at_ p.ghosts.length p.gs.cap):=by simp [World.cell?,hbx2]
 have c4:W2.cell? ⟨w.heap.size,4,none⟩=some (.slice p.vs.at_ p.vars.length p.vs.cap):=by simp [World.cell?,hbx2]
 have c5:W2.cell? ⟨w.heap.size,5,none⟩=some (.slice p.as.at_ p.arrays.length p.as.cap):=by simp [World.cell?,hbx2]
 generalize Value.agg ck=vck;clear hck hck0 hb2 hG hW2 hbx2;have HN:Hid (n₀≤w.heap.size):=zhd (by omega);have HN1:Hid (n₀≤W1.heap.size):=zhd (by omega);have HS1:=zhd hs1;go_wp2_with fail
 go_loopw [28] (fun v wr=>∃(j n:Nat),j≤4∧n≤(dS p j).length∧v=.int .i64 j∧dm (w.heap.size+1+1+1) (w.heap.size+1) (w.heap.size+1+1) ck (dS p j) n [] 0 W1 wr) (fun v _=>4 - (intOf v).toNat)
 case atStart=>exact ⟨0,0,by omega,Nat.zero_le _,rfl,HG.out⟩
 case round =>
  obtain ⟨j,n,hj,hnj,rfl,hg⟩:=hrel;have HGJ:=zhd hg;clear hg c2 c3 c4 c5;by_cases hj4:j<4
  ·have hd0:=(HP.out.below (HB1.out.mono HN.out)).listAt j
   have hI:∀W,(Instr.index 262 (.agg #[.slice p.is.at_ p.inputs.length p.is.cap,.slice p.gs.at_ p.ghosts.length p.gs.cap,.slice p.vs.at_ p.vars.length p.vs.cap,.slice p.as.at_ p.arrays.length p.as.cap]) (.int .i64 (j:Int))).run Tryz.prog W=.ok (.slice (DR p j).at_ (listAt p j).length (DR p j).cap) W:=by
    intro W;rcases (show j=0∨j=1∨j=2∨j=3 by omega) with rfl | rfl | rfl | rfl <;> kernel_rfl
   have hsc:=ug p j;have HSC:=zhd hsc;have hlm:=DW HP.out (j:=j+1) (by omega);rw [hsc] at hlm;have HLM:=zhd hlm;have HD0:=zhd hd0;have hll:=hd0.row.few;clear hsc hd0 hlm;generalize dS p j=T0 at *;generalize listAt p j=l at *;generalize DR p j=sp at *;obtain ⟨wo,rfl⟩:∃y:World,y=wr:=⟨_,rfl⟩;have hj0:(0:Int)≤(j:Int):=by omega
   have hjb:(j:Int)<4:=by omega
   go_wp2_with fail
   go_loopw [34] (fun v wr=>∃(k m:Nat),k≤l.length∧m≤(T0++(fI l ((j:Int)+1)).take k).length∧v=.int .i64 k∧dm (w.heap.size+1+1+1) (w.heap.size+1) (w.heap.size+1+1) ck (T0++(fI l ((j:Int)+1)).take k) m [] 0 W1 wr) (fun v _=>l.length - (intOf v).toNat)
   case atStart=>exact ⟨0,n,Nat.zero_le _,by rw [List.take_zero,List.append_nil];exact hnj,rfl,by rw [List.take_zero,List.append_nil];exact HGJ.out⟩
   case round =>
    obtain ⟨k,m,hk,hm,rfl,hg⟩:=hrel;have HGK:=zhd hg;clear hg;by_cases hlt2:k<l.length
    ·obtain ⟨b2,off2,eA,hbn2,hcell⟩:=(HD0.out.row.below (HGK.out.below.mono HN1.out)).row (by omega)
     have hok:=HD0.out.ok _ (List.getElem_mem hlt2);have k0:wr.cell? ⟨b2,off2+k*3,none⟩=some (.string l[k].name):=hcell k hlt2 0 _ rfl;have k1:wr.cell? ⟨b2,off2+k*3+1,none⟩=some (.int .i64 l[k].width):=hcell k hlt2 1 _ rfl;have k2:wr.cell? ⟨b2,off2+k*3+2,none⟩=some (.int .i64 l[k].size):=hcell k hlt2 2 _ rfl;have hts:(fI l ((j:Int)+1)).take (k+1)=(fI l ((j:Int)+1)).take k++[(l[k].name,⟨(j:Int)+1,l[k].width⟩)]:=by
      rw [List.take_succ_eq_append_getElem (by simpa [fI] using hlt2)];simp [fI]
     have HTS:=zhd hts;generalize l[k]=x at *;have hmm2:m<maxLen:=Nat.lt_of_le_of_lt hm (Nat.lt_of_le_of_lt (by simp only [List.length_append,List.length_take];omega) HLM.out);have HMM:=zhd hmm2;clear hmm2;generalize hT:T0++(fI l ((j:Int)+1)).take k=T at *;have HT:=zhd hT;have hba:=zba wr (.cells #[.string x.name,.int .i64 x.width,.int .i64 x.size] 50);have hB5:=zan wr (.cells #[.string x.name,.int .i64 x.width,.int .i64 x.size] 50);have hE5:=HGK.out.new hba;have hk0:(0:Int)≤(k:Int):=by omega
     have hk1:(k:Int)<(l.length:Int):=by omega
     have hsz5:wr.heap.size<(wr.alloc (.cells #[.string x.name,.int .i64 x.width,.int .i64 x.size] 50)).heap.size:=by simp
     clear hcell hts hT;rw [eA];clear eA;go_upto_region 8 with fail
     generalize wr.alloc (.cells #[.string x.name,.int .i64 x.width,.int .i64 x.size] 50)=W5 at *;have HE5:=zhd hE5;have HB5:=zhd hB5;have c22:=hE5.c22 h22;have l22:=(hE5.new ((Below.refl _ _).drew:Below _ _ W5.drew)).lookT hok.1;obtain ⟨d0,d1,d2⟩:=aQ hB5;have hba6:=zba W5 (.cells #[.int .u8 0,.int .i64 0] 264);have hE6:=hE5.new hba6;have c22b:=hE6.c22 h22;have l22b:=(hE6.new ((Below.refl _ _).drew:Below _ _ (W5.alloc (.cells #[.int .u8 0,.int .i64 0] 264)).drew)).lookT hok.1;obtain ⟨e0,e1,e2⟩:=aQ ((hba6.block _ (zgs hB5).1).trans hB5);clear hba hE5 hB5 k0 k1 k2 hba6 hE6;cases hl:look T x.name with
     | some y =>
      simp only [hl,Option.getD_some,Option.isSome_some] at l22 l22b
      go_region
      all_goals
       have hbz:Below W5.heap.size W5 (W5.alloc (.cells #[.int .u8 y.kind,.int .i64 y.width] 264)).drew:=((Below.refl _ _).alloc (Nat.le_refl _) _).drew;have HE6:=zhd ((HE5.out.new hbz).dup (x:=⟨(j:Int)+1,x.width⟩) hl);clear hbz l22 l22b c22 c22b hl;go_wp2_with fail
       go_roundw
       case rel=>exact ⟨k+1,m,by omega,by rw [HTS.out,←List.append_assoc,HT.out];simp;omega,by go_num,by rw [HTS.out,←List.append_assoc,HT.out];exact HE6.out⟩
       case measure=>simp [intOf];omega
     | none =>
      simp only [hl,Option.getD_none,Option.isSome_none] at l22 l22b
      go_region
      all_goals
       have hbz:Below W5.heap.size W5 (W5.alloc (.cells #[.int .u8 0,.int .i64 0] 264)).drew:=((Below.refl _ _).alloc (Nat.le_refl _) _).drew;have HE6:=zhd (HE5.out.new hbz);have HB6:=zhd ((hbz.block _ (zgs HB5.out).1).trans HB5.out);clear hbz l22 l22b c22 c22b d0 d1 d2 e0 e1 e2;go_upto_region 10 with fail
       generalize (W5.alloc (.cells #[.int .u8 0,.int .i64 0] 264)).drew=W6 at *;have hE7:=HE6.out.new ((Below.refl _ _).drew:Below _ _ W6.drew);have c22:=HE6.out.c22 h22;obtain ⟨d0,d1,d2⟩:=aQ HB6.out;obtain ⟨w8,hrun,hmap8,hturn8⟩:=hE7.things.store qf Tryz.underlying244 HMM.out (tV hok.1) (⟨(j:Int)+1,x.width⟩:fA);have HE8:=zhd (hE7.put hturn8 hl hmap8)
       replace hrun:(Instr.mapUpdate 244 (.map (some (w.heap.size+1))) (.string x.name) (.agg #[.int .u8 ((j:Int)+1),.int .i64 x.width])).run Tryz.prog W6.drew=.ok () w8:=hrun
       clear hE7 hmap8 hturn8 hl;have hw1:IntKind.u8.wrap (j:Int)=(j:Int):=by rcases (show j=0∨j=1∨j=2∨j=3 by omega) with rfl | rfl | rfl | rfl <;> rfl
       have hw2:IntKind.u8.wrap ((j:Int)+1)=(j:Int)+1:=by rcases (show j=0∨j=1∨j=2∨j=3 by omega) with rfl | rfl | rfl | rfl <;> rfl
       go_still_tail 12,(by kernel_rfl)
       change wpList _ _ _ _ _ W6.drew;go_wp2_with (refine dE rfl _ _ _ 244 rfl rfl rfl rfl hrun ?_)
       go_roundw
       case rel=>exact ⟨k+1,m+1,by omega,by rw [HTS.out,←List.append_assoc,HT.out];simp;omega,by go_num,by rw [HTS.out,←List.append_assoc,HT.out];exact HE8.out⟩
       case measure=>simp [intOf];omega
    ·obtain rfl:k=l.length:=by omega
     go_wp2_with fail
     go_roundw
     case rel=>exact ⟨j+1,m,by omega,by
      rw [show l.length=(fI l ((j:Int)+1)).length by simp [fI],List.take_length,←HSC.out] at hm;exact hm,by go_num,by
      have:=HGK.out;rw [show l.length=(fI l ((j:Int)+1)).length by simp [fI],List.take_length,←HSC.out] at this;exact this⟩
     case measure=>simp [intOf];omega
  ·obtain rfl:j=4:=by omega
   rw [uf] at HGJ;have hbx3:=(HGJ.out.below.block w.heap.size (by omega)).trans HBX.out;have c13:wr.cell? ⟨w.heap.size,13,none⟩=some (.slice p.rs.at_ p.procs.length p.rs.cap):=by simp [World.cell?,hbx3]
   obtain ⟨wo,rfl⟩:∃y:World,y=wr:=⟨_,rfl⟩;have hlp:=HP.out.prow.few;clear hbx3;go_wp2_with fail
   go_loopw [67] (fun v wr=>∃(k m:Nat),k≤p.procs.length∧m≤k∧v=.int .i64 k∧dm (w.heap.size+1+1+1) (w.heap.size+1) (w.heap.size+1+1) ck (fO p) n (numbered aK.name (p.procs.take k) 0) m W1 wr) (fun v _=>p.procs.length - (intOf v).toNat)
   case atStart=>exact ⟨0,0,Nat.zero_le _,Nat.le_refl _,rfl,HGJ.out⟩
   case round =>
    obtain ⟨k,m,hk,hm,rfl,hg⟩:=hrel;have HGK:=zhd hg;clear hg c13;by_cases hlt2:k<p.procs.length
    ·obtain ⟨b2,off2,eA,hbn2,hcell⟩:=((HP.out.below (HB1.out.mono HN.out)).prow.below (HGK.out.below.mono HN1.out)).row (by omega)
     have hok:=(HP.out.procs _ (List.getElem_mem hlt2)).name;have k0:wr.cell? ⟨b2,off2+k*3,none⟩=some (.string p.procs[k].name):=hcell k hlt2 0 _ rfl;have k1:wr.cell? ⟨b2,off2+k*3+1,none⟩=some (.slice p.procs[k].ps.at_ p.procs[k].params.length p.procs[k].ps.cap):=hcell k hlt2 1 _ rfl;have k2:wr.cell? ⟨b2,off2+k*3+2,none⟩=some (.slice p.procs[k].bs.at_ p.procs[k].body.length p.procs[k].bs.cap):=hcell k hlt2 2 _ rfl;have hts:numbered aK.name (p.procs.take (k+1)) 0=numbered aK.name (p.procs.take k) 0++[(p.procs[k].name,((k:Nat):Int))]:=by
      rw [List.take_succ_eq_append_getElem hlt2,og];simp [Nat.min_eq_left (Nat.le_of_lt hlt2)]
     have HTS:=zhd hts;generalize p.procs[k]=x at *;generalize hT:numbered aK.name (p.procs.take k) 0=T at *;have hba:=zba wr (.cells #[.string x.name,.slice x.ps.at_ x.params.length x.ps.cap,.slice x.bs.at_ x.body.length x.bs.cap] 54);have hB5:=zan wr (.cells #[.string x.name,.slice x.ps.at_ x.params.length x.ps.cap,.slice x.bs.at_ x.body.length x.bs.cap] 54);have hE5:=HGK.out.new hba;have hk0:(0:Int)≤(k:Int):=by omega
     have hk1:(k:Int)<(p.procs.length:Int):=by omega
     clear hcell hts hT;rw [eA];clear eA;go_upto_region 16 with fail
     generalize wr.alloc (.cells #[.string x.name,.slice x.ps.at_ x.params.length x.ps.cap,.slice x.bs.at_ x.body.length x.bs.cap] 54)=W5 at *;have HE5:=zhd hE5;have HB5:=zhd hB5;have c23:=hE5.c22 h23;have l23:=(hE5.new ((Below.refl _ _).drew:Below _ _ W5.drew)).lookN hok;have l23b:=hE5.lookN hok;obtain ⟨d0,d1,d2⟩:=aQ hB5;have HN5:Hid (∀nq,Below W5.heap.size W5 (W5.drewN nq)):=zhd fun nq=>⟨rfl,rfl,rfl,Nat.le_refl _,fun _ _=>rfl⟩
     have l23c:∀nq,(Instr.lookup 119 (.map (some (w.heap.size+1+1))) (.string x.name) true).run Tryz.prog (W5.drewN nq)=.ok (.tuple #[.int .i64 ((look T x.name).getD 0),.bool (look T x.name).isSome]) (W5.drewN nq):=fun nq=>(hE5.new (HN5.out nq)).lookN hok
     clear hba hE5 hB5 k0 k1 k2;cases hl:look T x.name with
     | some y =>
      simp only [hl,Option.getD_some,Option.isSome_some] at l23 l23b l23c
      go_quiet (fail)
      have HE6:=zhd ((HE5.out.new (HN5.out nq)).dupP (x:=((k:Nat):Int)) hl);clear l23 l23b l23c c23 hl;go_wp2_with fail
      go_roundw
      case rel=>exact ⟨k+1,m,by omega,by omega,by go_num,by rw [HTS.out];exact HE6.out⟩
      case measure=>simp [intOf];omega
     | none =>
      simp only [hl,Option.getD_none,Option.isSome_none] at l23 l23b l23c
      go_quiet (fail)
      have HE6:=zhd (HE5.out.new (HN5.out nq));have HB6:=zhd (((HN5.out nq).block _ (zgs HB5.out).1).trans HB5.out);clear l23 l23b l23c c23 d0 d1 d2;go_upto_region 18 with fail
      generalize W5.drewN nq=W6 at *;have hE7:=HE6.out.new ((Below.refl _ _).drew:Below _ _ W6.drew);have c23:=HE6.out.c22 h23;obtain ⟨d0,d1,d2⟩:=aQ HB6.out;obtain ⟨w8,hrun,hmap8,hturn8⟩:=hE7.procs.store qf Tryz.underlying119 (by unfold maxLen;omega) (tV hok) ((k:Nat):Int);have HE8:=zhd (hE7.putP hturn8 hl hmap8)
      replace hrun:(Instr.mapUpdate 119 (.map (some (w.heap.size+1+1))) (.string x.name) (.int .i64 (k:Int))).run Tryz.prog W6.drew=.ok () w8:=hrun
      clear hE7 hmap8 hturn8 hl
      go_still_tail 7,(by kernel_rfl)
      change wpList _ _ _ _ _ W6.drew;go_wp2_with (refine dE rfl _ _ _ 119 rfl rfl rfl rfl hrun ?_)
      go_roundw
      case rel=>first | exact ⟨k+1,m+1,by omega,by omega,by go_num,by rw [HTS.out];exact HE8.out⟩ | ((repeat apply Exists.intro);exact ⟨⟨k+1,m+1,by omega,by omega,by go_num,by rw [HTS.out];exact HE8.out⟩,rfl⟩)
      case measure=>simp [intOf];omega
    ·obtain rfl:k=p.procs.length:=by omega
     go_wp2_with fail
     go_ret
     have hG:=HGK.out;rw [List.take_length] at hG;have hbw:Below w.heap.size w wr:=HB1.out.trans (hG.below.mono (by omega));refine ⟨_,_,_,rfl,⟨by rw [←HCK.out];exact hG.box,rfl,⟨_,hG.things⟩,⟨_,hG.procs⟩,HP.out.below (hbw.mono HN.out),hn,?_,?_,?_⟩,?_,?_,?_,hbw⟩
     all_goals first | omega | (dsimp only;omega)
end
section
open Go Go.RowKit Go.Maps
structure uF (seen:List Nat) (n:Nat) (f:Int→Option Int):Prop where
 yes:∀i:Nat,i∈seen→∃c:Int,f i=some c∧1≤c∧c≤n
 no:∀i:Nat,i∉seen→f i=none
theorem uF.again {seen:List Nat} {n:Nat} {f:Int→Option Int} (h:uF seen n f) {x:Nat} {c:Int} (h0:0≤c) (hc:c≤n) (hs:x∈seen):uF seen (n+1) (fun m=>if m=(x:Int) then some (c+1) else f m):=by
 refine ⟨fun i hi=>?_,fun i hi=>?_⟩
 ·by_cases e:(i:Int)=x
  ·exact ⟨c+1,by simp [e],by omega,by omega⟩
  ·obtain ⟨c',h1,h2,h3⟩:=h.yes i hi
   exact ⟨c',by simp [e,h1],h2,by omega⟩
 ·have e:¬(i:Int)=x:=fun e=>hi (by rw [show i=x by omega];exact hs)
  simp [e,h.no i hi]
theorem uF.first {seen:List Nat} {n:Nat} {f:Int→Option Int} (h:uF seen n f) {x:Nat} {c:Int} (h0:0≤c) (hc:c≤n):uF (x::seen) (n+1) (fun m=>if m=(x:Int) then some (c+1) else f m):=by
 refine ⟨fun i hi=>?_,fun i hi=>?_⟩
 ·by_cases e:(i:Int)=x
  ·exact ⟨c+1,by simp [e],by omega,by omega⟩
  ·obtain ⟨c',h1,h2,h3⟩:=h.yes i (by
    rcases List.mem_cons.1 hi with e2 | hi
    ·exact absurd (by rw [e2]) e
    ·exact hi)
   exact ⟨c',by simp [e,h1],h2,by omega⟩
 ·have e:¬(i:Int)=x:=fun e=>hi (by rw [show i=x by omega];exact List.mem_cons_self ..)
  simp [e,h.no i (fun h=>hi (List.mem_cons_of_mem _ h))]
theorem KP {x:Nat} (h:x≤1000000000):(Lit.int .i64 (x:Int)).wf=true:=by
 have h1:IntKind.i64.min=-9223372036854775808:=by decide
 have h2:IntKind.i64.max=9223372036854775807:=by decide
 show (decide (IntKind.i64.min≤(x:Int)) && decide ((x:Int)≤IntKind.i64.max))=true;rw [h1,h2,Bool.and_eq_true,decide_eq_true_eq,decide_eq_true_eq];omega
theorem jv.lookN {K:gp} {pm:Option Nat} {E:Env} {n:Int} {over:Bool} {W:World} (h:jv K pm E n over W) {s:ByteArray} (hs:s.size≤maxLen) :
  (Instr.lookup 119 (.map (some K.mp)) (.string s) true).run Tryz.prog W=.ok (.tuple #[.int .i64 ((look (cz K.p) s).getD 0),.bool (look (cz K.p) s).isSome]) W:=by
 obtain ⟨k,hm⟩:=h.procs;have:=hm.look_ok qf Tryz.underlying119 (tV hs);rw [eP] at this;exact this
theorem DF {n₀:Nat} {W:World} {s:Sp} {l:List aa} (h:bX n₀ W s l):∀t∈l.flatMap aa.pre,t.name.size≤maxLen:=by
 intro t ht;obtain ⟨y,hy,ht⟩:=List.mem_flatMap.1 ht;have:=nG (h.ok y hy) t ht;cases this;assumption
structure Gp (p:af) (q:Nat) (from_ tgt:Nat) (gk:Nat) (v:Value) (w wr:World) (seen todo:List Nat) (n:Nat) (f:Int→Option Int):Prop where
 row:jD (q+1) wr v todo
 map:dn tY 3 wr q n (oh f)
 seenF:uF seen n f
 below:Below q w wr
 eq:ja p from_ tgt=eO p tgt gk seen todo
 fuel:1+todo.length+BC p seen≤gk
 few:n+gk≤mD p
 ok:∀x∈todo,x<p.procs.length
set_option maxRecDepth 1000000 in
set_option maxHeartbeats 4000000 in
theorem E5 {K:gp} {pm:Option Nat} {E:Env} {n:Int} {over:Bool} (w:World) (hk:jv K pm E n over w) (hH:aR K.p≤20000) (i:Nat) (hi:i<K.p.procs.length) (tgt:Nat) (htg:tgt≤1000000000) :
  Calls Tryz.prog 277 #[.pointer (some ⟨K.q,0,none⟩),.int .i64 i,.int .i64 tgt] w fun o w'=>o=.returned (.bool (ja K.p i tgt))∧Below w.heap.size w w':=by
 have hmm:=@run_makeMap Tryz.prog;have HFU:=zhd (CY hH);have HPR:=zhd (oL hH);have hba0:=zba w (.map #[] 0);have hba1:Below w.heap.size w ((w.alloc (.map #[] 0)).alloc (.cells #[.int .i64 i] 3)):=hba0.alloc hba0.size _;have hq0:jD (w.heap.size+1) ((w.alloc (.map #[] 0)).alloc (.cells #[.int .i64 i] 3)) (.slice (some ⟨w.heap.size+1,0,none⟩) 1 1) [i]:=by
  have:=jD.first (q:=w.heap.size+1) (W:=w.alloc (.map #[] 0)) i (by simp)
  rwa [World.size_alloc] at this
 have hm0:dn tY 3 ((w.alloc (.map #[] 0)).alloc (.cells #[.int .i64 i] 3)) w.heap.size 0 (oh fun _=>none) :=
  ((dn.made tY 3 w).below (B:=w.heap.size+1) ((Below.refl _ _).alloc (by simp) _) (by omega)).congr fun l _=>by unfold oh;split <;> rfl
 have hst:Gp K.p w.heap.size i tgt (mD K.p) (.slice (some ⟨w.heap.size+1,0,none⟩) 1 1) w ((w.alloc (.map #[] 0)).alloc (.cells #[.int .i64 i] 3)) [] [i] 0 (fun _=>none) :=
  ⟨hq0,hm0,⟨fun i h=>absurd h (by simp),fun _ _=>rfl⟩,hba1,rfl,by rw [Hd];simp,by omega,fun x hx=>by simp at hx;omega⟩
 have HST:=zhd hst;have HK:=zhd hk;have HH:=zhd hH;have HI:=zhd hi;clear hba0 hba1 hq0 hm0 hst hk hH hi;go_enter Tryz.func277,Tryz.ntmps277
 go_wp2_with fail
 go_loopg [8] (mD K.p) (fun gk v wr=>∃seen todo n f,Gp K.p w.heap.size i tgt gk v w wr seen todo n f)
 case atStart=>exact ⟨_,_,_,_,HST.out⟩
 case round =>
  obtain ⟨seen,todo,n,f,hst⟩:=hrel;have hq:=hst.row;have HS:=zhd hst;clear hst HST;cases todo with
  | nil =>
   obtain ⟨ao,cap,rfl,-⟩:=hq.ex;have hfin:ja K.p i tgt=false:=by rw [HS.out.eq,Dr]
   have HF:=zhd hfin;simp only [List.length_nil];clear hfin hq;go_wp2_with fail
   go_ret
   exact ⟨by rw [HF.out];rfl,HS.out.below⟩
  | cons x todo =>
   obtain ⟨g,off,cap,rfl,hcap1,hcap2,hc0,hq1⟩:=hq.front;obtain ⟨ao,hao⟩:∃ao,(if cap=0 then some (⟨g,off,none⟩:Addr) else some ⟨g,off+1,none⟩)=ao:=⟨_,rfl⟩;rw [hao] at hq1;have HQ1:=zhd hq1;have hgk:∃m,gk=m+1:=⟨gk - 1,by have:=HS.out.fuel;simp at this;omega⟩;obtain ⟨m,rfl⟩:=hgk;have hdl:decide (0<todo.length+1)=true:=by simp
   have hxp:=HS.out.ok x (List.mem_cons_self ..);have hpr:=HPR.out;have hfu:=HFU.out;have hfw:=HS.out.few;have hfl:=HS.out.fuel;simp only [List.length_cons] at hfl ⊢;clear hq1 hq;by_cases hx:x=tgt
   ·subst hx
    have hfin:ja K.p i x=true:=by rw [HS.out.eq,Dp]
    have HF:=zhd hfin;clear hfin;go_wp2_with fail
    go_ret
    exact ⟨by rw [HF.out];rfl,HS.out.below⟩
   ·have hne:((x:Int) == (tgt:Int))=false:=by simp;omega
    have HX:=zhd hx;have hwf:(Lit.int .i64 (x:Int)).wf=true:=KP (by omega);have hki:=LB hwf;have hl1:=HS.out.map.look KE Tryz.underlying185 hki;obtain ⟨c,hc⟩:∃c:Int,(f x).getD 0=c:=⟨_,rfl⟩;have hc':(oh f (.int .i64 (x:Int))).getD tY.zero=c:=hc;rw [hc'] at hl1;have hcb:0≤c∧c≤n∧(1≤c↔x∈seen):=by
     by_cases hs:x∈seen
     ·obtain ⟨c',h1,h2,h3⟩:=HS.out.seenF.yes x hs
      rw [h1] at hc;simp at hc;subst hc;exact ⟨by omega,h3,by simp [hs,h2]⟩
     ·rw [HS.out.seenF.no x hs] at hc;simp at hc;subst hc
      exact ⟨by omega,by omega,by simp [hs]⟩
    obtain ⟨hcb0,hcb1,hcb2⟩:=hcb;obtain ⟨w8,hrun,hmap8,hturn8⟩:=HS.out.map.store KE Tryz.underlying185 (by unfold maxLen;omega) hki (c+1);have hl2:=hmap8.look KE Tryz.underlying185 hki;have hp8:(vV (oh f) (.int .i64 (x:Int)) (c+1) (.int .i64 (x:Int))).getD tY.zero=c+1:=by
     rw [vW];simp [oh]
    rw [hp8] at hl2;rw [vW] at hmap8
    replace hrun:(Instr.mapUpdate 185 (.map (some w.heap.size)) (.int .i64 (x:Int)) (.int .i64 (c+1))).run Tryz.prog wr=.ok () w8:=hrun
    replace hl1:(Instr.lookup 185 (.map (some w.heap.size)) (.int .i64 (x:Int)) false).run Tryz.prog wr=.ok (.int .i64 c) wr:=hl1
    replace hl2:(Instr.lookup 185 (.map (some w.heap.size)) (.int .i64 (x:Int)) false).run Tryz.prog w8=.ok (.int .i64 (c+1)) w8:=hl2
    have hq8:=HQ1.out.turned hturn8;have hb8:Below w.heap.size w w8:=HS.out.below.grown hturn8.grown HS.out.below.size (fun q hq=>by cases hq;exact Nat.le_refl _);have HM8:=zhd hmap8;have HQ8:=zhd hq8;have HB8:=zhd hb8;have HCB:=zhd hcb2;have HC:=zhd hc;clear hki hc hc' hmap8 hturn8 hq8 hb8 hcb2 hp8 hx hwf HQ1;by_cases hs:x∈seen
    ·have hgt:decide (1<c+1)=true:=decide_eq_true (by have:=HCB.out.2 hs;omega)
     have HSE:=zhd hs;clear hs;go_wp2_with (refine dE rfl _ _ _ 185 rfl rfl rfl rfl hrun ?_)
     go_roundg m
     case measure=>omega
     case rel=>exact ⟨seen,todo,n+1,_,HQ8.out,HM8.out,HS.out.seenF.again hcb0 hcb1 HSE.out,HB8.out,by rw [HS.out.eq,Bg _ _ _ _ _ _ HX.out HSE.out],by omega,by omega,fun y hy=>HS.out.ok y (List.mem_cons_of_mem _ hy)⟩
    ·have hc0:c=0:=by
      have h1:=HCB.out;by_cases h2:1≤c
      ·exact absurd (h1.1 h2) hs
      ·omega
     subst hc0;have HSE:=zhd hs;have hk8:=HK.out.new HB8.out;have c13:=hk8.c13;have hq:=hk8.prog.procs _ (List.getElem_mem hxp);obtain ⟨b,off2,eA,hbn,hcell⟩:=hk8.prog.prow.row (by omega);have hpc:w8.cell? ⟨b,off2+x*3+2,none⟩=some (.slice K.p.procs[x].bs.at_ K.p.procs[x].body.length K.p.procs[x].bs.cap):=hcell x hxp 2 _ rfl;rw [eA] at c13;have hxj0:(0:Int)≤(x:Int):=by omega
     have hxj1:(x:Int)<(K.p.procs.length:Int):=by omega
     have hn8:K.n₀≤w8.heap.size:=by have:=hk8.lt;have:=hk8.q;have:=hk8.n0;omega
     have hbody:=hq.body.more hn8;have hHH:=HH.out;have hL:=EW hHH (List.getElem_mem hxp);have hpl:=ym K.p x hxp;have hpe:=Bo K.p x hxp;have hfin:=xW (K.p.procs[x].body.flatMap aa.pre);have hlt:=jN (K.p.procs[x].body.flatMap aa.pre) 0 (Int.le_refl 0) hL;have hCA:=EB w8 _ _ hbody hL (by omega);have hnm:=Cw K.p.procs[x].body (fun s=>s.size≤maxLen) (DF hbody);simp only [Sp.val] at hCA;have hcn:=uO K.p.procs[x].body;have hnl:(iJ K.p.procs[x].body).length≤20000:=by omega
     have HCA:=zhd hCA;have HPE:=zhd hpe;generalize iJ K.p.procs[x].body=L at *;generalize K.p.procs[x]=pq at *;have HNM:=zhd hnm;have hgt:decide ((1:Int)<0+1)=false:=by decide
     clear hnm hq hcell hpl hpe hfin hlt hcn hL hCA hbody hk8 hs;go_wp2_with (first | (refine dE rfl _ _ _ 185 rfl rfl rfl rfl hrun ?_) | (go_at_call 52;refine HCA.out.mono ?_;rintro o9 w9 ⟨v9,rfl,hown9,hb9⟩;obtain ⟨A9,c9,rfl⟩:=rC hown9;have HO9:=zhd hown9;have HB9:=zhd hb9;clear hown9 hb9) | fail)
     clear hrun hl1 hl2 hgt hc0 hpc c13;have hb09:Below w.heap.size w w9:=HB8.out.trans (HB9.out.mono HB8.out.size);have hq9:=HQ8.out.new HB9.out;have HB09:=zhd hb09;have HQ9:=zhd hq9;have hs8:=HB8.out.size;have hs8m:=HM8.out.lt;have hs9:=HB9.out.size;clear hb09 hq9;go_loopw [8,47] (fun v8 v47 wx=>∃k:Nat,k≤L.length∧v47=.int .i64 k∧jD (w.heap.size+1) wx v8 (todo++jf K.p (L.take k))∧Below (w.heap.size+1) w9 wx∧jJ (w.heap.size+1) w9 wx) (fun _ v47 _=>L.length - (intOf v47).toNat)
     case atStart=>exact ⟨0,Nat.zero_le _,rfl,by simpa [jf] using HQ9.out,Below.refl _ _,fun _ _ _ h _=>h⟩
     case round =>
      obtain ⟨k,hk,rfl,hqr,hbx,hkx⟩:=hrel;have HBX:=zhd hbx;have HKX:=zhd hkx;have HQR:=zhd hqr;clear hbx hkx;by_cases hlk:k<L.length
      ·have hcl1:=(vX (uz HO9.out (w':=wr) (fun g hg=>by
        obtain ⟨h1,cs,h2⟩:=iD HO9.out g hg;exact (HKX.out g _ (by omega) h2 (by intro cs fr h;cases h)).trans h2.symm)))
       obtain ⟨A',c',e1,hcl2⟩:=hcl1;cases e1
       obtain ⟨b7,off7,rfl,hcl⟩:=hcl2 (by omega);have hk7:=hcl k hlk;have hsn:=BM K.p (L.take k) L[k];have hts:L.take (k+1)=L.take k++[L[k]]:=List.take_succ_eq_append_getElem hlk;rw [←hts] at hsn;have hmx:=HNM.out _ (List.getElem_mem hlk);have hlen:(todo++jf K.p (L.take k)).length≤100000:=by
        have h1:(jf K.p (L.take k)).length≤(L.take k).length:=List.length_filterMap_le _ _;have h2:(L.take k).length≤k:=List.length_take_le _ _;rw [List.length_append];omega
       have hbw:Below w.heap.size w wr:=HB09.out.trans (HBX.out.mono (Nat.le_succ _));have hkr:=HK.out.new hbw;have hlkn:=hkr.lookN hmx;have c23:=hkr.c23;have HSN:=zhd hsn;generalize L[k]=s at *;have hj0:(0:Int)≤(k:Int):=by omega
       have hj1:(k:Int)<(L.length:Int):=by omega
       have hwr:w.heap.size+1≤wr.heap.size:=by have:=HBX.out.size;omega
       clear hcl hcl2 hsn hts hbw hkr;cases hlp:look (cz K.p) s with
       | none =>
        rw [hlp] at hlkn HSN;simp only [Option.getD_none,Option.isSome_none] at hlkn;clear hqr;go_wp2_with fail
        go_roundw
        case rel=>exact ⟨k+1,by omega,by go_num,by rw [HSN.out,List.append_nil];exact HQR.out,HBX.out,HKX.out⟩
        case measure=>simp [intOf];omega
       | some kx =>
        rw [hlp] at hlkn HSN;simp only [Option.getD_some,Option.isSome_some] at hlkn;obtain ⟨e1,e2,e3⟩:=oM hlp;obtain ⟨y,rfl⟩:∃y:Nat,kx=y:=⟨kx.toNat,e3.symm⟩;simp only [Int.toNat_natCast] at HSN;clear hlp e1 e2 e3;have hqa:jD (w.heap.size+1) (wr.alloc (.cells #[.int .i64 (y:Int)] 3)) _ _:=HQR.out.new ((Below.refl _ _).alloc (Nat.le_refl _) _);obtain ⟨ao5,cap5,rfl,-⟩:=hqr.ex;have HQA:=zhd hqa;have hcell5:=cell_one_new wr (.int .i64 (y:Int)) 3 0 _ rfl;have hszA:w.heap.size+1≤(wr.alloc (.cells #[.int .i64 (y:Int)] 3)).heap.size:=by simp;omega
        have HBA:=zhd ((Below.refl wr.heap.size wr).alloc (Nat.le_refl _) (.cells #[.int .i64 (y:Int)] 3));clear hqr hqa;go_wp2_with (first | (at_builtin;refine ui rfl _ _ rfl (w.heap.size+1) _ _ y rfl HQA.out (by omega) hszA ⟨wr.heap.size,0,none⟩ 1 rfl hcell5 ?_;intro v8 w8' hq8' hb8' hk8';obtain ⟨ao6,cap6,rfl,-⟩:=id hq8'.ex;have HQ8':=zhd hq8';have HB8':=zhd hb8';have HK8':=zhd hk8';clear hq8' hb8' hk8') | fail)
        go_roundw
        case rel=>exact ⟨k+1,by omega,by go_num,by
         have e:(todo++jf K.p (L.take k)++[y]).length=todo.length+((jf K.p (L.take k)).length+1):=by simp
         have h9:=HQ8'.out;rw [e] at h9;rw [HSN.out,←List.append_assoc];exact h9,HBX.out.trans ((HBA.out.mono hwr).trans HB8'.out),HKX.out.trans ((jJ.of_new HBA.out).trans HK8'.out)⟩
        case measure=>simp [intOf];omega
      ·obtain rfl:k=L.length:=by omega
       have hres:=DI K.p seen x HSE.out hxp;obtain ⟨es,cl,hm9⟩:=HM8.out.obj;have hmr:dn tY 3 wr w.heap.size (n+1) _:=HM8.out.of_block (((HBX.out.block w.heap.size (by omega)).trans (HB9.out.block w.heap.size (by omega))));have HMR:=zhd hmr;clear hmr hm9 hqr;rw [List.take_length,←HPE.out] at HQR;go_wp2_with fail
       go_roundg m
       case measure=>omega
       case rel=>exact ⟨x::seen,todo++fD K.p x,n+1,_,HQR.out,HMR.out,HS.out.seenF.first hcb0 hcb1,HB09.out.trans (HBX.out.mono (Nat.le_succ _)),by rw [HS.out.eq,EZ _ _ _ _ _ _ HX.out HSE.out],by rw [List.length_append];omega,by omega,fun y hy=>by
        rcases List.mem_append.1 hy with hy | hy
        ·exact HS.out.ok y (List.mem_cons_of_mem _ hy)
        ·rw [HPE.out] at hy;exact FZ _ _ y hy⟩
end
end Go.Proofs.YtepacjkacjabbaaGreatDoor
