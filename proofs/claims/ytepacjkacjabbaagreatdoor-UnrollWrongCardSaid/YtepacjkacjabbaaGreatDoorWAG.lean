import Derived.Test.YtepacjkacjabbaaGreatDoorWAA
import Derived.Test.YtepacjkacjabbaaGreatDoorWAF
import Derived.Test.YtepacjkacjabbaaGreatDoorWAE
import Derived.Deep.Draws
import Derived.StillTailTactics
import Derived.Deep.RegionHeld3
namespace Go.Proofs.YtepacjkacjabbaaGreatDoor
section
open Go Go.RowKit
section
variable {P:Program} {α:Type} {k:Nat} {enc:α→List Value} {w:World}
theorem Oper.wp_append {o:Oper} {a:Act} {K:Act→World→Prop} {Q:Exit→Act→World→Prop} (s x:Operand) (t:TypeId)
  (ho:o.op=.call { callee:=.builtin .append,args:=#[s,x],argTypes:=#[t,t] }) {B:Nat} {e:TypeId} (hE:nK P t e k) (hk:∀x,(enc x).length=k) (h1:∀x:α,∀u∈enc x,u.oneCell'=true) (v:Value) (l:List α) (hs:a.eval s=v) (hown:aG B w e k enc v l)
  {n:Nat} (sp:Sp) (l2:List α) (hx:a.eval x=.slice sp.at_ l2.length sp.cap) (hr:RowOf n w sp k enc l2) (hlen:l.length+l2.length≤1000000) (hB:B≤w.heap.size)
  (h:∀v' w',aG B w' e k enc v' (l++l2)→w.grownBy w' v.ownBlock→(v'.ownBlock=v.ownBlock∨v'.ownBlock=some w.heap.size)→K (a.put o.dst v') w'):o.wp P a w K Q:=by
 obtain ⟨v',w',hrun,h2,h3,h4⟩:=lC (P:=P) (ty:=o.type) hE hk h1 hown hr hlen hB;unfold Oper.wp execOp;simp only [ho,resolve,invoke,builtin,Sem.run_bind,Sem.run_pure,Result.andThen_ok,List.map_toArray,List.map_cons,List.map_nil,hs,hx,hrun];exact h v' w' h2 h3 h4
theorem below_setRow {n:Nat} {w0 w:World} (h:Below n w0 w) {g:Nat} {cs:Array Value} (hg:n≤g):Below n w0 (w.setRow g cs):=by
 refine h.trans ⟨rfl,rfl,rfl,by simp,fun k hk=>?_⟩;exact setRow_other w g k cs (by omega)
theorem Oper.wp_skip {o:Oper} {a:Act} {w w':World} {K:Act→World→Prop} {Q:Exit→Act→World→Prop} (h:(execOp a.eval o).run P w=.ok .skip w') (hk:K (a.put o.dst undef) w'):o.wp P a w K Q:=by
 unfold Oper.wp;rw [h];exact hk
end
end
section
open Go Go.RowKit
def iy (l:List aa):Nat:=(l.map fun s=>1+s.exprs.length).sum
theorem nA:∀(l:List aa) (b:Int),0≤b→b≤dR l b∧dR l b≤max b 20001+iy l
 | [],b,hb=>by simp [dR,iy];omega
 | s::l,b,hb=>by
  have h1:=ut s b hb;have e:iy (s::l)=1+s.exprs.length+iy l:=by simp [iy]
  rw [dR,e];by_cases h:stepT s b>20000
  ·rw [if_pos h];omega
  ·rw [if_neg h]
   have h2:=nA l (stepT s b) (by omega);omega
def iV (p:af):Int:=(p.inputs.length:Int)+p.ghosts.length+p.vars.length+p.arrays.length+1
def initsN (l:List aQ) (b:Int):Int:=l.foldl (fun n i=>fA i.value.pre.length (n+1)) b
def fM (l:List aO) (b:Int):Int:=l.foldl (fun n q=>dR (q.body.flatMap aa.pre) (n+1+q.params.length)) b
def countP (p:af):Int :=
 fA p.invariant.pre.length (dR (p.recover.flatMap aa.pre) (dR (p.work.flatMap aa.pre) (fM p.procs (initsN p.inits (fA p.require.pre.length (iV p))))))
def eu (p:af):Nat:=(p.procs.map fun q=>1+q.params.length+iy (q.body.flatMap aa.pre)).sum+iy (p.work.flatMap aa.pre)+iy (p.recover.flatMap aa.pre)
theorem uk (l:List aQ):∀b:Int,0≤b→b≤initsN l b∧initsN l b≤max b 20001+2*l.length:=by
 induction l with
 | nil=>intro b hb;simp [initsN];omega
 | cons i l ih =>
  intro b hb;have h1:=mI i.value.pre.length (iD i.value) (b+1) (by omega);have h2:=ih (fA i.value.pre.length (b+1)) (by omega);have e:initsN (i::l) b=initsN l (fA i.value.pre.length (b+1)):=rfl;simp only [List.length_cons];omega
theorem uo (l:List aO):∀b:Int,0≤b→b≤fM l b∧fM l b≤max b 20001+(l.map fun q=>1+q.params.length+iy (q.body.flatMap aa.pre)).sum:=by
 induction l with
 | nil=>intro b hb;simp [fM];omega
 | cons q l ih =>
  intro b hb;have h1:=nA (q.body.flatMap aa.pre) (b+1+q.params.length) (by omega);have h2:=ih (dR (q.body.flatMap aa.pre) (b+1+q.params.length)) (by omega);have e:fM (q::l) b=fM l (dR (q.body.flatMap aa.pre) (b+1+q.params.length)):=rfl;simp only [List.map_cons,List.sum_cons];omega
structure BQ (W:World) (q:Nat) (p:af):Prop where
 heap:W.heap[q]? = some (.cells #[.int .i64 p.blocks,.int .i64 p.width,.slice p.is.at_ p.inputs.length p.is.cap,.slice p.gs.at_ p.ghosts.length p.gs.cap,.slice p.vs.at_ p.vars.length p.vs.cap,.slice p.as.at_ p.arrays.length p.as.cap,.int .u8 p.require.kind,.int .u8 p.require.op,.int .u32 p.require.value,.int .i64 p.require.width,.string p.require.name,.slice p.require.sp.at_ p.require.subs.length p.require.sp.cap,.slice p.ns.at_ p.inits.length p.ns.cap,.slice p.rs.at_ p.procs.length p.rs.cap,.slice p.ws.at_ p.work.length p.ws.cap,.slice p.cs.at_ p.recover.length p.cs.cap,.int .u8 p.invariant.kind,.int .u8 p.invariant.op,.int .u32 p.invariant.value,.int .i64 p.invariant.width,.string p.invariant.name,.slice p.invariant.sp.at_ p.invariant.subs.length p.invariant.sp.cap] 35 (0,0))
theorem BQ.at {W:World} {q:Nat} {p:af} (h:BQ W q p):W.cell? ⟨q,12,none⟩=some (.slice p.ns.at_ p.inits.length p.ns.cap)∧W.cell? ⟨q,13,none⟩=some (.slice p.rs.at_ p.procs.length p.rs.cap)∧W.cell? ⟨q,14,none⟩=some (.slice p.ws.at_ p.work.length p.ws.cap)∧W.cell? ⟨q,15,none⟩=some (.slice p.cs.at_ p.recover.length p.cs.cap) ∧
  W.cell? ⟨q,16,none⟩=some (.int .u8 p.invariant.kind)∧W.cell? ⟨q,17,none⟩=some (.int .u8 p.invariant.op)∧W.cell? ⟨q,18,none⟩=some (.int .u32 p.invariant.value)∧W.cell? ⟨q,19,none⟩=some (.int .i64 p.invariant.width)∧W.cell? ⟨q,20,none⟩=some (.string p.invariant.name)∧W.cell? ⟨q,21,none⟩=some (.slice p.invariant.sp.at_ p.invariant.subs.length p.invariant.sp.cap):=by
 simp [World.cell?,h.heap]
theorem Jr {α:Type} (f:α→Nat) (l:List α) (k:Nat):((l.take k).map f).sum≤(l.map f).sum:=by
 have h:((l.take k++l.drop k).map f).sum=(l.map f).sum:=by rw [List.take_append_drop]
 rw [List.map_append,List.sum_append] at h;omega
set_option maxRecDepth 1000000 in
set_option maxHeartbeats 2000000 in
theorem yV (w:World) (p:af) (h:fe w.heap.size w p) (hwt:eu p≤1125899906842624) :
  Calls Tryz.prog 111 #[p.val] w fun o w'=>o=.returned (.int .i64 (countP p))∧Below w.heap.size w w':=by
 have hl1:=h.inputs.row.few;have hl2:=h.ghosts.row.few;have hl3:=h.vars.row.few;have hl4:=h.arrays.row.few;have hl5:=h.irow.few;have hl6:=h.prow.few;have HP:=zhd h;have HWT:=zhd hwt;clear h hwt;simp only [af.val,Sp.val];go_enter Tryz.func111,Tryz.ntmps111
 go_wp2_with fail
 have hbB:=(Below.refl _ w).alloc (Nat.le_refl _) (.cells #[.int .i64 p.blocks,.int .i64 p.width,.slice p.is.at_ p.inputs.length p.is.cap,.slice p.gs.at_ p.ghosts.length p.gs.cap,.slice p.vs.at_ p.vars.length p.vs.cap,.slice p.as.at_ p.arrays.length p.as.cap,.int .u8 p.require.kind,.int .u8 p.require.op,.int .u32 p.require.value,.int .i64 p.require.width,.string p.require.name,.slice p.require.sp.at_ p.require.subs.length p.require.sp.cap,.slice p.ns.at_ p.inits.length p.ns.cap,.slice p.rs.at_ p.procs.length p.rs.cap,.slice p.ws.at_ p.work.length p.ws.cap,.slice p.cs.at_ p.recover.length p.cs.cap,.int .u8 p.invariant.kind,.int .u8 p.invariant.op,.int .u32 p.invariant.value,.int .i64 p.invariant.width,.string p.invariant.name,.slice p.invariant.sp.at_ p.invariant.subs.length p.invariant.sp.cap] 35);have hbox:BQ (w.alloc (.cells #[.int .i64 p.blocks,.int .i64 p.width,.slice p.is.at_ p.inputs.length p.is.cap,.slice p.gs.at_ p.ghosts.length p.gs.cap,.slice p.vs.at_ p.vars.length p.vs.cap,.slice p.as.at_ p.arrays.length p.as.cap,.int .u8 p.require.kind,.int .u8 p.require.op,.int .u32 p.require.value,.int .i64 p.require.width,.string p.require.name,.slice p.require.sp.at_ p.require.subs.length p.require.sp.cap,.slice p.ns.at_ p.inits.length p.ns.cap,.slice p.rs.at_ p.procs.length p.rs.cap,.slice p.ws.at_ p.work.length p.ws.cap,.slice p.cs.at_ p.recover.length p.cs.cap,.int .u8 p.invariant.kind,.int .u8 p.invariant.op,.int .u32 p.invariant.value,.int .i64 p.invariant.width,.string p.invariant.name,.slice p.invariant.sp.at_ p.invariant.subs.length p.invariant.sp.cap] 35)) w.heap.size p:=⟨zan _ _⟩;have hlt:w.heap.size<(w.alloc (.cells #[.int .i64 p.blocks,.int .i64 p.width,.slice p.is.at_ p.inputs.length p.is.cap,.slice p.gs.at_ p.ghosts.length p.gs.cap,.slice p.vs.at_ p.vars.length p.vs.cap,.slice p.as.at_ p.arrays.length p.as.cap,.int .u8 p.require.kind,.int .u8 p.require.op,.int .u32 p.require.value,.int .i64 p.require.width,.string p.require.name,.slice p.require.sp.at_ p.require.subs.length p.require.sp.cap,.slice p.ns.at_ p.inits.length p.ns.cap,.slice p.rs.at_ p.procs.length p.rs.cap,.slice p.ws.at_ p.work.length p.ws.cap,.slice p.cs.at_ p.recover.length p.cs.cap,.int .u8 p.invariant.kind,.int .u8 p.invariant.op,.int .u32 p.invariant.value,.int .i64 p.invariant.width,.string p.invariant.name,.slice p.invariant.sp.at_ p.invariant.subs.length p.invariant.sp.cap] 35)).heap.size:=by simp
 have HPB:=zhd ((HP.out.below hbB).more hbB.size);generalize w.alloc (.cells #[.int .i64 p.blocks,.int .i64 p.width,.slice p.is.at_ p.inputs.length p.is.cap,.slice p.gs.at_ p.ghosts.length p.gs.cap,.slice p.vs.at_ p.vars.length p.vs.cap,.slice p.as.at_ p.arrays.length p.as.cap,.int .u8 p.require.kind,.int .u8 p.require.op,.int .u32 p.require.value,.int .i64 p.require.width,.string p.require.name,.slice p.require.sp.at_ p.require.subs.length p.require.sp.cap,.slice p.ns.at_ p.inits.length p.ns.cap,.slice p.rs.at_ p.procs.length p.rs.cap,.slice p.ws.at_ p.work.length p.ws.cap,.slice p.cs.at_ p.recover.length p.cs.cap,.int .u8 p.invariant.kind,.int .u8 p.invariant.op,.int .u32 p.invariant.value,.int .i64 p.invariant.width,.string p.invariant.name,.slice p.invariant.sp.at_ p.invariant.subs.length p.invariant.sp.cap] 35)=wB at *;have HBOX:=zhd hbox;have HBB:=zhd hbB;clear hbox hbB HP;have hC:=iw wB p.require ((p.inputs.length:Int)+p.ghosts.length+p.vars.length+p.arrays.length+1) HPB.out.require (by omega);simp only [ae.val,Sp.val] at hC;have hn0:=mI p.require.pre.length (iD p.require) ((p.inputs.length:Int)+p.ghosts.length+p.vars.length+p.arrays.length+1) (by omega);generalize hN0:fA p.require.pre.length ((p.inputs.length:Int)+p.ghosts.length+p.vars.length+p.arrays.length+1)=n0 at *;have HN0:=zhd hN0;clear hN0;refine hC.mono ?_;clear hC;rintro o w1 ⟨rfl,hb1⟩;have hbx1:BQ w1 w.heap.size p:=⟨(hb1.block w.heap.size hlt).trans HBOX.out.heap⟩;obtain ⟨c12,-⟩:=hbx1.at;have hs1:=hb1.size;go_wp2_with fail
 go_loopw [3,30] (fun v i wr=>∃k:Nat,k≤p.inits.length∧i=.int .i64 k∧v=.int .i64 (initsN (p.inits.take k) n0)∧Below wB.heap.size wB wr) (fun _ i _=>p.inits.length - (intOf i).toNat)
 case atStart=>exact ⟨0,Nat.zero_le _,rfl,by simp [initsN],hb1⟩
 case round =>
  obtain ⟨k,hk,rfl,rfl,hbr⟩:=hrel;have hszr:=hbr.size;have hin:=uk (p.inits.take k) n0 (by omega);have hil:(p.inits.take k).length≤k:=List.length_take_le _ _;by_cases hltk:k<p.inits.length
  ·obtain ⟨b0,off,eA,hbn,hcell⟩:=(HPB.out.irow.below hbr).row (by omega)
   have hts:p.inits.take (k+1)=p.inits.take k++[p.inits[k]]:=List.take_succ_eq_append_getElem hltk;have k0:wr.cell? ⟨b0,off+k*7,none⟩=some (.int .i64 p.inits[k].block):=hcell k hltk 0 _ rfl;have k1:wr.cell? ⟨b0,off+k*7+1,none⟩=some (.int .u8 p.inits[k].value.kind):=hcell k hltk 1 _ rfl;have k2:wr.cell? ⟨b0,off+k*7+2,none⟩=some (.int .u8 p.inits[k].value.op):=hcell k hltk 2 _ rfl;have k3:wr.cell? ⟨b0,off+k*7+3,none⟩=some (.int .u32 p.inits[k].value.value):=hcell k hltk 3 _ rfl;have k4:wr.cell? ⟨b0,off+k*7+4,none⟩=some (.int .i64 p.inits[k].value.width):=hcell k hltk 4 _ rfl;have k5:wr.cell? ⟨b0,off+k*7+5,none⟩=some (.string p.inits[k].value.name):=hcell k hltk 5 _ rfl;have k6:wr.cell? ⟨b0,off+k*7+6,none⟩=some (.slice p.inits[k].value.sp.at_ p.inits[k].value.subs.length p.inits[k].value.sp.cap):=hcell k hltk 6 _ rfl;have hrx:=(HPB.out.inits _ (List.getElem_mem hltk)).value.stays hbr;have HTS:=zhd hts;generalize p.inits[k]=x at *;have hstep:initsN (p.inits.take (k+1)) n0=fA x.value.pre.length (initsN (p.inits.take k) n0+1):=by rw [HTS.out];simp [initsN]
   generalize initsN (p.inits.take k) n0=cur at *;have HST:=zhd hstep;have hba:=zba wr (.cells #[.int .i64 x.block,.int .u8 x.value.kind,.int .u8 x.value.op,.int .u32 x.value.value,.int .i64 x.value.width,.string x.value.name,.slice x.value.sp.at_ x.value.subs.length x.value.sp.cap] 149);have hsa:=hba.size;have hCE:=iw _ x.value (cur+1) ((hrx.stays (hba.mono (by omega))).more (n₁:=(wr.alloc (.cells #[.int .i64 x.block,.int .u8 x.value.kind,.int .u8 x.value.op,.int .u32 x.value.value,.int .i64 x.value.width,.string x.value.name,.slice x.value.sp.at_ x.value.subs.length x.value.sp.cap] 149)).heap.size) (by omega)) (by omega);simp only [ae.val,Sp.val] at hCE;have HCE:=zhd hCE;have HBA:=zhd hba;have hj0:(0:Int)≤(k:Int):=by omega
   have hj1:(k:Int)<(p.inits.length:Int):=by omega
   clear hcell hts hstep hCE hba hrx c12;rw [eA];clear eA;go_wp2_with fail
   refine HCE.out.mono ?_;rintro o w2 ⟨rfl,hb2⟩;have hb3:=hbr.trans ((HBA.out.trans (hb2.mono HBA.out.size)).mono (by omega));clear hb2 k0 k1 k2 k3 k4 k5 k6;go_wp2_with fail
   go_roundw
   case rel=>exact ⟨k+1,by omega,by go_num,by rw [HST.out],hb3⟩
   case measure=>simp [intOf];omega
  ·obtain rfl:k=p.inits.length:=by omega
   rw [List.take_length] at hin;rw [List.take_length];generalize hI0:initsN p.inits n0=i0 at *;have HI0:=zhd hI0;have hbx2:BQ wr w.heap.size p:=⟨(hbr.block w.heap.size hlt).trans HBOX.out.heap⟩;obtain ⟨-,c13,-⟩:=hbx2.at;have hWr:=hbr;clear hI0 hbx2 c12 hil hk hltk hbx1 hb1;obtain ⟨wo,rfl⟩:∃y:World,y=wr:=⟨_,rfl⟩;have hl7:(p.procs.map fun q=>1+q.params.length+iy (q.body.flatMap aa.pre)).sum≤1125899906842624:=by
    have:=HWT.out;unfold eu at this;omega
   go_wp2_with fail
   go_loopw [3,43] (fun v i wr=>∃k:Nat,k≤p.procs.length∧i=.int .i64 k∧v=.int .i64 (fM (p.procs.take k) i0)∧Below wB.heap.size wB wr) (fun _ i _=>p.procs.length - (intOf i).toNat)
   case atStart=>exact ⟨0,Nat.zero_le _,rfl,by simp [fM],hWr⟩
   case round =>
    obtain ⟨k,hk,rfl,rfl,hbr⟩:=hrel;have hszr:=hbr.size;have hpn:=uo (p.procs.take k) i0 (by omega);have hpt:=Jr (fun q:aO=>1+q.params.length+iy (q.body.flatMap aa.pre)) p.procs k;by_cases hltk:k<p.procs.length
    ·obtain ⟨b0,off,eA,hbn,hcell⟩:=(HPB.out.prow.below hbr).row (by omega)
     have hts:p.procs.take (k+1)=p.procs.take k++[p.procs[k]]:=List.take_succ_eq_append_getElem hltk;have k0:wr.cell? ⟨b0,off+k*3,none⟩=some (.string p.procs[k].name):=hcell k hltk 0 _ rfl;have k1:wr.cell? ⟨b0,off+k*3+1,none⟩=some (.slice p.procs[k].ps.at_ p.procs[k].params.length p.procs[k].ps.cap):=hcell k hltk 1 _ rfl;have k2:wr.cell? ⟨b0,off+k*3+2,none⟩=some (.slice p.procs[k].bs.at_ p.procs[k].body.length p.procs[k].bs.cap):=hcell k hltk 2 _ rfl;have hrq:=HPB.out.procs _ (List.getElem_mem hltk);have hrx:=hrq.body.below hbr;have hpf:=hrq.params.row.few;have HTS:=zhd hts;generalize p.procs[k]=x at *;have hstep:fM (p.procs.take (k+1)) i0=dR (x.body.flatMap aa.pre) (fM (p.procs.take k) i0+1+x.params.length):=by rw [HTS.out];simp [fM]
     generalize fM (p.procs.take k) i0=cur at *;have HST:=zhd hstep;have hba:=zba wr (.cells #[.string x.name,.slice x.ps.at_ x.params.length x.ps.cap,.slice x.bs.at_ x.body.length x.bs.cap] 54);have hsa:=hba.size;have hCE:=eP _ x.bs x.body (cur+1+x.params.length) ((hrx.below (hba.mono (by omega))).more (n₁:=(wr.alloc (.cells #[.string x.name,.slice x.ps.at_ x.params.length x.ps.cap,.slice x.bs.at_ x.body.length x.bs.cap] 54)).heap.size) (by omega)) (by omega);simp only [Sp.val] at hCE;have HCE:=zhd hCE;have HBA:=zhd hba;have hj0:(0:Int)≤(k:Int):=by omega
     have hj1:(k:Int)<(p.procs.length:Int):=by omega
     clear hcell hts hstep hCE hba hrx hrq c13;rw [eA];clear eA;go_wp2_with fail
     refine HCE.out.mono ?_;rintro o w2 ⟨rfl,hb2⟩;have hb3:=hbr.trans ((HBA.out.trans (hb2.mono HBA.out.size)).mono (by omega));clear hb2 k0 k1 k2;go_wp2_with fail
     go_roundw
     case rel=>exact ⟨k+1,by omega,by go_num,by rw [HST.out],hb3⟩
     case measure=>simp [intOf];omega
    ·obtain rfl:k=p.procs.length:=by omega
     rw [List.take_length] at hpn;rw [List.take_length];generalize hI1:fM p.procs i0=i1 at *;have hw2:iy (p.work.flatMap aa.pre)+iy (p.recover.flatMap aa.pre)≤1125899906842624:=by
      have:=HWT.out;unfold eu at this;omega
     have hc1:=nA (p.work.flatMap aa.pre) i1 (by omega);have hc2:=nA (p.recover.flatMap aa.pre) (dR (p.work.flatMap aa.pre) i1) (by omega);have hend:countP p=fA p.invariant.pre.length (dR (p.recover.flatMap aa.pre) (dR (p.work.flatMap aa.pre) i1)):=by
      rw [←hI1,←HI0.out,←HN0.out];rfl
     have HEND:=zhd hend;have HW1:Hid (∀W,Below wr.heap.size wr W→Calls Tryz.prog 94 #[.slice p.ws.at_ p.work.length p.ws.cap,.int .i64 i1] W fun o w'=>o=.returned (.int .i64 (dR (p.work.flatMap aa.pre) i1))∧Below W.heap.size W w') :=
      zhd fun W hW=>eP W p.ws p.work i1 (((HPB.out.work.below hbr).below (hW.mono hszr)).more (by have:=hW.size;omega)) (by omega)
     have HW2:Hid (∀W,Below wr.heap.size wr W→Calls Tryz.prog 94 #[.slice p.cs.at_ p.recover.length p.cs.cap,.int .i64 (dR (p.work.flatMap aa.pre) i1)] W fun o w'=>o=.returned (.int .i64 (dR (p.recover.flatMap aa.pre) (dR (p.work.flatMap aa.pre) i1)))∧Below W.heap.size W w') :=
      zhd fun W hW=>eP W p.cs p.recover _ (((HPB.out.recover.below hbr).below (hW.mono hszr)).more (by have:=hW.size;omega)) (by omega)
     have HW3:Hid (∀W,Below wr.heap.size wr W→Calls Tryz.prog 86 #[.agg #[.int .u8 p.invariant.kind,.int .u8 p.invariant.op,.int .u32 p.invariant.value,.int .i64 p.invariant.width,.string p.invariant.name,.slice p.invariant.sp.at_ p.invariant.subs.length p.invariant.sp.cap],.int .i64 (dR (p.recover.flatMap aa.pre) (dR (p.work.flatMap aa.pre) i1))] W fun o w'=>o=.returned (.int .i64 (countP p))∧Below W.heap.size W w') :=
      zhd fun W hW=>by rw [hend];exact iw W p.invariant _ (((HPB.out.invariant.stays hbr).stays (hW.mono hszr)).more (by have:=hW.size;omega)) (by omega)
     have HCB:Hid (∀W,Below wr.heap.size wr W→BQ W w.heap.size p):=zhd fun W hW=>⟨(hW.block w.heap.size (by omega)).trans ((hbr.block w.heap.size hlt).trans HBOX.out.heap)⟩
     obtain ⟨-,-,d14,d15,d16,d17,d18,d19,d20,d21⟩:=(HCB.out wr (Below.refl _ _)).at;generalize dR (p.recover.flatMap aa.pre) (dR (p.work.flatMap aa.pre) i1)=i3 at *;generalize dR (p.work.flatMap aa.pre) i1=i2 at *;have hbd:Below wr.heap.size wr wr.drew:=(Below.refl _ _).drew;have hbE:=HBB.out.trans (hbr.mono HBB.out.size);have HBE:=zhd hbE;clear hend hI1 hc1 hc2 hw2 hpt hpn hk hltk c13 hbE;go_wp2_with fail
     go_region_held3 (fun w'=>w'.cell? ⟨w.heap.size,14,none⟩=some (.slice p.ws.at_ p.work.length p.ws.cap)∧w'.cell? ⟨w.heap.size,15,none⟩=some (.slice p.cs.at_ p.recover.length p.cs.cap)∧w'.cell? ⟨w.heap.size,16,none⟩=some (.int .u8 p.invariant.kind)∧w'.cell? ⟨w.heap.size,17,none⟩=some (.int .u8 p.invariant.op)∧w'.cell? ⟨w.heap.size,18,none⟩=some (.int .u32 p.invariant.value)∧w'.cell? ⟨w.heap.size,19,none⟩=some (.int .i64 p.invariant.width)∧w'.cell? ⟨w.heap.size,20,none⟩=some (.string p.invariant.name)∧w'.cell? ⟨w.heap.size,21,none⟩=some (.slice p.invariant.sp.at_ p.invariant.subs.length p.invariant.sp.cap)∧Below wr.heap.size wr w')
      (simp [*])
      (first
       | (go_at_call 86;refine (HW3.out _ (by assumption)).mono ?_;rintro e w9 ⟨rfl,hb9⟩;have hb10:=Below.trans (by assumption:Below wr.heap.size wr _) (hb9.mono (Below.size (by assumption)));obtain ⟨-,-,z14,z15,z16,z17,z18,z19,z20,z21⟩:=(HCB.out _ hb10).at)
       | (go_at_call 94;refine (HW1.out _ (by assumption)).mono ?_;clear HW1;rintro e w9 ⟨rfl,hb9⟩;have hb10:=Below.trans (by assumption:Below wr.heap.size wr _) (hb9.mono (Below.size (by assumption)));obtain ⟨-,-,z14,z15,z16,z17,z18,z19,z20,z21⟩:=(HCB.out _ hb10).at)
       | (go_at_call 94;refine (HW2.out _ (by assumption)).mono ?_;clear HW2;rintro e w9 ⟨rfl,hb9⟩;have hb10:=Below.trans (by assumption:Below wr.heap.size wr _) (hb9.mono (Below.size (by assumption)));obtain ⟨-,-,z14,z15,z16,z17,z18,z19,z20,z21⟩:=(HCB.out _ hb10).at)
       | fail)
     go_wp2_with fail
     go_ret
     exact ⟨rfl,HBE.out.trans (hb10.mono (by omega))⟩
end
section
open Go
theorem mK {n:Nat} {b:Int} (hn:0<n) (h:fA n b≤20000):fA n b=b+n:=by
 unfold fA at h ⊢
 split <;> omega
theorem pR {n:Nat} {b:Int} (h:b+n≤20000):fA n b=b+n:=by
 unfold fA;rw [if_pos h]
def aN (l:List ae):Nat:=(l.map fun e=>e.pre.length).sum
def gU (l:List aa):Nat:=(l.map fun s=>1+aN s.exprs).sum
theorem uI:∀(l:List ae) (b:Int),0≤b→b≤20000→l.foldl (fun b e=>fA e.pre.length b) b≤20000→l.foldl (fun b e=>fA e.pre.length b) b=b+aN l
 | [],b,_,_,_=>by simp [aN]
 | e::l,b,h0,hb,h=>by
  rw [List.foldl_cons] at h ⊢;have h1:=mI e.pre.length (iD e) b h0;have h2:=vR l (fA e.pre.length b) (by omega);have h3:=mK (iD e) (b:=b) (by omega);have ih:=uI l (fA e.pre.length b) (by omega) (by omega) h;rw [ih,h3];simp [aN];omega
theorem Cw:∀(l:List ae) (b:Int),b+aN l≤20000→l.foldl (fun b e=>fA e.pre.length b) b=b+aN l
 | [],b,_=>by simp [aN]
 | e::l,b,h=>by
  have e1:aN (e::l)=e.pre.length+aN l:=by simp [aN]
  rw [e1] at h ⊢;rw [List.foldl_cons,pR (by omega),Cw l _ (by omega)];omega
theorem Cv {s:aa} {b:Int} (h0:0≤b) (h:stepT s b≤20000):stepT s b=b+(1+aN s.exprs:Nat):=by
 unfold stepT at h ⊢;have:=vR s.exprs (b+1) (by omega);rw [uI s.exprs (b+1) (by omega) (by omega) h];omega
theorem JW {s:aa} {b:Int} (h:b+(1+aN s.exprs:Nat)≤20000):stepT s b=b+(1+aN s.exprs:Nat):=by
 unfold stepT;rw [Cw _ _ (by omega)];omega
theorem lc:∀(l:List aa) (b:Int),0≤b→dR l b≤20000→dR l b=b+gU l
 | [],b,_,_=>by simp [dR,gU]
 | s::l,b,h0,h=>by
  have e1:gU (s::l)=1+aN s.exprs+gU l:=by simp [gU]
  have h1:=ut s b h0;rw [dR] at h ⊢;by_cases hs:stepT s b>20000
  ·rw [if_pos hs] at h;omega
  ·rw [if_neg hs] at h ⊢
   have h3:=Cv (s:=s) (b:=b) h0 (by omega);rw [lc l _ (by omega) h,e1];omega
theorem kN:∀(l:List aa) (b:Int),b+gU l≤20000→dR l b=b+gU l
 | [],b,_=>by simp [dR,gU]
 | s::l,b,h=>by
  have e1:gU (s::l)=1+aN s.exprs+gU l:=by simp [gU]
  rw [e1] at h ⊢;have h3:=JW (s:=s) (b:=b) (by omega);have h4:¬stepT s b>20000:=by omega
  rw [dR,if_neg h4,kN l _ (by omega)];omega
def ay (l:List aa):Nat:=gU (l.flatMap aa.pre)
def gI (q:aO):Nat:=1+q.params.length+ay q.body
def aP (p:af):Nat :=
 (p.inputs.length+p.ghosts.length+p.vars.length+p.arrays.length+1)+p.require.pre.length+(p.inits.map fun i=>1+i.value.pre.length).sum+(p.procs.map gI).sum+ay p.work+ay p.recover+p.invariant.pre.length
theorem rA:∀(l:List aQ) (b:Int),0≤b→initsN l b≤20000→initsN l b=b+((l.map fun i=>1+i.value.pre.length).sum:Nat)
 | [],b,_,_=>by simp [initsN]
 | i::l,b,h0,h=>by
  have e:initsN (i::l) b=initsN l (fA i.value.pre.length (b+1)):=rfl;rw [e] at h ⊢;have h1:=mI i.value.pre.length (iD i.value) (b+1) (by omega);have h2:=uk l (fA i.value.pre.length (b+1)) (by omega);have h3:=mK (iD i.value) (b:=b+1) (by omega);rw [rA l _ (by omega) h,h3];simp;omega
theorem rz:∀(l:List aO) (b:Int),0≤b→fM l b≤20000→fM l b=b+((l.map gI).sum:Nat)
 | [],b,_,_=>by simp [fM]
 | q::l,b,h0,h=>by
  have e:fM (q::l) b=fM l (dR (q.body.flatMap aa.pre) (b+1+q.params.length)):=rfl;rw [e] at h ⊢;have h1:=nA (q.body.flatMap aa.pre) (b+1+q.params.length) (by omega);have h2:=uo l (dR (q.body.flatMap aa.pre) (b+1+q.params.length)) (by omega);have h3:=lc (q.body.flatMap aa.pre) (b+1+q.params.length) (by omega) (by omega);rw [rz l _ (by omega) h,h3];simp only [List.map_cons,List.sum_cons,gI,ay];omega
theorem Bq {p:af} (h:countP p≤20000):countP p=aP p:=by
 unfold countP at h ⊢;have d0:(0:Int)≤iV p:=by unfold iV;omega
 have a1:=mI p.require.pre.length (iD _) (iV p) d0;generalize hA:fA p.require.pre.length (iV p)=A at *;have a2:=uk p.inits A (by omega);generalize hB:initsN p.inits A=B at *;have a3:=uo p.procs B (by omega);generalize hC:fM p.procs B=C at *;have a4:=nA (p.work.flatMap aa.pre) C (by omega);generalize hD:dR (p.work.flatMap aa.pre) C=D at *;have a5:=nA (p.recover.flatMap aa.pre) D (by omega);generalize hE:dR (p.recover.flatMap aa.pre) D=E at *;have a6:=mI p.invariant.pre.length (iD _) E (by omega);have b1:=mK (iD p.require) (b:=iV p) (by omega);have b2:=rA p.inits A (by omega) (by omega);have b3:=rz p.procs B (by omega) (by omega);have b4:=lc (p.work.flatMap aa.pre) C (by omega) (by omega);have b5:=lc (p.recover.flatMap aa.pre) D (by omega) (by omega);have b6:=mK (iD p.invariant) (b:=E) h;rw [b6];unfold aP ay;have e:iV p=(p.inputs.length+p.ghosts.length+p.vars.length+p.arrays.length+1:Nat):=by unfold iV;omega
 omega
theorem mf (e:ae):e.pre.length=1+aN e.subs:=by
 rw [ae.pre_eq,List.length_cons,List.length_flatMap];unfold aN;omega
theorem jf (s:aa) (l:List aa):ay (s::l)=(1+aN s.exprs)+ay s.thn+ay s.els+ay l:=by
 unfold ay gU;rw [List.flatMap_cons,aa.pre_eq];simp [List.map_append,List.sum_append];omega
mutual
theorem uh (p:af) (E:Env) (wh:Int):∀(e:ae) (d:Nat),(fu p E wh e d).length=e.pre.length
 | .mk k op v wd nm sp subs,d=>by
  rw [fu,List.length_cons,qP p E wh subs (d+1),mf];exact Nat.add_comm _ _
theorem qP (p:af) (E:Env) (wh:Int):∀(l:List ae) (d:Nat),(cO p E wh l d).length=aN l
 | [],_=>by rw [cO];rfl
 | e::l,d=>by
  rw [cO,List.length_append,uh p E wh e d,qP p E wh l d];simp [aN]
end
mutual
theorem FQ (p:af) (E:Env):∀(s:aa) (d:Nat),(kH p E s d).length=1+aN s.exprs+ay s.thn+ay s.els
 | .mk k nm es ex b ts th os el,d=>by
  rw [kH,List.length_cons,List.length_append,List.length_append,qP,jU p E th (d+1),jU p E el (d+1)];show _=1+aN ex+ay th+ay el;omega
theorem jU (p:af) (E:Env):∀(l:List aa) (d:Nat),(aL p E l d).length=ay l
 | [],_=>by rw [aL];rfl
 | s::l,d=>by
  rw [aL,List.length_append,FQ p E s d,jU p E l d,jf]
end
theorem gZ (p:af) (a:Bool):∀(l:List aF) (b:List ByteArray),(bG p a l b).length=l.length
 | [],_=>by rw [bG];rfl
 | d::l,b=>by rw [bG,List.length_cons,gZ p a l _];rfl
theorem mD (p:af):∀(l:List aO) (i:Nat) (b:List ByteArray),(dN p l i b).length=(l.map gI).sum
 | [],_,_=>by rw [dN];rfl
 | q::l,i,b=>by
  rw [dN,List.length_append,mD p l _ _,kT,List.length_cons,List.length_append,gZ,jU];simp [gI];omega
theorem mJ (p:af):∀(l:List aQ) (b:List Int),(dY p l b).length=(l.map fun i=>1+i.value.pre.length).sum
 | [],_=>by rw [dY];rfl
 | x::l,b=>by
  rw [dY,List.length_append,List.length_cons,mJ p l _,uh];simp;omega
theorem gY (p:af) (n:Int):(bJ p n).length=aP p:=by
 unfold bJ;simp only [List.length_cons,List.length_append,gZ,uh,mJ,mD,jU];unfold aP;omega
theorem KX {α:Type} (f:α→Nat) (l:List α) (x:α) (h:x∈l):f x≤(l.map f).sum:=by
 induction l with
 | nil=>cases h
 | cons y l ih =>
  simp only [List.map_cons,List.sum_cons];rcases List.mem_cons.1 h with e | h
  ·rw [e];omega
  ·have:=ih h;omega
theorem Gn {p:af} (h:aP p≤20000) {q:aO} (hq:q∈p.procs):dR (q.body.flatMap aa.pre) 0≤20000:=by
 have h1:=KX gI p.procs q hq;have h2:gU (q.body.flatMap aa.pre)≤gI q:=by unfold gI ay;omega
 unfold aP at h;rw [kN _ _ (by omega)];omega
theorem lD {α:Type} (f:α→Nat) (hf:∀x,1≤f x) (l:List α):l.length≤(l.map f).sum:=by
 induction l with
 | nil=>simp
 | cons y l ih=>simp only [List.map_cons,List.sum_cons,List.length_cons];have:=hf y;omega
theorem qK {p:af} (h:aP p≤20000):p.procs.length≤20000:=by
 have:=lD gI (fun q=>by unfold gI;omega) p.procs;unfold aP at h;omega
theorem zx (l:List aa):l.length≤gU l:=lD _ (fun s=>by omega) l
theorem qi {α:Type} (f:α→Nat):∀l:List α,((List.range l.length).map fun i=>(l[i]?.map f).getD 0).sum=(l.map f).sum
 | []=>rfl
 | x::l=>by
  rw [List.length_cons,List.range_succ_eq_map,List.map_cons,List.map_map,List.sum_cons,List.map_cons,List.sum_cons,←qi f l]
  rfl
theorem qM {α:Type} (f g:α→Nat) (l:List α) (h:∀x∈l,f x≤g x):(l.map f).sum≤(l.map g).sum:=by
 induction l with
 | nil=>simp
 | cons y l ih =>
  simp only [List.map_cons,List.sum_cons];have:=h y (List.mem_cons_self ..);have:=ih fun x hx=>h x (List.mem_cons_of_mem _ hx)
  omega
theorem Dm {p:af} (h:aP p≤20000):oN p≤20002:=by
 have h1:((List.range p.procs.length).map fun i=>(gQ p i).length).sum≤((List.range p.procs.length).map fun i=>(p.procs[i]?.map gI).getD 0).sum:=by
  refine qM _ _ _ fun i hi=>?_
  have hi:=List.mem_range.1 hi;rw [List.getElem?_eq_getElem hi];refine Nat.le_trans (zF p i hi) ?_;have:=zx (p.procs[i].body.flatMap aa.pre);simp only [Option.map_some,Option.getD_some,gI,ay];omega
 rw [qi] at h1;unfold oN;unfold aP at h;omega
end
section
open Go
structure Nm where
 i:ByteArray
 j:ByteArray
 g:ByteArray
 h:ByteArray
 v:ByteArray
 c:ByteArray
 a:ByteArray
def std:Nm:=⟨⟨#[105]⟩,⟨#[106]⟩,⟨#[103]⟩,⟨#[104]⟩,⟨#[118]⟩,⟨#[99]⟩,⟨#[97]⟩⟩
def pB:ByteArray:=⟨#[112]⟩
structure gy where
 N:Nm
 w:Int
 ni:Nat
 prm:Bool
def gy.ok (M:gy):Prop:=1≤M.w∧M.w≤3∧M.ni≤2
def iE (M:gy):List (ByteArray × cK):=[(M.N.i,⟨1,M.w⟩),(M.N.j,⟨1,1⟩)].take M.ni
def dx (M:gy):List (ByteArray × cK):=[(M.N.g,⟨2,M.w⟩),(M.N.h,⟨2,1⟩)]
def iq (M:gy):List (ByteArray × cK):=[(M.N.v,⟨3,M.w⟩),(M.N.c,⟨3,2⟩)]
def xQ (M:gy):List (ByteArray × cK):=if M.prm=true then [(xB,⟨5,M.w⟩)] else []
def kG (M:gy) (wh:Int):List (ByteArray × cK):=iE M++((if wh=1 then [] else dx M)++(if wh=0 then iq M++xQ M else []))
inductive WX (M:gy) (wh:Int):Nat→Int→ae→Prop
 | num {d:Nat} {x wd:Int}:0≤x→x<2 ^ wd.toNat→1≤wd→wd≤16→WX M wh d wd (aR x wd)
 | var {d:Nat} {s:ByteArray} {t:cK}:(s,t)∈kG M wh→WX M wh d t.width (bP s)
 | cmp {d:Nat} {op wd:Int} {sp:Sp} {a b:ae}:13≤op→op≤16→WX M wh d wd a→WX M wh d wd b→WX M wh (d+1) 1 (.mk 6 op 0 0 ⟨#[]⟩ sp [a,b])
 | bin {d:Nat} {op wd:Int} {sp:Sp} {a b:ae}:3≤op→op≤12→WX M wh d wd a→WX M wh d wd b→WX M wh (d+1) wd (.mk 6 op 0 0 ⟨#[]⟩ sp [a,b])
 | mux {d:Nat} {wd:Int} {sp:Sp} {a b c:ae}:WX M wh d 1 a→WX M wh d wd b→WX M wh d wd c→WX M wh (d+1) wd (.mk 7 0 0 0 ⟨#[]⟩ sp [a,b,c])
 | un {d:Nat} {op wd:Int} {sp:Sp} {a:ae}:1≤op→op≤2→WX M wh d wd a→WX M wh (d+1) wd (.mk 5 op 0 0 ⟨#[]⟩ sp [a])
 | cast {d:Nat} {wd w2:Int} {sp:Sp} {a:ae}:1≤wd→wd≤16→WX M wh d w2 a→WX M wh (d+1) wd (.mk 8 0 0 wd ⟨#[]⟩ sp [a])
 | disk {d:Nat} {sp:Sp} {a:ae}:wh≠1→WX M wh d 2 a→WX M wh (d+1) M.w (.mk 4 0 0 0 ⟨#[]⟩ sp [a])
 | elem {d:Nat} {sp:Sp} {a:ae}:wh=0→WX M wh d 2 a→WX M wh (d+1) M.w (.mk 3 0 0 0 M.N.a sp [a])
structure Jw (p:af) (E:Env) (M:gy):Prop where
 width:p.width=M.w
 find:∀x∈kG M 0,aJ p E x.1=x.2
 arr:aJ p E M.N.a=⟨4,M.w⟩
theorem sF {M:gy} {wh:Int} {x:ByteArray × cK} (h:x∈kG M wh):x∈kG M 0:=by
 unfold kG at *;simp only [List.mem_append] at *;rcases h with h | h | h
 ·exact .inl h
 ·refine .inr (.inl ?_)
  split at h
  ·cases h
  ·simpa using h
 ·refine .inr (.inr ?_)
  split at h
  ·simpa using h
  ·cases h
theorem zl {M:gy} {wh:Int} {x:ByteArray × cK} (h:x∈kG M wh):(x.2.kind=1∨x.2.kind=2∨x.2.kind=3∨x.2.kind=5)∧(wh=1→x.2.kind=1)∧(wh=2→x.2.kind=1∨x.2.kind=2):=by
 unfold kG at h;simp only [List.mem_append] at h;rcases h with h | h | h
 ·have h2:=List.mem_of_mem_take h
  simp at h2;rcases h2 with rfl | rfl <;> simp
 ·split at h
  ·cases h
  ·next hw =>
   simp [dx] at h;rcases h with rfl | rfl <;> simp [hw]
 ·split at h
  ·next hw =>
   simp only [iq,xQ,List.mem_cons,List.mem_append,List.not_mem_nil,or_false] at h;rcases h with (rfl | rfl) | h
   ·simp [hw]
   ·simp [hw]
   ·split at h
    ·simp at h;subst h;simp [hw]
    ·cases h
  ·cases h
theorem Ee {M:gy} (hM:M.ok) {wh:Int} {x:ByteArray × cK} (h:x∈kG M wh):1≤x.2.width∧x.2.width≤3:=by
 obtain ⟨h1,h2,_⟩:=hM;have h0:=sF h;unfold kG at h0;simp only [List.mem_append] at h0;rcases h0 with h | h | h
 ·have h3:=List.mem_of_mem_take h
  simp at h3;rcases h3 with rfl | rfl <;> simp <;> omega
 ·simp [dx] at h
  rcases h with rfl | rfl <;> simp <;> omega
 ·simp only [if_true,iq,xQ,List.mem_cons,List.mem_append,List.not_mem_nil,or_false] at h
  rcases h with (rfl | rfl) | h
  ·simp;omega
  ·simp
  ·split at h
   ·simp at h;subst h;simp;omega
   ·cases h
theorem lL {n:Int} (h:1≤n∧n≤16):xX n=n:=by
 unfold xX bQ;rw [if_pos (by simpa using h)]
theorem lX {n:Int} (h:1≤n∧n≤16):bQ n=true:=by
 unfold bQ;simpa using h
theorem WX.width {M:gy} (hM:M.ok) {p:af} {E:Env} (hE:Jw p E M) {wh:Int} {d:Nat} {wd:Int} {e:ae} (h:WX M wh d wd e):bL p E e=wd∧1≤wd∧wd≤16:=by
 obtain ⟨hM1,hM2,hM3⟩:=hM;induction h with
 | num _ _ h1 h2 =>
  refine ⟨?_,h1,h2⟩;rw [fZ];exact lL ⟨h1,h2⟩
 | @var _ s t hm =>
  have hw:=Ee ⟨hM1,hM2,hM3⟩ hm;have hk:=(zl hm).1;have hf:=hE.find _ (sF hm);simp only at hw hk hf;refine ⟨?_,hw.1,by omega⟩;rw [fZ];simp only [bP,ae.kind,ae.op,ae.width,ae.name,dw,hf];have h4:t.kind≠0∧(t.kind=4↔(2:Int)=3):=⟨by omega,by constructor <;> intro h <;> omega⟩;simp only [show ¬((2:Int)=1∨(2:Int)=8) by decide,if_false,true_or,if_true];rw [if_pos h4,lL ⟨hw.1,by omega⟩]
 | @cmp _ op _ _ _ _ o1 o2 _ _ ih1 ih2 =>
  refine ⟨?_,by decide,by decide⟩;rw [fZ];have ho:nN op=true:=decide_eq_true (show 1≤op∧op≤16 from ⟨by omega,o2⟩);have ht:iM op=true:=decide_eq_true (show 13≤op∧op≤16 from ⟨o1,o2⟩);simp only [ae.kind,ae.op,ae.width,ae.name,ae.subs,dw,bE,List.getElem?_cons_zero,ih1.1,iB,ho,ht,lX ih1.2]
  rfl
 | @bin _ op _ _ _ _ o1 o2 _ _ ih1 ih2 =>
  refine ⟨?_,ih1.2⟩;rw [fZ];have ho:nN op=true:=decide_eq_true (show 1≤op∧op≤16 from ⟨by omega,by omega⟩);have ht:iM op=false:=decide_eq_false (show ¬(13≤op∧op≤16) from fun h=>by omega);simp only [ae.kind,ae.op,ae.width,ae.name,ae.subs,dw,bE,List.getElem?_cons_zero,ih1.1,iB,ho,ht,lX ih1.2];exact lL ih1.2
 | mux _ _ _ _ ih2 _ =>
  refine ⟨?_,ih2.2⟩;rw [fZ];simp only [ae.kind,ae.op,ae.width,ae.name,ae.subs,dw,bE,List.getElem?_cons_zero,List.getElem?_cons_succ,ih2.1];exact lL ih2.2
 | @un _ op _ _ _ o1 o2 _ ih =>
  refine ⟨?_,ih.2⟩;rw [fZ];have ho:nN op=true:=decide_eq_true (show 1≤op∧op≤16 from ⟨by omega,by omega⟩);have ht:iM op=false:=decide_eq_false (show ¬(13≤op∧op≤16) from fun h=>by omega);simp only [ae.kind,ae.op,ae.width,ae.name,ae.subs,dw,bE,List.getElem?_cons_zero,ih.1,iB,ho,ht,lX ih.2];exact lL ih.2
 | cast h1 h2 _ _ =>
  refine ⟨?_,h1,h2⟩;rw [fZ];exact lL ⟨h1,h2⟩
 | disk _ _ _ =>
  refine ⟨?_,hM1,by omega⟩;rw [fZ];show xX p.width=M.w;rw [hE.width];exact lL ⟨hM1,by omega⟩
 | elem _ _ _ =>
  refine ⟨?_,hM1,by omega⟩;rw [fZ];simp only [ae.kind,ae.op,ae.width,ae.name,dw,hE.arr];exact lL ⟨hM1,by omega⟩
def qN (l:List Int):Prop:=∀c∈l,c=0
theorem qN.append {a b:List Int} (h1:qN a) (h2:qN b):qN (a++b):=fun c hc=>by
 rcases List.mem_append.1 hc with h | h
 ·exact h1 c h
 ·exact h2 c h
theorem qN.cons {c:Int} {b:List Int} (h1:c=0) (h2:qN b):qN (c::b):=fun x hx=>by
 rcases List.mem_cons.1 hx with rfl | h
 ·exact h1
 ·exact h2 x h
theorem qN.nil:qN []:=fun c hc=>by cases hc
theorem E9 (p:af) {k:Nat} (h:k≤32):¬(k:Int)>dX p 32 1000:=by unfold dX;split <;> omega
theorem iI (n:Int):dE n n=false:=by unfold dE;simp
theorem ig {p:af} {E:Env} {wh:Int} {e:ae} {k:Nat} (h1:jg e=true) (h2:¬(bK e=true∧((aJ p E e.name).kind=0∨¬((aJ p E e.name).kind=4↔e.kind=3))))
  (h3:¬((wh=1∧(e.kind=4∨bK e=true∧(aJ p E e.name).kind≠1))∨(wh=2∧bK e=true∧((aJ p E e.name).kind=3∨(aJ p E e.name).kind=4)))) (h4:bX p E e=false) (h5:k≤32):jk p E wh e k=0:=by
 unfold jk;rw [if_neg (by rw [h1];decide),if_neg h2,if_neg h3,if_neg (by rw [h4];decide),if_neg (E9 p h5)]
theorem WX.codes {M:gy} (hM:M.ok) {p:af} {E:Env} (hE:Jw p E M) {wh:Int} {d:Nat} {wd:Int} {e:ae} (h:WX M wh d wd e):∀k:Nat,k+d≤32→qN (fu p E wh e k):=by
 induction h with
 | @num _ x wd h0 hx h1 h2 =>
  intro k hk;rw [fJ];refine .cons (ig rfl (fun h=>absurd h.1 (by simp [bK,aR,ae.kind])) ?_ ?_ (by omega)) (by rw [aY];exact qN.nil)
  ·simp [bK,aR,ae.kind]
  ·unfold bX
   rw [if_pos (show (aR x wd).kind=1 from rfl)];have:oh wd=2 ^ wd.toNat - 1:=by unfold oh;rw [if_pos (lX ⟨h1,h2⟩)]
   simp only [aR,ae.width,ae.value,lX ⟨h1,h2⟩,this,Bool.not_true,Bool.false_or,decide_eq_false_iff_not];omega
 | var hm =>
  intro k hk;have hk1:=zl hm;have hf:=hE.find _ (sF hm);simp only at hk1 hf;rw [fJ];refine .cons (ig rfl ?_ ?_ rfl (by omega)) (by rw [aY];exact qN.nil)
  ·simp only [bP,ae.name,ae.kind,hf]
   intro h;rcases h.2 with h | h
   ·omega
   ·exact h (by constructor <;> intro h <;> omega)
  ·simp only [bP,ae.name,ae.kind,hf]
   rintro (⟨h1,h | ⟨_,h⟩⟩ | ⟨h1,_,h⟩)
   ·omega
   ·exact h (hk1.2.1 h1)
   ·have:=hk1.2.2 h1;omega
 | @cmp _ op _ _ _ _ o1 o2 ha hb ih1 ih2 =>
  intro k hk;have ho:l8 op=true:=decide_eq_true (show 3≤op∧op≤16 from ⟨by omega,o2⟩);rw [fJ];refine .cons (ig ?_ (fun h=>absurd h.1 (by simp [bK,ae.kind])) (by simp [bK,ae.kind]) ?_ (by omega)) ?_
  ·simp only [jg,ae.kind,ae.op,ae.value,ae.width,ae.name,ae.subs,ho];rfl
  ·simp only [bX,ae.kind,ae.subs,bE,List.getElem?_cons_zero,List.getElem?_cons_succ,(WX.width hM hE ha).1,(WX.width hM hE hb).1,iI];rfl
  ·rw [aY]
   simp only [ae.subs,List.flatMap_cons,List.flatMap_nil,List.append_nil];exact (ih1 _ (by omega)).append (ih2 _ (by omega))
 | @bin _ op _ _ _ _ o1 o2 ha hb ih1 ih2 =>
  intro k hk;have ho:l8 op=true:=decide_eq_true (show 3≤op∧op≤16 from ⟨o1,by omega⟩);rw [fJ];refine .cons (ig ?_ (fun h=>absurd h.1 (by simp [bK,ae.kind])) (by simp [bK,ae.kind]) ?_ (by omega)) ?_
  ·simp only [jg,ae.kind,ae.op,ae.value,ae.width,ae.name,ae.subs,ho];rfl
  ·simp only [bX,ae.kind,ae.subs,bE,List.getElem?_cons_zero,List.getElem?_cons_succ,(WX.width hM hE ha).1,(WX.width hM hE hb).1,iI];rfl
  ·rw [aY]
   simp only [ae.subs,List.flatMap_cons,List.flatMap_nil,List.append_nil];exact (ih1 _ (by omega)).append (ih2 _ (by omega))
 | mux ha hb hc ih1 ih2 ih3 =>
  intro k hk;rw [fJ];refine .cons (ig rfl (fun h=>absurd h.1 (by simp [bK,ae.kind])) (by simp [bK,ae.kind]) ?_ (by omega)) ?_
  ·simp only [bX,ae.kind,ae.subs,bE,List.getElem?_cons_zero,List.getElem?_cons_succ,(WX.width hM hE hb).1,(WX.width hM hE hc).1,iI];rfl
  ·rw [aY]
   simp only [ae.subs,List.flatMap_cons,List.flatMap_nil,List.append_nil];exact (ih1 _ (by omega)).append ((ih2 _ (by omega)).append (ih3 _ (by omega)))
 | @un _ op _ _ _ o1 o2 ha ih =>
  intro k hk;have ho:nN op=true:=decide_eq_true (show 1≤op∧op≤16 from ⟨by omega,by omega⟩);have ht:l8 op=false:=decide_eq_false (show ¬(3≤op∧op≤16) from fun h=>by omega);rw [fJ];refine .cons (ig ?_ (fun h=>absurd h.1 (by simp [bK,ae.kind])) (by simp [bK,ae.kind]) rfl (by omega)) ?_
  ·simp only [jg,ae.kind,ae.op,ae.value,ae.width,ae.name,ae.subs,ho,ht];rfl
  ·rw [aY]
   simp only [ae.subs,List.flatMap_cons,List.flatMap_nil,List.append_nil];exact ih _ (by omega)
 | cast h1 h2 ha ih =>
  intro k hk;rw [fJ];refine .cons (ig rfl (fun h=>absurd h.1 (by simp [bK,ae.kind])) (by simp [bK,ae.kind]) ?_ (by omega)) ?_
  ·simp only [bX,ae.kind,ae.width,lX ⟨h1,h2⟩];rfl
  ·rw [aY]
   simp only [ae.subs,List.flatMap_cons,List.flatMap_nil,List.append_nil];exact ih _ (by omega)
 | disk hw ha ih =>
  intro k hk;rw [fJ];refine .cons (ig rfl (fun h=>absurd h.1 (by simp [bK,ae.kind])) (by simp [bK,ae.kind,hw]) rfl (by omega)) ?_;rw [aY];simp only [ae.subs,List.flatMap_cons,List.flatMap_nil,List.append_nil];exact ih _ (by omega)
 | elem hw ha ih =>
  intro k hk;rw [fJ];refine .cons (ig rfl ?_ ?_ rfl (by omega)) ?_
  ·simp [ae.name,ae.kind,hE.arr]
  ·simp [hw]
  rw [aY];simp only [ae.subs,List.flatMap_cons,List.flatMap_nil,List.append_nil];exact ih _ (by omega)
def Br:Nat→Nat
 | 0=>1
 | d+1=>1+3*Br d
theorem Fq:∀d,1≤Br d
 | 0=>Nat.le_refl _
 | d+1=>by rw [Br];omega
theorem jH (e:ae):e.pre.length=1+(e.subs.map fun x=>x.pre.length).sum:=mf e
theorem WX.few {M:gy} {wh:Int} {d:Nat} {wd:Int} {e:ae} (h:WX M wh d wd e):e.pre.length≤Br d:=by
 induction h with
 | num=>rw [jH];exact Fq _
 | var=>rw [jH];exact Fq _
 | cmp _ _ _ _ i1 i2=>rw [jH,Br];simp only [ae.subs,List.map_cons,List.map_nil,List.sum_cons,List.sum_nil];omega
 | bin _ _ _ _ i1 i2=>rw [jH,Br];simp only [ae.subs,List.map_cons,List.map_nil,List.sum_cons,List.sum_nil];omega
 | mux _ _ _ i1 i2 i3=>rw [jH,Br];simp only [ae.subs,List.map_cons,List.map_nil,List.sum_cons,List.sum_nil];omega
 | un _ _ _ i1=>rw [jH,Br];simp only [ae.subs,List.map_cons,List.map_nil,List.sum_cons,List.sum_nil];omega
 | cast _ _ _ i1=>rw [jH,Br];simp only [ae.subs,List.map_cons,List.map_nil,List.sum_cons,List.sum_nil];omega
 | disk _ _ i1=>rw [jH,Br];simp only [ae.subs,List.map_cons,List.map_nil,List.sum_cons,List.sum_nil];omega
 | elem _ _ i1=>rw [jH,Br];simp only [ae.subs,List.map_cons,List.map_nil,List.sum_cons,List.sum_nil];omega
end
end Go.Proofs.YtepacjkacjabbaaGreatDoor
