import Derived.Test.YtepacjkacjabbaaGreatDoorPAA
import Derived.Test.YtepacjkacjabbaaGreatDoorPAC
import Derived.Scope
import Derived.WalkMore
import Derived.RangeFuncBox
import Derived.IntWalk
namespace Go.Proofs.YtepacjkacjabbaaGreatDoor
section
open Go Go.RowKit
attribute [local go_sem] Oper.semAt_some
def dF (n:Nat) (b:Int):Int:=if b+n≤20000 then b+n else max (b+1) 20001
theorem gu (e:ae):0<e.pre.length:=by rw [ae.pre_eq];simp
set_option maxRecDepth 1000000 in
set_option maxHeartbeats 2000000 in
theorem fZ (w:World) (e:ae) (b:Int) (h:iw w.heap.size w e) (hb:0≤b∧b≤4611686018427387904) :
  Calls Tryz.prog 86 #[e.val,.int .i64 b] w fun o w'=>o=.returned (.int .i64 (dF e.pre.length b))∧Below w.heap.size w w':=by
 refine (callsIn_wide (n:=5)).1 ?_;have hE:=xQ e;simp only [ae.val,Sp.val,ae.cells] at hE ⊢;have HE:=zhd hE;clear hE;refine callsIn_of_wp_marks Tryz.func86 rfl trivial ?_ rfl;simp only [Tryz.ntmps86,List.size_toArray,List.length_cons,List.length_nil,Nat.reduceAdd,Nat.reduceSub,Array.replicate_succ,Array.replicate_zero,List.push_toArray,List.append_toArray,List.nil_append,List.cons_append]
 gi_wp2
 refine wpIn_wide.2 (wp_scope_straight (wpIn_wide (n:=5).1 ?_));refine wpIn_seq (wpIn_label ?_)
 gi_wp2_with (refine ⟨trivial,?_⟩;gi_at_call 87;refine (callsIn_wide.2 (HE.out _)).mono ?_;rintro o4 w4 ⟨rfl,rfl⟩)
 have hbw:Below w.heap.size w (((w.alloc (.cells #[.int .u8 e.kind,.int .u8 e.op,.int .u32 e.value,.int .i64 e.width,.string e.name,.slice e.sp.at_ e.subs.length e.sp.cap] 30)).alloc (.cells #[.int .i64 b] 3)).alloc (.cells #[.int .u8 e.kind,.int .u8 e.op,.int .u32 e.value,.int .i64 e.width,.string e.name,.slice e.sp.at_ e.subs.length e.sp.cap] 30)):=(((Below.refl _ w).alloc (Nat.le_refl _) _).alloc (by simp) _).alloc (by simp;omega) _;have hB5:=zan ((w.alloc (.cells #[.int .u8 e.kind,.int .u8 e.op,.int .u32 e.value,.int .i64 e.width,.string e.name,.slice e.sp.at_ e.subs.length e.sp.cap] 30)).alloc (.cells #[.int .i64 b] 3)) (.cells #[.int .u8 e.kind,.int .u8 e.op,.int .u32 e.value,.int .i64 e.width,.string e.name,.slice e.sp.at_ e.subs.length e.sp.cap] 30);have hbx:Boxed (((w.alloc (.cells #[.int .u8 e.kind,.int .u8 e.op,.int .u32 e.value,.int .i64 e.width,.string e.name,.slice e.sp.at_ e.subs.length e.sp.cap] 30)).alloc (.cells #[.int .i64 b] 3)).alloc (.cells #[.int .u8 e.kind,.int .u8 e.op,.int .u32 e.value,.int .i64 e.width,.string e.name,.slice e.sp.at_ e.subs.length e.sp.cap] 30)) (w.heap.size+1) 3 (.int .i64 b):=by
  have:=(Boxed.new (w.alloc (.cells #[.int .u8 e.kind,.int .u8 e.op,.int .u32 e.value,.int .i64 e.width,.string e.name,.slice e.sp.at_ e.subs.length e.sp.cap] 30)) 3 (.int .i64 b)).alloc (.cells #[.int .u8 e.kind,.int .u8 e.op,.int .u32 e.value,.int .i64 e.width,.string e.name,.slice e.sp.at_ e.subs.length e.sp.cap] 30)
  rwa [World.size_alloc] at this
 have hs3:w.heap.size+3≤(((w.alloc (.cells #[.int .u8 e.kind,.int .u8 e.op,.int .u32 e.value,.int .i64 e.width,.string e.name,.slice e.sp.at_ e.subs.length e.sp.cap] 30)).alloc (.cells #[.int .i64 b] 3)).alloc (.cells #[.int .u8 e.kind,.int .u8 e.op,.int .u32 e.value,.int .i64 e.width,.string e.name,.slice e.sp.at_ e.subs.length e.sp.cap] 30)).heap.size:=by simp
 simp only [World.size_alloc] at hB5;generalize ((w.alloc (.cells #[.int .u8 e.kind,.int .u8 e.op,.int .u32 e.value,.int .i64 e.width,.string e.name,.slice e.sp.at_ e.subs.length e.sp.cap] 30)).alloc (.cells #[.int .i64 b] 3)).alloc (.cells #[.int .u8 e.kind,.int .u8 e.op,.int .u32 e.value,.int .i64 e.width,.string e.name,.slice e.sp.at_ e.subs.length e.sp.cap] 30)=w3 at *;refine bi (T:=TT) rfl (fun h=>by cases h) (gf:=152) (lb:=#[.pointer (some ⟨w.heap.size+1+1,0,none⟩)]) rfl trivial (enters_of Tryz.func152 (by kernel_rfl) rfl)
  (EO h _ w3 (w.heap.size+1+1) hbw (by omega) hB5) (by omega) (Below.refl _ _) (fun _=>rfl)
  (fun pre W'=>(Boxed W' (w.heap.size+1) 3 (.int .i64 (b+(pre.length:Int)))∧(pre.length=0∨b+(pre.length:Int)≤20000))∧Below w.heap.size w W'∧w3.heap.size≤W'.heap.size)
  (fun c pre W'=>c=.exit 0∧Boxed W' (w.heap.size+1) 3 (.int .i64 (b+(pre.length:Int)))∧20000<b+(pre.length:Int)∧0<pre.length∧(pre.length=1∨b+(pre.length:Int)=20001)∧Below w.heap.size w W'∧w3.heap.size≤W'.heap.size)
  ?hI ?hIx ⟨⟨by simpa using hbx,.inl rfl⟩,hbw,Nat.le_refl _⟩
  (fun _ a' _=>∃v7,a'={ tmps:=#[.agg #[.int .u8 e.kind,.int .u8 e.op,.int .u32 e.value,.int .i64 e.width,.string e.name,.slice e.sp.at_ e.subs.length e.sp.cap],.int .i64 b,.pointer (some ⟨w.heap.size,0,none⟩),.pointer (some ⟨w.heap.size+1,0,none⟩),.int .i64 0,.agg #[.int .u8 e.kind,.int .u8 e.op,.int .u32 e.value,.int .i64 e.width,.string e.name,.slice e.sp.at_ e.subs.length e.sp.cap],.func (.func 152) #[] #[.pointer (some ⟨w.heap.size+1+1,0,none⟩)],v7,undef,undef,undef,undef,undef],defers:=[] })
  ?hAx ?assign ?body ?done ?stop
 case hI =>
  rintro s X' Y rw ⟨⟨h1,h2⟩,h4,h5⟩ hg hr;exact ⟨⟨h1.kept hg (fun e'=>by have:=(hr _ e'.symm).1;omega),h2⟩,h4.grown hg (by omega) (fun q hq=>by have:=(hr q hq).1;omega),Nat.le_trans h5 hg.size⟩
 case hIx =>
  rintro c s X' Y rw ⟨hc,h1,h2,h0,h3,h4,h5⟩ hg hr;exact ⟨hc,h1.kept hg (fun e'=>by have:=(hr _ e'.symm).1;omega),h2,h0,h3,h4.grown hg (by omega) (fun q hq=>by have:=(hr q hq).1;omega),Nat.le_trans h5 hg.size⟩
 case hAx =>
  rintro y a' _ X' Y rw h hg hr;exact h
 case assign =>
  rintro l2 pre y Wc K hi hK
  gi_wp2
  exact hK _ _ (ax.refl _ _ _) (Below.refl _ _) hi ⟨y.val,by simp⟩
 case body =>
  rintro l2 pre y a' Wc hl2 ⟨⟨h1,h2⟩,h4,h5⟩ ⟨v7,rfl⟩ hlen _;have hc:=h1.cell;have hf:=h1.frozen;have hwr:wrap64 (b+(pre.length:Int)+1)=b+(pre.length:Int)+1:=IntWalk.wrap64_in _ (by omega);have hk:ax TT w3.heap.size Wc (Wc.setCell ⟨w.heap.size+1,0,none⟩ (.int .i64 (b+(pre.length:Int)+1))):=ax.set (a:=⟨w.heap.size+1,0,none⟩) h1 rfl _;have hbb:Below w.heap.size Wc (Wc.setCell ⟨w.heap.size+1,0,none⟩ (.int .i64 (b+(pre.length:Int)+1))):=(Below.refl _ Wc).setCell (p:=⟨w.heap.size+1,0,none⟩) (by simp) _;have hst:Boxed (Wc.setCell ⟨w.heap.size+1,0,none⟩ (.int .i64 (b+(pre.length:Int)+1))) (w.heap.size+1) 3 (.int .i64 (b+(((pre++[y]).length:Nat):Int))):=by
   rw [show b+(((pre++[y]).length:Nat):Int)=b+(pre.length:Int)+1 by simp;omega];exact h1.set _
  have hl1:(pre++[y]).length=pre.length+1:=by simp
  by_cases hgt:20000<b+(pre.length:Int)+1
  ·have x1:20000<b+(((pre++[y]).length:Nat):Int):=by omega
   have x2:0<(pre++[y]).length:=by omega
   have x3:(pre++[y]).length=1∨b+(((pre++[y]).length:Nat):Int)=20001:=by omega
   have X:=zhd (And.intro x1 (And.intro x2 x3));clear x1 x2 x3 hl1
   gi_wp2
   exact ⟨hk,rfl,hst,X.out.1,X.out.2.1,X.out.2.2,h4.trans hbb,Nat.le_trans h5 hk.size⟩
  ·have x1:b+(((pre++[y]).length:Nat):Int)≤20000:=by omega
   have X:=zhd x1;clear x1 hl1
   gi_wp2
   exact ⟨hk,hbb,⟨hst,.inr X.out⟩,h4.trans hbb,Nat.le_trans h5 hk.size⟩
 case done =>
  rintro Dq ys Wd hD rfl ⟨⟨h1,h2⟩,h4,h5⟩ hK;have hc:=h1.cell;have hp:=gu e
  gi_wp2
  refine ⟨by simp,.inl ⟨_,_,rfl,run_takeDeferred hK,?_⟩⟩;have e1:dF e.pre.length b=b+(e.pre.length:Int):=by unfold dF;rw [if_pos (by omega)]
  exact ⟨_,results_tmp rfl _ _ _,by rw [e1];rfl,h4.trans (bD _ _ (by omega))⟩
 case stop =>
  rintro Dq c pre Wd hD hp ⟨rfl,h1,h2,h0,h3,h4,h5⟩ hK;have hc:=h1.cell;have hle:=hp.length_le
  gi_wp2
  refine ⟨by simp,.inl ⟨_,_,rfl,run_takeDeferred hK,?_⟩⟩;have e1:dF e.pre.length b=b+(pre.length:Int):=by unfold dF;rw [if_neg (by omega)];omega
  exact ⟨_,results_tmp rfl _ _ _,by rw [e1];rfl,h4.trans (bD _ _ (by omega))⟩
end
section
open Go Go.RowKit
attribute [local go_sem] Oper.semAt_some
theorem rT (sp:Sp) (n:Nat) (w:World) :
  Calls Tryz.prog 109 #[sp.val n] w fun o w'=>o=.returned (.func (.func 169) #[] #[.pointer (some ⟨w.heap.size,0,none⟩)])∧w'=w.alloc (.cells #[sp.val n] 33):=by
 simp only [Sp.val];go_enter Tryz.func109,Tryz.ntmps109
 go_wp2
 go_ret
 exact ⟨rfl,rfl⟩
def Ew (n₀:Nat) (W0:World) (sp:Sp) (l:List aa):Prop :=
 ∀(n:Nat) (w:World) (Bs:Nat),Below n₀ W0 w→n₀≤w.heap.size→w.heap[Bs]? = some (.cells #[sp.val l.length] 33 (0,0)) →
  Jq Fence.wide n Tryz.prog 169 #[.pointer (some ⟨Bs,0,none⟩)] (fun x:aa=>#[x.val]) TT n₀ (fun ys=>ys=l.flatMap aa.pre) (fun pre=>pre <+: l.flatMap aa.pre) (l.flatMap aa.pre).length w
theorem Dc (a c:Sp) (n m:Nat) (W:World):(Instr.index 207 (.agg #[.slice a.at_ n a.cap,.slice c.at_ m c.cap]) (.int .i64 0)).run Tryz.prog W=.ok (.slice a.at_ n a.cap) W:=by
 kernel_rfl
theorem De (a c:Sp) (n m:Nat) (W:World):(Instr.index 207 (.agg #[.slice a.at_ n a.cap,.slice c.at_ m c.cap]) (.int .i64 1)).run Tryz.prog W=.ok (.slice c.at_ m c.cap) W:=by
 kernel_rfl
def part (s:aa) (i:Nat):List aa:=if i=0 then s.thn else s.els
def LZ (s:aa) (i:Nat):Sp:=if i=0 then s.ts else s.os
def gG (s:aa) (i:Nat):List aa:=if i=0 then [] else if i=1 then s.thn.flatMap aa.pre else s.thn.flatMap aa.pre++s.els.flatMap aa.pre
theorem ve (s:aa) (i:Nat) (h:i<2):gG s (i+1)=gG s i++(part s i).flatMap aa.pre:=by
 match i,h with
 | 0,_=>simp [gG,part]
 | 1,_=>simp [gG,part]
set_option maxRecDepth 1000000 in
set_option maxHeartbeats 4000000 in
theorem oZ {n₀:Nat} {W0:World} {sp:Sp} {ll:List aa} (row:RowOf n₀ W0 sp 6 aa.cells ll) (hQ:∀s∈ll,Ew n₀ W0 s.ts s.thn∧Ew n₀ W0 s.os s.els):Ew n₀ W0 sp ll:=by
 intro n w Bs hb0 hn₀ hBs l J Jx W hW hJ hJx hY h0;have HQ:=zhd hQ;clear hQ;simp only [Sp.val] at hBs;have HY:Hid (∀pre x W1,J pre W1→pre.length<(ll.flatMap aa.pre).length→pre++[x] <+: ll.flatMap aa.pre→YieldAt Fence.wide (n - 1) Tryz.prog l #[x.val] W1 fun o W' =>
  (o=.returned (.bool true)∧J (pre++[x]) W'∧ax TT W.heap.size W1 W'∧Below n₀ W1 W')∨(o=.returned (.bool false)∧Jx (pre++[x]) W'∧ax TT W.heap.size W1 W')):=zhd hY
 clear hY;have hBW:W.heap[Bs]? = some (.cells #[.slice sp.at_ ll.length sp.cap] 33 (0,0)):=(hW.block Bs (zgs hBs).1).trans hBs;have hbl:=(zgs hBW).1;have hB1:=(Below.heap_alloc W (.cells #[.func (.yield l) #[] #[]] 58) Bs hbl).trans hBW;have hy1:=zan W (.cells #[.func (.yield l) #[] #[]] 58);have hb01:Below n₀ W0 (W.alloc (.cells #[.func (.yield l) #[] #[]] 58)):=(hb0.trans (hW.mono hn₀)).alloc (by have:=hW.size;omega) _;have hszW:W.heap.size<(W.alloc (.cells #[.func (.yield l) #[] #[]] 58)).heap.size:=by simp
 have hs0:=hW.size;have c0:=one_cell hB1;have HY1:=zhd hy1;have HJ1:=zhd (hJ.alloc (.cells #[.func (.yield l) #[] #[]] 58) h0);have hll:ll.length≤9223372036854775807:=by
  have h1:=row.cap;have h2:=row.big;simp only [maxLen] at h2;omega
 clear hB1 hy1 hBW hBs hbl;refine callsIn_of_wp_marks Tryz.func169 rfl trivial ?_ rfl;simp only [Tryz.ntmps169,List.size_toArray,List.length_cons,List.length_nil,Nat.reduceAdd,Nat.reduceSub,Array.replicate_succ,Array.replicate_zero,List.push_toArray,List.append_toArray,List.nil_append,List.cons_append]
 gi_wp2
 refine wpIn_loop (fun a wr=>∃(j:Nat) (u4 u6 u7 u11 u12 u13 u14 u15 u16 u17 u18 u19 u20 u21 u22 u23 u24 u25 u26 u27 u29 u30 u31 u32 u33 u34:Value) (ds:List Deferred),a={ tmps:=#[.func (.yield l) #[] #[],.pointer (some ⟨Bs,0,none⟩),.pointer (some ⟨W.heap.size,0,none⟩),undef,u4,undef,u6,u7,.slice sp.at_ ll.length sp.cap,.int .i64 ll.length,.int .i64 j,u11,u12,u13,u14,u15,u16,u17,u18,u19,u20,u21,u22,u23,u24,u25,u26,u27,undef,u29,u30,u31,u32,u33,u34],defers:=ds } ∧
   j≤ll.length∧J ((ll.take j).flatMap aa.pre) wr∧Below n₀ W0 wr∧W.heap.size<wr.heap.size∧wr.heap[W.heap.size]? = some (.cells #[.func (.yield l) #[] #[]] 58 (0,0))∧bz W.heap.size ds wr)
   (fun a _=>ll.length - (intOf (a.tmps.getD 10 undef)).toNat) ?atStart ?round
 case atStart=>exact ⟨0,_,_,_,_,_,_,_,_,_,_,_,_,_,_,_,_,_,_,_,_,_,_,_,_,_,_,[],rfl,Nat.zero_le _,by simpa using HJ1.out,hb01,hszW,HY1.out,trivial⟩
 case round =>
  rintro a wr ⟨j,u4,u6,u7,u11,u12,u13,u14,u15,u16,u17,u18,u19,u20,u21,u22,u23,u24,u25,u26,u27,u29,u30,u31,u32,u33,u34,ds,rfl,hj,hJj,hbj,hszj,hyj,hmj⟩;have HJJ:=zhd hJj;have HYJ:=zhd hyj;have HMJ:=zhd hmj;have d0:=one_cell hyj;clear hJj hyj hmj HJ1 HY1 c0;by_cases hlt:j<ll.length
  ·obtain ⟨b,off,eA,hbn,hcell⟩:=(row.below hbj).row (by omega)
   have hxs:ll.take (j+1)=ll.take j++[ll[j]]:=List.take_succ_eq_append_getElem hlt;have k0:wr.cell? ⟨b,off+j*6,none⟩=some (.int .u8 ll[j].kind):=hcell j hlt 0 _ rfl;have k1:wr.cell? ⟨b,off+j*6+1,none⟩=some (.string ll[j].name):=hcell j hlt 1 _ rfl;have k2:wr.cell? ⟨b,off+j*6+2,none⟩=some (.slice ll[j].es.at_ ll[j].exprs.length ll[j].es.cap):=hcell j hlt 2 _ rfl;have k3:wr.cell? ⟨b,off+j*6+3,none⟩=some (.int .i64 ll[j].bound):=hcell j hlt 3 _ rfl;have k4:wr.cell? ⟨b,off+j*6+4,none⟩=some (.slice ll[j].ts.at_ ll[j].thn.length ll[j].ts.cap):=hcell j hlt 4 _ rfl;have k5:wr.cell? ⟨b,off+j*6+5,none⟩=some (.slice ll[j].os.at_ ll[j].els.length ll[j].os.cap):=hcell j hlt 5 _ rfl;have HXS:=zhd hxs;have HQX:=zhd (HQ.out _ (List.getElem_mem hlt));generalize ll[j]=s at *;have hj0:(0:Int)≤(j:Int):=by omega
   have hjm:(j:Int)+1≤9223372036854775807:=by omega
   have hj1:(j:Int)<(ll.length:Int):=by omega
   have EA:=zhd eA;clear hcell hxs;rw [eA];clear eA;have hba:=zba wr (.cells #[.int .u8 s.kind,.string s.name,.slice s.es.at_ s.exprs.length s.es.cap,.int .i64 s.bound,.slice s.ts.at_ s.thn.length s.ts.cap,.slice s.os.at_ s.els.length s.os.cap] 43);obtain ⟨fn,tmps,assign,body,hy,hR⟩:=HY.out ((ll.take j).flatMap aa.pre) s (wr.alloc (.cells #[.int .u8 s.kind,.string s.name,.slice s.es.at_ s.exprs.length s.es.cap,.int .i64 s.bound,.slice s.ts.at_ s.thn.length s.ts.cap,.slice s.os.at_ s.els.length s.os.cap] 43)) (hJ.alloc _ HJJ.out) (by
    have h1:ll.take (j+1) <+: ll:=List.take_prefix _ _;obtain ⟨r,hr⟩:=h1
    conv=>rhs;rw [←hr,HXS.out]
    simp only [List.flatMap_append,List.length_append,List.flatMap_cons,aa.pre_eq s,List.length_cons];omega) (by
    obtain ⟨r,hr⟩:ll.take (j+1) <+: ll:=List.take_prefix _ _;refine ⟨s.thn.flatMap aa.pre++s.els.flatMap aa.pre++r.flatMap aa.pre,?_⟩
    conv=>rhs;rw [←hr,HXS.out]
    simp [List.flatMap_append,aa.pre_eq s,List.append_assoc])
   dsimp only [aa.val,Sp.val] at hy
   gi_wp2
   refine ⟨fun h=>by (cases h),hR.mono ?_⟩;have hs1:=zan wr (.cells #[.int .u8 s.kind,.string s.name,.slice s.es.at_ s.exprs.length s.es.cap,.int .i64 s.bound,.slice s.ts.at_ s.thn.length s.ts.cap,.slice s.os.at_ s.els.length s.os.cap] 43);have hyb:=(hba.block W.heap.size hszj).trans HYJ.out;have hMb:bz W.heap.size ds (wr.alloc (.cells #[.int .u8 s.kind,.string s.name,.slice s.es.at_ s.exprs.length s.es.cap,.int .i64 s.bound,.slice s.ts.at_ s.thn.length s.ts.cap,.slice s.os.at_ s.els.length s.os.cap] 43)):=HMJ.out.keeps (fun D _ hD=>(hba.block D (zgs hD).1).trans hD);have hb0a:=hbj.trans (hba.mono (by omega));have hsa:=hba.size;have hE:=fun (sp':Sp) (n':Nat) (w':World)=>rT sp' n' w'
   simp only [Sp.val] at hE;have HE:=zhd hE;clear hR hy k0 k1 k2 k3 k4 k5 d0 hE;generalize wr.alloc (.cells #[.int .u8 s.kind,.string s.name,.slice s.es.at_ s.exprs.length s.es.cap,.int .i64 s.bound,.slice s.ts.at_ s.thn.length s.ts.cap,.slice s.os.at_ s.els.length s.os.cap] 43)=wa at *;rintro o3 W3 (⟨rfl,hJ3,hk3,hb3⟩ | ⟨rfl,hJ3,hk3⟩)
   ·have hS3:=hk3.cells _ _ _ _ hs1 rfl
    have HY3:=zhd (hk3.cells _ _ _ _ hyb rfl);have HM3:=zhd (hMb.keeps (fun D hB hD=>hk3.same D _ hB hD rfl));have hb03:=hb0a.trans hb3;have hsz3:=hk3.size;have HJ3:=zhd hJ3;obtain ⟨q0,q1,q2,q3,q4,q5⟩:=ag hS3;clear hS3 hJ3 hs1 hyb hMb hk3 hb3 hb0a
    gi_wp2
    refine wpIn_loop (fun a wr2=>∃(i:Nat) (u6 u7 u24 u25 u26 u27 u29 u30 u31 u32 u33:Value) (ds2:List Deferred),a={ tmps:=#[.func (.yield l) #[] #[],.pointer (some ⟨Bs,0,none⟩),.pointer (some ⟨W.heap.size,0,none⟩),undef,.pointer (some ⟨wr.heap.size,0,none⟩),undef,u6,u7,.slice (some ⟨b,off,none⟩) ll.length sp.cap,.int .i64 ll.length,.int .i64 j,.bool true,.pointer (some ⟨b,off+j*6,none⟩),.agg #[.int .u8 s.kind,.string s.name,.slice s.es.at_ s.exprs.length s.es.cap,.int .i64 s.bound,.slice s.ts.at_ s.thn.length s.ts.cap,.slice s.os.at_ s.els.length s.os.cap],.func (.yield l) #[] #[],.agg #[.int .u8 s.kind,.string s.name,.slice s.es.at_ s.exprs.length s.es.cap,.int .i64 s.bound,.slice s.ts.at_ s.thn.length s.ts.cap,.slice s.os.at_ s.els.length s.os.cap],.bool true,.bool false,.pointer (some ⟨wr.heap.size,4,none⟩),.slice s.ts.at_ s.thn.length s.ts.cap,.pointer (some ⟨wr.heap.size,5,none⟩),.slice s.os.at_ s.els.length s.os.cap,.agg #[.slice s.ts.at_ s.thn.length s.ts.cap,.slice s.os.at_ s.els.length s.os.cap],.int .i64 i,u24,u25,u26,u27,undef,u29,u30,u31,u32,u33,u34],defers:=ds2 } ∧
      i≤2∧J ((ll.take j).flatMap aa.pre++[s]++gG s i) wr2∧Below n₀ W0 wr2∧W.heap.size<wr2.heap.size∧wr2.heap[W.heap.size]? = some (.cells #[.func (.yield l) #[] #[]] 58 (0,0))∧bz W.heap.size ds2 wr2)
      (fun a _=>2 - (intOf (a.tmps.getD 23 undef)).toNat) ?atStart ?round
    case atStart=>exact ⟨0,_,_,_,_,_,_,_,_,_,_,_,ds,rfl,by omega,by simpa [gG] using HJ3.out,hb03,by omega,HY3.out,HM3.out⟩
    case round =>
     rintro a wr2 ⟨i,u6,u7,u24,u25,u26,u27,u29,u30,u31,u32,u33,ds2,rfl,hi,hJ2,hb2,hsz2,hy2,hm2⟩;have HJ2:=zhd hJ2;have HY2:=zhd hy2;have HM2:=zhd hm2;clear hJ2 hy2 hm2 HJ3 HY3 HM3 q0 q1 q2 q3 q4 q5;rcases (show i=0∨i=1∨i=2 by omega) with rfl | rfl | rfl
     ·have hix:=Dc s.ts s.os s.thn.length s.els.length
      gi_wp2_with (refine ⟨trivial,fun h=>(by cases h),?_⟩;gi_at_call 109;refine (callsIn_wide.2 (HE.out s.ts s.thn.length _)).mono ?_;rintro o4 w4 ⟨rfl,rfl⟩)
      have hbw5:=zba wr2 (.cells #[.slice s.ts.at_ s.thn.length s.ts.cap] 33);have hB5:=zan wr2 (.cells #[.slice s.ts.at_ s.thn.length s.ts.cap] 33);have hJ5:J ((ll.take j).flatMap aa.pre++[s]++gG s 0) (wr2.alloc (.cells #[.slice s.ts.at_ s.thn.length s.ts.cap] 33)):=hJ.alloc _ HJ2.out;generalize wr2.alloc (.cells #[.slice s.ts.at_ s.thn.length s.ts.cap] 33)=w5 at *;have hs5:=hbw5.size;have hb5:Below n₀ W0 w5:=hb2.trans (hbw5.mono (by omega));have hY5:=(hbw5.block W.heap.size hsz2).trans HY2.out;have hM5:bz W.heap.size ds2 w5:=HM2.out.keeps (fun D _ hD=>(hbw5.block D (zgs hD).1).trans hD);have HLT:Hid (∀d∈ds2,∀D,d.target=.collected D→D<w5.heap.size):=zhd fun d hd D hD=>by
       obtain ⟨D',e',hlt'⟩:=hM5.lt d hd;rw [hD] at e';cases e'
       exact hlt'
      have hall:∃r,ll.flatMap aa.pre=((ll.take j).flatMap aa.pre++[s]++gG s 0)++(s.thn.flatMap aa.pre++r):=by
       obtain ⟨r,hr⟩:ll.take (j+1) <+: ll:=List.take_prefix _ _;refine ⟨s.els.flatMap aa.pre++r.flatMap aa.pre,?_⟩
       conv=>lhs;rw [←hr,HXS.out]
       simp only [List.flatMap_append,List.flatMap_cons,List.flatMap_nil,aa.pre_eq s,gG];simp [List.append_assoc]
      have hxl:(s.thn.flatMap aa.pre).length+((ll.take j).flatMap aa.pre++[s]++gG s 0).length≤(ll.flatMap aa.pre).length:=by
       obtain ⟨r,hr⟩:=hall;rw [hr];simp only [List.length_append];omega
      have hpfx:∀pre,pre <+: s.thn.flatMap aa.pre→((ll.take j).flatMap aa.pre++[s]++gG s 0)++pre <+: ll.flatMap aa.pre:=by
       intro pre hpre;obtain ⟨r,hr⟩:=hall;obtain ⟨r1,hr1⟩:=hpre;exact ⟨r1++r,by rw [hr,←hr1];simp [List.append_assoc]⟩
      clear hall;refine bi (T:=TT) rfl (fun h=>by cases h) (gf:=169) (lb:=#[.pointer (some ⟨wr2.heap.size,0,none⟩)]) rfl trivial (enters_of Tryz.func169 (by kernel_rfl) rfl)
       (HQX.out.1 (n - 1) w5 wr2.heap.size hb5 (by omega) hB5) (by omega) (Below.refl _ _) (fun _=>rfl)
       (fun pre W'=>(J (((ll.take j).flatMap aa.pre++[s]++gG s 0)++pre) W'∧W'.heap[W.heap.size]? = some (.cells #[.func (.yield l) #[] #[]] 58 (0,0))∧bz W.heap.size ds2 W')∧Below n₀ W0 W'∧w5.heap.size≤W'.heap.size)
       (fun c pre W'=>c=.ret∧Jx (((ll.take j).flatMap aa.pre++[s]++gG s 0)++pre) W'∧bz W.heap.size ds2 W')
       ?hI ?hIx ⟨⟨by simpa using hJ5,hY5,hM5⟩,hb5,Nat.le_refl _⟩
       (fun y a' W'=>∃by5,W'.heap[by5]? = some (.cells y.cells.toArray 43 (0,0))∧a'={ tmps:=#[.func (.yield l) #[] #[],.pointer (some ⟨Bs,0,none⟩),.pointer (some ⟨W.heap.size,0,none⟩),undef,.pointer (some ⟨wr.heap.size,0,none⟩),undef,.slice s.ts.at_ s.thn.length s.ts.cap,.pointer (some ⟨by5,0,none⟩),.slice (some ⟨b,off,none⟩) ll.length sp.cap,.int .i64 ll.length,.int .i64 j,.bool true,.pointer (some ⟨b,off+j*6,none⟩),.agg #[.int .u8 s.kind,.string s.name,.slice s.es.at_ s.exprs.length s.es.cap,.int .i64 s.bound,.slice s.ts.at_ s.thn.length s.ts.cap,.slice s.os.at_ s.els.length s.os.cap],.func (.yield l) #[] #[],.agg #[.int .u8 s.kind,.string s.name,.slice s.es.at_ s.exprs.length s.es.cap,.int .i64 s.bound,.slice s.ts.at_ s.thn.length s.ts.cap,.slice s.os.at_ s.els.length s.os.cap],.bool true,.bool false,.pointer (some ⟨wr.heap.size,4,none⟩),.slice s.ts.at_ s.thn.length s.ts.cap,.pointer (some ⟨wr.heap.size,5,none⟩),.slice s.os.at_ s.els.length s.os.cap,.agg #[.slice s.ts.at_ s.thn.length s.ts.cap,.slice s.os.at_ s.els.length s.os.cap],.int .i64 0,.bool true,.slice s.ts.at_ s.thn.length s.ts.cap,.slice s.ts.at_ s.thn.length s.ts.cap,.func (.func 169) #[] #[.pointer (some ⟨wr2.heap.size,0,none⟩)],y.val,u29,u30,u31,u32,u33,u34],defers:=[] })
       ?hAx ?assign ?body ?done ?stop
      case hI =>
       rintro s' X Y rw ⟨⟨h1,h2,h3⟩,h4,h5⟩ hg hr;refine ⟨⟨vT hJ (by omega) _ X Y rw h1 hg hr,(hg.block W.heap.size (by omega) (fun e'=>by have:=(hr _ e'.symm).1;omega)).trans h2,h3.keepsIn (fun d hd D hD _ hX=>(hg.block D (zgs hX).1 (fun e'=>?_)).trans hX)⟩,h4.grown hg (by omega) (fun q hq=>by have:=(hr q hq).1;omega),Nat.le_trans h5 hg.size⟩;have h6:=(hr _ e'.symm).1;have h7:=HLT.out d hd D hD;omega
      case hIx =>
       rintro c s' X Y rw ⟨hc,h1,h3⟩ hg hr;refine ⟨hc,vT hJx (by omega) _ X Y rw h1 hg hr,h3.keepsIn (fun d hd D hD _ hX=>(hg.block D (zgs hX).1 (fun e'=>?_)).trans hX)⟩;have h6:=(hr _ e'.symm).1;have h7:=HLT.out d hd D hD;omega
      case hAx =>
       rintro y a' _ X Y rw ⟨by5,h1,h2⟩ hg hr;refine ⟨by5,(hg.block by5 (zgs h1).1 (fun e'=>?_)).trans h1,h2⟩;obtain ⟨_,o',ho,hc⟩:=hr by5 e'.symm;rw [h1] at ho;cases ho
       cases hc
      case assign =>
       rintro l2 pre y Wc K ⟨⟨h1,h2,h3⟩,h4,h5⟩ hK;have H1:=zhd h1;have H2:=zhd h2;have H3:=zhd h3;clear h1 h2 h3;simp only [aa.val,Sp.val] at hK ⊢
       gi_wp2
       have hba:=zba Wc (.cells #[.int .u8 y.kind,.string y.name,.slice y.es.at_ y.exprs.length y.es.cap,.int .i64 y.bound,.slice y.ts.at_ y.thn.length y.ts.cap,.slice y.os.at_ y.els.length y.os.cap] 43);exact hK _ _ (ax.of_below hba) (hba.mono (by omega)) ⟨⟨hJ.alloc _ H1.out,(hba.block W.heap.size (by omega)).trans H2.out,H3.out.keeps (fun D _ hD=>(hba.block D (zgs hD).1).trans hD)⟩,h4.trans (hba.mono (by omega)),by have:=hba.size;omega⟩ ⟨_,zan _ _,rfl⟩
      case body =>
       rintro l2 pre y a' Wc hl2 ⟨⟨h1,h2,h3⟩,h4,h5⟩ ⟨by5,hby,rfl⟩ hlen hsp;simp only [aa.cells,Sp.val] at hby
       have d0:=one_cell h2;obtain ⟨q0,q1,q2,q3,q4,q5⟩:=ag hby
       obtain ⟨fn2,tmps2,assign2,body2,hy,hR⟩:=HY.out _ y Wc h1 (by rw [List.length_append];omega) (by rw [List.append_assoc];exact hpfx _ hsp)
       dsimp only [aa.val,Sp.val] at hy
       have H1:=zhd h1;have H2:=zhd h2;have H3:=zhd h3;clear h1 h2 h3 hby
       simp only [aa.val,Sp.val]
       gi_wp2
       refine ⟨fun h=>by (cases h),(wm _ _ hR).mono ?_⟩;clear hR hy;rintro o6 W6 (⟨rfl,hJ6,hk6,hb6⟩ | ⟨rfl,hJ6,hk6⟩)
       ·have HJ6:=zhd hJ6
        clear hJ6
        gi_wp2
        exact ⟨hk6.up (by omega),hb6,⟨by rw [←List.append_assoc];exact HJ6.out,hk6.cells _ _ _ _ H2.out rfl,H3.out.keeps (fun D hB hD=>hk6.same D _ hB hD rfl)⟩,h4.trans hb6,Nat.le_trans h5 hk6.size⟩
       ·have HJ6:=zhd hJ6
        clear hJ6
        gi_wp2
        exact ⟨hk6.up (by omega),rfl,by rw [←List.append_assoc];exact HJ6.out,H3.out.keeps (fun D hB hD=>hk6.same D _ hB hD rfl)⟩
      case done =>
       rintro Dq ys Wd hD rfl ⟨⟨h1,h2,h3⟩,h4,h5⟩ hK;have H1:=zhd h1;have H2:=zhd h2;have H3:=zhd h3;have HKq:=zhd hK;clear h1 h2 h3 hK
       gi_wp2
       refine ⟨⟨1,_,_,_,_,_,_,_,_,_,_,_,{ target:=.collected Dq,args:=#[] }::ds2,rfl,by omega,?_,h4,by omega,H2.out,Dq,rfl,by omega,HKq.out,fun d' hd' e'=>by have:=HLT.out d' hd' Dq e';omega,H3.out⟩,by simp [intOf]⟩;rw [ve s 0 (by omega),←List.append_assoc];exact H1.out
      case stop =>
       rintro Dq c pre Wd hD hp ⟨rfl,h1,h3⟩ hK;have H1:=zhd h1;have H3:=zhd h3;have HKq:=zhd hK;clear h1 h3 hK
       gi_wp2
       refine fM (B:=W.heap.size) (fun W'=>Jx (((ll.take j).flatMap aa.pre++[s]++gG s 0)++pre) W') (fun W' l' o' o'' h hB hl hc=>hJx.putObj o'' h hB hl hc) (fun W' h=>⟨_,results_none rfl _ _ _,⟨_,rfl⟩,.inr ⟨_,hpfx pre hp,h⟩⟩) _ Wd ⟨Dq,rfl,by omega,HKq.out,fun d' hd' e'=>by have:=HLT.out d' hd' Dq e';omega,H3.out⟩ H1.out
     ·have hix:=De s.ts s.os s.thn.length s.els.length
      gi_wp2_with (refine ⟨trivial,fun h=>(by cases h),?_⟩;gi_at_call 109;refine (callsIn_wide.2 (HE.out s.os s.els.length _)).mono ?_;rintro o4 w4 ⟨rfl,rfl⟩)
      have hbw5:=zba wr2 (.cells #[.slice s.os.at_ s.els.length s.os.cap] 33);have hB5:=zan wr2 (.cells #[.slice s.os.at_ s.els.length s.os.cap] 33);have hJ5:J ((ll.take j).flatMap aa.pre++[s]++gG s 1) (wr2.alloc (.cells #[.slice s.os.at_ s.els.length s.os.cap] 33)):=hJ.alloc _ HJ2.out;generalize wr2.alloc (.cells #[.slice s.os.at_ s.els.length s.os.cap] 33)=w5 at *;have hs5:=hbw5.size;have hb5:Below n₀ W0 w5:=hb2.trans (hbw5.mono (by omega));have hY5:=(hbw5.block W.heap.size hsz2).trans HY2.out;have hM5:bz W.heap.size ds2 w5:=HM2.out.keeps (fun D _ hD=>(hbw5.block D (zgs hD).1).trans hD);have HLT:Hid (∀d∈ds2,∀D,d.target=.collected D→D<w5.heap.size):=zhd fun d hd D hD=>by
       obtain ⟨D',e',hlt'⟩:=hM5.lt d hd;rw [hD] at e';cases e'
       exact hlt'
      have hall:∃r,ll.flatMap aa.pre=((ll.take j).flatMap aa.pre++[s]++gG s 1)++(s.els.flatMap aa.pre++r):=by
       obtain ⟨r,hr⟩:ll.take (j+1) <+: ll:=List.take_prefix _ _;refine ⟨r.flatMap aa.pre,?_⟩
       conv=>lhs;rw [←hr,HXS.out]
       simp only [List.flatMap_append,List.flatMap_cons,List.flatMap_nil,aa.pre_eq s,gG];simp [List.append_assoc]
      have hxl:(s.els.flatMap aa.pre).length+((ll.take j).flatMap aa.pre++[s]++gG s 1).length≤(ll.flatMap aa.pre).length:=by
       obtain ⟨r,hr⟩:=hall;rw [hr];simp only [List.length_append];omega
      have hpfx:∀pre,pre <+: s.els.flatMap aa.pre→((ll.take j).flatMap aa.pre++[s]++gG s 1)++pre <+: ll.flatMap aa.pre:=by
       intro pre hpre;obtain ⟨r,hr⟩:=hall;obtain ⟨r1,hr1⟩:=hpre;exact ⟨r1++r,by rw [hr,←hr1];simp [List.append_assoc]⟩
      clear hall;refine bi (T:=TT) rfl (fun h=>by cases h) (gf:=169) (lb:=#[.pointer (some ⟨wr2.heap.size,0,none⟩)]) rfl trivial (enters_of Tryz.func169 (by kernel_rfl) rfl)
       (HQX.out.2 (n - 1) w5 wr2.heap.size hb5 (by omega) hB5) (by omega) (Below.refl _ _) (fun _=>rfl)
       (fun pre W'=>(J (((ll.take j).flatMap aa.pre++[s]++gG s 1)++pre) W'∧W'.heap[W.heap.size]? = some (.cells #[.func (.yield l) #[] #[]] 58 (0,0))∧bz W.heap.size ds2 W')∧Below n₀ W0 W'∧w5.heap.size≤W'.heap.size)
       (fun c pre W'=>c=.ret∧Jx (((ll.take j).flatMap aa.pre++[s]++gG s 1)++pre) W'∧bz W.heap.size ds2 W')
       ?hI ?hIx ⟨⟨by simpa using hJ5,hY5,hM5⟩,hb5,Nat.le_refl _⟩
       (fun y a' W'=>∃by5,W'.heap[by5]? = some (.cells y.cells.toArray 43 (0,0))∧a'={ tmps:=#[.func (.yield l) #[] #[],.pointer (some ⟨Bs,0,none⟩),.pointer (some ⟨W.heap.size,0,none⟩),undef,.pointer (some ⟨wr.heap.size,0,none⟩),undef,.slice s.os.at_ s.els.length s.os.cap,.pointer (some ⟨by5,0,none⟩),.slice (some ⟨b,off,none⟩) ll.length sp.cap,.int .i64 ll.length,.int .i64 j,.bool true,.pointer (some ⟨b,off+j*6,none⟩),.agg #[.int .u8 s.kind,.string s.name,.slice s.es.at_ s.exprs.length s.es.cap,.int .i64 s.bound,.slice s.ts.at_ s.thn.length s.ts.cap,.slice s.os.at_ s.els.length s.os.cap],.func (.yield l) #[] #[],.agg #[.int .u8 s.kind,.string s.name,.slice s.es.at_ s.exprs.length s.es.cap,.int .i64 s.bound,.slice s.ts.at_ s.thn.length s.ts.cap,.slice s.os.at_ s.els.length s.os.cap],.bool true,.bool false,.pointer (some ⟨wr.heap.size,4,none⟩),.slice s.ts.at_ s.thn.length s.ts.cap,.pointer (some ⟨wr.heap.size,5,none⟩),.slice s.os.at_ s.els.length s.os.cap,.agg #[.slice s.ts.at_ s.thn.length s.ts.cap,.slice s.os.at_ s.els.length s.os.cap],.int .i64 1,.bool true,.slice s.os.at_ s.els.length s.os.cap,.slice s.os.at_ s.els.length s.os.cap,.func (.func 169) #[] #[.pointer (some ⟨wr2.heap.size,0,none⟩)],y.val,u29,u30,u31,u32,u33,u34],defers:=[] })
       ?hAx ?assign ?body ?done ?stop
      case hI =>
       rintro s' X Y rw ⟨⟨h1,h2,h3⟩,h4,h5⟩ hg hr;refine ⟨⟨vT hJ (by omega) _ X Y rw h1 hg hr,(hg.block W.heap.size (by omega) (fun e'=>by have:=(hr _ e'.symm).1;omega)).trans h2,h3.keepsIn (fun d hd D hD _ hX=>(hg.block D (zgs hX).1 (fun e'=>?_)).trans hX)⟩,h4.grown hg (by omega) (fun q hq=>by have:=(hr q hq).1;omega),Nat.le_trans h5 hg.size⟩;have h6:=(hr _ e'.symm).1;have h7:=HLT.out d hd D hD;omega
      case hIx =>
       rintro c s' X Y rw ⟨hc,h1,h3⟩ hg hr;refine ⟨hc,vT hJx (by omega) _ X Y rw h1 hg hr,h3.keepsIn (fun d hd D hD _ hX=>(hg.block D (zgs hX).1 (fun e'=>?_)).trans hX)⟩;have h6:=(hr _ e'.symm).1;have h7:=HLT.out d hd D hD;omega
      case hAx =>
       rintro y a' _ X Y rw ⟨by5,h1,h2⟩ hg hr;refine ⟨by5,(hg.block by5 (zgs h1).1 (fun e'=>?_)).trans h1,h2⟩;obtain ⟨_,o',ho,hc⟩:=hr by5 e'.symm;rw [h1] at ho;cases ho
       cases hc
      case assign =>
       rintro l2 pre y Wc K ⟨⟨h1,h2,h3⟩,h4,h5⟩ hK;have H1:=zhd h1;have H2:=zhd h2;have H3:=zhd h3;clear h1 h2 h3;simp only [aa.val,Sp.val] at hK ⊢
       gi_wp2
       have hba:=zba Wc (.cells #[.int .u8 y.kind,.string y.name,.slice y.es.at_ y.exprs.length y.es.cap,.int .i64 y.bound,.slice y.ts.at_ y.thn.length y.ts.cap,.slice y.os.at_ y.els.length y.os.cap] 43);exact hK _ _ (ax.of_below hba) (hba.mono (by omega)) ⟨⟨hJ.alloc _ H1.out,(hba.block W.heap.size (by omega)).trans H2.out,H3.out.keeps (fun D _ hD=>(hba.block D (zgs hD).1).trans hD)⟩,h4.trans (hba.mono (by omega)),by have:=hba.size;omega⟩ ⟨_,zan _ _,rfl⟩
      case body =>
       rintro l2 pre y a' Wc hl2 ⟨⟨h1,h2,h3⟩,h4,h5⟩ ⟨by5,hby,rfl⟩ hlen hsp;simp only [aa.cells,Sp.val] at hby
       have d0:=one_cell h2;obtain ⟨q0,q1,q2,q3,q4,q5⟩:=ag hby
       obtain ⟨fn2,tmps2,assign2,body2,hy,hR⟩:=HY.out _ y Wc h1 (by rw [List.length_append];omega) (by rw [List.append_assoc];exact hpfx _ hsp)
       dsimp only [aa.val,Sp.val] at hy
       have H1:=zhd h1;have H2:=zhd h2;have H3:=zhd h3;clear h1 h2 h3 hby
       simp only [aa.val,Sp.val]
       gi_wp2
       refine ⟨fun h=>by (cases h),(wm _ _ hR).mono ?_⟩;clear hR hy;rintro o6 W6 (⟨rfl,hJ6,hk6,hb6⟩ | ⟨rfl,hJ6,hk6⟩)
       ·have HJ6:=zhd hJ6
        clear hJ6
        gi_wp2
        exact ⟨hk6.up (by omega),hb6,⟨by rw [←List.append_assoc];exact HJ6.out,hk6.cells _ _ _ _ H2.out rfl,H3.out.keeps (fun D hB hD=>hk6.same D _ hB hD rfl)⟩,h4.trans hb6,Nat.le_trans h5 hk6.size⟩
       ·have HJ6:=zhd hJ6
        clear hJ6
        gi_wp2
        exact ⟨hk6.up (by omega),rfl,by rw [←List.append_assoc];exact HJ6.out,H3.out.keeps (fun D hB hD=>hk6.same D _ hB hD rfl)⟩
      case done =>
       rintro Dq ys Wd hD rfl ⟨⟨h1,h2,h3⟩,h4,h5⟩ hK;have H1:=zhd h1;have H2:=zhd h2;have H3:=zhd h3;have HKq:=zhd hK;clear h1 h2 h3 hK
       gi_wp2
       refine ⟨⟨2,_,_,_,_,_,_,_,_,_,_,_,{ target:=.collected Dq,args:=#[] }::ds2,rfl,by omega,?_,h4,by omega,H2.out,Dq,rfl,by omega,HKq.out,fun d' hd' e'=>by have:=HLT.out d' hd' Dq e';omega,H3.out⟩,by simp [intOf]⟩;rw [ve s 1 (by omega),←List.append_assoc];exact H1.out
      case stop =>
       rintro Dq c pre Wd hD hp ⟨rfl,h1,h3⟩ hK;have H1:=zhd h1;have H3:=zhd h3;have HKq:=zhd hK;clear h1 h3 hK
       gi_wp2
       refine fM (B:=W.heap.size) (fun W'=>Jx (((ll.take j).flatMap aa.pre++[s]++gG s 1)++pre) W') (fun W' l' o' o'' h hB hl hc=>hJx.putObj o'' h hB hl hc) (fun W' h=>⟨_,results_none rfl _ _ _,⟨_,rfl⟩,.inr ⟨_,hpfx pre hp,h⟩⟩) _ Wd ⟨Dq,rfl,by omega,HKq.out,fun d' hd' e'=>by have:=HLT.out d' hd' Dq e';omega,H3.out⟩ H1.out
     ·gi_wp2
      refine ⟨⟨j+1,_,_,_,_,_,_,_,_,_,_,_,_,_,_,_,_,_,_,_,_,_,_,_,_,_,_,ds2,rfl,by omega,?_,hb2,hsz2,HY2.out,HM2.out⟩,by simp [intOf];omega⟩;rw [HXS.out,List.flatMap_append];have:=HJ2.out
      simpa [gG,aa.pre_eq s,List.append_assoc] using this
   ·have HJ3:=zhd hJ3
    have HM3:=zhd (hMb.keeps (fun D hB hD=>hk3.same D _ hB hD rfl));clear hJ3 hs1 hyb hMb hk3 hb0a
    gi_wp2
    refine fM (B:=W.heap.size) (fun W'=>Jx ((ll.take j).flatMap aa.pre++[s]) W') (fun W' l' o' o'' h hB hl hc=>hJx.putObj o'' h hB hl hc) (fun W' h=>⟨_,results_none rfl _ _ _,⟨_,rfl⟩,.inr ⟨_,?_,h⟩⟩) ds W3 HM3.out HJ3.out;obtain ⟨r,hr⟩:ll.take (j+1) <+: ll:=List.take_prefix _ _;refine ⟨s.thn.flatMap aa.pre++s.els.flatMap aa.pre++r.flatMap aa.pre,?_⟩
    conv=>rhs;rw [←hr,HXS.out]
    simp [List.flatMap_append,aa.pre_eq s,List.append_assoc]
  ·obtain rfl:j=ll.length:=by omega
   gi_wp2
   refine fM (B:=W.heap.size) (fun W'=>J (ll.flatMap aa.pre) W') (fun W' l' o' o'' h hB hl hc=>hJ.putObj o'' h hB hl hc) (fun W' h=>⟨_,results_none rfl _ _ _,⟨_,rfl⟩,.inl ⟨_,rfl,h⟩⟩) ds wr HMJ.out ?_;have:=HJJ.out;rw [List.take_length] at this;exact this
theorem DV {n₀:Nat} {W0:World} {s:aa} (h:eu n₀ W0 s):Ew n₀ W0 s.ts s.thn∧Ew n₀ W0 s.os s.els:=by
 induction h with
 | mk s k b n er ex tr th orow el ih1 ih2=>exact ⟨oZ tr (fun t ht=>ih1 t ht),oZ orow (fun t ht=>ih2 t ht)⟩
theorem yD {n₀:Nat} {W0:World} {sp:Sp} {l:List aa} (h:bX n₀ W0 sp l):Ew n₀ W0 sp l:=oZ h.row (fun s hs=>DV (h.ok s hs))
end
end Go.Proofs.YtepacjkacjabbaaGreatDoor
