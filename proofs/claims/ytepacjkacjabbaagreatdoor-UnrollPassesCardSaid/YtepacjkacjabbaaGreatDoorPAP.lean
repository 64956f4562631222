import Derived.Test.YtepacjkacjabbaaGreatDoorPAA
import Derived.Test.YtepacjkacjabbaaGreatDoorPAO
import Derived.Test.YtepacjkacjabbaaGreatDoorPAC
import Derived.Deep.QuietTactic
import Derived.BigQuiet
import Derived.Deep.CutBlock
import Derived.Deep.CutRange
import Derived.Outline
import Derived.StillTail
import Derived.StillTactics
import Derived.OrdersIn
import Derived.TacticsIn
import Derived.Test.YtepacjkacjabbaaGreatDoorPAI
import Derived.BigRegion
namespace Go.Proofs.YtepacjkacjabbaaGreatDoor
section
open Go Go.RowKit
theorem xN (s:ByteArray):s.toList.isEmpty=decide (s=ByteArray.empty):=by
 rw [ByteArray.toList_eq];by_cases h:s=ByteArray.empty
 ·subst h;rfl
 ·rw [decide_eq_false h]
  cases hs:s.data.toList with
  | nil =>
   refine absurd ?_ h;have:s.data=#[]:=Array.toList_inj.1 hs;cases s
   simp at this;rw [this];rfl
  | cons a l=>rfl
theorem iq {a b:Bool} (h:a=b):Ending.returned (.bool a)=.returned (.bool b):=by rw [h]
theorem bL {B:Nat} {a w:World} (h:Below B a w) (n:Nat):Below B a (w.drewN n):=h.trans ⟨rfl,rfl,rfl,Nat.le_refl _,fun _ _=>rfl⟩
def rM (k op v wd:Int) (ne:Bool) (n:Int):Bool :=
 if k=1 then (decide (op=0) && ne && decide (n=0))
 else if k=2 then (decide (op=0) && decide (v=0) && decide (wd=0) && decide (n=0))
 else if k=3 then (decide (op=0) && decide (v=0) && decide (wd=0) && decide (n=1))
 else if k=4 then (decide (op=0) && decide (v=0) && decide (wd=0) && ne && decide (n=1))
 else if k=5 then (qp op && !om op && decide (v=0) && decide (wd=0) && ne && decide (n=1))
 else if k=6 then (om op && decide (v=0) && decide (wd=0) && ne && decide (n=2))
 else if k=7 then (decide (op=0) && decide (v=0) && decide (wd=0) && ne && decide (n=3))
 else if k=8 then (decide (op=0) && decide (v=0) && ne && decide (n=1))
 else false
theorem FQ (e:ae):jT e=rM e.kind e.op e.value e.width e.name.toList.isEmpty e.subs.length:=by
 unfold jT rM;rw [xN];have h0:∀c:Nat,((e.subs.length:Int)=(c:Int))↔e.subs.length=c:=fun c=>by omega
 have e0:=h0 0;have e1:=h0 1;have e2:=h0 2;have e3:=h0 3
 repeat' split
 all_goals first | rfl | (apply Bool.eq_iff_iff.2;simp [and_assoc];done) | (apply Bool.eq_iff_iff.2;simp [and_assoc];intros;omega)
set_option maxRecDepth 1000000 in
set_option maxHeartbeats 4000000 in
theorem FR (w:World) (e:ae) (oo:0≤e.op∧e.op≤255) (kk:0≤e.kind∧e.kind≤255) (hl:e.subs.length≤4398046511104):Calls Tryz.prog 258 #[e.val] w fun o w'=>o=.returned (.bool (jT e))∧Below w.heap.size w w':=by
 rw [FQ];simp only [ae.val,Sp.val];generalize e.subs.length=ln at *;have hln:(0:Int)≤(ln:Int):=by omega
 generalize e.name=nm at *;generalize e.sp=sp at *;generalize e.kind=k at *;generalize e.op=op at *;generalize e.value=v at *;generalize e.width=wd at *;have hsh:rM k op v wd nm.toList.isEmpty ln=rM k op v wd nm.toList.isEmpty ln:=rfl
 conv at hsh=>rhs;unfold rM
 generalize rM k op v wd nm.toList.isEmpty ln=res at *;have HSH:=zhd hsh;clear hsh;have hb1:=zba w (.cells #[.int .u8 k,.int .u8 op,.int .u32 v,.int .i64 wd,.string nm,.slice sp.at_ ln sp.cap] 30);have hB:=zan w (.cells #[.int .u8 k,.int .u8 op,.int .u32 v,.int .i64 wd,.string nm,.slice sp.at_ ln sp.cap] 30);have HB1:=zhd hb1;have HB:=zhd hB;clear hb1 hB;go_enter Tryz.func258,Tryz.ntmps258
 go_upto_region 1 with (fail)
 generalize w.alloc (.cells #[.int .u8 k,.int .u8 op,.int .u32 v,.int .i64 wd,.string nm,.slice sp.at_ ln sp.cap] 30)=W2 at *;obtain ⟨c0,c1,c2,c3,c4,c5⟩:=ag HB.out
 go_quiet (fail)
 rcases (show k=1∨k=8∨k=2∨k=3∨k=4∨k=5∨k=6∨k=7∨(k≠1∧k≠8∧k≠2∧k≠3∧k≠4∧k≠5∧k≠6∧k≠7) by omega) with hkd | hkd | hkd | hkd | hkd | hkd | hkd | hkd | hkd
 case inl =>
  subst hkd
  go_wp2
  all_goals (go_ret;exact ⟨iq (by rw [HSH.out];simp_all <;> (apply Bool.eq_iff_iff.2;simp only [beq_iff_eq,decide_eq_true_eq];try omega)),bL HB1.out _⟩)
 case inr.inl =>
  subst hkd
  go_wp2
  all_goals (go_ret;exact ⟨iq (by rw [HSH.out];simp_all <;> (apply Bool.eq_iff_iff.2;simp only [beq_iff_eq,decide_eq_true_eq];try omega)),bL HB1.out _⟩)
 case inr.inr.inl =>
  subst hkd
  go_wp2
  all_goals (go_ret;exact ⟨iq (by rw [HSH.out];simp_all <;> (apply Bool.eq_iff_iff.2;simp only [beq_iff_eq,decide_eq_true_eq];try omega)),bL HB1.out _⟩)
 case inr.inr.inr.inl =>
  subst hkd
  go_wp2
  all_goals (go_ret;exact ⟨iq (by rw [HSH.out];simp_all <;> (apply Bool.eq_iff_iff.2;simp only [beq_iff_eq,decide_eq_true_eq];try omega)),bL HB1.out _⟩)
 case inr.inr.inr.inr.inl =>
  subst hkd
  go_wp2
  all_goals (go_ret;exact ⟨iq (by rw [HSH.out];simp_all <;> (apply Bool.eq_iff_iff.2;simp only [beq_iff_eq,decide_eq_true_eq];try omega)),bL HB1.out _⟩)
 case inr.inr.inr.inr.inr.inr.inr.inl =>
  subst hkd
  go_wp2
  all_goals (go_ret;exact ⟨iq (by rw [HSH.out];simp_all <;> (apply Bool.eq_iff_iff.2;simp only [beq_iff_eq,decide_eq_true_eq];try omega)),bL HB1.out _⟩)
 case inr.inr.inr.inr.inr.inr.inr.inr =>
  obtain ⟨h1,h8,h2,h3,h4,h5,h6,h7⟩:=hkd;have g1:(k == 1)=false:=by simpa using h1
  have g2:(k == 2)=false:=by simpa using h2
  have g3:(k == 3)=false:=by simpa using h3
  have g4:(k == 4)=false:=by simpa using h4
  have g5:(k == 5)=false:=by simpa using h5
  have g6:(k == 6)=false:=by simpa using h6
  have g7:(k == 7)=false:=by simpa using h7
  have g8:(k == 8)=false:=by simpa using h8
  have hres:res=false:=by rw [HSH.out];simp [*]
  clear h1 h2 h3 h4 h5 h6 h7 h8;subst hres
  go_wp2
  go_ret
  exact ⟨rfl,bL HB1.out _⟩
 case inr.inr.inr.inr.inr.inl =>
  subst hkd;obtain ⟨ko,hk⟩:∃ko:Nat,op=(ko:Int):=⟨op.toNat,by omega⟩;subst hk;have HN:=zhd (fun W=>vM ko (by omega) W);have HT:=zhd (fun W=>Er ko (by omega) W);have hE:=lF ko;generalize iK ko=s at *;cases ho:qp (ko:Int) with
  | false =>
   rw [ho] at hE;have hres:res=false:=by rw [HSH.out,ho];rfl
   subst hres;simp only [Bool.not_false] at hE;go_wp2_with (first
    | (go_at_call 273;refine (HN.out _).mono ?_;rintro o7 w7 ⟨rfl,hb7⟩;have HX7:=zhd (Below.trans (bL (Below.refl _ W2) nq) hb7);obtain ⟨z0,z1,z2,z3,z4,z5⟩:=ag ((HX7.out.block _ (zgs HB.out).1).trans HB.out);clear hb7)
    | fail)
   all_goals (go_ret;exact ⟨rfl,HB1.out.trans (HX7.out.mono HB1.out.size)⟩)
  | true =>
   rw [ho] at hE;simp only [Bool.not_true] at hE;have hE':(!s.toList.isEmpty)=true:=by rw [hE];rfl
   cases ht:om (ko:Int)
   all_goals
    simp only [ht] at HT;have HSH2:=zhd (HSH.out.trans (by rw [ho,ht]));clear HSH;go_wp2_with (first
     | (go_at_call 273;refine (HN.out _).mono ?_;rintro o7 w7 ⟨rfl,hb7⟩;have HX7:=zhd (Below.trans (bL (Below.refl _ W2) nq) hb7);obtain ⟨z0,z1,z2,z3,z4,z5⟩:=ag ((HX7.out.block _ (zgs HB.out).1).trans HB.out);clear hb7)
     | (go_at_call 274;refine (HT.out _).mono ?_;rintro o8 w8 ⟨rfl,hb8⟩;have HX8:=zhd (Below.trans HX7.out (hb8.mono HX7.out.size));obtain ⟨y0,y1,y2,y3,y4,y5⟩:=ag ((HX8.out.block _ (zgs HB.out).1).trans HB.out);clear hb8 z1 z5)
     | fail)
    all_goals (go_ret;exact ⟨iq (by rw [HSH2.out];simp_all <;> (apply Bool.eq_iff_iff.2;simp only [beq_iff_eq,decide_eq_true_eq];try omega)),HB1.out.trans (HX8.out.mono HB1.out.size)⟩)
 case inr.inr.inr.inr.inr.inr.inl =>
  subst hkd;obtain ⟨ko,hk⟩:∃ko:Nat,op=(ko:Int):=⟨op.toNat,by omega⟩;subst hk;have HT:=zhd (fun W=>Er ko (by omega) W);cases ht:om (ko:Int)
  all_goals
   simp only [ht] at HT;have HSH2:=zhd (HSH.out.trans (by rw [ht]));clear HSH;go_wp2_with (first
    | (go_at_call 274;refine (HT.out _).mono ?_;rintro o8 w8 ⟨rfl,hb8⟩;have HX8:=zhd (Below.trans (bL (Below.refl _ W2) nq) hb8);obtain ⟨y0,y1,y2,y3,y4,y5⟩:=ag ((HX8.out.block _ (zgs HB.out).1).trans HB.out);clear hb8)
    | fail)
   all_goals (go_ret;exact ⟨iq (by rw [HSH2.out];simp_all <;> (apply Bool.eq_iff_iff.2;simp only [beq_iff_eq,decide_eq_true_eq];try omega)),HB1.out.trans (HX8.out.mono HB1.out.size)⟩)
end
section
open Go
section
variable {n:Nat} {P:Program} {ops:Array Oper} {md:Region.Mode} {w:World}
theorem xq {o:Oper} {a:Act} {K:Act→Prop} {K':Act→World→Prop} {Q':Exit→Act→World→Prop} (h:∀a,K a→K' a w) (hh:o.still P a w K):o.wpIn Fence.wide n P a w K' Q':=by
 unfold Oper.still at hh;refine ⟨fun _ _=>trivial,?_⟩;rw [show Fence.wide.round=none from rfl,Oper.semAt_none];generalize (execOp a.eval o).run P w=r at *;cases r with
 | ok m w' =>
  cases m <;> simp only [Oper.stillUpon] at hh <;> simp only [Oper.uponIn]
  case enter f args =>
   obtain ⟨rfl,v,hc,hn⟩:=hh;exact ⟨fun h=>(by cases h),callsIn_wide.2 (hc.mono fun e w'' ⟨he,hw⟩=>by subst he;subst hw;exact h _ hn)⟩
  all_goals (obtain ⟨rfl,h2⟩:=hh;exact h _ h2)
 | halt x w'=>simp only [Oper.stillUpon] at hh
theorem wP {i:Nat} {a:Act} {K:Act→Prop} {K':Act→World→Prop} {Q':Exit→Act→World→Prop} (h:∀a,K a→K' a w) (hh:stOp P ops w i K a):wpOpIn Fence.wide n P ops Q' i K' a w:=by
 unfold stOp at hh;unfold wpOpIn
 split
 ·rename_i ho;simp only [ho] at hh;exact h _ hh
 ·rename_i o ho
  simp only [ho] at hh
  split
  ·rename_i hw;simp only [hw,if_true] at hh;exact xq h hh
  ·rename_i hw;simp only [hw] at hh;exact ⟨fun _ _=>trivial,h _ hh⟩
theorem lX {m g:Nat} {L:Array Bool→Act→Prop} {Q':Exit→Act→World→Prop} (hL:∀listed a,L listed a→wpAnyIn Fence.wide n P md ops Q' g listed a w) :
  ∀(f:Nat) (listed:Array Bool) (a:Act),wpAnyL P md ops w m L f listed a→wpAnyIn Fence.wide n P md ops Q' (f+g) listed a w
 | 0,listed,a,h=>by rw [Nat.zero_add];exact hL _ _ h
 | f+1,listed,a,h=>by
  rw [show f+1+g=(f+g)+1 by omega];exact ⟨fun h0=>absurd h0 h.1,fun i hi=>wP (fun a' h'=>lX hL f _ a' h') (h.2 i hi).2⟩
theorem mU {Q':Exit→Act→World→Prop}:∀(l:List Oper) (k:Nat) (listed:Array Bool) (a:Act) (w:World),(∀j,l[j]? = ops[k+j]?) →
  Region.seqB md ops l.length k listed=true→wpListIn Fence.wide n P ops Q' l a w→wpAnyIn Fence.wide n P md ops Q' l.length listed a w
 | [],_,_,_,_,_,hB,h=>⟨by simpa [Region.seqB] using hB,h⟩
 | o::l,k,listed,a,w,hl,hB,h=>by
  have h0:ops[k]? = some o:=by simpa using (hl 0).symm
  simp only [List.length_cons,Region.seqB,Bool.and_eq_true,decide_eq_true_eq] at hB;refine ⟨fun h1=>(by rw [hB.1] at h1;cases h1),fun i hi=>?_⟩;rw [hB.1] at hi;have hik:i=k:=by simpa using hi
  subst hik;have hw:wpOpIn Fence.wide n P ops Q' i (wpListIn Fence.wide n P ops Q' l) a w:=by unfold wpOpIn;simp only [h0];exact h
  exact wpOpIn_mono (fun a' w' h'=>mU l (i+1) _ a' w' (fun j=>by have:=hl (j+1);simpa [Nat.add_assoc,Nat.add_comm 1 j] using this) hB.2 h') hw
theorem lS {id:Nat} {Q:Exit→Act→World→Prop} {a:Act} {w:World} {l:List Oper} (k:Nat) (hm:P.follows .mixedOrders=true) (hB:Region.lexTailB .any l.toArray k=true)
  (h:wpStill P l.toArray w.drew (fun a'=>wpListIn Fence.wide n P l.toArray Q (l.drop k) a' w.drew) (l.take k) a):(Code.region id l.toArray true).wpIn Fence.wide n P Q a w:=by
 simp only [Region.lexTailB,Bool.and_eq_true,decide_eq_true_eq] at hB;obtain ⟨⟨⟨⟨hsel,hn⟩,hs⟩,hc⟩,hlex⟩:=hB;have hn':k<l.length:=by simpa using hn
 have htl:(l.take k).length=k:=by simp;omega
 have hdl:(l.drop k).length=l.toArray.size - k:=by simp
 have inv0:HeadInv .any l.toArray k (Array.replicate l.toArray.size false) :=
  ⟨by simp,fun j oj _ hl=>(by rw [getD_replicate_false] at hl;cases hl),fun t _ ht=>getD_in (by simpa using ht) (getD_replicate_false _ _)⟩
 have H:=wpAnyL_lex (md:=.any) (g:=l.toArray.size - k) hsel hs hc hn (l.take k) 0 _ a (fun j hj=>by
  have hj':j<k:=by rw [htl] at hj;exact hj
  simp [hj']) (by simpa using htl) inv0 (by rw [htl];exact hlex) h
 refine wpIn_region_any hm ?_;have:=lX (n:=n) (Q':=Q) (g:=l.toArray.size - k) (fun listed a' hL=>by
  have:=mU (n:=n) (md:=.any) (Q':=Q) (l.drop k) k listed a' w.drew (fun j=>by simp [List.getElem?_drop]) (by rw [hdl];exact hL.1) hL.2
  rwa [hdl] at this) _ _ _ H
 rw [htl,show k+(l.toArray.size - k)=l.toArray.size by omega] at this;exact this
end
end
section
open Go Go.RowKit Go.Maps
attribute [local go_sem] Oper.semAt_some
def Gt (K:gp) (l:Nat) (J Jx:List (Int × Int)→World→Prop):Prop :=
 ∀pre (x:Int × Int) W1,J pre W1→pre.length<1000000→YieldAt Fence.wide 0 Tryz.prog l #[.agg #[.int .i64 x.1,.int .i64 x.2]] W1 fun e W' =>
  (e=.returned (.bool true)∧J (pre++[x]) W'∧ax TK K.B W1 W'∧Below K.n₀ W1 W')∨(e=.returned (.bool false)∧Jx (pre++[x]) W'∧ax TK K.B W1 W'∧Below K.n₀ W1 W')
theorem FP {K:gp} {pm:Option Nat} {E:Env} {n n':Int} {over:Bool} {W:World} (h:W.heap[K.q]? = some (.cells (K.cells pm E n over) 246 (0,0))) :
  (W.setCell ⟨K.q,26,none⟩ (.int .i64 n')).heap[K.q]? = some (.cells (K.cells pm E n' over) 246 (0,0)):=by
 simp [World.setCell,Array.getElem?_modify,h,gp.cells]
theorem IL {K:gp} {pm:Option Nat} {E:Env} {n:Int} {over over':Bool} {W:World} (h:W.heap[K.q]? = some (.cells (K.cells pm E n over) 246 (0,0))) :
  (W.setCell ⟨K.q,29,none⟩ (.bool over')).heap[K.q]? = some (.cells (K.cells pm E n over') 246 (0,0)):=by
 simp [World.setCell,Array.getElem?_modify,h,gp.cells]
theorem kg.keep {J Jx:List (Int × Int)→World→Prop} {cs:List Int} {over:Bool} {W W':World} (h:kg J Jx cs over W) (h1:∀l,J l W→J l W') (h2:∀l,Jx l W→Jx l W'):kg J Jx cs over W':=by
 rcases h with ⟨e,h⟩ | ⟨e,l,a,b,h⟩
 ·exact .inl ⟨e,h1 _ h⟩
 ·exact .inr ⟨e,l,a,b,h2 _ h⟩
theorem wH {K:gp} {J Jx:List (Int × Int)→World→Prop} (hJ:bN 246 K.B J) (hJx:bN 246 K.B Jx) {pm:Option Nat} {E:Env} {cs:List Int} {c:Int} {n:Int} {over:Bool} {W W2:World}
  (hk:bg K W W2) (h:jv K pm E n over W2) (hs:kg J Jx (cs++[c]) over W2):Told K J Jx pm E (cs++[c]) W (W2.setCell ⟨K.q,26,none⟩ (.int .i64 ((cs.length:Int)+1))):=by
 have hn:K.n₀≤K.q:=by have:=h.q;have:=h.n0;omega
 have hk2:bg K W2 (W2.setCell ⟨K.q,26,none⟩ (.int .i64 ((cs.length:Int)+1))):=.set h.box hn _;refine ⟨⟨over,?_,hs.keep (fun l hl=>hJ.cell _ hl h.q h.box) (fun l hl=>hJx.cell _ hl h.q h.box)⟩,hk.trans hk2⟩;have e:((cs++[c]).length:Int)=(cs.length:Int)+1:=by simp
 rw [e];exact h.stays hk2 (FP h.box)
theorem kg.quiet {J Jx:List (Int × Int)→World→Prop} {cs:List Int} {c:Int} {over:Bool} {W:World} (h:kg J Jx cs over W) (hc:c=0∨over=true):kg J Jx (cs++[c]) over W:=by
 rcases h with ⟨e,h⟩ | ⟨e,l,a,b,h⟩
 ·rcases hc with hc | hc
  ·exact .inl ⟨e,by rw [lK,if_pos hc,List.append_nil];exact h⟩
  ·rw [hc] at e;cases e
 ·exact .inr ⟨e,l,a,by rw [lK];exact b.trans (List.prefix_append _ _),h⟩
set_option maxRecDepth 1000000 in
set_option maxHeartbeats 1000000 in
theorem F8 (K:gp) (l:Nat) (hy:K.yv=.func (.yield l) #[] #[]) (J Jx:List (Int × Int)→World→Prop) (hJ:bN 246 K.B J) (hJx:bN 246 K.B Jx)
  (hY:Gt K l J Jx):j6 K J Jx:=by
 intro pm E cs W c hst hlen;obtain ⟨over,hk,hs⟩:=hst.ex;have HY:=zhd hY;clear hY hst;have c26:=hk.c26;have c28:=hk.c28;have c29:=hk.c29;have f26:=hk.frozen 26;have f29:=hk.frozen 29;rw [hy] at c28;have hb0:∀nq,Below W.heap.size W (W.drewN nq):=fun nq=>⟨rfl,rfl,rfl,Nat.le_refl _,fun _ _=>rfl⟩
 have hn:K.n₀≤W.heap.size:=by have:=hk.lt;have:=hk.q;have:=hk.n0;omega
 have HQ:Hid (∀nq,(c=0∨over=true)→Told K J Jx pm E (cs++[c]) W ((W.drewN nq).setCell ⟨K.q,26,none⟩ (.int .i64 ((cs.length:Int)+1)))) :=
  zhd fun nq hc=>wH hJ hJx (.of_below (hb0 nq) hn) (hk.new (hb0 nq)) ((hs.quiet hc).keep (fun l hl=>hJ.new hl (hb0 nq)) (fun l hl=>hJx.new hl (hb0 nq)))
 have HK:=zhd hk;have HS:=zhd hs;clear hk hs hb0 hn;by_cases hc:c=0
 ·subst hc
  clear hy;go_enter Tryz.func228,Tryz.ntmps228
  go_wp2
  go_quiet (fail)
  go_wp2
  go_returns
  exact ⟨rfl,HQ.out nq (by simp)⟩
 ·have h0:(c == 0)=false:=by simpa using hc
  have h1:(c != 0)=true:=by simpa using hc
  cases over with
  | true =>
   clear hy;go_enter Tryz.func228,Tryz.ntmps228
   go_wp2
   go_quiet (fail)
   go_wp2
   go_returns
   exact ⟨rfl,HQ.out nq (by simp)⟩
  | false =>
   have hn:K.n₀≤W.heap.size:=by have:=HK.out.lt;have:=HK.out.q;have:=HK.out.n0;omega
   have hbd:Below W.heap.size W W.drew:=(Below.refl _ _).drew;have hJ0:J (fq cs 0) W.drew:=by
    rcases HS.out with ⟨_,h⟩ | ⟨e,_⟩
    ·exact hJ.new h hbd
    ·cases e
   obtain ⟨fn,tmps,assign,body,hyl,hR⟩:=HY.out (fq cs 0) ((cs.length:Int),c) W.drew hJ0 (by have:=yx cs 0;omega);have HC:=zhd hc;have HBD:=zhd hbd;clear hy HQ hc hJ0 hbd;refine (callsIn_wide (n:=1)).1 ?_;refine callsIn_of_wp_marks Tryz.func228 rfl trivial ?_ rfl;simp only [Tryz.ntmps228,List.size_toArray,List.length_cons,List.length_nil,Nat.reduceAdd,Nat.reduceSub,Array.replicate_succ,Array.replicate_zero,List.push_toArray,List.append_toArray,List.nil_append,List.cons_append]
   gi_wp2
   refine lS 20 (by kernel_rfl) (by kernel_rfl) ?_;simp only [List.take_succ_cons,List.take_zero,List.drop_succ_cons,List.drop_zero]
   repeat still_step
   refine wpStill_nil ?_;clear c26 c28 c29 f26 f29
   gi_wp2
   refine hR.mono ?_;clear hR hyl;have hq:bg K W W.drew:=.of_below HBD.out hn;have hbox:=(HBD.out.block _ HK.out.lt).trans HK.out.box;rintro o3 W3 (⟨rfl,hJ3,hk3,hb3⟩ | ⟨rfl,hJ3,hk3,hb3⟩)
   ·have hq3:bg K W W3:=hq.trans (.of_keeps hk3 hb3)
    have hck:=HK.out.stays hq3 (hk3.cells _ _ _ _ hbox rfl);have c26:=hck.c26;have f26:=hck.frozen 26;have HE:=zhd (wH hJ hJx hq3 hck (.inl ⟨rfl,by rw [lK,if_neg HC.out];exact hJ3⟩:kg J Jx (cs++[c]) false W3));clear hq3 hck hJ3 hk3 hb3 hbox hq
    gi_wp2
    exact ⟨_,results_none rfl _ _ _,rfl,HE.out⟩
   ·have hq3:bg K W W3:=hq.trans (.of_keeps hk3 hb3)
    have hck:=HK.out.stays hq3 (hk3.cells _ _ _ _ hbox rfl);have f29:=hck.frozen 29;have c29:=hck.c29;have hn3:K.n₀≤K.q:=by have:=hck.q;have:=hck.n0;omega
    have hq4:bg K W (W3.setCell ⟨K.q,29,none⟩ (.bool true)):=hq3.trans (.set hck.box hn3 _);have hck4:=HK.out.stays hq4 (IL (over':=true) hck.box);have c26:=hck4.c26;have f26:=hck4.frozen 26;have HE:=zhd (wH hJ hJx hq4 hck4 (.inr ⟨rfl,_,by simp,by rw [lK,if_neg HC.out];exact List.prefix_refl _,hJx.cell _ hJ3 hck.q hck.box⟩:kg J Jx (cs++[c]) true _));clear hq3 hck hJ3 hk3 hb3 hbox hq hq4 hck4
    gi_wp2
    exact ⟨_,results_none rfl _ _ _,rfl,HE.out⟩
end
end Go.Proofs.YtepacjkacjabbaaGreatDoor
