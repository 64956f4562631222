import Derived.Test.YtepacjkacjabbaaGreatDoorPAA
import Derived.Test.YtepacjkacjabbaaGreatDoorPAE
import Derived.Maps.AppendAt
import Derived.RangeFuncBox
import Derived.Test.YtepacjkacjabbaaGreatDoorPAC
import Derived.Lib.SliceRun
import Derived.RegionTactic
import Derived.OwnWalk
namespace Go.Proofs.YtepacjkacjabbaaGreatDoor
section
open Go Go.RowKit
attribute [local go_sem] Oper.semAt_some
theorem toList_inj {s t:ByteArray} (h:s.toList=t.toList):s=t:=by
 rw [ByteArray.toList_eq,ByteArray.toList_eq] at h;have h2:s.data=t.data:=Array.toList_inj.1 h;cases s;cases t;simp at h2;rw [h2]
def Lu (W:World) (v:Value) (l:List ByteArray):Prop :=
 ∃A c,v=.slice A l.length c∧(0<l.length→∃b off,A=some ⟨b,off,.none⟩∧∀j (h:j<l.length),W.cell? ⟨b,off+j,.none⟩=some (.string l[j]))
theorem vX {W:World} {B:Nat} {v:Value} {l:List ByteArray} (h:W.ownsRow B 9 1 v l.length (l.map .string)):Lu W v l:=by
 rcases h.2 with ⟨rfl,h0⟩ | ⟨g,cap,cur,rfl,_⟩
 ·exact ⟨none,0,by rw [h0],fun h=>by omega⟩
 ·refine ⟨_,cap,rfl,fun _=>⟨g,0,rfl,fun j hj=>?_⟩⟩
  have:=h.cells (g:=g) rfl j (.string l[j]) (by simp [hj]);rw [Addr.add_lit] at this;exact this
set_option maxRecDepth 100000 in
theorem Db (w:World) (v:Value) (l:List ByteArray) (s:ByteArray) (hl:l.length≤1000000) (h:Lu w v l) :
  Calls Tryz.prog 143 #[v,.string s] w fun o w'=>(∃k:Int,-1≤k∧o=.returned (.int .i64 k)∧(0≤k↔gQ l s=true))∧w=w':=by
 obtain ⟨A,c,rfl,hc⟩:=h;go_enter Tryz.func143,Tryz.ntmps143
 go_wp2_with fail
 go_loopw [8] (fun i wr=>∃k:Nat,k≤l.length∧i=.int .i64 k∧Hid (∀j (h:j<l.length),j<k→l[j]≠s)∧w=wr) (fun i _=>l.length - (intOf i).toNat)
 case atStart=>exact ⟨0,Nat.zero_le _,rfl,zhd fun j _ h=>absurd h (Nat.not_lt_zero _),rfl⟩
 case round =>
  obtain ⟨k,hk,rfl,HNO,rfl⟩:=hrel;by_cases hlt:k<l.length
  ·obtain ⟨b,off,rfl,hcell⟩:=hc (by omega)
   have hk1:=hcell k hlt;have hx:∃x,l[k]=x:=⟨_,rfl⟩;obtain ⟨x,hx⟩:=hx;rw [hx] at hk1;have HX:=zhd hx;have HC:=zhd hcell;have hj0:(0:Int)≤(k:Int):=by omega
   have hj1:(k:Int)<(l.length:Int):=by omega
   clear hc hcell hx;by_cases he:s=x
   ·subst he
    have hfin:gQ l s=true:=by
     unfold gQ;rw [List.any_eq_true];exact ⟨l[k],List.getElem_mem hlt,by simp [HX.out]⟩
    have HF:=zhd hfin;clear hfin;go_wp2_with fail
    go_ret
    exact ⟨⟨k,by omega,rfl,by simp [HF.out]⟩,rfl⟩
   ·have hsx:(s.toList == x.toList)=false:=beq_eq_false_iff_ne.2 fun e=>he (toList_inj e)
    have HE:=zhd he;clear he;go_wp2_with fail
    go_roundw
    case rel=>exact ⟨k+1,by omega,by go_num,zhd fun j hj hjk=>by
     by_cases e:j=k
     ·subst e;rw [HX.out];exact fun e=>HE.out e.symm
     ·exact HNO.out j hj (by omega),trivial⟩
    case measure=>simp [intOf];omega
  ·obtain rfl:k=l.length:=by omega
   have hfin:gQ l s=false:=by
    unfold gQ;rw [List.any_eq_false];intro x hx;obtain ⟨j,hj,rfl⟩:=List.getElem_of_mem hx
    simpa using HNO.out j hj hj
   have HF:=zhd hfin;clear hfin;go_wp2_with fail
   go_ret
   exact ⟨⟨-1,by omega,rfl,by rw [HF.out];simp⟩,rfl⟩
theorem wV (w:World) (v:Value) (l:List ByteArray) (s:ByteArray) (hl:l.length≤1000000) (h:Lu w v l) :
  Calls Tryz.prog 75 #[v,.string s] w fun o w'=>o=.returned (.bool (gQ l s))∧w=w':=by
 have H:=zhd (Db w v l s hl h);obtain ⟨A,c,rfl,-⟩:=h;go_enter Tryz.func75,Tryz.ntmps75
 go_wp2_with (first | (go_at_call 143;refine H.out.mono ?_;rintro o2 w2 ⟨⟨k,hk1,rfl,hk⟩,rfl⟩;have HKK:=zhd hk;clear hk) | fail)
 go_ret
 exact ⟨by rw [show decide (0≤k)=gQ l s by rw [Bool.eq_iff_iff,decide_eq_true_iff];exact HKK.out];rfl,rfl⟩
theorem I5:(Tryz.prog.info? 9).map (fun i=>(i.zero,i.size,i.bytes))=some (some (.string ⟨#[]⟩),1,16):=by kernel_rfl
theorem jZ {P:Program} {e:TypeId} {z:Value} {s b:Nat} (h:(P.info? e).map (fun i=>(i.zero,i.size,i.bytes))=some (some z,s,b)):∃i,P.info? e=some i∧i.zero=some z∧i.size=s∧i.bytes=b:=by
 cases hi:P.info? e with
 | none=>rw [hi] at h;cases h
 | some i=>rw [hi] at h;simp at h;exact ⟨i,rfl,h.1,h.2.1,h.2.2⟩
theorem rC {w:World} {base n:Nat} {e:TypeId} {v:Value} {xs:List Value} (h:w.ownsRow base e 1 v n xs):∃A c,v=.slice A n c:=by
 rcases h.2 with ⟨rfl,h0⟩ | ⟨g,cap,cur,rfl,_⟩
 ·exact ⟨none,0,by rw [h0]⟩
 ·exact ⟨_,_,rfl⟩
theorem Je (w:World) (B:Nat) (v:Value) (l:List ByteArray) (s:ByteArray) (hl:l.length≤1000000) (hB:B≤w.heap.size) (h:w.ownsRow B 9 1 v l.length (l.map .string)) :
  Calls Tryz.prog 88 #[v,.string s] w fun o w'=>∃v',o=.returned v'∧w'.ownsRow B 9 1 v' (jq l s).length ((jq l s).map .string)∧w.grownBy w' v.ownBlock:=by
 have HC:=zhd (wV w v l s hl (vX h));obtain ⟨A,c,rfl⟩:=rC h;have HO:=zhd h;clear h;cases hh:gQ l s with
 | true =>
  have hw:jq l s=l:=by unfold jq;rw [if_pos hh]
  rw [hh] at HC;rw [hw];clear hh hw;go_enter Tryz.func88,Tryz.ntmps88
  go_wp2_with (first | (go_at_call 75;refine HC.out.mono ?_;rintro o2 w2 ⟨rfl,rfl⟩) | fail)
  go_ret
  exact ⟨_,rfl,HO.out,⟨rfl,rfl,rfl,Nat.le_refl _,fun _ _ _=>rfl⟩⟩
 | false =>
  have hw:jq l s=l++[s]:=by unfold jq;rw [if_neg (by rw [hh];simp)]
  rw [hh] at HC;rw [hw];clear hh hw;obtain ⟨i0,hi,hz0,hz1,hz2⟩:=jZ I5;have hcell:=cell_one_new w (.string s) 9;go_enter Tryz.func88,Tryz.ntmps88
  go_wp2_with (first | (go_at_call 75;refine HC.out.mono ?_;rintro o2 w2 ⟨rfl,rfl⟩) | (at_builtin;refine wpList_append_own_at _ rfl _ _ 40 rfl B 9 i0 (.string ⟨#[]⟩) 1 16 Tryz.underlying40 hi hz0 hz1 hz2 rfl (by decide) _ _ _ rfl (HO.out.alloc _) ⟨w.heap.size,0,none⟩ 1 1 [.string s] rfl rfl hcell (by simp [Value.oneCell']) (by simp only [maxLen];omega) (by omega) (by simp;omega) ?_;intro v' w2 hown2 hg2 _ _) | fail)
  go_ret
  exact ⟨_,rfl,by simpa using hown2,(World.grownBy_alloc w _ _).trans hg2⟩
def jY (l:List aa):List ByteArray:=l.foldl (fun out s=>if s.kind=8 then jq out s.name else out) []
theorem yV (l:List aa) (s:aa):jY (l++[s])=if s.kind=8 then jq (jY l) s.name else jY l:=by simp [jY]
theorem Am (l:List aa):(jY l).length≤l.length:=by
 have:=xD l []
 simpa [jY] using this
theorem Bd {T:TypeId→Bool} {B:Nat} {W W':World} {row:Option Nat} (h:W.grownBy W' row) (hr:∀r,row=some r→∃cs t fr,W.heap[r]? = some (.cells cs t fr)∧T t=false):ax T B W W':=by
 refine ⟨h.size,fun k o _ ho hc=>?_,fun k cs t fr hk ht=>?_⟩
 ·refine (h.block k (zgs ho).1 (fun e=>?_)).trans ho
  obtain ⟨cs,t,fr,h1,_⟩:=hr k e.symm;rw [h1] at ho;cases ho;cases hc
 ·refine (h.block k (zgs hk).1 (fun e=>?_)).trans hk
  obtain ⟨cs',t',fr',h1,h2⟩:=hr k e.symm;rw [h1] at hk;cases hk;rw [ht] at h2;cases h2
theorem iD {w:World} {base n:Nat} {e:TypeId} {v:Value} {xs:List Value} (h:w.ownsRow base e 1 v n xs):∀r,v.ownBlock=some r→base≤r∧∃cs,w.heap[r]? = some (.cells cs e (0,0)):=by
 intro r hr;rcases h.2 with ⟨rfl,_⟩ | ⟨g,cap,cur,rfl,hg,hh,_⟩
 ·cases hr
 ·cases hr;exact ⟨hg,cur,hh⟩
theorem uz {w w':World} {base n:Nat} {e:TypeId} {v:Value} {xs:List Value} (h:w.ownsRow base e 1 v n xs) (hk:∀g,v.ownBlock=some g→w'.heap[g]? = w.heap[g]?):w'.ownsRow base e 1 v n xs:=by
 refine ⟨h.1,?_⟩;rcases h.2 with hn | ⟨g,cap,cur,rfl,hb,hgg,rest⟩
 ·exact .inl hn
 ·exact .inr ⟨g,cap,cur,rfl,hb,(hk g rfl).trans hgg,rest⟩
theorem below_grown {B:Nat} {W W':World} {row:Option Nat} (h:W.grownBy W' row) (hB:B≤W.heap.size) (hr:∀r,row=some r→B≤r):Below B W W' :=
 ⟨h.os,h.tape,h.output,h.size,fun k hk=>h.block k (by omega) (fun e=>by have:=hr k e.symm;omega)⟩
theorem zF {w:World} {base base':Nat} {e:TypeId} {n:Nat} {v:Value} {xs:List Value} (hb:base'≤base) (h:w.ownsRow base e 1 v n xs):w.ownsRow base' e 1 v n xs:=by
 refine ⟨h.1,?_⟩;rcases h.2 with hn | ⟨g,cap,cur,rfl,hg,rest⟩
 ·exact .inl hn
 ·exact .inr ⟨g,cap,cur,rfl,Nat.le_trans hb hg,rest⟩
theorem eu.kk {n₀:Nat} {W:World} {s:aa} (h:eu n₀ W s):0≤s.kind∧s.kind≤255:=by cases h;assumption
def iI (W:World) (q:Nat) (l:List ByteArray):Prop:=∃v,Boxed W q 40 v∧W.ownsRow (q+1) 9 1 v l.length (l.map .string)
theorem iI.alloc {W:World} {q:Nat} {l:List ByteArray} (h:iI W q l) (o:Obj):iI (W.alloc o) q l:=by
 obtain ⟨v,h1,h2⟩:=h;exact ⟨v,h1.alloc o,h2.alloc o⟩
theorem iI.kept {W W':World} {q:Nat} {l:List ByteArray} {row:Option Nat} (h:iI W q l) (hg:W.grownBy W' row) (hr:∀r,row=some r→∃o:Obj,W.heap[r]? = some o∧o.isCells=false):iI W' q l:=by
 obtain ⟨v,h1,h2⟩:=h;refine ⟨v,h1.kept hg (fun e=>?_),uz h2 fun g hg2=>hg.block g ?_ (fun e=>?_)⟩
 ·obtain ⟨o,ho,hc⟩:=hr q e.symm
  rw [show W.heap[q]? = _ from h1] at ho;cases ho;cases hc
 ·obtain ⟨_,cs,hh⟩:=iD h2 g hg2
  exact (zgs hh).1
 ·obtain ⟨_,cs,hh⟩:=iD h2 g hg2
  obtain ⟨o,ho,hc⟩:=hr g e.symm;rw [hh] at ho;cases ho;cases hc
theorem iI.put {W W2:World} {q:Nat} {l l':List ByteArray} {v v':Value} (hq:Boxed W q 40 v) (h:W.ownsRow (q+1) 9 1 v l.length (l.map .string)) (hg:W.grownBy W2 v.ownBlock) (h':W2.ownsRow (q+1) 9 1 v' l'.length (l'.map .string)) :
  Boxed W2 q 40 v∧iI (W2.setCell ⟨q,0,none⟩ v') q l'∧ax TT q W (W2.setCell ⟨q,0,none⟩ v')∧Below q W (W2.setCell ⟨q,0,none⟩ v'):=by
 have hb2:Boxed W2 q 40 v:=hq.kept hg (fun e=>by have:=(iD h q e.symm).1;omega);refine ⟨hb2,⟨v',hb2.set v',uz h' fun g hg2=>Below.heap_setCell _ _ _ _ (fun e=>by have:=(iD h' g hg2).1;simp at e;omega)⟩,?_,?_⟩
 ·exact (Bd hg fun r hr=>by obtain ⟨_,cs,hh⟩:=iD h r hr;exact ⟨cs,_,_,hh,rfl⟩).trans (ax.set (a:=⟨q,0,none⟩) hb2 rfl _)
 ·exact (below_grown hg (Nat.le_of_lt hq.lt) fun r hr=>by have:=(iD h r hr).1;omega).setCell (p:=⟨q,0,none⟩) (Nat.le_refl _) _
set_option maxRecDepth 1000000 in
set_option maxHeartbeats 4000000 in
theorem EB (w:World) (sp:Sp) (ll:List aa) (h:bX w.heap.size w sp ll) (hL:bS (ll.flatMap aa.pre) 0≤20000) (hn:(ll.flatMap aa.pre).length≤20000) :
  Calls Tryz.prog 52 #[sp.val ll.length] w fun o w'=>∃v,o=.returned v∧w'.ownsRow w.heap.size 9 1 v (iJ ll).length ((iJ ll).map .string)∧Below w.heap.size w w':=by
 refine (callsIn_wide (n:=5)).1 ?_;have hE:=fun w'=>rT sp ll.length w'
 have hba0:=zba w (.cells #[.slice none 0 0] 40);have hCN:=cK _ sp ll 0 ((h.below hba0).more (Nat.le_of_lt (by simp:w.heap.size<(w.alloc (.cells #[.slice none 0 0] 40)).heap.size))) (by omega);simp only [Sp.val] at hE hCN ⊢;have HE:=zhd hE;have HCN:=zhd hCN;have hLT:=iC (bS (ll.flatMap aa.pre) 0);rw [decide_eq_true hL] at hLT;have HLT:=zhd hLT;generalize bS (ll.flatMap aa.pre) 0=cnt at *;clear hE hCN hLT hL;refine callsIn_of_wp_marks Tryz.func52 rfl trivial ?_ rfl;simp only [Tryz.ntmps52,List.size_toArray,List.length_cons,List.length_nil,Nat.reduceAdd,Nat.reduceSub,Array.replicate_succ,Array.replicate_zero,List.push_toArray,List.append_toArray,List.nil_append,List.cons_append]
 gi_wp2_with (refine ⟨trivial,?_⟩;first | (gi_at_call 94;refine (callsIn_wide.2 HCN.out).mono ?_;rintro o3 w3 ⟨rfl,hb3⟩) | (gi_at_call 85;refine (callsIn_wide.2 (HLT.out _)).mono ?_;rintro o5 w5 ⟨rfl,rfl⟩) | (gi_at_call 109;refine (callsIn_wide.2 (HE.out _)).mono ?_;rintro o4 w4 ⟨rfl,rfl⟩) | fail)
 have hbw:Below w.heap.size w (w3.alloc (.cells #[.slice sp.at_ ll.length sp.cap] 33)):=(hba0.trans (hb3.mono hba0.size)).alloc (Nat.le_trans hba0.size hb3.size) _;have hB5:=zan w3 (.cells #[.slice sp.at_ ll.length sp.cap] 33);have hbx3:Boxed w3 w.heap.size 40 (.slice none 0 0):=(hb3.block w.heap.size (by simp)).trans (Boxed.new w 40 _);have hbx:iI (w3.alloc (.cells #[.slice sp.at_ ll.length sp.cap] 33)) w.heap.size []:=⟨_,hbx3.alloc _,World.ownsRow_nil _ _ _ _⟩;have hs3:w.heap.size+2≤(w3.alloc (.cells #[.slice sp.at_ ll.length sp.cap] 33)).heap.size:=by have:=hb3.size;simp at this ⊢;omega
 clear hb3 hba0 hbx3;generalize w3.heap.size=b3 at *;generalize w3.alloc (.cells #[.slice sp.at_ ll.length sp.cap] 33)=wa at *;have hmem:∀y∈ll.flatMap aa.pre,eu w.heap.size w y:=by
  intro y hy;obtain ⟨s,hs,hy⟩:=List.mem_flatMap.1 hy;exact nG (h.ok s hs) y hy
 refine bi (T:=TT) rfl (fun h=>by cases h) (gf:=169) (lb:=#[.pointer (some ⟨b3,0,none⟩)]) rfl trivial (enters_of Tryz.func169 (by kernel_rfl) rfl)
  (yD h _ wa b3 hbw (by omega) hB5) (by omega) (Below.refl _ _) (fun _=>rfl)
  (fun pre W'=>iI W' w.heap.size (jY pre)∧Below w.heap.size w W'∧wa.heap.size≤W'.heap.size)
  (fun _ _ _=>False)
  ?hI ?hIx ⟨hbx,hbw,Nat.le_refl _⟩
  (fun y a' W'=>∃by5 v10,W'.heap[by5]? = some (.cells y.cells.toArray 43 (0,0))∧a'={ tmps:=#[.slice sp.at_ ll.length sp.cap,undef,.slice none 0 0,.pointer (some ⟨w.heap.size,0,none⟩),.pointer (some ⟨by5,0,none⟩),.slice sp.at_ ll.length sp.cap,.int .i64 cnt,.bool true,.slice sp.at_ ll.length sp.cap,.func (.func 169) #[] #[.pointer (some ⟨b3,0,none⟩)],v10,undef,undef,undef,undef,undef,undef,undef,undef],defers:=[] })
  ?hAx ?assign ?body ?done ?stop
 case hI =>
  rintro s X' Y rw ⟨h1,h4,h5⟩ hg hr;exact ⟨h1.kept hg (fun r hr2=>(hr r hr2).2),h4.grown hg (by omega) (fun q hq=>by have:=(hr q hq).1;omega),Nat.le_trans h5 hg.size⟩
 case hIx=>rintro c s X' Y rw h;exact h.elim
 case hAx =>
  rintro y a' _ X' Y rw ⟨by5,v10,h1,h2⟩ hg hr;refine ⟨by5,v10,(hg.block by5 (zgs h1).1 (fun e'=>?_)).trans h1,h2⟩;obtain ⟨_,o',ho,hc⟩:=hr by5 e'.symm;rw [h1] at ho;cases ho
  cases hc
 case assign =>
  rintro l2 pre y Wc K ⟨h1,h4,h5⟩ hK;simp only [aa.val,Sp.val] at hK ⊢
  gi_wp2
  have hba:=zba Wc (.cells #[.int .u8 y.kind,.string y.name,.slice y.es.at_ y.exprs.length y.es.cap,.int .i64 y.bound,.slice y.ts.at_ y.thn.length y.ts.cap,.slice y.os.at_ y.els.length y.os.cap] 43);exact hK _ _ (ax.of_below hba) (hba.mono (by omega)) ⟨h1.alloc _,h4.trans (hba.mono (by omega)),by have:=hba.size;omega⟩ ⟨_,_,zan _ _,rfl⟩
 case body =>
  rintro l2 pre y a' Wc hl2 ⟨h1,h4,h5⟩ ⟨by5,v10,hby,rfl⟩ hlen hsp;simp only [aa.cells,Sp.val] at hby
  obtain ⟨q0,q1,q2,q3,q4,q5⟩:=ag hby
  have hsn:=yV pre y;have hcl:=Am pre;obtain ⟨kk0,kk1⟩:=(hmem y (hsp.mem (by simp))).kk;generalize hacc:jY pre=acc at *;have HSN:=zhd hsn;clear hacc hsn hby hmem q2 q3 q4 q5;by_cases hk8:y.kind=8
  ·have hsn:=HSN.out
   rw [if_pos hk8] at hsn;have HSN2:=zhd hsn;obtain ⟨v,hbx,hown⟩:=h1;have hc:=hbx.cell;have hf:=hbx.frozen;have HW:=zhd (Je Wc (w.heap.size+1) v acc y.name (by omega) (by omega) hown);have HX:=zhd hbx;have HO:=zhd hown;clear hsn HSN
   gi_wp2_with (refine ⟨trivial,?_⟩;first | (gi_at_call 88;refine (CallsIn.inRound l2 (callsIn_wide.2 HW.out)).mono ?_;rintro o4 w4 ⟨v',rfl,hown2,hg2⟩;obtain ⟨A8,c8,rfl⟩:=rC hown2;obtain ⟨hb2,hN,hK2,hB2⟩:=iI.put HX.out HO.out hg2 hown2;have hf2:=hb2.frozen;have hc2:=hb2.cell;have HN:=zhd hN;have HK2:=zhd hK2;have HB2:=zhd hB2;clear hown2 hg2 hb2 hN hK2 hB2) | fail)
   exact ⟨HK2.out.up (by omega),HB2.out,by rw [HSN2.out];exact HN.out,h4.trans HB2.out,Nat.le_trans h5 HK2.out.size⟩
  ·have hsn:=HSN.out
   rw [if_neg hk8] at hsn;have HSN2:=zhd hsn;have hk8':(y.kind == 8)=false:=by simpa using hk8
   clear hsn HSN hk8
   gi_wp2
   exact ⟨ax.refl _ _ _,Below.refl _ _,by rw [HSN2.out];exact h1,h4,h5⟩
 case done =>
  rintro Dq ys Wd hD rfl ⟨⟨v,hbx,hown⟩,h4,h5⟩ hK;have hc:=hbx.cell
  gi_wp2
  refine ⟨by simp,.inl ⟨_,_,rfl,run_takeDeferred hK,?_⟩⟩;exact ⟨_,results_tmp rfl _ _ _,v,rfl,uz (zF (Nat.le_succ _) hown) fun g hg=>World.putObj_heap_other (fun e=>by obtain ⟨_,cs,hh⟩:=iD hown g hg;subst e;rw [hh] at hK;cases hK),h4.trans (bD _ _ (by omega))⟩
 case stop =>
  rintro Dq c pre Wd hD hp h;exact h.elim
end
section
open Go Go.RowKit Go.Maps
theorem GK:(Tryz.prog.info? 50).map (fun i=>(i.zero,i.size,i.bytes))=some (some (.agg #[.string ⟨#[]⟩,.int .i64 0,.int .i64 0]),3,32):=by kernel_rfl
set_option maxRecDepth 1000000 in
theorem kY (w:World) (sp:Sp) (l:List aG) (B:Nat) (h:RowOf B w sp 3 aG.cells l) (hl:l.length≤1000000) :
  Calls Tryz.prog 81 #[.slice sp.at_ l.length sp.cap] w fun o w'=>(∃v,o=.returned v∧aI w.heap.size w' 50 3 aG.cells v l)∧Below w.heap.size w w':=by
 obtain ⟨i0,hi,hz0,hz1,hz2⟩:=jZ GK;have q22:∀(w:World) (a:Option Addr) (n c n' c':Nat),(binOp .eql 24 (.slice a n c) (.slice none n' c')).run Tryz.prog w=.ok (.bool a.isNone) w:=fun w a n c n' c'=>Lib.run_eql_slice_nil w _ _ a n c n' c' Tryz.underlying24
 cases hat:sp.at_ with
 | none =>
  have h0:l=[]:=by
   cases l with
   | nil=>rfl
   | cons x l=>obtain ⟨b,off,e,_⟩:=h.row (by simp);rw [hat] at e;cases e
  subst h0;clear h;go_enter Tryz.func81,Tryz.ntmps81
  go_wp2_with fail
  go_ret
  exact ⟨⟨_,rfl,aI.nil⟩,Below.refl _ _⟩
 | some a =>
  have HN:∃ad:Addr,some a=some ad∧∀j u,(l.flatMap aG.cells)[j]? = some u→(w.alloc (.cells #[] 50)).cell? (ad.add j)=some u:=by
   refine ⟨a,rfl,fun j u hj=>?_⟩;have h0:0<l.length:=by
    cases l with
    | nil=>simp at hj
    | cons x l=>simp
   obtain ⟨b,off,e,hlt,hc⟩:=h.news (fun _=>rfl) h0;rw [hat] at e;cases e
   have hcc:=hc j u hj;have hblk:=World.block_lt_of_cell? w _ hcc;exact (World.cell?_of_block (w:=w) (Below.heap_alloc _ _ _ hblk)).trans hcc
  obtain ⟨ad,e1,hnews⟩:=HN;cases e1
  have HNEWS:=zhd hnews;clear hnews h hat;have hl63:l.length≤maxLen:=by simp only [maxLen];omega
  have hLN:=gN (enc:=aG.cells) (k:=3) (fun _=>rfl) l;have hO1:=kJ Ib l;have HLN:=zhd hLN;have HO1:=zhd hO1;clear hLN hO1;obtain ⟨n,hn⟩:∃n,l.length=n:=⟨_,rfl⟩;have HNN:=zhd hn;rw [hn] at HLN hl hl63 ⊢;clear hn;go_enter Tryz.func81,Tryz.ntmps81
  go_wp2_with (first | (at_builtin;refine wpList_append_own _ rfl _ _ 24 rfl w.heap.size 50 i0 _ 3 32 Tryz.underlying24 hi hz0 hz1 hz2 rfl (by decide) _ _ _ rfl (World.ownsRow_made w #[] 0 (Nat.le_refl _) (Nat.zero_le _) (by simp)) a n sp.cap (l.flatMap aG.cells) rfl HLN.out HNEWS.out HO1.out (by omega) (by omega) (by simp) ?_) | fail)
  intro v' w1 hown hgrow hnil;go_wp2_with fail
  go_ret
  refine ⟨⟨v',rfl,by simpa [aI,HNN.out] using hown⟩,?_⟩;exact ((Below.refl _ w).alloc (Nat.le_refl _) _).grown hgrow (by simp) (by intro k hk;simp [Value.ownBlock] at hk;omega)
theorem BO:(Tryz.prog.info? 43).map (fun i=>(i.zero,i.size,i.bytes))=some (some (.agg #[.int .u8 0,.string ⟨#[]⟩,.slice none 0 0,.int .i64 0,.slice none 0 0,.slice none 0 0]),6,104):=by kernel_rfl
set_option maxRecDepth 1000000 in
theorem CB (w:World) (sp:Sp) (l:List aa) (B:Nat) (h:RowOf B w sp 6 aa.cells l) (hl:l.length≤1000000) :
  Calls Tryz.prog 70 #[.slice sp.at_ l.length sp.cap] w fun o w'=>(∃v,o=.returned v∧aI w.heap.size w' 43 6 aa.cells v l)∧Below w.heap.size w w':=by
 obtain ⟨i0,hi,hz0,hz1,hz2⟩:=jZ BO;have q22:∀(w:World) (a:Option Addr) (n c n' c':Nat),(binOp .eql 33 (.slice a n c) (.slice none n' c')).run Tryz.prog w=.ok (.bool a.isNone) w:=fun w a n c n' c'=>Lib.run_eql_slice_nil w _ _ a n c n' c' Tryz.underlying33
 cases hat:sp.at_ with
 | none =>
  have h0:l=[]:=by
   cases l with
   | nil=>rfl
   | cons x l=>obtain ⟨b,off,e,_⟩:=h.row (by simp);rw [hat] at e;cases e
  subst h0;clear h;go_enter Tryz.func70,Tryz.ntmps70
  go_wp2_with fail
  go_ret
  exact ⟨⟨_,rfl,aI.nil⟩,Below.refl _ _⟩
 | some a =>
  have HN:∃ad:Addr,some a=some ad∧∀j u,(l.flatMap aa.cells)[j]? = some u→(w.alloc (.cells #[] 43)).cell? (ad.add j)=some u:=by
   refine ⟨a,rfl,fun j u hj=>?_⟩;have h0:0<l.length:=by
    cases l with
    | nil=>simp at hj
    | cons x l=>simp
   obtain ⟨b,off,e,hlt,hc⟩:=h.news (fun _=>rfl) h0;rw [hat] at e;cases e
   have hcc:=hc j u hj;have hblk:=World.block_lt_of_cell? w _ hcc;exact (World.cell?_of_block (w:=w) (Below.heap_alloc _ _ _ hblk)).trans hcc
  obtain ⟨ad,e1,hnews⟩:=HN;cases e1
  have HNEWS:=zhd hnews;clear hnews h hat;have hl63:l.length≤maxLen:=by simp only [maxLen];omega
  have hLN:=gN (enc:=aa.cells) (k:=6) (fun _=>rfl) l;have hO1:=kJ qo l;have HLN:=zhd hLN;have HO1:=zhd hO1;clear hLN hO1;obtain ⟨n,hn⟩:∃n,l.length=n:=⟨_,rfl⟩;have HNN:=zhd hn;rw [hn] at HLN hl hl63 ⊢;clear hn;go_enter Tryz.func70,Tryz.ntmps70
  go_wp2_with (first | (at_builtin;refine wpList_append_own _ rfl _ _ 33 rfl w.heap.size 43 i0 _ 6 104 Tryz.underlying33 hi hz0 hz1 hz2 rfl (by decide) _ _ _ rfl (World.ownsRow_made w #[] 0 (Nat.le_refl _) (Nat.zero_le _) (by simp)) a n sp.cap (l.flatMap aa.cells) rfl HLN.out HNEWS.out HO1.out (by omega) (by omega) (by simp) ?_) | fail)
  intro v' w1 hown hgrow hnil;go_wp2_with fail
  go_ret
  refine ⟨⟨v',rfl,by simpa [aI,HNN.out] using hown⟩,?_⟩;exact ((Below.refl _ w).alloc (Nat.le_refl _) _).grown hgrow (by simp) (by intro k hk;simp [Value.ownBlock] at hk;omega)
theorem IB:(Tryz.prog.info? 54).map (fun i=>(i.zero,i.size,i.bytes))=some (some (.agg #[.string ⟨#[]⟩,.slice none 0 0,.slice none 0 0]),3,64):=by kernel_rfl
set_option maxRecDepth 1000000 in
theorem Cz (w:World) (sp:Sp) (l:List aK) (B:Nat) (h:RowOf B w sp 3 aK.cells l) (hl:l.length≤1000000) :
  Calls Tryz.prog 148 #[.slice sp.at_ l.length sp.cap] w fun o w'=>(∃v,o=.returned v∧aI w.heap.size w' 54 3 aK.cells v l)∧Below w.heap.size w w':=by
 obtain ⟨i0,hi,hz0,hz1,hz2⟩:=jZ IB;have q22:∀(w:World) (a:Option Addr) (n c n' c':Nat),(binOp .eql 32 (.slice a n c) (.slice none n' c')).run Tryz.prog w=.ok (.bool a.isNone) w:=fun w a n c n' c'=>Lib.run_eql_slice_nil w _ _ a n c n' c' Tryz.underlying32
 cases hat:sp.at_ with
 | none =>
  have h0:l=[]:=by
   cases l with
   | nil=>rfl
   | cons x l=>obtain ⟨b,off,e,_⟩:=h.row (by simp);rw [hat] at e;cases e
  subst h0;clear h;go_enter Tryz.func148,Tryz.ntmps148
  go_wp2_with fail
  go_ret
  exact ⟨⟨_,rfl,aI.nil⟩,Below.refl _ _⟩
 | some a =>
  have HN:∃ad:Addr,some a=some ad∧∀j u,(l.flatMap aK.cells)[j]? = some u→(w.alloc (.cells #[] 54)).cell? (ad.add j)=some u:=by
   refine ⟨a,rfl,fun j u hj=>?_⟩;have h0:0<l.length:=by
    cases l with
    | nil=>simp at hj
    | cons x l=>simp
   obtain ⟨b,off,e,hlt,hc⟩:=h.news (fun _=>rfl) h0;rw [hat] at e;cases e
   have hcc:=hc j u hj;have hblk:=World.block_lt_of_cell? w _ hcc;exact (World.cell?_of_block (w:=w) (Below.heap_alloc _ _ _ hblk)).trans hcc
  obtain ⟨ad,e1,hnews⟩:=HN;cases e1
  have HNEWS:=zhd hnews;clear hnews h hat;have hl63:l.length≤maxLen:=by simp only [maxLen];omega
  have hLN:=gN (enc:=aK.cells) (k:=3) (fun _=>rfl) l;have hO1:=kJ Ih l;have HLN:=zhd hLN;have HO1:=zhd hO1;clear hLN hO1;obtain ⟨n,hn⟩:∃n,l.length=n:=⟨_,rfl⟩;have HNN:=zhd hn;rw [hn] at HLN hl hl63 ⊢;clear hn;go_enter Tryz.func148,Tryz.ntmps148
  go_wp2_with (first | (at_builtin;refine wpList_append_own _ rfl _ _ 32 rfl w.heap.size 54 i0 _ 3 64 Tryz.underlying32 hi hz0 hz1 hz2 rfl (by decide) _ _ _ rfl (World.ownsRow_made w #[] 0 (Nat.le_refl _) (Nat.zero_le _) (by simp)) a n sp.cap (l.flatMap aK.cells) rfl HLN.out HNEWS.out HO1.out (by omega) (by omega) (by simp) ?_) | fail)
  intro v' w1 hown hgrow hnil;go_wp2_with fail
  go_ret
  refine ⟨⟨v',rfl,by simpa [aI,HNN.out] using hown⟩,?_⟩;exact ((Below.refl _ w).alloc (Nat.le_refl _) _).grown hgrow (by simp) (by intro k hk;simp [Value.ownBlock] at hk;omega)
theorem He:(Tryz.prog.info? 149).map (fun i=>(i.zero,i.size,i.bytes))=some (some (.agg #[.int .i64 0,.int .u8 0,.int .u8 0,.int .u32 0,.int .i64 0,.string ⟨#[]⟩,.slice none 0 0]),7,64):=by kernel_rfl
set_option maxRecDepth 1000000 in
theorem Cy (w:World) (sp:Sp) (l:List bn) (B:Nat) (h:RowOf B w sp 7 bn.cells l) (hl:l.length≤1000000) :
  Calls Tryz.prog 147 #[.slice sp.at_ l.length sp.cap] w fun o w'=>(∃v,o=.returned v∧aI w.heap.size w' 149 7 bn.cells v l)∧Below w.heap.size w w':=by
 obtain ⟨i0,hi,hz0,hz1,hz2⟩:=jZ He;have q22:∀(w:World) (a:Option Addr) (n c n' c':Nat),(binOp .eql 31 (.slice a n c) (.slice none n' c')).run Tryz.prog w=.ok (.bool a.isNone) w:=fun w a n c n' c'=>Lib.run_eql_slice_nil w _ _ a n c n' c' Tryz.underlying31
 cases hat:sp.at_ with
 | none =>
  have h0:l=[]:=by
   cases l with
   | nil=>rfl
   | cons x l=>obtain ⟨b,off,e,_⟩:=h.row (by simp);rw [hat] at e;cases e
  subst h0;clear h;go_enter Tryz.func147,Tryz.ntmps147
  go_wp2_with fail
  go_ret
  exact ⟨⟨_,rfl,aI.nil⟩,Below.refl _ _⟩
 | some a =>
  have HN:∃ad:Addr,some a=some ad∧∀j u,(l.flatMap bn.cells)[j]? = some u→(w.alloc (.cells #[] 149)).cell? (ad.add j)=some u:=by
   refine ⟨a,rfl,fun j u hj=>?_⟩;have h0:0<l.length:=by
    cases l with
    | nil=>simp at hj
    | cons x l=>simp
   obtain ⟨b,off,e,hlt,hc⟩:=h.news (fun _=>rfl) h0;rw [hat] at e;cases e
   have hcc:=hc j u hj;have hblk:=World.block_lt_of_cell? w _ hcc;exact (World.cell?_of_block (w:=w) (Below.heap_alloc _ _ _ hblk)).trans hcc
  obtain ⟨ad,e1,hnews⟩:=HN;cases e1
  have HNEWS:=zhd hnews;clear hnews h hat;have hl63:l.length≤maxLen:=by simp only [maxLen];omega
  have hLN:=gN (enc:=bn.cells) (k:=7) (fun _=>rfl) l;have hO1:=kJ Ie l;have HLN:=zhd hLN;have HO1:=zhd hO1;clear hLN hO1;obtain ⟨n,hn⟩:∃n,l.length=n:=⟨_,rfl⟩;have HNN:=zhd hn;rw [hn] at HLN hl hl63 ⊢;clear hn;go_enter Tryz.func147,Tryz.ntmps147
  go_wp2_with (first | (at_builtin;refine wpList_append_own _ rfl _ _ 31 rfl w.heap.size 149 i0 _ 7 64 Tryz.underlying31 hi hz0 hz1 hz2 rfl (by decide) _ _ _ rfl (World.ownsRow_made w #[] 0 (Nat.le_refl _) (Nat.zero_le _) (by simp)) a n sp.cap (l.flatMap bn.cells) rfl HLN.out HNEWS.out HO1.out (by omega) (by omega) (by simp) ?_) | fail)
  intro v' w1 hown hgrow hnil;go_wp2_with fail
  go_ret
  refine ⟨⟨v',rfl,by simpa [aI,HNN.out] using hown⟩,?_⟩;exact ((Below.refl _ w).alloc (Nat.le_refl _) _).grown hgrow (by simp) (by intro k hk;simp [Value.ownBlock] at hk;omega)
theorem GU:(Tryz.prog.info? 30).map (fun i=>(i.zero,i.size,i.bytes))=some (some (.agg #[.int .u8 0,.int .u8 0,.int .u32 0,.int .i64 0,.string ⟨#[]⟩,.slice none 0 0]),6,56):=by kernel_rfl
set_option maxRecDepth 1000000 in
theorem Cx (w:World) (sp:Sp) (l:List ae) (B:Nat) (h:RowOf B w sp 6 ae.cells l) (hl:l.length≤1000000) :
  Calls Tryz.prog 196 #[.slice sp.at_ l.length sp.cap] w fun o w'=>(∃v,o=.returned v∧aI w.heap.size w' 30 6 ae.cells v l)∧Below w.heap.size w w':=by
 obtain ⟨i0,hi,hz0,hz1,hz2⟩:=jZ GU;have q22:∀(w:World) (a:Option Addr) (n c n' c':Nat),(binOp .eql 28 (.slice a n c) (.slice none n' c')).run Tryz.prog w=.ok (.bool a.isNone) w:=fun w a n c n' c'=>Lib.run_eql_slice_nil w _ _ a n c n' c' Tryz.underlying28
 cases hat:sp.at_ with
 | none =>
  have h0:l=[]:=by
   cases l with
   | nil=>rfl
   | cons x l=>obtain ⟨b,off,e,_⟩:=h.row (by simp);rw [hat] at e;cases e
  subst h0;clear h;go_enter Tryz.func196,Tryz.ntmps196
  go_wp2_with fail
  go_ret
  exact ⟨⟨_,rfl,aI.nil⟩,Below.refl _ _⟩
 | some a =>
  have HN:∃ad:Addr,some a=some ad∧∀j u,(l.flatMap ae.cells)[j]? = some u→(w.alloc (.cells #[] 30)).cell? (ad.add j)=some u:=by
   refine ⟨a,rfl,fun j u hj=>?_⟩;have h0:0<l.length:=by
    cases l with
    | nil=>simp at hj
    | cons x l=>simp
   obtain ⟨b,off,e,hlt,hc⟩:=h.news (fun _=>rfl) h0;rw [hat] at e;cases e
   have hcc:=hc j u hj;have hblk:=World.block_lt_of_cell? w _ hcc;exact (World.cell?_of_block (w:=w) (Below.heap_alloc _ _ _ hblk)).trans hcc
  obtain ⟨ad,e1,hnews⟩:=HN;cases e1
  have HNEWS:=zhd hnews;clear hnews h hat;have hl63:l.length≤maxLen:=by simp only [maxLen];omega
  have hLN:=gN (enc:=ae.cells) (k:=6) (fun _=>rfl) l;have hO1:=kJ Bq l;have HLN:=zhd hLN;have HO1:=zhd hO1;clear hLN hO1;obtain ⟨n,hn⟩:∃n,l.length=n:=⟨_,rfl⟩;have HNN:=zhd hn;rw [hn] at HLN hl hl63 ⊢;clear hn;go_enter Tryz.func196,Tryz.ntmps196
  go_wp2_with (first | (at_builtin;refine wpList_append_own _ rfl _ _ 28 rfl w.heap.size 30 i0 _ 6 56 Tryz.underlying28 hi hz0 hz1 hz2 rfl (by decide) _ _ _ rfl (World.ownsRow_made w #[] 0 (Nat.le_refl _) (Nat.zero_le _) (by simp)) a n sp.cap (l.flatMap ae.cells) rfl HLN.out HNEWS.out HO1.out (by omega) (by omega) (by simp) ?_) | fail)
  intro v' w1 hown hgrow hnil;go_wp2_with fail
  go_ret
  refine ⟨⟨v',rfl,by simpa [aI,HNN.out] using hown⟩,?_⟩;exact ((Below.refl _ w).alloc (Nat.le_refl _) _).grown hgrow (by simp) (by intro k hk;simp [Value.ownBlock] at hk;omega)
end
section
open Go Go.RowKit
def uC (P:Program) (t e:TypeId) (k:Nat):Prop:=∃i z bytes,P.underlying t=some (.slice e)∧P.info? e=some i∧i.zero=some z∧i.size=k∧i.bytes=bytes∧bytes≤1000∧z.cells.size=k∧0<k
theorem vg {P:Program} {t e:TypeId} {k b:Nat} {z:Value} (h:(P.info? e).map (fun i=>(i.zero,i.size,i.bytes))=some (some z,k,b)) (ht:P.underlying t=some (.slice e)) (hb:b≤1000) (hz:z.cells.size=k) (hk:0<k):uC P t e k:=by
 obtain ⟨i,h1,h2,h3,h4⟩:=jZ h;exact ⟨i,z,b,ht,h1,h2,h3,h4,hb,hz,hk⟩
section
variable {P:Program} {α:Type} {k:Nat} {enc:α→List Value} {w:World}
theorem mK {B:Nat} {t ty e:TypeId} (hE:uC P t e k) (hk:∀x,(enc x).length=k) (h1:∀x:α,∀u∈enc x,u.oneCell'=true) {v:Value} {l:List α} (hown:aI B w e k enc v l)
  {n:Nat} {sp:Sp} {l2:List α} (hr:RowOf n w sp k enc l2) (hlen:l.length+l2.length≤1000000) (hB:B≤w.heap.size) :
  ∃v' w',(Builtin.append_ #[t,t] ty #[v,.slice sp.at_ l2.length sp.cap]).run P w=.ok v' w'∧aI B w' e k enc v' (l++l2)∧w.grownBy w' v.ownBlock∧(v'.ownBlock=v.ownBlock∨v'.ownBlock=some w.heap.size):=by
 obtain ⟨i,z,bytes,ht,hi,hz,hsz,hby,hbb,hzs,hk0⟩:=hE;cases hat:sp.at_ with
 | none =>
  have h0:l2=[]:=by
   cases l2 with
   | nil=>rfl
   | cons x l2=>obtain ⟨b,off,e,_⟩:=hr.row (by simp);rw [hat] at e;cases e
  subst h0;refine ⟨v,w,?_,by simpa using hown,World.grownBy.refl w _,.inl rfl⟩;rcases hown.2 with ⟨rfl,h0⟩ | ⟨g,cap,cur,rfl,_,_,hnc,_⟩
  ·simp [Builtin.append_,run_underlying ht,sizeOf,typeInfo,hi,Builtin.lenOf,Builtin.firstCells]
  ·simp [Builtin.append_,run_underlying ht,sizeOf,typeInfo,hi,Builtin.lenOf,Builtin.firstCells,hnc,storeCells]
 | some a =>
  have hnews:∀j u,(l2.flatMap enc)[j]? = some u→w.cell? (a.add j)=some u:=fun j u hj=>by
   have h0:0<l2.length:=by
    cases l2 with
    | nil=>simp at hj
    | cons x l=>simp
   obtain ⟨b,off,e,_,hc⟩:=hr.news hk h0;rw [hat] at e;cases e
   exact hc j u hj
  obtain ⟨v',w',hrun,h2,h3,_,h5⟩:=run_append_own_at (P:=P) w B t ty e i z k bytes ht hi hz hsz hby hzs hk0 v l.length (l.flatMap enc) hown a l2.length sp.cap (l2.flatMap enc) (gN hk l2) hnews (kJ h1 l2) (by simp only [maxLen];omega) (by
   have:=Nat.mul_le_mul hlen hbb;omega) hB
  refine ⟨v',w',hrun,?_,h3,h5⟩;unfold aI;rw [List.length_append,List.flatMap_append];exact h2
theorem iP {ops:Array Oper} {rest:List Oper} {o:Oper} {a:Act} {Q:Exit→Act→World→Prop} (hgd:o.guard=none) (s x:Operand) (t:TypeId)
  (ho:o.op=.call { callee:=.builtin .append,args:=#[s,x],argTypes:=#[t,t] }) {B:Nat} {e:TypeId} (hE:uC P t e k) (hk:∀x,(enc x).length=k) (h1:∀x:α,∀u∈enc x,u.oneCell'=true) (v:Value) (l:List α) (hs:a.eval s=v) (hown:aI B w e k enc v l)
  {n:Nat} (sp:Sp) (l2:List α) (hx:a.eval x=.slice sp.at_ l2.length sp.cap) (hr:RowOf n w sp k enc l2) (hlen:l.length+l2.length≤1000000) (hB:B≤w.heap.size)
  (h:∀v' w',aI B w' e k enc v' (l++l2)→w.grownBy w' v.ownBlock→(v'.ownBlock=v.ownBlock∨v'.ownBlock=some w.heap.size)→wpList P ops Q rest (a.put o.dst v') w'):wpList P ops Q (o::rest) a w :=
 wpList_plain hgd fun _ hK=>by
  obtain ⟨v',w',hrun,h2,h3,h4⟩:=mK (P:=P) (ty:=o.type) hE hk h1 hown hr hlen hB;unfold Oper.wp execOp;simp only [ho,resolve,invoke,builtin,Sem.run_bind,Sem.run_pure,Result.andThen_ok,List.map_toArray,List.map_cons,List.map_nil,hs,hx,hrun];exact hK _ _ (h v' w' h2 h3 h4)
theorem aI.below {B C:Nat} {e:TypeId} {v:Value} {l:List α} (h:aI B w e k enc v l) {W':World} (hg:w.grownBy W' v.ownBlock) (hC:C≤B) {W0:World} (hb:Below C W0 w) (hs:B≤w.heap.size):Below C W0 W' :=
 hb.grown hg (by omega) fun q hq=>by
  rcases h.2 with ⟨rfl,_⟩ | ⟨g,cap,cur,rfl,hlt,_⟩
  ·simp [Value.ownBlock] at hq
  ·simp [Value.ownBlock] at hq;omega
theorem aI.own_type {B:Nat} {e:TypeId} {v:Value} {l:List α} (h:aI B w e k enc v l) {g:Nat} (hg:v.ownBlock=some g):B≤g∧∃cs fr,w.heap[g]? = some (.cells cs e fr):=by
 rcases h.2 with ⟨rfl,_⟩ | ⟨g',cap,cur,rfl,hlt,hh,_⟩
 ·simp [Value.ownBlock] at hg
 ·simp [Value.ownBlock] at hg;subst hg;exact ⟨hlt,_,_,hh⟩
theorem aI.other {β:Type} {k2:Nat} {enc2:β→List Value} {B B2:Nat} {e e2:TypeId} {v v2:Value} {l:List α} {l2:List β} (h:aI B w e k enc v l) (h2:aI B2 w e2 k2 enc2 v2 l2) {W':World} (hg:w.grownBy W' v2.ownBlock) (hne:e≠e2):aI B W' e k enc v l :=
 h.kept fun g cs fr _ hh=>hg.block g (zgs hh).1 (fun eq=>by
  obtain ⟨_,cs2,fr2,hh2⟩:=h2.own_type eq.symm;rw [hh] at hh2;cases hh2;exact hne rfl)
theorem aI.cell {B:Nat} {e:TypeId} {A:Option Addr} {n c:Nat} {l:List α} (h:aI B w e k enc (.slice A n c) l) (hk:∀x,(enc x).length=k) {j:Nat} (hj:j<l.length):∃g,A=some ⟨g,0,none⟩∧B≤g∧g<w.heap.size∧∀r u,(enc (l[j]))[r]? = some u→w.cell? ⟨g,j*k+r,none⟩=some u:=by
 rcases h.2 with ⟨_,h0⟩ | ⟨g,cap,cur,hv,hlt,hh,_,_,hle,htk⟩
 ·omega
 ·cases hv
  refine ⟨g,rfl,hlt,(zgs hh).1,fun r u hu=>?_⟩;have e1:=zh hk l j r u hj hu;have hlt1:=(List.getElem?_eq_some_iff.1 e1).1;rw [←htk] at e1;have hlt2:j*k+r<l.length*k:=by rw [←gN hk l];exact hlt1
  rw [List.getElem?_take_of_lt hlt2,Array.getElem?_toList] at e1;simp only [World.cell?,hh];exact e1
theorem aI.len {B:Nat} {e:TypeId} {A:Option Addr} {n c:Nat} {l:List α} (h:aI B w e k enc (.slice A n c) l):n=l.length:=by
 rcases h.2 with ⟨hv,h0⟩ | ⟨g,cap,cur,hv,_⟩
 ·cases hv;exact h0.symm
 ·cases hv;rfl
theorem aI.form {B:Nat} {e:TypeId} {v:Value} {l:List α} (h:aI B w e k enc v l):∃A c,v=.slice A l.length c:=by
 rcases h.2 with ⟨hv,h0⟩ | ⟨g,cap,cur,hv,_⟩
 ·exact ⟨none,0,by rw [hv,h0]⟩
 ·exact ⟨_,_,hv⟩
end
theorem IY:uC Tryz.prog 33 43 6:=vg BO Tryz.underlying33 (by decide) rfl (by decide)
end
section
open Go Go.RowKit
def dK (lo:Nat) (W:World):World:={ W with heap:=W.heap.mapIdx fun k o=>if k<lo then .cells #[] 0 else o }
theorem rA (lo:Nat) (W:World) (k:Nat):(dK lo W).heap[k]? = (W.heap[k]?).map fun o=>if k<lo then .cells #[] 0 else o:=by simp [dK]
theorem az {lo:Nat} {W:World} {p:Addr} {u:Value}:(dK lo W).cell? p=some u↔lo≤p.block∧W.cell? p=some u:=by
 by_cases h:p.block<lo
 ·constructor
  ·intro hc
   exfalso
   simp only [World.cell?,rA] at hc;cases hh:W.heap[p.block]? with
   | none=>rw [hh] at hc;simp at hc
   | some o=>rw [hh] at hc;simp [h] at hc
  ·intro hc;omega
 ·have e:(dK lo W).cell? p=W.cell? p:=World.cell?_of_block (by
   rw [rA];cases W.heap[p.block]? <;> simp [h])
  rw [e];exact ⟨fun hc=>⟨by omega,hc⟩,fun hc=>hc.2⟩
section
variable {n:Nat} {W W':World}
theorem RowOf.cells {α:Type} {s:Sp} {k:Nat} {enc:α→List Value} {l:List α} (h:RowOf n W s k enc l) (hc:∀p u,p.block<n→W.cell? p=some u→W'.cell? p=some u):RowOf n W' s k enc l :=
 ⟨h.cap,h.big,h.few,fun h0=>by
  obtain ⟨b,off,e,hlt,hx⟩:=h.row h0;exact ⟨b,off,e,hlt,fun j hj r u hu=>hc _ _ hlt (hx j hj r u hu)⟩⟩
theorem iw.cells {e:ae} (h:iw n W e) (hc:∀p u,p.block<n→W.cell? p=some u→W'.cell? p=some u):iw n W' e:=by
 induction h with
 | mk e k o v w n row _ ih=>exact .mk e k o v w n (row.cells hc) ih
theorem eu.cells {s:aa} (h:eu n W s) (hc:∀p u,p.block<n→W.cell? p=some u→W'.cell? p=some u):eu n W' s:=by
 induction h with
 | mk s k b n er ex tr _ or _ ih1 ih2=>exact .mk s k b n (er.cells hc) (fun e he=>(ex e he).cells hc) (tr.cells hc) ih1 (or.cells hc) ih2
end
def gM (lo:Nat) (W:World) (e:ae):Prop:=iw W.heap.size (dK lo W) e
def iE (lo:Nat) (W:World) (s:aa):Prop:=eu W.heap.size (dK lo W) s
def bQ (lo:Nat) (W:World) (sp:Sp) (l:List aa):Prop:=RowOf W.heap.size (dK lo W) sp 6 aa.cells l∧∀s,s∈l→iE lo W s
section
variable {lo q:Nat} {W W':World}
theorem lw (hb:Below W.heap.size (mask q W) (mask q W')) (hq:q<lo):∀p u,p.block<W.heap.size→(dK lo W).cell? p=some u→(dK lo W').cell? p=some u:=fun p u hp hc=>by
 obtain ⟨h1,h2⟩:=az.1 hc;refine az.2 ⟨h1,?_⟩;have h3:=hb.block p.block hp;rw [bP (by omega),bP (by omega)] at h3;exact (World.cell?_of_block h3).trans h2
theorem lv {lo':Nat} (h:lo'≤lo):∀(p:Addr) u,p.block<W.heap.size→(dK lo W).cell? p=some u→(dK lo' W).cell? p=some u:=fun p u _ hc=>by
 obtain ⟨h1,h2⟩:=az.1 hc;exact az.2 ⟨by omega,h2⟩
theorem ry {g:Nat} {cs:Array Value} (h:g<lo):∀(p:Addr) u,p.block<W.heap.size→(dK lo W).cell? p=some u→(dK lo (W.setRow g cs)).cell? p=some u:=fun p u _ hc=>by
 obtain ⟨h1,h2⟩:=az.1 hc;exact az.2 ⟨h1,(cell_setRow_other W g cs p (by omega)).trans h2⟩
theorem ru:∀(p:Addr) (u:Value),p.block<W.heap.size→(dK lo W).cell? p=some u→W.cell? p=some u:=fun _ _ _ hc=>(az.1 hc).2
theorem kL (hb:Below W.heap.size (mask q W) (mask q W')):W.heap.size≤W'.heap.size:=by have:=hb.size;rw [bE,bE] at this;exact this
theorem gM.on {e:ae} (h:gM lo W e) (hb:Below W.heap.size (mask q W) (mask q W')) (hq:q<lo):gM lo W' e:=(iw.cells h (lw hb hq)).more (kL hb)
theorem gM.less {e:ae} {lo':Nat} (h:gM lo W e) (hl:lo'≤lo):gM lo' W e:=iw.cells h (lv hl)
theorem gM.set {e:ae} {g:Nat} {cs:Array Value} (h:gM lo W e) (hg:g<lo):gM lo (W.setRow g cs) e:=by
 unfold gM;rw [size_setRow];exact iw.cells h (ry hg)
theorem gM.rd {e:ae} (h:gM lo W e):iw W.heap.size W e:=iw.cells h ru
theorem iE.on {e:aa} (h:iE lo W e) (hb:Below W.heap.size (mask q W) (mask q W')) (hq:q<lo):iE lo W' e:=(eu.cells h (lw hb hq)).more (kL hb)
theorem iE.less {e:aa} {lo':Nat} (h:iE lo W e) (hl:lo'≤lo):iE lo' W e:=eu.cells h (lv hl)
theorem iE.rd {e:aa} (h:iE lo W e):eu W.heap.size W e:=eu.cells h ru
theorem bQ.on {sp:Sp} {l:List aa} (h:bQ lo W sp l) (hb:Below W.heap.size (mask q W) (mask q W')) (hq:q<lo):bQ lo W' sp l:=⟨(h.1.cells (lw hb hq)).more (kL hb),fun s hs=>(h.2 s hs).on hb hq⟩
theorem bQ.less {sp:Sp} {l:List aa} {lo':Nat} (h:bQ lo W sp l) (hl:lo'≤lo):bQ lo' W sp l:=⟨h.1.cells (lv hl),fun s hs=>(h.2 s hs).less hl⟩
theorem bQ.rd {sp:Sp} {l:List aa} (h:bQ lo W sp l):bX W.heap.size W sp l:=⟨h.1.cells ru,fun s hs=>(h.2 s hs).rd⟩
theorem RowOf.low {α:Type} {n k b off c:Nat} {enc:α→List Value} {l:List α} (h:RowOf n W ⟨some ⟨b,off,none⟩,c⟩ k enc l) (hb:lo≤b):RowOf n (dK lo W) ⟨some ⟨b,off,none⟩,c⟩ k enc l :=
 ⟨h.cap,h.big,h.few,fun h0=>by
  obtain ⟨b',off',e,hlt,hc⟩:=h.row h0;have e2:b=b':=by have:=Option.some.inj e;exact (Addr.mk.inj this).1
  exact ⟨b',off',e,hlt,fun j hj r u hu=>az.2 ⟨by show lo≤b';omega,hc j hj r u hu⟩⟩⟩
end
end
end Go.Proofs.YtepacjkacjabbaaGreatDoor
