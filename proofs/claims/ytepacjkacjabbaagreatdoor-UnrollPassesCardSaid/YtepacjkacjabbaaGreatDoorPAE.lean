import Derived.Test.YtepacjkacjabbaaGreatDoorPAA
import Derived.Test.YtepacjkacjabbaaGreatDoorPAD
import Derived.Test.YtepacjkacjabbaaGreatDoorPAB
namespace Go.Proofs.YtepacjkacjabbaaGreatDoor
section
open Go Go.RowKit
attribute [local go_sem] Oper.semAt_some
def stepT (s:aa) (b:Int):Int:=s.exprs.foldl (fun b e=>dF e.pre.length b) (b+1)
def bS:List aa→Int→Int
 | [],b=>b
 | s::r,b=>if stepT s b>20000 then stepT s b else bS r (stepT s b)
theorem kZ (n:Nat) (hn:0<n) (b:Int) (hb:0≤b):b<dF n b∧(dF n b≤20001∨dF n b=b+1):=by
 unfold dF
 split <;> omega
theorem uw (l:List ae):∀(b:Int),0≤b→b≤l.foldl (fun b e=>dF e.pre.length b) b∧l.foldl (fun b e=>dF e.pre.length b) b≤max b 20001+l.length:=by
 induction l with
 | nil=>intro b hb;simp;omega
 | cons e l ih =>
  intro b hb;have h1:=kZ e.pre.length (gu e) b hb;have h2:=ih (dF e.pre.length b) (by omega);simp only [List.foldl_cons,List.length_cons];omega
def kw (l:List aa) (b:Int):Int:=l.foldl (fun b s=>stepT s b) b
theorem qP (l:List aa) (s:aa) (b:Int):kw (l++[s]) b=stepT s (kw l b):=by simp [kw]
def lT (l:List aa) (b:Int):Prop:=∀p,p <+: l→p≠[]→kw p b≤20000
theorem lT.nil (b:Int):lT [] b:=fun _ hp hn=>absurd (List.prefix_nil.1 hp) hn
theorem lT.snoc {l:List aa} {b:Int} {s:aa} (h:lT l b) (hs:kw (l++[s]) b≤20000):lT (l++[s]) b:=by
 intro p hp hn;rcases List.prefix_concat_iff.1 hp with e | e
 ·rw [e];exact hs
 ·exact h p e hn
theorem uU:∀(l r:List aa) (b:Int),lT l b→bS (l++r) b=bS r (kw l b)
 | [],r,b,_=>rfl
 | s::l,r,b,h=>by
  have h1:stepT s b≤20000:=h [s] ⟨l,rfl⟩ (by simp);have h2:lT l (stepT s b):=fun p hp hn=>h (s::p) (by obtain ⟨q,hq⟩:=hp;exact ⟨q,by simp [hq]⟩) (by simp)
  rw [List.cons_append,bS,if_neg (by omega),uU l r _ h2]
  rfl
theorem rR (s:aa) (b:Int) (hb:0≤b):b<stepT s b∧stepT s b≤max (b+1) 20001+s.exprs.length:=by
 have:=uw s.exprs (b+1) (by omega);unfold stepT;omega
theorem Gu (l:List aa):∀b:Int,0≤b→b≤kw l b:=by
 induction l with
 | nil=>intro b hb;exact Int.le_refl _
 | cons s l ih =>
  intro b hb;have h1:=rR s b hb;have h2:=ih (stepT s b) (by omega);have e:kw (s::l) b=kw l (stepT s b):=rfl;omega
theorem nG {n₀:Nat} {W:World} {s:aa} (h:eu n₀ W s):∀y∈s.pre,eu n₀ W y:=by
 induction h with
 | mk s k b n er ex tr th orow el ih1 ih2 =>
  intro y hy;rw [aa.pre_eq] at hy;rcases List.mem_cons.1 hy with e | hy
  ·rw [e];exact .mk s k b n er ex tr th orow el
  ·rcases List.mem_append.1 hy with hy | hy
   ·obtain ⟨t,ht,hy⟩:=List.mem_flatMap.1 hy;exact ih1 t ht y hy
   ·obtain ⟨t,ht,hy⟩:=List.mem_flatMap.1 hy;exact ih2 t ht y hy
set_option maxRecDepth 1000000 in
set_option maxHeartbeats 4000000 in
theorem cK (w:World) (sp:Sp) (ll:List aa) (b:Int) (h:bX w.heap.size w sp ll) (hb:0≤b∧b≤2305843009213693952) :
  Calls Tryz.prog 94 #[sp.val ll.length,.int .i64 b] w fun o w'=>o=.returned (.int .i64 (bS (ll.flatMap aa.pre) b))∧Below w.heap.size w w':=by
 refine (callsIn_wide (n:=5)).1 ?_;have hE:=fun w'=>rT sp ll.length w'
 simp only [Sp.val] at hE ⊢;have HE:=zhd hE;clear hE;refine callsIn_of_wp_marks Tryz.func94 rfl trivial ?_ rfl;simp only [Tryz.ntmps94,List.size_toArray,List.length_cons,List.length_nil,Nat.reduceAdd,Nat.reduceSub,Array.replicate_succ,Array.replicate_zero,List.push_toArray,List.append_toArray,List.nil_append,List.cons_append]
 gi_wp2
 refine wpIn_wide.2 (wp_scope_straight (wpIn_wide (n:=5).1 ?_));refine wpIn_seq (wpIn_label ?_)
 gi_wp2_with (refine ⟨trivial,?_⟩;gi_at_call 109;refine (callsIn_wide.2 (HE.out _)).mono ?_;rintro o4 w4 ⟨rfl,rfl⟩)
 have hbw:Below w.heap.size w ((w.alloc (.cells #[.int .i64 b] 3)).alloc (.cells #[.slice sp.at_ ll.length sp.cap] 33)):=((Below.refl _ w).alloc (Nat.le_refl _) _).alloc (by simp) _;have hB5:=zan (w.alloc (.cells #[.int .i64 b] 3)) (.cells #[.slice sp.at_ ll.length sp.cap] 33);rw [World.size_alloc] at hB5;have hbx:Boxed ((w.alloc (.cells #[.int .i64 b] 3)).alloc (.cells #[.slice sp.at_ ll.length sp.cap] 33)) w.heap.size 3 (.int .i64 b):=(Boxed.new w 3 (.int .i64 b)).alloc _;have hs3:w.heap.size+2≤((w.alloc (.cells #[.int .i64 b] 3)).alloc (.cells #[.slice sp.at_ ll.length sp.cap] 33)).heap.size:=by simp
 generalize (w.alloc (.cells #[.int .i64 b] 3)).alloc (.cells #[.slice sp.at_ ll.length sp.cap] 33)=w3 at *;have hmem:∀y∈ll.flatMap aa.pre,eu w.heap.size w y:=by
  intro y hy;obtain ⟨s,hs,hy⟩:=List.mem_flatMap.1 hy;exact nG (h.ok s hs) y hy
 refine bi (T:=TT) rfl (fun h=>by cases h) (gf:=169) (lb:=#[.pointer (some ⟨w.heap.size+1,0,none⟩)]) rfl trivial (enters_of Tryz.func169 (by kernel_rfl) rfl)
  (yD h _ w3 (w.heap.size+1) hbw (by omega) hB5) (by omega) (Below.refl _ _) (fun _=>rfl)
  (fun pre W'=>(Boxed W' w.heap.size 3 (.int .i64 (kw pre b))∧Hid (lT pre b))∧Below w.heap.size w W'∧w3.heap.size≤W'.heap.size)
  (fun c pre W'=>c=.exit 0∧Hid (∃p y,pre=p++[y]∧lT p b∧20000<kw pre b)∧Boxed W' w.heap.size 3 (.int .i64 (kw pre b))∧Below w.heap.size w W'∧w3.heap.size≤W'.heap.size)
  ?hI ?hIx ⟨⟨hbx,zhd (lT.nil b)⟩,hbw,Nat.le_refl _⟩
  (fun y a' W'=>∃by5 v10,W'.heap[by5]? = some (.cells y.cells.toArray 43 (0,0))∧a'={ tmps:=#[.slice sp.at_ ll.length sp.cap,.int .i64 b,undef,.pointer (some ⟨w.heap.size,0,none⟩),.int .i64 0,.pointer (some ⟨by5,0,none⟩),undef,undef,.slice sp.at_ ll.length sp.cap,.func (.func 169) #[] #[.pointer (some ⟨w.heap.size+1,0,none⟩)],v10,undef,undef,undef,undef,undef,undef,undef,undef,undef,undef,undef,undef,undef,undef,undef,undef],defers:=[] })
  ?hAx ?assign ?body ?done ?stop
 case hI =>
  rintro s X' Y rw ⟨⟨h1,h2⟩,h4,h5⟩ hg hr;exact ⟨⟨h1.kept hg (fun e'=>by have:=(hr _ e'.symm).1;omega),h2⟩,h4.grown hg (by omega) (fun q hq=>by have:=(hr q hq).1;omega),Nat.le_trans h5 hg.size⟩
 case hIx =>
  rintro c s X' Y rw ⟨hc,h2,h1,h4,h5⟩ hg hr;exact ⟨hc,h2,h1.kept hg (fun e'=>by have:=(hr _ e'.symm).1;omega),h4.grown hg (by omega) (fun q hq=>by have:=(hr q hq).1;omega),Nat.le_trans h5 hg.size⟩
 case hAx =>
  rintro y a' _ X' Y rw ⟨by5,v10,h1,h2⟩ hg hr;refine ⟨by5,v10,(hg.block by5 (zgs h1).1 (fun e'=>?_)).trans h1,h2⟩;obtain ⟨_,o',ho,hc⟩:=hr by5 e'.symm;rw [h1] at ho;cases ho
  cases hc
 case assign =>
  rintro l2 pre y Wc K ⟨⟨h1,h2⟩,h4,h5⟩ hK;simp only [aa.val,Sp.val] at hK ⊢
  gi_wp2
  have hba:=zba Wc (.cells #[.int .u8 y.kind,.string y.name,.slice y.es.at_ y.exprs.length y.es.cap,.int .i64 y.bound,.slice y.ts.at_ y.thn.length y.ts.cap,.slice y.os.at_ y.els.length y.os.cap] 43);exact hK _ _ (ax.of_below hba) (hba.mono (by omega)) ⟨⟨h1.alloc _,h2⟩,h4.trans (hba.mono (by omega)),by have:=hba.size;omega⟩ ⟨_,_,zan _ _,rfl⟩
 case body =>
  rintro l2 pre y a' Wc hl2 ⟨⟨h1,hF⟩,h4,h5⟩ ⟨by5,v10,hby,rfl⟩ hlen hsp;simp only [aa.cells,Sp.val] at hby
  obtain ⟨q0,q1,q2,q3,q4,q5⟩:=ag hby
  have hRT:=hmem y (hsp.mem (by simp));have hsn:=qP pre y b;have ha0:=Gu pre b hb.1;have ha1:kw pre b≤2305843009213693952:=by
   by_cases e:pre=[]
   ·rw [e];exact hb.2
   ·have:=hF.out pre (List.prefix_refl _) e;omega
  have hsn2:kw (pre++[y]) b=y.exprs.foldl (fun b e=>dF e.pre.length b) (kw pre b+1):=hsn;generalize hacc:kw pre b=acc at *;have HACC:=zhd hacc;have HSN:=zhd hsn2;have hxs:=hRT.xs;have hfew:=hxs.row.few;clear hacc hsn hsn2 hby hmem q0 q1 q3 q4 q5;have hc:=h1.cell;have hf:=h1.frozen;have hk1:ax TT w3.heap.size Wc (Wc.setCell ⟨w.heap.size,0,none⟩ (.int .i64 (acc+1))):=ax.set (a:=⟨w.heap.size,0,none⟩) h1 rfl _;have hbb1:Below w.heap.size Wc (Wc.setCell ⟨w.heap.size,0,none⟩ (.int .i64 (acc+1))):=(Below.refl _ Wc).setCell (p:=⟨w.heap.size,0,none⟩) (Nat.le_refl _) _;have hst1:Boxed (Wc.setCell ⟨w.heap.size,0,none⟩ (.int .i64 (acc+1))) w.heap.size 3 (.int .i64 (acc+1)):=h1.set _;have HK1:=zhd hk1;have HBB1:=zhd hbb1;have HST1:=zhd hst1;clear hk1 hbb1 hst1
  gi_wp2
  generalize Wc.setCell ⟨w.heap.size,0,none⟩ (.int .i64 (acc+1))=Wd at *;have hsd:=HK1.out.size
  gi_loopw [16] (fun i wr=>∃k:Nat,k≤y.exprs.length∧i=.int .i64 k∧Boxed wr w.heap.size 3 (.int .i64 ((y.exprs.take k).foldl (fun b e=>dF e.pre.length b) (acc+1)))∧Below w.heap.size Wd wr∧ax TT w3.heap.size Wd wr) (fun i _=>y.exprs.length - (intOf i).toNat)
  case atStart=>exact ⟨0,Nat.zero_le _,rfl,by simpa using HST1.out,Below.refl _ _,ax.refl _ _ _⟩
  case round =>
   obtain ⟨k,hk,rfl,hbk,hbr,hkr⟩:=hrel;have hszr:=hkr.size;by_cases hlt:k<y.exprs.length
   ·obtain ⟨b0,off,eA,hbn,hcell⟩:=((hxs.row.below h4).below (HBB1.out.trans hbr)).row (by omega)
    have hts:y.exprs.take (k+1)=y.exprs.take k++[y.exprs[k]]:=List.take_succ_eq_append_getElem hlt;have k0:wr.cell? ⟨b0,off+k*6,none⟩=some (.int .u8 y.exprs[k].kind):=hcell k hlt 0 _ rfl;have k1:wr.cell? ⟨b0,off+k*6+1,none⟩=some (.int .u8 y.exprs[k].op):=hcell k hlt 1 _ rfl;have k2:wr.cell? ⟨b0,off+k*6+2,none⟩=some (.int .u32 y.exprs[k].value):=hcell k hlt 2 _ rfl;have k3:wr.cell? ⟨b0,off+k*6+3,none⟩=some (.int .i64 y.exprs[k].width):=hcell k hlt 3 _ rfl;have k4:wr.cell? ⟨b0,off+k*6+4,none⟩=some (.string y.exprs[k].name):=hcell k hlt 4 _ rfl;have k5:wr.cell? ⟨b0,off+k*6+5,none⟩=some (.slice y.exprs[k].sp.at_ y.exprs[k].subs.length y.exprs[k].sp.cap):=hcell k hlt 5 _ rfl;have hrx:=((hxs.ok _ (List.getElem_mem hlt)).stays h4).stays (HBB1.out.trans hbr);have HTS:=zhd hts;generalize y.exprs[k]=x at *;have hfl:=uw (y.exprs.take k) (acc+1) (by omega);have hfll:(y.exprs.take k).length≤k:=List.length_take_le _ _;generalize hcur:(y.exprs.take k).foldl (fun b e=>dF e.pre.length b) (acc+1)=cur at *;have HCUR:=zhd hcur;have hc:=hbk.cell;have hf:=hbk.frozen;have hbx2:=hbk.alloc (.cells #[.int .u8 x.kind,.int .u8 x.op,.int .u32 x.value,.int .i64 x.width,.string x.name,.slice x.sp.at_ x.subs.length x.sp.cap] 30);have hba:=zba wr (.cells #[.int .u8 x.kind,.int .u8 x.op,.int .u32 x.value,.int .i64 x.width,.string x.name,.slice x.sp.at_ x.subs.length x.sp.cap] 30);have hsa:=hba.size;have hrx2:=(hrx.stays (hba.mono (by omega))).more (n₁:=(wr.alloc (.cells #[.int .u8 x.kind,.int .u8 x.op,.int .u32 x.value,.int .i64 x.width,.string x.name,.slice x.sp.at_ x.subs.length x.sp.cap] 30)).heap.size) (by omega);have hCE:=fZ _ x cur hrx2 (by omega);simp only [ae.val,Sp.val] at hCE;have HCE:=zhd hCE;have HBA:=zhd hba;have HBX2:=zhd hbx2;have hj0:(0:Int)≤(k:Int):=by omega
    have hj1:(k:Int)<(y.exprs.length:Int):=by omega
    have hjm:(k:Int)+1≤9223372036854775807:=by omega
    have hn1:(1:Nat)≤5 - 1 - 1:=by omega
    clear hcell hts hcur hrx hrx2 hCE hba hbx2;rw [eA];clear eA;have hcA:=HBX2.out.cell;have hfA:=HBX2.out.frozen;clear hc hf
    gi_wp2
    refine ⟨trivial,?_⟩;refine (CallsIn.inRound l2 (callsIn_wide.2 HCE.out)).mono ?_;rintro o4 W4 ⟨rfl,hb4⟩;clear hcA hfA;have hbx4:Boxed W4 w.heap.size 3 (.int .i64 cur):=(hb4.block w.heap.size (by omega)).trans HBX2.out;have hc4:=hbx4.cell;have hf4:=hbx4.frozen;have hk4:ax TT w3.heap.size Wd (W4.setCell ⟨w.heap.size,0,none⟩ (.int .i64 (dF x.pre.length cur))):=((hkr.trans (ax.of_below HBA.out)).trans (ax.of_below hb4)).trans (ax.set (a:=⟨w.heap.size,0,none⟩) hbx4 rfl _);have hb5:Below w.heap.size Wd (W4.setCell ⟨w.heap.size,0,none⟩ (.int .i64 (dF x.pre.length cur))):=((hbr.trans (HBA.out.mono (by omega))).trans (hb4.mono (by omega))).setCell (p:=⟨w.heap.size,0,none⟩) (Nat.le_refl _) _;have hst4:Boxed (W4.setCell ⟨w.heap.size,0,none⟩ (.int .i64 (dF x.pre.length cur))) w.heap.size 3 (.int .i64 ((y.exprs.take (k+1)).foldl (fun b e=>dF e.pre.length b) (acc+1))):=by
     rw [HTS.out,List.foldl_append,HCUR.out];exact hbx4.set _
    have HK4:=zhd hk4;have HB5:=zhd hb5;have HST4:=zhd hst4;clear hk4 hb5 hst4 hbx4
    gi_wp2
    go_roundw
    case rel=>exact ⟨k+1,by omega,by go_num,HST4.out,HB5.out,HK4.out⟩
    case measure=>simp [intOf];omega
   ·obtain rfl:k=y.exprs.length:=by omega
    rw [List.take_length,←HSN.out] at hbk;have hc:=hbk.cell;have HBK:=zhd hbk;have hKt:=HK1.out.trans hkr;have hBt:=HBB1.out.trans hbr;by_cases hgt:20000<kw (pre++[y]) b
    ·have HX:Hid (∃p y',pre++[y]=p++[y']∧lT p b∧20000<kw (pre++[y]) b):=zhd ⟨pre,y,rfl,hF.out,hgt⟩
     clear hbk
     gi_wp2
     exact ⟨hKt,rfl,HX,HBK.out,h4.trans hBt,Nat.le_trans h5 hKt.size⟩
    ·have HX:Hid (lT (pre++[y]) b):=zhd (hF.out.snoc (by omega))
     clear hbk
     gi_wp2
     exact ⟨hKt,hBt,⟨HBK.out,HX⟩,h4.trans hBt,Nat.le_trans h5 hKt.size⟩
 case done =>
  rintro Dq ys Wd hD rfl ⟨⟨h1,h2⟩,h4,h5⟩ hK;have hc:=h1.cell
  gi_wp2
  refine ⟨by simp,.inl ⟨_,_,rfl,run_takeDeferred hK,?_⟩⟩;have e1:bS (ll.flatMap aa.pre) b=kw (ll.flatMap aa.pre) b:=by
   have:=uU (ll.flatMap aa.pre) [] b h2.out;rw [List.append_nil] at this;exact this
  exact ⟨_,results_tmp rfl _ _ _,by rw [e1];rfl,h4.trans (bD _ _ (by omega))⟩
 case stop =>
  rintro Dq c pre Wd hD hp ⟨rfl,h2,h1,h4,h5⟩ hK;have hc:=h1.cell
  gi_wp2
  refine ⟨by simp,.inl ⟨_,_,rfl,run_takeDeferred hK,?_⟩⟩;have e1:bS (ll.flatMap aa.pre) b=kw pre b:=by
   obtain ⟨p,y,e,hf,hgt⟩:=h2.out;obtain ⟨r,hr⟩:=hp;rw [←hr,e,List.append_assoc,uU p _ b hf,List.singleton_append,bS];rw [e,qP] at hgt;rw [if_pos hgt,qP]
  exact ⟨_,results_tmp rfl _ _ _,by rw [e1];rfl,h4.trans (bD _ _ (by omega))⟩
end
section
open Go Go.RowKit
theorem iC (n:Int) (w:World):Calls Tryz.prog 85 #[.int .i64 n] w fun o w'=>o=.returned (.bool (decide (n≤20000)))∧w=w':=by
 go_enter Tryz.func85,Tryz.ntmps85
 go_wp2
 go_ret
 exact ⟨rfl,rfl⟩
def bW (n:Int):Int:=if n≤20000 then n else 0
theorem rP (n:Int) (w:World):Calls Tryz.prog 110 #[.int .i64 n] w fun o w'=>o=.returned (.int .i64 (bW n))∧w=w':=by
 by_cases h:n≤20000
 ·have hd:decide (n≤20000)=true:=decide_eq_true h
  have hL:=iC n w;rw [hd] at hL;have e:bW n=n:=if_pos h;have HL:=zhd hL;clear hL;go_enter Tryz.func110,Tryz.ntmps110
  go_wp2_with fail
  refine HL.out.mono ?_;rintro o w1 ⟨rfl,rfl⟩;go_wp2_with fail
  go_ret
  exact ⟨by rw [e];rfl,rfl⟩
 ·have hd:decide (n≤20000)=false:=decide_eq_false h
  have hL:=iC n w;rw [hd] at hL;have e:bW n=0:=if_neg h;have HL:=zhd hL;clear hL;go_enter Tryz.func110,Tryz.ntmps110
  go_wp2_with fail
  refine HL.out.mono ?_;rintro o w1 ⟨rfl,rfl⟩;go_wp2_with fail
  go_ret
  exact ⟨by rw [e];rfl,rfl⟩
set_option maxRecDepth 1000000 in
theorem zK (w:World) (e:ae) (h:iw w.heap.size w e) :
  Calls Tryz.prog 163 #[e.val] w fun o w'=>o=.returned (.int .i64 (bW (dF e.pre.length 0)))∧Below w.heap.size w w':=by
 have hb:=fun v=>(Below.refl _ w).alloc (Nat.le_refl _) (.cells v 30)
 have hC:=fZ (w.alloc (.cells #[.int .u8 e.kind,.int .u8 e.op,.int .u32 e.value,.int .i64 e.width,.string e.name,.slice e.sp.at_ e.subs.length e.sp.cap] 30)) e 0 ((h.stays (hb _)).more (by simp)) (by omega);simp only [ae.val,Sp.val] at hC ⊢;have HC:=zhd hC;have HB:=zhd (hb #[.int .u8 e.kind,.int .u8 e.op,.int .u32 e.value,.int .i64 e.width,.string e.name,.slice e.sp.at_ e.subs.length e.sp.cap]);clear hC hb;go_enter Tryz.func163,Tryz.ntmps163
 go_wp2_with fail
 refine HC.out.mono ?_;rintro o w1 ⟨rfl,hb1⟩;go_wp2_with fail
 refine (rP _ _).mono ?_;rintro o w2 ⟨rfl,rfl⟩;go_wp2_with fail
 go_ret
 exact ⟨rfl,HB.out.trans (hb1.mono HB.out.size)⟩
set_option maxRecDepth 1000000 in
theorem xm (w:World) (sp:Sp) (ll:List aa) (h:bX w.heap.size w sp ll) :
  Calls Tryz.prog 164 #[sp.val ll.length] w fun o w'=>o=.returned (.int .i64 (bW (bS (ll.flatMap aa.pre) 0)))∧Below w.heap.size w w':=by
 have hC:=cK w sp ll 0 h (by omega);simp only [Sp.val] at hC ⊢;have HC:=zhd hC;clear hC;go_enter Tryz.func164,Tryz.ntmps164
 go_wp2_with fail
 refine HC.out.mono ?_;rintro o w1 ⟨rfl,hb1⟩;go_wp2_with fail
 refine (rP _ _).mono ?_;rintro o w2 ⟨rfl,rfl⟩;go_wp2_with fail
 go_ret
 exact ⟨rfl,hb1⟩
end
section
open Go
def bG (n:Int):Bool:=decide (1≤n∧n≤16)
def dV (a b:Int):Bool:=bG a && bG b && decide (a≠b)
def qh (n:Int):Int:=if bG n then 2 ^ n.toNat - 1 else 0
def nY (n:Int):Int:=if bG n then 0 else 220
def qp (op:Int):Bool:=decide (1≤op∧op≤16)
def om (op:Int):Bool:=decide (3≤op∧op≤16)
def ji (op:Int):Bool:=decide (13≤op∧op≤16)
def iL (op w:Int):Int:=if qp op=true then (if bG w=true then (if ji op=true then 1 else w) else 0) else 0
structure fA where
 kind:Int
 width:Int
deriving DecidableEq
def look {α:Type} (T:List (ByteArray × α)) (s:ByteArray):Option α:=(T.find? fun x=>decide (x.1=s)).map (·.2)
def fO (p:af):List (ByteArray × fA) :=
 p.inputs.map (fun d=>(d.name,⟨1,d.width⟩))++p.ghosts.map (fun d=>(d.name,⟨2,d.width⟩))++p.vars.map (fun d=>(d.name,⟨3,d.width⟩))++p.arrays.map (fun d=>(d.name,⟨4,d.width⟩))
def jk (q:aK):List (ByteArray × fA):=q.params.map (fun d=>(d.name,⟨5,d.width⟩))
def numbered {α:Type} (f:α→ByteArray):List α→Nat→List (ByteArray × Int)
 | [],_=>[]
 | x::l,n=>(f x,(n:Int))::numbered f l (n+1)
def cz (p:af):List (ByteArray × Int):=numbered aK.name p.procs 0
structure Env where
 within:Int
 params:List (ByteArray × fA)
def outside:Env:=⟨-1,[]⟩
def inside (p:af) (i:Nat):Env:=⟨i,match p.procs[i]? with | some q=>jk q | none=>[]⟩
def aJ (p:af) (E:Env) (s:ByteArray):fA :=
 match look E.params s with
 | some x=>x
 | none=>(look (fO p) s).getD ⟨0,0⟩
def dP (p:af) (E:Env) (k op wd:Int) (nm:ByteArray) (s0 s1:Int):Int :=
 if k=1∨k=8 then wd
 else if k=2∨k=3 then (if (aJ p E nm).kind≠0∧((aJ p E nm).kind=4↔k=3) then (aJ p E nm).width else 0)
 else if k=4 then p.width
 else if k=5∨k=6 then iL op s0
 else if k=7 then s1
 else 0
def Av (n:Int):Int:=if bG n=true then n else 0
mutual
def bu (p:af) (E:Env):ae→Int
 | .mk k op _ wd nm _ subs=>Av (dP p E k op wd nm ((pE p E subs).getD 0 0) ((pE p E subs).getD 1 0))
def pE (p:af) (E:Env):List ae→List Int
 | []=>[]
 | e::l=>bu p E e::pE p E l
end
theorem yI (p:af) (E:Env):∀l:List ae,pE p E l=l.map (bu p E)
 | []=>by rw [pE];rfl
 | e::l=>by rw [pE,yI p E l];rfl
def bF (p:af) (E:Env) (l:List ae) (i:Nat):Int:=match l[i]? with | some e=>bu p E e | none=>0
theorem yH (p:af) (E:Env) (l:List ae) (i:Nat):(pE p E l).getD i 0=bF p E l i:=by
 rw [yI,bF,List.getD_eq_getElem?_getD,List.getElem?_map];cases l[i]? <;> rfl
theorem rX (p:af) (E:Env) (e:ae):bu p E e=Av (dP p E e.kind e.op e.width e.name (bF p E e.subs 0) (bF p E e.subs 1)):=by
 cases e
 rw [bu,yH,yH]
 rfl
def jT (e:ae):Bool :=
 if e.kind=1 then decide (e.op=0∧e.name=ByteArray.empty∧e.subs.length=0)
 else if e.kind=2 then decide (e.op=0∧e.value=0∧e.width=0∧e.subs.length=0)
 else if e.kind=3 then decide (e.op=0∧e.value=0∧e.width=0∧e.subs.length=1)
 else if e.kind=4 then decide (e.op=0∧e.value=0∧e.width=0∧e.name=ByteArray.empty∧e.subs.length=1)
 else if e.kind=5 then decide (qp e.op=true∧om e.op=false∧e.value=0∧e.width=0∧e.name=ByteArray.empty∧e.subs.length=1)
 else if e.kind=6 then decide (om e.op=true∧e.value=0∧e.width=0∧e.name=ByteArray.empty∧e.subs.length=2)
 else if e.kind=7 then decide (e.op=0∧e.value=0∧e.width=0∧e.name=ByteArray.empty∧e.subs.length=3)
 else if e.kind=8 then decide (e.op=0∧e.value=0∧e.name=ByteArray.empty∧e.subs.length=1)
 else false
def bO (p:af) (E:Env) (e:ae):Bool :=
 if e.kind=1 then (!bG e.width) || decide (e.value>qh e.width)
 else if e.kind=8 then !bG e.width
 else if e.kind=6∧e.subs.length=2 then dV (bF p E e.subs 0) (bF p E e.subs 1)
 else if e.kind=7∧e.subs.length=3 then dV (bF p E e.subs 1) (bF p E e.subs 2)
 else false
def dL (e:ae):Bool:=decide (e.kind=2∨e.kind=3)
def dx (p:af) (small large:Int):Int:=if p.procs.length>0 then small else large
def iR (p:af) (E:Env) (wh:Int) (e:ae) (d:Nat):Int :=
 if jT e=false then 325
 else if dL e=true∧((aJ p E e.name).kind=0∨¬((aJ p E e.name).kind=4↔e.kind=3)) then 321
 else if (wh=1∧(e.kind=4∨dL e=true∧(aJ p E e.name).kind≠1))∨(wh=2∧dL e=true∧((aJ p E e.name).kind=3∨(aJ p E e.name).kind=4)) then 326
 else if bO p E e=true then 322
 else if (d:Int)>dx p 32 1000 then 319
 else 0
mutual
def fC (p:af) (E:Env) (wh:Int):ae→Nat→List Int
 | .mk k op v wd nm sp subs,d=>iR p E wh (.mk k op v wd nm sp subs) d::bI p E wh subs (d+1)
def bI (p:af) (E:Env) (wh:Int):List ae→Nat→List Int
 | [],_=>[]
 | e::l,d=>fC p E wh e d++bI p E wh l d
end
theorem kD (p:af) (E:Env) (wh:Int) (e:ae) (d:Nat):fC p E wh e d=iR p E wh e d::bI p E wh e.subs (d+1):=by
 cases e;rw [fC];rfl
theorem bU (p:af) (E:Env) (wh:Int):∀(l:List ae) (d:Nat),bI p E wh l d=l.flatMap (fun e=>fC p E wh e d)
 | [],_=>by rw [bI];rfl
 | e::l,d=>by rw [bI,bU p E wh l d];rfl
def jB (s:aa):Bool :=
 if s.kind=1 then decide (s.bound=0∧s.thn.length=0∧s.els.length=0∧s.exprs.length=1)
 else if s.kind=2 then decide (s.bound=0∧s.thn.length=0∧s.els.length=0∧s.exprs.length=2)
 else if s.kind=3 then decide (s.name=ByteArray.empty∧s.bound=0∧s.thn.length=0∧s.els.length=0∧s.exprs.length=2)
 else if s.kind=4∨s.kind=5 then decide (s.name=ByteArray.empty∧s.bound=0∧s.thn.length=0∧s.els.length=0∧s.exprs.length=0)
 else if s.kind=6 then decide (s.name=ByteArray.empty∧s.bound=0∧s.exprs.length=1)
 else if s.kind=7 then decide (s.name=ByteArray.empty∧s.els.length=0∧s.exprs.length=1)
 else if s.kind=8 then decide (s.bound=0∧s.thn.length=0∧s.els.length=0)
 else false
def gQ (l:List ByteArray) (s:ByteArray):Bool:=l.any fun x=>decide (x=s)
def jq (l:List ByteArray) (s:ByteArray):List ByteArray:=if gQ l s=true then l else l++[s]
def iJ (l:List aa):List ByteArray:=(l.flatMap aa.pre).foldl (fun out s=>if s.kind=8 then jq out s.name else out) []
def fD (p:af) (i:Nat):List Nat:=match p.procs[i]? with
 | some q=>(iJ q.body).filterMap fun s=>(look (cz p) s).map Int.toNat
 | none=>[]
def eO (p:af) (to:Nat):Nat→List Nat→List Nat→Bool
 | 0,_,_=>false
 | _+1,_,[]=>false
 | n+1,seen,i::todo=>if i=to then true else if i∈seen then eO p to n seen todo else eO p to n (i::seen) (todo++fD p i)
def mD (p:af):Nat:=2+((List.range p.procs.length).map fun i=>(fD p i).length).sum
def ja (p:af) (from_ to:Nat):Bool:=eO p to (mD p) [] [from_]
def ky (p:af) (E:Env):List aG→List ae→Bool
 | d::ds,e::es=>dV (bu p E e) d.width || ky p E ds es
 | _,_=>false
def lU (p:af) (E:Env) (i:Nat) (l:List ae):Bool:=match p.procs[i]? with
 | some q=>if q.params.length≠l.length then true else ky p E q.params l
 | none=>false
def eF (p:af) (E:Env) (s:aa):Int :=
 if s.kind=1 then
  (if (aJ p E s.name).kind=0∨(aJ p E s.name).kind=1∨(aJ p E s.name).kind=4 then 321
  else if dV (bF p E s.exprs 0) (aJ p E s.name).width=true then 322 else 0)
 else if s.kind=2 then
  (if (aJ p E s.name).kind≠4 then 321
  else if dV (bF p E s.exprs 1) (aJ p E s.name).width=true then 322 else 0)
 else if s.kind=3 then (if dV (bF p E s.exprs 1) p.width=true then 322 else 0)
 else if s.kind=7 then (if s.bound<1∨s.bound>16 then 329 else 0)
 else if s.kind=8 then
  (match look (cz p) s.name with
  | none=>321
  | some i=>if lU p E i.toNat s.exprs=true then 327
   else if E.within≥0∧ja p i.toNat E.within.toNat=true then 328 else 0)
 else 0
def jo (p:af) (E:Env) (s:aa) (d:Nat):Int :=
 if jB s=true then (if eF p E s=0 then (if (d:Int)>dx p 32 1000 then 319 else 0) else eF p E s) else 325
mutual
def kM (p:af) (E:Env):aa→Nat→List Int
 | .mk k nm es ex b ts th os el,d=>jo p E (.mk k nm es ex b ts th os el) d::(bI p E 0 ex 1++(aH p E th (d+1)++aH p E el (d+1)))
def aH (p:af) (E:Env):List aa→Nat→List Int
 | [],_=>[]
 | s::l,d=>kM p E s d++aH p E l d
end
theorem kN (p:af) (E:Env) (s:aa) (d:Nat):kM p E s d=jo p E s d::(bI p E 0 s.exprs 1++(aH p E s.thn (d+1)++aH p E s.els (d+1))):=by
 cases s;rw [kM];rfl
theorem bA (p:af) (E:Env):∀(l:List aa) (d:Nat),aH p E l d=l.flatMap (fun s=>kM p E s d)
 | [],_=>by rw [aH];rfl
 | s::l,d=>by rw [aH,bA p E l d];rfl
def words:List String:=["device", "width", "input", "ghost", "var", "array", "require", "init", "proc", "work", "recover", "invariant", "flush", "barrier", "write", "if", "else", "while", "bound", "call", "disk"]
def lower (c:UInt8):Bool:=decide (97≤c.toNat∧c.toNat≤122)
def mI (c:UInt8):Bool:=lower c || decide (48≤c.toNat∧c.toNat≤57) || decide (c.toNat=95)
def iZ (s:List UInt8):Bool :=
 decide (s.length≤16) && (match s with | c::_=>lower c | []=>false) && s.all mI && words.all (fun w=>decide (w.toUTF8.data.toList≠s))
def y7:List UInt8→Option (List UInt8 × List UInt8)
 | []=>none
 | c::l=>if c.toNat=46 then some ([],l) else (y7 l).map fun x=>(c::x.1,x.2)
def ig (p:af) (s:List UInt8):Bool:=match y7 s with
 | some (a,b)=>if p.procs.length=0 then iZ a && iZ b else iZ s
 | none=>iZ s
def mo (p:af) (before:List ByteArray) (isArray:Bool) (d:aG):Int :=
 if gQ before d.name=true∨ig p d.name.data.toList=false then 321
 else if bG d.width=false then 322
 else if (if isArray=true then decide (1≤d.size∧d.size≤16) else decide (d.size=0))=false then 323
 else 0
def bB (p:af) (isArray:Bool):List aG→List ByteArray→List Int
 | [],_=>[]
 | d::l,before=>mo p before isArray d::bB p isArray l (before++[d.name])
def vU (p:af) (before:List ByteArray) (q:aK):Int :=
 if gQ before q.name=true∨ig p q.name.data.toList=false then 321
 else if q.params.length>8 then 327
 else 0
def aL (p:af):List ByteArray:=(fO p).map (·.1)
def jS (p:af) (before:List ByteArray) (i:Nat) (q:aK):List Int :=
 vU p before q::(bB p false q.params (aL p)++aH p (inside p i) q.body 1)
def bV (p:af):List aK→Nat→List ByteArray→List Int
 | [],_,_=>[]
 | q::l,i,before=>jS p before i q++bV p l (i+1) (before++[q.name])
def sM (p:af) (before:List Int) (x:bn):Int :=
 if x.block<0∨x.block≥p.blocks∨x.block∈before then 324
 else if dV (bu p outside x.value) p.width=true then 322
 else 0
def cO (p:af):List bn→List Int→List Int
 | [],_=>[]
 | x::l,before=>(sM p before x::fC p outside 1 x.value 1)++cO p l (before++[x.block])
def gL (p:af) (size:Int):Int :=
 if p.blocks<1∨p.blocks>8∨bG p.width=false then 320
 else if p.inputs.length>16∨p.ghosts.length>16∨(p.vars.length:Int)>dx p 16 256∨p.arrays.length>16∨p.procs.length>16∨size>dx p 2000 20000 then 5
 else 0
def oN (p:af):List ByteArray:=p.inputs.map aG.name
def names2 (p:af):List ByteArray:=oN p++p.ghosts.map aG.name
def oO (p:af):List ByteArray:=names2 p++p.vars.map aG.name
def cZ (p:af):List ByteArray:=oO p++p.arrays.map aG.name
def bK (p:af) (size:Int):List Int :=
 gL p size::(bB p false p.inputs []++(bB p false p.ghosts (oN p)++(bB p false p.vars (names2 p)++(bB p true p.arrays (oO p) ++
  (fC p outside 1 p.require 1++(cO p p.inits []++(bV p p.procs 0 (cZ p)++(aH p outside p.work 1++(aH p outside p.recover 1++fC p outside 2 p.invariant 1)))))))))
def fq:List Int→Nat→List (Int × Int)
 | [],_=>[]
 | c::l,n=>if c=0 then fq l (n+1) else ((n:Int),c)::fq l (n+1)
theorem qA:∀(a b:List Int) (n:Nat),fq (a++b) n=fq a n++fq b (n+a.length)
 | [],b,n=>by simp [fq]
 | c::a,b,n=>by
  rw [List.cons_append,fq,fq,qA a b (n+1)];have e:n+1+a.length=n+(c::a).length:=by simp;omega
  rw [e]
  split <;> simp
theorem lK (a:List Int) (c:Int):fq (a++[c]) 0=fq a 0++(if c=0 then [] else [((a.length:Int),c)]):=by
 rw [qA];simp only [fq,Nat.zero_add]
theorem yx:∀(a:List Int) (n:Nat),(fq a n).length≤a.length
 | [],n=>by simp [fq]
 | c::a,n=>by
  rw [fq];have:=yx a (n+1)
  split <;> simp <;> omega
end
section
open Go
def BC (p:af) (seen:List Nat):Nat:=((List.range p.procs.length).map fun i=>if i∈seen then 0 else (fD p i).length).sum
theorem BR (f:Nat→Nat) (seen:List Nat) (i:Nat) (hs:i∉seen):∀n:Nat,((List.range n).map fun j=>if j∈i::seen then 0 else f j).sum+(if i<n then f i else 0)=((List.range n).map fun j=>if j∈seen then 0 else f j).sum
 | 0=>by simp
 | n+1=>by
  have ih:=BR f seen i hs n;rw [List.range_succ,List.map_append,List.map_append,List.sum_append,List.sum_append];simp only [List.map_cons,List.map_nil,List.sum_cons,List.sum_nil,Nat.add_zero];by_cases h:n=i
  ·subst h
   rw [if_neg (Nat.lt_irrefl n)] at ih;rw [if_pos (List.mem_cons_self ..),if_pos (Nat.lt_succ_self n),if_neg hs];omega
  ·have e1:(if n∈i::seen then 0 else f n)=(if n∈seen then 0 else f n):=by simp [h]
   rw [e1];by_cases h2:i<n
   ·have e2:(if i<n then f i else 0)=f i:=if_pos h2
    have e3:(if i<n+1 then f i else 0)=f i:=if_pos (by omega);rw [e2] at ih;rw [e3];omega
   ·have e2:(if i<n then f i else 0)=0:=if_neg h2
    have e3:(if i<n+1 then f i else 0)=0:=if_neg (by omega);rw [e2] at ih;rw [e3];omega
theorem DI (p:af) (seen:List Nat) (i:Nat) (hs:i∉seen) (hi:i<p.procs.length):BC p (i::seen)+(fD p i).length=BC p seen:=by
 have:=BR (fun i=>(fD p i).length) seen i hs p.procs.length;rw [if_pos hi] at this;exact this
theorem Hd (p:af):mD p=2+BC p []:=by
 unfold mD BC;simp
theorem Dr (p:af) (to n:Nat) (seen:List Nat):eO p to n seen []=false:=by
 cases n <;> rw [eO]
theorem Dp (p:af) (n:Nat) (seen todo:List Nat) (to:Nat):eO p to (n+1) seen (to::todo)=true:=by
 rw [eO,if_pos rfl]
theorem Bg (p:af) (to n i:Nat) (seen todo:List Nat) (h:i≠to) (hs:i∈seen):eO p to (n+1) seen (i::todo)=eO p to n seen todo:=by
 rw [eO,if_neg h,if_pos hs]
theorem EZ (p:af) (to n i:Nat) (seen todo:List Nat) (h:i≠to) (hs:i∉seen):eO p to (n+1) seen (i::todo)=eO p to n (i::seen) (todo++fD p i):=by
 rw [eO,if_neg h,if_neg hs]
def jf (p:af) (l:List ByteArray):List Nat:=l.filterMap fun s=>(look (cz p) s).map Int.toNat
theorem BM (p:af) (l:List ByteArray) (s:ByteArray):jf p (l++[s])=jf p l++(match look (cz p) s with | some k=>[k.toNat] | none=>[]):=by
 unfold jf;rw [List.filterMap_append]
 congr 1
 cases h:look (cz p) s <;> simp [h]
theorem Bo (p:af) (i:Nat) (hi:i<p.procs.length):fD p i=jf p (iJ (p.procs[i]).body):=by
 unfold fD jf;rw [List.getElem?_eq_getElem hi]
theorem sO {α:Type} (f:α→ByteArray):∀(l:List α) (n:Nat) (x:ByteArray × Int),x∈numbered f l n→∃k:Nat,x.2=k∧n≤k∧k<n+l.length
 | [],n,x,h=>by simp [numbered] at h
 | y::l,n,x,h=>by
  rw [numbered] at h;rcases List.mem_cons.1 h with e | h
  ·exact ⟨n,by rw [e],Nat.le_refl _,by simp⟩
  ·obtain ⟨k,h1,h2,h3⟩:=sO f l (n+1) x h
   exact ⟨k,h1,by omega,by simp;omega⟩
theorem oM {p:af} {s:ByteArray} {k:Int} (h:look (cz p) s=some k):0≤k∧k.toNat<p.procs.length∧(k.toNat:Int)=k:=by
 unfold look at h;cases hf:(cz p).find? (fun x=>decide (x.1=s)) with
 | none=>rw [hf] at h;cases h
 | some x =>
  rw [hf] at h;cases h
  obtain ⟨m,h1,_,h3⟩:=sO _ _ _ _ (List.mem_of_find?_eq_some hf);simp only [h1,Int.toNat_natCast];exact ⟨by omega,by omega,trivial⟩
theorem Gd (l:List ByteArray) (s:ByteArray):(jq l s).length≤l.length+1:=by
 unfold jq;split <;> simp
theorem xD (l:List aa):∀out:List ByteArray,(l.foldl (fun out s=>if s.kind=8 then jq out s.name else out) out).length≤out.length+l.length:=by
 induction l with
 | nil=>intro out;simp
 | cons s l ih =>
  intro out;rw [List.foldl_cons];refine Nat.le_trans (ih _) ?_;have:=Gd out s.name
  split <;> simp <;> omega
theorem uO (l:List aa):(iJ l).length≤(l.flatMap aa.pre).length:=by
 have:=xD (l.flatMap aa.pre) []
 simpa [iJ] using this
theorem ym (p:af) (i:Nat) (hi:i<p.procs.length):(fD p i).length≤(p.procs[i].body.flatMap aa.pre).length:=by
 rw [Bo p i hi];exact Nat.le_trans (List.length_filterMap_le _ _) (uO _)
theorem EC (l:List aa) (P:ByteArray→Prop) (hl:∀t∈l,P t.name):∀out:List ByteArray,(∀s∈out,P s)→∀s∈l.foldl (fun out s=>if s.kind=8 then jq out s.name else out) out,P s:=by
 induction l with
 | nil=>intro out h;exact h
 | cons t l ih =>
  intro out h;rw [List.foldl_cons];refine ih (fun x hx=>hl x (List.mem_cons_of_mem _ hx)) _ ?_
  split
  ·intro s hs
   unfold jq at hs
   split at hs
   ·exact h s hs
   ·rcases List.mem_append.1 hs with hs | hs
    ·exact h s hs
    ·rw [List.mem_singleton.1 hs];exact hl t (List.mem_cons_self ..)
  ·exact h
theorem Cw (l:List aa) (P:ByteArray→Prop) (hl:∀t∈l.flatMap aa.pre,P t.name):∀s∈iJ l,P s :=
 EC _ P hl [] (fun _ h=>absurd h (by simp))
theorem FZ (p:af) (l:List ByteArray):∀k∈jf p l,k<p.procs.length:=by
 intro k hk;unfold jf at hk;obtain ⟨s,_,h⟩:=List.mem_filterMap.1 hk;cases hl:look (cz p) s with
 | none=>rw [hl] at h;cases h
 | some x =>
  rw [hl] at h;simp at h;have:=oM hl;omega
end
end Go.Proofs.YtepacjkacjabbaaGreatDoor
