import Derived.Test.YtepacjkacjabbaaGreatDoorWAA
import Derived.Test.YtepacjkacjabbaaGreatDoorWAX
import Derived.Test.YtepacjkacjabbaaGreatDoorWAG
import Derived.Test.YtepacjkacjabbaaGreatDoorWAE
namespace Go.Proofs.YtepacjkacjabbaaGreatDoor
section
open Go Go.RowKit Go.Maps
theorem yn (a b c d:Int) (s:ByteArray) (x:Value):(Tryz.prog.info? 30).map (·.size)=some (#[Value.int .u8 a,.int .u8 b,.int .u32 c,.int .i64 d,.string s,x]:Array Value).size:=by kernel_rfl
def wG (F:Nat) (bs:Array Value) (τ:ByteArray→ByteArray) (n0:Nat) (W0:World):Prop:=(∀(args:Array Value) (W:World),Sem.run Tryz.prog (callFunc F args) W=.ok (.enter F args) W)∧∀W,Below n0 W0 W→n0≤W.heap.size→∀s:ByteArray,s.size≤maxLen →
 Calls Tryz.prog F (#[.string s]++bs) W fun o w'=>o=.returned (.string (τ s))∧w'=W
def zy (F:Nat) (bs:Array Value) (τ:ByteArray→ByteArray) (n0:Nat) (W0:World) (e:ae):Prop:=∀W,Below n0 W0 W→n0≤W.heap.size →
 Calls Tryz.prog 149 #[.agg #[.int .u8 e.kind,.int .u8 e.op,.int .u32 e.value,.int .i64 e.width,.string e.name,.slice e.sp.at_ e.subs.length e.sp.cap],.func (.func F) #[] bs] W fun o w'=>∃e':ae,o=.returned (.agg #[.int .u8 e'.kind,.int .u8 e'.op,.int .u32 e'.value,.int .i64 e'.width,.string e'.name,.slice e'.sp.at_ e'.subs.length e'.sp.cap])∧Ea (tX τ) e e'∧aU W.heap.size w' e'∧Below W.heap.size W w'
set_option maxRecDepth 1000000 in
set_option maxHeartbeats 8000000 in
theorem Ig (F:Nat) (bs:Array Value) (τ:ByteArray→ByteArray) (hτ:∀s,s.size≤maxLen→(τ s).size≤maxLen) (n0:Nat) (W0:World) (hT:wG F bs τ n0 W0) (e:ae) (hrd:iG n0 W0 e) (hfew:e.subs.length≤1000000) (ih:∀s,s∈e.subs→zy F bs τ n0 W0 s):zy F bs τ n0 W0 e:=by
 intro w hw0 hn0;have hr:iG w.heap.size w e:=(hrd.stays hw0).more hn0;have HRD:=zhd hr;have HIH:=zhd fun (i:Nat) (hi:i<e.subs.length) (W:World) (hW:Below w.heap.size w W)=>ih _ (List.getElem_mem hi) W (hw0.trans (hW.mono hn0)) (Nat.le_trans hn0 hW.size)
 have HT:=zhd fun (W:World) (hW:Below w.heap.size w W)=>hT.2 W (hw0.trans (hW.mono hn0)) (Nat.le_trans hn0 hW.size)
 have HFEW:=zhd hfew;have hen:=hT.1;obtain ⟨hkd,hop,hvl,hwd,hnm⟩:=(match hr with | .mk _ a b c d e _ _=>⟨a,b,c,d,e⟩:_∧_∧_∧_∧_);have hcap:=hr.row.cap;have hbig:=hr.row.big;clear hrd hw0 ih hfew hr hT;go_enter Tryz.func149,Tryz.ntmps149
 have HFIN:=zhd (fun (W:World) (sa:Option Addr) (sc lo:Nat) (cur:List ae) (h:JC (tX τ) w W e sa sc lo e.subs.length cur)=>h.fin HRD.out (fun k s hs=>by unfold tX;split;exact hτ s hs;exact hs));obtain ⟨nm',hnm'⟩:∃s,tX τ e.kind e.name=s:=⟨_,rfl⟩;have HNM:=zhd hnm';clear hnm';go_upto_region 1 with fail
 go_cut [14] (fun s14 wx=>s14=.bool (decide (e.kind=2∨e.kind=3))∧((w.alloc (.cells #[.int .u8 e.kind,.int .u8 e.op,.int .u32 e.value,.int .i64 e.width,.string e.name,.slice e.sp.at_ e.subs.length e.sp.cap] 30)).alloc (.cells #[.int .u8 0,.int .u8 0,.int .u32 0,.int .i64 0,.string ⟨#[]⟩,.slice none 0 0] 30))=wx)
 case first =>
  by_cases k2:e.kind=2
  ·have g1:(e.kind == 2)=true:=by simp [k2]
   have g2:(e.kind == 3)=false:=by simp [k2]
   have HD:Hid (decide (e.kind=2∨e.kind=3)=true):=zhd (decide_eq_true (.inl k2));clear k2;go_wp2_with fail
   go_meet
   case rel=>exact ⟨by rw [HD.out],rfl⟩
  ·have g1:(e.kind == 2)=false:=by simp [k2]
   by_cases k3:e.kind=3
   ·have g2:(e.kind == 3)=true:=by simp [k3]
    have HD:Hid (decide (e.kind=2∨e.kind=3)=true):=zhd (decide_eq_true (.inr k3));clear k2 k3;go_wp2_with fail
    go_meet
    case rel=>exact ⟨by rw [HD.out],rfl⟩
   ·have g2:(e.kind == 3)=false:=by simp [k3]
    have HD:Hid (decide (e.kind=2∨e.kind=3)=false):=zhd (decide_eq_false (fun h=>h.elim k2 k3));clear k2 k3;go_wp2_with fail
    go_meet
    case rel=>exact ⟨by rw [HD.out],rfl⟩
 case rest =>
  obtain ⟨h14,hW1⟩:=hcut;subst hW1;have H14:=zhd h14;clear h14
  go_upto_if 14 with fail
  go_cut [18] (fun _ wx=>((w.alloc (.cells #[.int .u8 e.kind,.int .u8 e.op,.int .u32 e.value,.int .i64 e.width,.string nm',.slice e.sp.at_ e.subs.length e.sp.cap] 30)).alloc (.cells #[.int .u8 0,.int .u8 0,.int .u32 0,.int .i64 0,.string ⟨#[]⟩,.slice none 0 0] 30))=wx)
  case first =>
   have hb12:Below w.heap.size w ((w.alloc (.cells #[.int .u8 e.kind,.int .u8 e.op,.int .u32 e.value,.int .i64 e.width,.string e.name,.slice e.sp.at_ e.subs.length e.sp.cap] 30)).alloc (.cells #[.int .u8 0,.int .u8 0,.int .u32 0,.int .i64 0,.string ⟨#[]⟩,.slice none 0 0] 30)):=((Below.refl _ _).alloc (Nat.le_refl _) _).alloc (by simp) _;have HCL:=zhd (HT.out _ hb12 e.name hnm);clear hb12;by_cases hk:e.kind=2∨e.kind=3
   ·have HD:Hid (decide (e.kind=2∨e.kind=3)=true):=zhd (decide_eq_true hk)
    have e14:=H14.out;rw [HD.out] at e14;subst e14;have e1:τ e.name=nm':=by rw [←HNM.out];exact (if_pos hk).symm
    rw [e1] at HCL;clear hk e1 H14;go_wp2_with fail
    refine HCL.out.mono ?_;rintro o w' ⟨rfl,rfl⟩;go_wp2_with fail
    go_meet
    case rel=>rfl
   ·have HD:Hid (decide (e.kind=2∨e.kind=3)=false):=zhd (decide_eq_false hk)
    have e14:=H14.out;rw [HD.out] at e14;subst e14;have e1:e.name=nm':=by rw [←HNM.out];exact (if_neg hk).symm
    have E1:=zhd e1;clear hk e1 H14;go_wp2_with fail
    go_meet
    case rel=>rw [←E1.out]
  case rest =>
   subst hcut;obtain ⟨hx2,hz2,hs2,hb2⟩:=je w (.cells #[.int .u8 e.kind,.int .u8 e.op,.int .u32 e.value,.int .i64 e.width,.string nm',.slice e.sp.at_ e.subs.length e.sp.cap] 30) (.cells #[.int .u8 0,.int .u8 0,.int .u32 0,.int .i64 0,.string ⟨#[]⟩,.slice none 0 0] 30);generalize (w.alloc (.cells #[.int .u8 e.kind,.int .u8 e.op,.int .u32 e.value,.int .i64 e.width,.string nm',.slice e.sp.at_ e.subs.length e.sp.cap] 30)).alloc (.cells #[.int .u8 0,.int .u8 0,.int .u32 0,.int .i64 0,.string ⟨#[]⟩,.slice none 0 0] 30)=W2 at *;obtain ⟨x0,x1,x2,x3,x4,x5⟩:=ah hx2;have HX2:=zhd hx2;have HZ2:=zhd hz2;have HB2:=zhd hb2;have HROW:=zhd (RowOf.more (RowOf.below HRD.out.row hb2) hb2.size);clear hx2 hz2 hb2 x0 x1 x2 x3 x4 hcap hbig;go_wp2_with fail
   refine (vw W2 e.sp e.subs W2.heap.size HROW.out HFEW.out).mono ?_;clear x5 HROW;rintro o W3 ⟨⟨⟨sa,sc⟩,rfl,hown,_⟩,hb3⟩;have hx3:=(hb3.block _ (zgs HX2.out).1).trans HX2.out;have hz3:=(hb3.block _ (zgs HZ2.out).1).trans HZ2.out;have hl3:=(zgs hx3).1;have hb3w:=HB2.out.trans (hb3.mono HB2.out.size);have x5:W3.cell? ⟨w.heap.size,5,none⟩=some (.slice e.sp.at_ e.subs.length e.sp.cap):=(ah hx3).2.2.2.2.2;have f5:W3.frozen? ⟨w.heap.size,5,none⟩=false:=by simp [World.frozen?,hx3]
   have hst:JC (tX τ) w (W3.setCell ⟨w.heap.size,5,none⟩ (.slice sa e.subs.length sc)) e sa sc W3.heap.size 0 e.subs:=by
    refine ⟨hb3w.setCell (p:=⟨w.heap.size,5,none⟩) (Nat.le_refl _) _,by have:=hb3.size;omega,by simp,fun a ha=>?_,?_,(Below.heap_setCell _ _ _ _ (by simp)).trans hz3,(hown.less (by omega)).kept fun g _ _ hg _=>Below.heap_setCell _ _ _ _ (by show g≠w.heap.size;omega),rfl,fun i _ _ h=>absurd h (Nat.not_lt_zero _),fun i _ _ _=>rfl⟩
    ·subst ha
     exact (World.ownsRow.lt hown _ rfl).2
    ·rw [World.setCell,Array.getElem?_modify,if_pos rfl,hx3,HNM.out]
     rfl
   have HST:=zhd hst;clear hx3 hz3 hl3 hb3w hst hown hb3 HX2 HZ2 HB2;go_upto_region 5 with fail
   generalize W3.heap.size=lo at *;generalize W3.setCell ⟨w.heap.size,5,none⟩ (.slice sa e.subs.length sc)=W4 at *;clear x5 f5;go_loopw [27] (fun s22 wr=>∃k cur,k≤e.subs.length∧s22=.int .i64 (k:Nat)∧JC (tX τ) w wr e sa sc lo k cur) (fun s22 _=>e.subs.length - (intOf s22).toNat)
   case atStart=>exact ⟨0,e.subs,Nat.zero_le _,rfl,HST.out⟩
   case round =>
    obtain ⟨k,cur,hk,rfl,hx⟩:=hrel;clear HST;by_cases hlt:k<e.subs.length
    ·as_aux_lemma =>
     obtain ⟨g,hA,hg2,hgl,hc⟩:=hx.own.cell (fun _=>rfl) (j:=k) (by rw [hx.len];exact hlt);subst hA;rw [hx.todo k hlt (by rw [hx.len];exact hlt) (Nat.le_refl _)] at hc;obtain ⟨x,hxe⟩:∃x,e.subs[k]=x:=⟨_,rfl⟩;rw [hxe] at hc;have HXE:=zhd hxe;have HCALL:=zhd (HIH.out k hlt);rw [hxe] at HCALL;clear hxe;have c0:wr.cell? ⟨g,k*6,none⟩=some (.int .u8 x.kind):=hc 0 _ rfl;have c1:wr.cell? ⟨g,k*6+1,none⟩=some (.int .u8 x.op):=hc 1 _ rfl;have c2:wr.cell? ⟨g,k*6+2,none⟩=some (.int .u32 x.value):=hc 2 _ rfl;have c3:wr.cell? ⟨g,k*6+3,none⟩=some (.int .i64 x.width):=hc 3 _ rfl;have c4:wr.cell? ⟨g,k*6+4,none⟩=some (.string x.name):=hc 4 _ rfl;have c5:wr.cell? ⟨g,k*6+5,none⟩=some (.slice x.sp.at_ x.subs.length x.sp.cap):=hc 5 _ rfl;have HX:=zhd hx;have hbA:=(Below.refl wr.heap.size wr).alloc (Nat.le_refl _) (.cells #[.int .u8 x.kind,.int .u8 x.op,.int .u32 x.value,.int .i64 x.width,.string x.name,.slice x.sp.at_ x.subs.length x.sp.cap] 30);have HX5:=zhd (hx.on hbA);have HA5:=zhd (zan wr (.cells #[.int .u8 x.kind,.int .u8 x.op,.int .u32 x.value,.int .i64 x.width,.string x.name,.slice x.sp.at_ x.subs.length x.sp.cap] 30));clear hc hx;go_upto_region 7 with fail
     generalize wr.alloc (.cells #[.int .u8 x.kind,.int .u8 x.op,.int .u32 x.value,.int .i64 x.width,.string x.name,.slice x.sp.at_ x.subs.length x.sp.cap] 30)=W5 at *;have x5:W5.cell? ⟨w.heap.size,5,none⟩=some (.slice (some ⟨g,0,none⟩) e.subs.length sc):=(ah HX5.out.box).2.2.2.2.2;obtain ⟨a0,a1,a2,a3,a4,a5⟩:=ah HA5.out;have HX5d:=zhd (HX5.out.on (Below.refl _ _).drew);clear c0 c1 c2 c3 c4 c5 HX HX5 HA5 hbA;go_region_with (go_at_call 149;refine (HCALL.out W5.drew HX5d.out.low).mono ?_;rintro o W6 ⟨e1,rfl,hren,hnew,hb⟩;have HX6:=zhd (HX5d.out.on hb);have HR6:=zhd hren;have HN6:=zhd (hnew.less HX5d.out.loW);have x5b:=(ah HX6.out.box).2.2.2.2.2;obtain ⟨g',hA',_,_,hc⟩:=HX6.out.own.cell (fun _=>rfl) (j:=k) (by rw [HX6.out.len];exact hlt);cases hA';have y0:=hc 0 _ rfl;rw [Nat.add_zero] at y0;have y1:=hc 1 _ rfl;have y2:=hc 2 _ rfl;have y3:=hc 3 _ rfl;have y4:=hc 4 _ rfl;have y5:=hc 5 _ rfl;have fz:=fun j=>HX6.out.own.frozen j;have f0:=fz (k*6);have f1:=fz (k*6+1);have f2:=fz (k*6+2);have f3:=fz (k*6+3);have f4:=fz (k*6+4);have f5:=fz (k*6+5);clear hren hnew hb hc fz)
     all_goals
      go_wp2_with fail
      have hw:wrap64 ((k:Int)+1)=(k:Int)+1:=IntWalk.wrap64_in _ ⟨by omega,by have:=HFEW.out;omega⟩;rw [hw];clear hw;have hput:=HX6.out.put hlt (by rw [HXE.out];exact HR6.out) HN6.out hg2;have hms:e.subs.length - ((k:Int)+1).toNat<e.subs.length - (k:Int).toNat:=by clear hput;omega
      exact ⟨⟨k+1,cur.set k e1,hlt,rfl,hput⟩,hms⟩
    ·as_aux_lemma =>
     obtain rfl:k=e.subs.length:=by omega
     clear hlt hk;have HX:=zhd hx;obtain ⟨x0,x1,x2,x3,x4,x5⟩:=ah hx.box;obtain ⟨z0,z1,z2,z3,z4,z5⟩:=ah hx.res;have fz:∀j,wr.frozen? ⟨w.heap.size+1,j,none⟩=false:=fun j=>by simp [World.frozen?,hx.res]
     have f0:=fz 0;have f1:=fz 1;have f2:=fz 2;have f3:=fz 3;have f4:=fz 4;have f5:=fz 5;clear hx fz;go_wp2_with fail
     exact bodyPost_ret (results_cell_row rfl _ _ (w.heap.size+1) 30 _ (0,0) _ rfl (pO HX.out.res _ _ _ _ _ _) Tryz.underlying30 rfl (yn _ _ _ _ _ _)) rfl ⟨MN (tX τ) e sa sc cur,by have hl:(MN (tX τ) e sa sc cur).subs.length=e.subs.length:=HX.out.len;rw [hl];rfl,(HFIN.out wr sa sc lo cur HX.out).1,(HFIN.out wr sa sc lo cur HX.out).2.1,(HFIN.out wr sa sc lo cur HX.out).2.2⟩
end
section
open Go
theorem zY {α:Type} (f:α→Nat):∀(l:List α) (x:α),x∈l→f x≤(l.map f).sum
 | y::l,x,h=>by
  rw [List.map_cons,List.sum_cons];rcases List.mem_cons.1 h with rfl | h
  ·omega
  ·have:=zY f l x h;omega
theorem Kg {e s:ae} (h:s∈e.subs):s.pre.length≤e.pre.length:=by
 rw [mf e];have:=zY (fun x:ae=>x.pre.length) e.subs s h;unfold aN;omega
theorem Cr {l:List ae} {e:ae} (h:e∈l):e.pre.length≤aN l:=zY (fun x:ae=>x.pre.length) l e h
theorem Fw (l:List ae):l.length≤aN l:=lD _ (fun e=>iD e) _
theorem fT (s:aa):ay [s]=1+aN s.exprs+ay s.thn+ay s.els:=by
 rw [jf];have:ay []=0:=rfl;omega
theorem dQ:∀(l:List aa) (s:aa),s∈l→ay [s]≤ay l
 | y::l,s,h=>by
  rw [fT,jf];rcases List.mem_cons.1 h with rfl | h
  ·omega
  ·have:=dQ l s h
   rw [fT] at this;omega
theorem jo:∀l:List aa,l.length≤ay l
 | []=>by simp
 | s::l=>by
  rw [jf,List.length_cons];have:=jo l;omega
end
section
open Go Go.RowKit Go.Maps
theorem pQ {F:Nat} {bs:Array Value} {τ:ByteArray→ByteArray} (hτ:∀s,s.size≤maxLen→(τ s).size≤maxLen) {n0:Nat} {W0:World} (hT:wG F bs τ n0 W0) (e:ae) (hr:iG n0 W0 e):e.pre.length≤1000000→zy F bs τ n0 W0 e:=by
 induction hr with
 | mk e k o v w n row subs ih =>
  intro hl;have h1:=Fw e.subs;have h2:=mf e;exact Ig F bs τ hτ n0 W0 hT e (.mk e k o v w n row subs) (by omega) fun s hs=>ih s hs (Nat.le_trans (Kg hs) hl)
theorem Je (s:ByteArray) (w:World):Calls Tryz.prog 150 #[.string s] w fun o w'=>o=.returned (.string s)∧w'=w:=by
 go_enter Tryz.func150,Tryz.ntmps150
 go_wp2_with fail
 go_ret
 exact ⟨rfl,rfl⟩
theorem pJ (n0:Nat) (W0:World):wG 150 #[] id n0 W0:=⟨fun args W=>by simp [go_sem],fun W _ _ s _=>Je s W⟩
end
section
open Go Go.RowKit Go.Maps
def uL (lo hi:Nat) (W:World) (s:aa):Prop:=gz hi (dA lo W) s
section
variable {lo hi hi':Nat} {W W':World} {s:aa}
theorem uL.keep (h:uL lo hi W s) (hk:∀b,lo≤b→b<hi→W'.heap[b]? = W.heap[b]?):uL lo hi W' s :=
 gz.cells h fun p _ hp hc=>by
  obtain ⟨h1,h2⟩:=av.1 hc;exact av.2 ⟨h1,(World.cell?_of_block (hk _ h1 hp)).trans h2⟩
theorem uL.raise (h:uL lo hi W s) (h2:hi≤hi'):uL lo hi' W s:=gz.more h h2
theorem aG.same {α:Type} {enc:α→List Value} {B k n c:Nat} {t:TypeId} {sa:Option Addr} {l:List α} (h:aG B W t k enc (.slice sa n c) l) (hk:∀a,sa=some a→W'.heap[a.block]? = W.heap[a.block]?):aG B W' t k enc (.slice sa n c) l:=by
 obtain ⟨hlen,ho⟩:=h;refine ⟨hlen,?_⟩;rcases ho with h0 | ⟨g,cap,cur,hv,h1,h2,h3⟩
 ·exact .inl h0
 ·injection hv with e1 e2 e3
  exact .inr ⟨g,cap,cur,by rw [e1,e2,e3],h1,(hk _ e1).trans h2,h3⟩
end
structure uO (γ η:ql) (w W:World) (l:List aa) (sp:Sp) (sa:Option Addr) (sc lo hi k:Nat) (row cur:List aa):Prop where
 low:Below w.heap.size w W
 hlo:w.heap.size≤lo
 hhi:lo≤hi
 hiW:hi≤W.heap.size
 at_:∀a,sa=some a→a.block<lo
 own:aG w.heap.size W 43 6 aa.cells (.slice sa l.length sc) row
 len:cur.length=l.length
 done:∀i (h:i<l.length) (h':i<cur.length),i<k→L6 γ η l[i] cur[i]∧uL lo hi W cur[i]
 todo:∀i (h:i<l.length) (h':i<cur.length),k≤i→cur[i]=l[i]
section
variable {γ η:ql} {w W W':World} {l:List aa} {sp:Sp} {sa:Option Addr} {sc lo hi k:Nat} {row cur:List aa}
theorem uO.keep (h:uO γ η w W l sp sa sc lo hi k row cur) (hb:Below hi W W'):uO γ η w W' l sp sa sc lo hi k row cur :=
 ⟨h.low.trans (hb.mono (Nat.le_trans h.hlo h.hhi)),h.hlo,h.hhi,Nat.le_trans h.hiW hb.size,h.at_,h.own.same fun a ha=>hb.block _ (Nat.lt_of_lt_of_le (h.at_ a ha) h.hhi),h.len,fun i h1 h2 h3=>⟨(h.done i h1 h2 h3).1,(h.done i h1 h2 h3).2.keep fun b _ hb2=>hb.block b hb2⟩,h.todo⟩
theorem uO.on (h:uO γ η w W l sp sa sc lo hi k row cur) (hb:Below W.heap.size W W'):uO γ η w W' l sp sa sc lo hi k row cur:=h.keep (hb.mono h.hiW)
theorem uO.raise (h:uO γ η w W l sp sa sc lo hi k row cur):uO γ η w W l sp sa sc lo W.heap.size k row cur :=
 ⟨h.low,h.hlo,Nat.le_trans h.hhi h.hiW,Nat.le_refl _,h.at_,h.own,h.len,fun i h1 h2 h3=>⟨(h.done i h1 h2 h3).1,(h.done i h1 h2 h3).2.raise h.hiW⟩,h.todo⟩
theorem uO.put {g r:Nat} {v:Value} {x:aa} (h:uO γ η w W l sp (some ⟨g,0,none⟩) sc lo hi k row cur) (hg:w.heap.size≤g) (hrl:row.length=l.length) (hk:k<l.length) (hr:r<6) (hx:((row[k]'(by omega)).cells).set r v=x.cells) :
  uO γ η w (W.setCell ⟨g,k*6+r,none⟩ v) l sp (some ⟨g,0,none⟩) sc lo hi k (row.set k x) cur:=by
 have hgl:g<lo:=h.at_ _ rfl;refine ⟨h.low.setCell (p:=⟨g,k*6+r,none⟩) hg v,h.hlo,h.hhi,by rw [World.size_setCell];exact h.hiW,h.at_,h.own.put1 (fun _=>rfl) (by omega) hr hx,h.len,fun i h1 h2 h3=>⟨(h.done i h1 h2 h3).1,(h.done i h1 h2 h3).2.keep fun b hb _=>Below.heap_setCell _ _ _ _ (show b≠g by omega)⟩,h.todo⟩
theorem uO.next {x:aa} (h:uO γ η w W l sp sa sc lo hi k (cur.set k x) cur) (hk:k<l.length) (hr:L6 γ η l[k] x) (hx:uL lo W.heap.size W x):uO γ η w W l sp sa sc lo W.heap.size (k+1) (cur.set k x) (cur.set k x):=by
 have h':=h.raise;refine ⟨h'.low,h'.hlo,h'.hhi,h'.hiW,h'.at_,h'.own,by rw [List.length_set];exact h.len,fun i h1 h2 h3=>?_,fun i h1 h2 h3=>?_⟩
 ·by_cases hi:i=k
  ·subst hi
   rw [List.getElem_set_self];exact ⟨hr,hx⟩
  ·rw [List.getElem_set_ne (Ne.symm hi)]
   exact h'.done i h1 (by rw [h.len];exact h1) (by omega)
 ·rw [List.getElem_set_ne (by omega)]
  exact h.todo i h1 (by rw [h.len];exact h1) (by omega)
end
structure Hz (γ:ql) (W:World) (bx:Nat) (s:aa) (ea:Option Addr) (ec lo2 k2:Nat) (cur2:List ae):Prop where
 ebox:W.heap[bx]? = some (.cells #[.int .u8 s.kind,.string s.name,.slice s.es.at_ s.exprs.length s.es.cap,.int .i64 s.bound,.slice s.ts.at_ s.thn.length s.ts.cap,.slice s.os.at_ s.els.length s.os.cap] 43 (0,0))
 hbx:bx<lo2
 lo2W:lo2≤W.heap.size
 at_:∀a,ea=some a→bx<a.block∧a.block<lo2
 own:aG (bx+1) W 30 6 ae.cells (.slice ea s.exprs.length ec) cur2
 len:cur2.length=s.exprs.length
 done:∀i (h:i<s.exprs.length) (h':i<cur2.length),i<k2→Ea γ s.exprs[i] cur2[i]∧aU lo2 W cur2[i]
 todo:∀i (h:i<s.exprs.length) (h':i<cur2.length),k2≤i→cur2[i]=s.exprs[i]
section
variable {γ:ql} {W W':World} {bx:Nat} {s:aa} {ea:Option Addr} {ec lo2 k2:Nat} {cur2:List ae}
theorem Hz.keep (h:Hz γ W bx s ea ec lo2 k2 cur2) (hs:W.heap.size≤W'.heap.size) (hk:∀b,bx≤b→b<W.heap.size→W'.heap[b]? = W.heap[b]?):Hz γ W' bx s ea ec lo2 k2 cur2 :=
 ⟨(hk _ (Nat.le_refl _) (zgs h.ebox).1).trans h.ebox,h.hbx,Nat.le_trans h.lo2W hs,h.at_,h.own.same fun a ha=>hk _ (Nat.le_of_lt (h.at_ a ha).1) (Nat.lt_of_lt_of_le (h.at_ a ha).2 h.lo2W),h.len,fun i h1 h2 h3=>⟨(h.done i h1 h2 h3).1,iG.more (iG.cells (h.done i h1 h2 h3).2 fun p u hp hc=>by
   obtain ⟨c1,c2⟩:=av.1 hc;exact av.2 ⟨c1,(World.cell?_of_block (hk _ (Nat.le_trans (Nat.le_of_lt h.hbx) c1) hp)).trans c2⟩) hs⟩,h.todo⟩
theorem Hz.on (h:Hz γ W bx s ea ec lo2 k2 cur2) (hb:Below W.heap.size W W'):Hz γ W' bx s ea ec lo2 k2 cur2:=h.keep hb.size fun b _ hb2=>hb.block b hb2
theorem Hz.put {g:Nat} (h:Hz γ W bx s (some ⟨g,0,none⟩) ec lo2 k2 cur2) (hk:k2<s.exprs.length) {x:ae} (hr:Ea γ s.exprs[k2] x) (hx:aU lo2 W x) :
  Hz γ (six W g (k2*6) (.int .u8 x.kind) (.int .u8 x.op) (.int .u32 x.value) (.int .i64 x.width) (.string x.name) (.slice x.sp.at_ x.subs.length x.sp.cap)) bx s (some ⟨g,0,none⟩) ec lo2 (k2+1) (cur2.set k2 x):=by
 obtain ⟨hg1,hg2⟩:=h.at_ _ rfl
 dsimp only at hg1 hg2
 refine ⟨(jI _ _ _ _ _ _ _ _ _ (by omega)).trans h.ebox,h.hbx,by rw [j6];exact h.lo2W,h.at_,h.own.put6 (fun _=>rfl) (by rw [h.len];exact hk) rfl,by rw [List.length_set];exact h.len,fun i h1 h2 h3=>?_,fun i h1 h2 h3=>?_⟩
 ·by_cases hi:i=k2
  ·subst hi
   rw [List.getElem_set_self];exact ⟨hr,rM hx hg2 _ _ _ _ _ _ _⟩
  ·rw [List.getElem_set_ne (Ne.symm hi)]
   have:=h.done i h1 (by rw [h.len];exact h1) (by omega);exact ⟨this.1,rM this.2 hg2 _ _ _ _ _ _ _⟩
 ·rw [List.getElem_set_ne (by omega)]
  exact h.todo i h1 (by rw [h.len];exact h1) (by omega)
end
theorem dz.keep {lo:Nat} {W W':World} {sp:Sp} {l:List aa} (h:dz lo W sp l) (hs:W.heap.size≤W'.heap.size) (hk:∀b,lo≤b→b<W.heap.size→W'.heap[b]? = W.heap[b]?):dz lo W' sp l:=by
 have hc:∀p u,p.block<W.heap.size→(dA lo W).cell? p=some u→(dA lo W').cell? p=some u:=fun p u hp h1=>by
  obtain ⟨h2,h3⟩:=av.1 h1;exact av.2 ⟨h2,(World.cell?_of_block (hk _ h2 hp)).trans h3⟩
 exact ⟨(h.1.cells hc).more hs,fun s hs2=>gz.more (gz.cells (h.2 s hs2) hc) hs⟩
theorem dz.on' {lo:Nat} {W W':World} {sp:Sp} {l:List aa} (h:dz lo W sp l) (hb:Below W.heap.size W W'):dz lo W' sp l:=h.keep hb.size fun b _ hb2=>hb.block b hb2
def Nb (η:ql) (s:aa) (es:Sp) (ex:List ae) (ts:Sp) (th:List aa) (os:Sp) (el:List aa):aa:=.mk s.kind (η s.kind s.name) es ex s.bound ts th os el
section
variable {γ η:ql} {w W:World} {l:List aa} {sp:Sp} {g sc lo bx k:Nat} {cur:List aa} {s:aa} {ea:Option Addr} {ec lo2:Nat} {cur2:List ae} {nm1:ByteArray} {tsp osp:Sp} {tl ol:List aa}
theorem uO.fin (h:uO γ η w W l sp (some ⟨g,0,none⟩) sc lo bx k (cur.set k (.mk s.kind nm1 ⟨ea,ec⟩ s.exprs s.bound s.ts s.thn s.os s.els)) cur) (he:Hz γ W bx s ea ec lo2 s.exprs.length cur2)
  (hnt:dz lo W tsp tl) (hne:dz lo W osp ol) (hrt:qR γ η s.thn tl) (hre:qR γ η s.els ol) (hnm:η s.kind s.name=nm1) (hk:k<l.length) (hs:l[k]=s) (hg:w.heap.size≤g) (hη:∀k s,s.size≤maxLen→(η k s).size≤maxLen) (hrd:gz w.heap.size w s) :
  ∃(cur':List aa) (hi':Nat),uO γ η w ((W.setCell ⟨g,k*6+4,none⟩ (.slice tsp.at_ tl.length tsp.cap)).setCell ⟨g,k*6+5,none⟩ (.slice osp.at_ ol.length osp.cap)) l sp (some ⟨g,0,none⟩) sc lo hi' (k+1) cur' cur':=by
 have hgl:g<lo:=h.at_ _ rfl;have hlb:=h.hhi;have hkc:k<cur.length:=by rw [h.len];exact hk
 have h1:=h.put (r:=4) (v:=.slice tsp.at_ tl.length tsp.cap) (x:=.mk s.kind nm1 ⟨ea,ec⟩ s.exprs s.bound tsp tl s.os s.els) hg (by rw [List.length_set];exact h.len) hk (by decide) (by rw [List.getElem_set_self];rfl);rw [List.set_set] at h1;have h2:=h1.put (r:=5) (v:=.slice osp.at_ ol.length osp.cap) (x:=Nb η s ⟨ea,ec⟩ cur2 tsp tl osp ol) hg (by rw [List.length_set];exact h.len) hk (by decide) (by
  rw [List.getElem_set_self];have e:(Nb η s ⟨ea,ec⟩ cur2 tsp tl osp ol).cells=[.int .u8 s.kind,.string (η s.kind s.name),.slice ea cur2.length ec,.int .i64 s.bound,.slice tsp.at_ tl.length tsp.cap,.slice osp.at_ ol.length osp.cap]:=rfl;rw [e,he.len,hnm]
  rfl)
 rw [List.set_set] at h2;have hkeep:∀b,lo≤b→((W.setCell ⟨g,k*6+4,none⟩ (.slice tsp.at_ tl.length tsp.cap)).setCell ⟨g,k*6+5,none⟩ (.slice osp.at_ ol.length osp.cap)).heap[b]? = W.heap[b]? := fun b hb=>(Below.heap_setCell _ _ _ _ (show b≠g by omega)).trans (Below.heap_setCell _ _ _ _ (show b≠g by omega))
 have hsz:W.heap.size≤((W.setCell ⟨g,k*6+4,none⟩ (.slice tsp.at_ tl.length tsp.cap)).setCell ⟨g,k*6+5,none⟩ (.slice osp.at_ ol.length osp.cap)).heap.size:=by simp
 have he2:=he.keep hsz fun b hb _=>hkeep b (by omega)
 have hnt2:=hnt.keep hsz fun b hb _=>hkeep b hb
 have hne2:=hne.keep hsz fun b hb _=>hkeep b hb
 refine ⟨_,_,h2.next hk ?_ ?_⟩
 ·rw [hs]
  cases s with
  | mk kd nm es ex b ts th os el=>exact L6.mk (DV.of he.len fun i h1 h2=>(he.done i h1 h2 h1).1) hrt hre
 ·obtain ⟨r1,r2,r3,r4⟩:=(match hrd with | .mk _ a b c d _ _ _ _ _=>⟨a,b,c,d⟩:_∧_∧_∧_)
  refine .mk _ r1 r2 ?_ (he2.own.low (B2:=lo) (fun _=>rfl) (by rw [he.len];exact r4.few) (by omega)) (fun e hm=>?_) hnt2.1 hnt2.2 hne2.1 hne2.2
  ·show (η s.kind s.name).size≤maxLen
   exact hη _ _ r3
  ·obtain ⟨i,hi,rfl⟩:=List.getElem_of_mem hm
   have hi2:i<s.exprs.length:=by rw [←he.len];exact hi
   exact (he2.done i hi2 hi hi2).2.less (by have:=he.hbx;omega)
end
end
end Go.Proofs.YtepacjkacjabbaaGreatDoor
