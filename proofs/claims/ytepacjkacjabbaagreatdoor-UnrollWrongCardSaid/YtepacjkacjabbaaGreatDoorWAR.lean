import Derived.Test.YtepacjkacjabbaaGreatDoorWAA
import Derived.Test.YtepacjkacjabbaaGreatDoorWAQ
import Derived.Test.YtepacjkacjabbaaGreatDoorWAP
import Derived.Sort.CutIn
import Derived.Test.YtepacjkacjabbaaGreatDoorWAF
import Derived.Test.YtepacjkacjabbaaGreatDoorWAH
import Derived.Test.YtepacjkacjabbaaGreatDoorWAE
import Derived.Test.YtepacjkacjabbaaGreatDoorWAG
namespace Go.Proofs.YtepacjkacjabbaaGreatDoor
section
open Go Go.RowKit Go.Maps
def Cb (p:af):List (Int × Int):=fU (bJ p (dW (countP p))) 0
theorem AX (p:af) (w:World):Calls Tryz.prog 168 #[.agg p.arr] w fun o w'=>o=.returned (.func (.func 202) #[] #[.pointer (some ⟨w.heap.size,0,none⟩)])∧w'=w.alloc (.cells p.arr 35):=by
 have harr:∃a,p.arr=a:=⟨_,rfl⟩;obtain ⟨a,ha⟩:=harr;rw [ha];clear ha;go_enter Tryz.func168,Tryz.ntmps168
 go_wp2
 go_ret
 exact ⟨rfl,rfl⟩
theorem LU {q mt mp n₀ B:Nat} {p:af} {yv yv':Value} {pm:Option Nat} {E:Env} {n:Int} {over:Bool} {W:World} (h:kC ⟨q,p,n₀,B,yv,mt,mp⟩ pm E n over W):kC ⟨q,p,n₀,B,yv',mt,mp⟩ pm E n over (W.setCell ⟨q,28,none⟩ yv'):=by
 have hn:n₀≤q:=by have:=h.q;have:=h.n0;simp only at *;omega
 have hk:∀k o,B≤k→W.heap[k]? = some o→o.isCells=false→(W.setCell ⟨q,28,none⟩ yv').heap[k]? = some o:=fun k o _ hk ho =>
  (Below.heap_setCell _ _ _ k (fun e=>by simp only at e;subst e;rw [h.box] at hk;cases hk;cases ho)).trans hk
 refine ⟨?_,h.params.stays (K:=⟨q,p,n₀,B,yv,mt,mp⟩) hk,kQ h.things h.mt hk,kQ h.procs h.mp hk,h.prog.below ((Below.refl _ _).setCell hn _),h.n0,h.q,h.mt,h.mp⟩;simp [World.setCell,Array.getElem?_modify,h.box,iA.cells]
structure Fit (p:af):Prop where
 heft:countP p≤20000
 names:dP p
 weight:eu p≤1125899906842624
theorem Fit.light {p:af} (h:Fit p):aP p≤20000:=by have:=Bq h.heft;have:=h.heft;omega
set_option maxRecDepth 1000000 in
set_option maxHeartbeats 4000000 in
theorem yx (p:af) (n₀:Nat) (W:World) (Bs l:Nat) (hp:fe n₀ W p) (hn:n₀≤W.heap.size) (hn0:0<n₀) (hf:Fit p) (hmx:MxAt W) (hBs:W.heap[Bs]? = some (.cells p.arr 35 (0,0)))
  (J Jx:List (Int × Int)→World→Prop) (hJ:dG 246 W.heap.size J) (hJx:dG 246 W.heap.size Jx)
  (hY:∀pre (x:Int × Int) W1,J pre W1→pre.length<1000000→YieldAt Fence.wide 0 Tryz.prog l #[.agg #[.int .i64 x.1,.int .i64 x.2]] W1 fun e W' =>
   (e=.returned (.bool true)∧J (pre++[x]) W'∧ax TK W.heap.size W1 W'∧Below n₀ W1 W')∨(e=.returned (.bool false)∧Jx (pre++[x]) W'∧ax TK W.heap.size W1 W'∧Below n₀ W1 W'))
  (h0:J [] W):Calls Tryz.prog 202 #[.func (.yield l) #[] #[],.pointer (some ⟨Bs,0,none⟩)] W fun o W'=>(∃v,o=.returned v)∧(J (Cb p) W'∨∃pre,pre≠[]∧pre <+: Cb p∧Jx pre W'):=by
 have hNW:=KA W p n₀ W.heap.size hp hn (Nat.le_refl _);rw [vT] at hNW;have HNW:=zhd hNW;have HBS:=zhd hBs;have HY:=zhd hY;clear hNW hBs hY hp;go_enter Tryz.func202,Tryz.ntmps202
 obtain ⟨v8,hv8⟩:∃v,Value.agg p.arr=v:=⟨_,rfl⟩;rw [hv8] at HNW;go_upto_region 1 with (first | (refine wpList_load_row rfl 35 _ rfl Bs rfl 35 _ (0,0) _ HBS.out Tryz.underlying35 rfl (aB p) ?_) | (go_at_call 203;refine HNW.out.mono ?_;rintro o2 w2 ⟨q,mt,mp,rfl,hck,hq,hmt,hmp,hb2⟩) | fail)
 have f28:=hck.frozen 28;have c28:=hck.c28;have hck2:=LU (yv':=.func (.yield l) #[] #[]) hck;have hJ2:J [] (w2.setCell ⟨q,28,none⟩ (.func (.yield l) #[] #[])):=hJ.cell _ (hJ.new h0 hb2) hq hck.box;have hmx2:MxAt (w2.setCell ⟨q,28,none⟩ (.func (.yield l) #[] #[])):=hmx.below ((hb2.mono hn).setCell (by simp only;omega) _) hn0;have hst:jO ⟨q,p,n₀,W.heap.size,.func (.yield l) #[] #[],mt,mp⟩ J Jx none outside [] (w2.setCell ⟨q,28,none⟩ (.func (.yield l) #[] #[])):=⟨false,hck2,.inl ⟨rfl,hJ2⟩⟩;have hTell:lM ⟨q,p,n₀,W.heap.size,.func (.yield l) #[] #[],mt,mp⟩ J Jx:=Ht _ l rfl J Jx hJ hJx HY.out;have hAll:=K3 hJ hJx hTell hf.light hf.names hn0 hf.weight _ hst hmx2;have HALL:=zhd hAll;clear hck hck2 hJ2 hmx2 hst hTell hAll HNW HBS;go_wp2_with fail
 refine HALL.out.mono ?_;rintro o w3 ⟨rfl,⟨pm,hst3⟩,hk3⟩;have HST3:=zhd hst3;clear hst3 hk3;go_wp2_with fail
 go_returns
 refine ⟨⟨_,rfl⟩,?_⟩;obtain ⟨over,-,hts⟩:=HST3.out.ex;rcases hts with ⟨_,h⟩ | ⟨_,pre,h1,h2,h3⟩
 ·exact .inl h
 ·exact .inr ⟨pre,h1,h2,h3⟩
theorem Ad (p:af) (n₀:Nat) (w:World) (Bs:Nat) (hp:fe n₀ w p) (hn:n₀≤w.heap.size) (hn0:0<n₀) (hf:Fit p) (hmx:MxAt w) (hBs:w.heap[Bs]? = some (.cells p.arr 35 (0,0))) :
  MH Fence.wide 1 Tryz.prog 202 #[.pointer (some ⟨Bs,0,none⟩)] (fun x:Int × Int=>#[.agg #[.int .i64 x.1,.int .i64 x.2]]) TK 246 n₀ (fun xs=>xs=Cb p) (fun pre=>pre≠[]∧pre <+: Cb p) 1000000 w:=by
 intro l J Jx W hW hJ hJx hY h0;have hlt:=(zgs hBs).1;have hs:=hW.size;refine callsIn_wide.2 ((yx p n₀ W Bs l (hp.below (hW.mono hn)) (by omega) hn0 hf (hmx.below hW (by omega)) ((hW.block _ hlt).trans hBs) J Jx hJ hJx hY h0).mono ?_);rintro e W' ⟨h1,h2 | ⟨pre,h3,h4,h5⟩⟩
 ·exact ⟨h1,.inl ⟨_,rfl,h2⟩⟩
 ·exact ⟨h1,.inr ⟨pre,⟨h3,h4⟩,h5⟩⟩
end
section
open Go Go.RowKit Go.Maps
attribute [local go_sem] Oper.semAt_some
theorem jA {F:Fence} {n:Nat} {P:Program} {ops:Array Oper} {rest:List Oper} {o:Oper} {a:Act} {w:World} {Q:Exit→Act→World→Prop} (hgd:o.guard=none) (ty:TypeId) (x:Operand) (ho:o.op=.load ty x)
  (g:Nat) (hx:a.eval x=.pointer (some ⟨g,0,none⟩)) (t:TypeId) (cs:Array Value) (fr:Nat × Nat) (d:TypeDesc) (hg:w.heap[g]? = some (.cells cs t fr))
  (hu:P.underlying ty=some d) (hd:(match d with | .struct _ | .array _ _=>true | _=>false)=true) (hi:(P.info? ty).map (·.size)=some cs.size)
  (h:wpListIn F n P ops Q rest (a.put o.dst (.agg cs)) w):wpListIn F n P ops Q (o::rest) a w :=
 wpListIn_plain hgd fun K hK=>by
  unfold Oper.wpIn;refine ⟨?_,?_⟩
  ·simp [Oper.about,ho]
  ·rw [Oper.semAt_plain F _ _ (by rw [ho];intro c hc';cases hc')]
   simp only [execOp,ho,hx,Instr.loadAt,Instr.sureAddr,Sem.run_bind,Sem.run_pure,Result.andThen_ok,run_loadVar_row w g t ty cs fr d hg hu hd hi];exact hK _ _ h
def dL (p:af):Int × Int:=if countP p≤20000 then (Cb p).headD (0,0) else (0,5)
def gM (W:World) (q:Nat) (t:TypeId) (v:Int):Prop:=W.heap[q]? = some (.cells #[.int .i64 v] t (0,0))
theorem ng {B q:Nat} {t:TypeId} {v:Int} {W W':World} {row:Option Nat} (h:gM W q t v) (hg:W.grownBy W' row) (hr:∀r,row=some r→B≤r∧∃o:Obj,W.heap[r]? = some o∧(o.isCells=false∨∃cs fr,o=.cells cs 246 fr)) (ht:t≠246):gM W' q t v :=
 (hg.block q (zgs (h:W.heap[q]? = _)).1 (fun e=>by
  obtain ⟨_,o,ho,hc⟩:=hr q e.symm;rw [(h:W.heap[q]? = _)] at ho;cases ho
  rcases hc with hc | ⟨cs,fr,hc⟩
  ·cases hc
  ·cases hc;exact ht rfl)).trans h
theorem Fe {B n₀ p e:Nat} {tp te:TypeId} {a b a' b':Int} {W:World} (hP:gM W p tp a) (hE:gM W e te b) (hne:p≠e) (h1:TK tp=false) (h2:TK te=false) (hp:n₀≤p) (he:n₀≤e) :
  ax TK B W ((W.drew.setCell ⟨p,0,none⟩ (.int .i64 a')).setCell ⟨e,0,none⟩ (.int .i64 b'))∧Below n₀ W ((W.drew.setCell ⟨p,0,none⟩ (.int .i64 a')).setCell ⟨e,0,none⟩ (.int .i64 b')) ∧
  gM ((W.drew.setCell ⟨p,0,none⟩ (.int .i64 a')).setCell ⟨e,0,none⟩ (.int .i64 b')) p tp a'∧gM ((W.drew.setCell ⟨p,0,none⟩ (.int .i64 a')).setCell ⟨e,0,none⟩ (.int .i64 b')) e te b':=by
 have hbd:Below W.heap.size W W.drew:=(Below.refl _ _).drew;have hP0:gM W.drew p tp a:=hP;have hE0:gM W.drew e te b:=hE;have hE1:gM (W.drew.setCell ⟨p,0,none⟩ (.int .i64 a')) e te b:=(Below.heap_setCell _ _ _ _ (fun h=>hne (by simpa using h.symm))).trans hE0;have hP1:gM (W.drew.setCell ⟨p,0,none⟩ (.int .i64 a')) p tp a':=(show Boxed W.drew p tp (.int .i64 a) from hP0).set (.int .i64 a');refine ⟨((ax.of_below hbd).trans (ax.set (a:=⟨p,0,none⟩) hP0 h1 _)).trans (ax.set (a:=⟨e,0,none⟩) hE1 h2 _),((Below.refl _ W).drew.setCell (p:=⟨p,0,none⟩) hp _).setCell (p:=⟨e,0,none⟩) he _,?_,(show Boxed (W.drew.setCell ⟨p,0,none⟩ (.int .i64 a')) e te (.int .i64 b) from hE1).set (.int .i64 b')⟩;exact (Below.heap_setCell _ _ _ _ (fun h=>hne (by simpa using h))).trans hP1
set_option maxRecDepth 1000000 in
set_option maxHeartbeats 4000000 in
theorem Hg (w:World) (p:af) (hp:fe w.heap.size w p) (hn0:0<w.heap.size) (hN:dP p) (hwt:eu p≤1125899906842624) (hmx:MxAt w) :
  Calls Tryz.prog 108 #[p.val] w fun o w'=>o=.returned (.tuple #[.int .i64 (dL p).1,.int .i64 (dL p).2])∧Below w.heap.size w w':=by
 refine (callsIn_wide (n:=2)).1 ?_;have hb1:=zba w (.cells p.arr 35);have hB:=zan w (.cells p.arr 35);have hLG:=xI _ p ((hp.below hb1).more (Nat.le_of_lt (by simp:w.heap.size<(w.alloc (.cells p.arr 35)).heap.size))) hwt;have hPR:=fun W=>AX p W
 rw [vT] at hLG ⊢;obtain ⟨arr,harr⟩:∃a,p.arr=a:=⟨_,rfl⟩;have harrs:=aB p;rw [harr] at hLG hPR hb1 hB harrs ⊢;have HLG:=zhd hLG;have HPR:=zhd hPR;have HB:=zhd hB;have HARR:=zhd harr;have HP:=zhd hp;have HB1:=zhd hb1;clear hLG hPR hB harr hp hb1;by_cases hl:countP p≤20000
 ·have hf:Fit p:=⟨hl,hN,hwt⟩
  have hck:dL p=(Cb p).headD (0,0):=if_pos hl;rw [decide_eq_true hl] at HLG;have HF:=zhd hf;have HCK:=zhd hck;clear hl hf hck hN hwt;refine callsIn_of_wp_marks Tryz.func108 rfl trivial ?_ rfl;simp only [Tryz.ntmps108,List.size_toArray,List.length_cons,List.length_nil,Nat.reduceAdd,Nat.reduceSub,Array.replicate_succ,Array.replicate_zero,List.push_toArray,List.append_toArray,List.nil_append,List.cons_append]
  gi_wp2
  refine wpIn_wide.2 (wp_scope_straight (wpIn_wide (n:=2).1 ?_))
  gi_wp2_with (first | (refine jA rfl 35 _ rfl w.heap.size rfl 35 _ (0,0) _ HB.out Tryz.underlying35 rfl harrs ?_) | (refine ⟨trivial,?_⟩;gi_at_call 112;refine (callsIn_wide.2 HLG.out).mono ?_;rintro o3 w3 ⟨rfl,hb3⟩;have HB3:=zhd hb3;clear hb3) | fail)
  have hszA:w.heap.size<(w.alloc (.cells arr 35)).heap.size:=by simp
  have hb3w:Below w.heap.size w w3:=HB1.out.trans (HB3.out.mono (by omega));have hbox3:w3.heap[w.heap.size]? = some (.cells arr 35 (0,0)):=(HB3.out.block _ hszA).trans HB.out;have hs3:w.heap.size<w3.heap.size:=(zgs hbox3).1;have hP1:gM ((w3.alloc (.cells #[.int .i64 0] 3)).alloc (.cells #[.int .i64 0] 37)) w3.heap.size 3 0:=(Below.heap_alloc _ _ _ (by simp)).trans (zan _ _);have hP2:gM ((w3.alloc (.cells #[.int .i64 0] 3)).alloc (.cells #[.int .i64 0] 37)) (w3.heap.size+1) 37 0:=by
   have:=zan (w3.alloc (.cells #[.int .i64 0] 3)) (.cells #[.int .i64 0] 37)
   rwa [World.size_alloc] at this
  have hb4:Below w3.heap.size w3 ((w3.alloc (.cells #[.int .i64 0] 3)).alloc (.cells #[.int .i64 0] 37)):=((Below.refl _ _).alloc (Nat.le_refl _) _).alloc (by simp) _;have hs4:((w3.alloc (.cells #[.int .i64 0] 3)).alloc (.cells #[.int .i64 0] 37)).heap.size=w3.heap.size+2:=by simp
  generalize (w3.alloc (.cells #[.int .i64 0] 3)).alloc (.cells #[.int .i64 0] 37)=w4 at *;have hbox4:=(hb4.block _ hs3).trans hbox3;have HBX4:=zhd hbox4;refine wpIn_label ?_
  gi_wp2_with (first | (refine jA rfl 35 _ rfl w.heap.size rfl 35 _ (0,0) _ HBX4.out Tryz.underlying35 rfl harrs ?_) | (refine ⟨trivial,?_⟩;gi_at_call 168;refine (callsIn_wide.2 (HPR.out _)).mono ?_;rintro o5 w5 ⟨rfl,rfl⟩) | fail)
  have hbxA:=zan w4 (.cells arr 35);have hb5:=zba w4 (.cells arr 35);have hsA:(w4.alloc (.cells arr 35)).heap.size=w3.heap.size+3:=by simp [hs4]
  rw [hs4] at hbxA;have hb0A:Below w.heap.size w (w4.alloc (.cells arr 35)):=(hb3w.trans (hb4.mono (by omega))).trans (hb5.mono (by omega));have hPA:gM (w4.alloc (.cells arr 35)) w3.heap.size 3 0:=(hb5.block _ (by omega)).trans hP1;have hEA:gM (w4.alloc (.cells arr 35)) (w3.heap.size+1) 37 0:=(hb5.block _ (by omega)).trans hP2;generalize w4.alloc (.cells arr 35)=wA at *;clear hP1 hP2 hb5 hbox4 HBX4;rw [←HARR.out] at hbxA;refine p8 (T:=TK) (Tc:=246) (n₀:=w.heap.size) rfl (fun h=>by cases h) (gf:=202) (lb:=#[.pointer (some ⟨w3.heap.size+2,0,none⟩)]) rfl trivial (enters_of Tryz.func202 (by kernel_rfl) rfl)
   (Ad p w.heap.size wA (w3.heap.size+2) (HP.out.below hb0A) (by omega) hn0 HF.out (hmx.below hb0A hn0) hbxA) (by omega) (Below.refl _ _) (fun _=>rfl)
   (fun pre W=>pre=[]∧wA.heap.size≤W.heap.size∧Below w.heap.size w W∧gM W w3.heap.size 3 0∧gM W (w3.heap.size+1) 37 0)
   (fun c pre W=>∃x:Int × Int,pre=[x]∧c=.exit 0∧Below w.heap.size w W∧gM W w3.heap.size 3 x.1∧gM W (w3.heap.size+1) 37 x.2)
   ?hI ?hIx ⟨rfl,Nat.le_refl _,hb0A,hPA,hEA⟩
   (fun x a' W=>∃b:Nat,wA.heap.size≤b∧W.heap[b]? = some (.cells #[.int .i64 x.1,.int .i64 x.2] 206 (0,0))∧a'={ tmps:=#[.agg arr,.pointer (some ⟨w.heap.size,0,none⟩),.int .i64 0,.int .i64 0,.pointer (some ⟨w3.heap.size,0,none⟩),.pointer (some ⟨w3.heap.size+1,0,none⟩),.pointer (some ⟨b,0,none⟩),.agg arr,.bool true,.bool false,.agg arr,.func (.func 202) #[] #[.pointer (some ⟨w3.heap.size+2,0,none⟩)],.agg #[.int .i64 x.1,.int .i64 x.2],undef,undef,undef,undef,undef,undef],defers:=[] })
   ?hAx ?assign ?body ?done ?stop
  case hI =>
   rintro s X' Y rw ⟨h1,h1s,h2,h3,h4⟩ hg hr;exact ⟨h1,Nat.le_trans h1s hg.size,h2.grown hg h2.size (fun q hq=>by have:=(hr q hq).1;omega),ng h3 hg hr (by decide),ng h4 hg hr (by decide)⟩
  case hIx =>
   rintro c s X' Y rw ⟨x,h0,h1,h2,h3,h4⟩ hg hr;exact ⟨x,h0,h1,h2.grown hg h2.size (fun q hq=>by have:=(hr q hq).1;omega),ng h3 hg hr (by decide),ng h4 hg hr (by decide)⟩
  case hAx =>
   rintro x a' _ X' Y rw ⟨b,h0,h1,h2⟩ hg hr;exact ⟨b,h0,(hg.block b (zgs h1).1 (fun e=>by
    obtain ⟨_,o,ho,hc⟩:=hr b e.symm;rw [h1] at ho;cases ho
    rcases hc with hc | ⟨cs,fr,hc⟩ <;> cases hc)).trans h1,h2⟩
  case assign =>
   rintro l2 pre x Wc K ⟨h1,h1s,h2,h3,h4⟩ hK;have hba:=zba Wc (.cells #[.int .i64 x.1,.int .i64 x.2] 206)
   gi_wp2
   exact hK _ _ (ax.of_below hba) (hba.mono (by omega)) ⟨h1,Nat.le_trans h1s hba.size,h2.trans (hba.mono (by omega)),(hba.block _ (zgs (h3:Wc.heap[_]? = _)).1).trans h3,(hba.block _ (zgs (h4:Wc.heap[_]? = _)).1).trans h4⟩ ⟨_,h1s,zan _ _,rfl⟩
  case body =>
   rintro l2 pre x a' Wc hl2 ⟨rfl,h1s,h2,h3,h4⟩ ⟨b,hb0,hb,rfl⟩ hlen;obtain ⟨q0,q1⟩:=pX hb;have hH3:=zhd h3;have hH4:=zhd h4;have cP:=one_cell (h3:Wc.heap[_]? = _);have cE:=one_cell (h4:Wc.heap[_]? = _);have fP:Wc.frozen? ⟨w3.heap.size,0,none⟩=false:=by
    have h:=hH3.out;unfold gM at h;simp [World.frozen?,h]
   have fE:Wc.frozen? ⟨w3.heap.size+1,0,none⟩=false:=by
    have h:=hH4.out;unfold gM at h;simp [World.frozen?,h]
   have F1:=zhd (Fe (B:=wA.heap.size) (n₀:=w.heap.size) (a':=x.1) (b':=x.2) h3 h4 (by omega) rfl rfl (by omega) (by omega));have F2:=zhd (Fe (B:=wA.heap.size) (n₀:=w.heap.size) (a':=x.2) (b':=x.1) h4 h3 (by omega) rfl rfl (by omega) (by omega));clear h3 h4 hb
   gi_wp2
   gi_region
   all_goals
    gi_wp2
    first
     | exact ⟨F1.out.1,F1.out.2.1,x,rfl,rfl,h2.trans F1.out.2.1,F1.out.2.2.1,F1.out.2.2.2⟩
     | exact ⟨F2.out.1,F2.out.2.1,x,rfl,rfl,h2.trans F2.out.2.1,F2.out.2.2.2,F2.out.2.2.1⟩
  case done =>
   rintro Dq ys Wd hD rfl ⟨h1,h1s,h2,h3,h4⟩ hK;have cP:=one_cell (h3:Wd.heap[_]? = _);have cE:=one_cell (h4:Wd.heap[_]? = _);have hres:dL p=(0,0):=by rw [HCK.out,h1];rfl
   have HR:=zhd hres;have HKD:=zhd hK;clear h1 hres hK h3 h4
   gi_wp2
   gi_region
   gi_wp2
   simp only [Exit.noGoto];refine ⟨by simp,.inl ⟨_,_,rfl,run_takeDeferred (w:=Wd.drew) HKD.out,?_⟩⟩;exact ⟨_,results_tmp2 rfl _ _ _,by rw [HR.out];rfl,(h2.trans ((Below.refl _ Wd).drew)).trans (bT _ _ (by omega))⟩
  case stop =>
   rintro Dq c pre Wd hD ⟨hp1,hp2⟩ ⟨x,rfl,rfl,h2,h3,h4⟩ hK;have cP:=one_cell (h3:Wd.heap[_]? = _);have cE:=one_cell (h4:Wd.heap[_]? = _);have hres:dL p=x:=by
    obtain ⟨r,hr⟩:=hp2;rw [HCK.out,←hr];rfl
   have HR:=zhd hres;have HKD:=zhd hK;clear hp1 hp2 hres hK h3 h4
   gi_wp2
   gi_region
   gi_wp2
   simp only [Exit.noGoto];refine ⟨by simp,.inl ⟨_,_,rfl,run_takeDeferred (w:=Wd.drew) HKD.out,?_⟩⟩;exact ⟨_,results_tmp2 rfl _ _ _,by rw [HR.out];rfl,(h2.trans ((Below.refl _ Wd).drew)).trans (bT _ _ (by omega))⟩
 ·have hck:dL p=(0,5):=if_neg hl
  rw [decide_eq_false hl] at HLG;rw [hck];clear hl hck hN hwt;refine callsIn_of_wp_marks Tryz.func108 rfl trivial ?_ rfl;simp only [Tryz.ntmps108,List.size_toArray,List.length_cons,List.length_nil,Nat.reduceAdd,Nat.reduceSub,Array.replicate_succ,Array.replicate_zero,List.push_toArray,List.append_toArray,List.nil_append,List.cons_append]
  gi_wp2
  refine wpIn_wide.2 (wp_scope_straight (wpIn_wide (n:=2).1 ?_))
  gi_wp2_with (first | (refine jA rfl 35 _ rfl w.heap.size rfl 35 _ (0,0) _ HB.out Tryz.underlying35 rfl harrs ?_) | (refine ⟨trivial,?_⟩;gi_at_call 112;refine (callsIn_wide.2 HLG.out).mono ?_;rintro o3 w3 ⟨rfl,hb3⟩;have HB3:=zhd hb3;clear hb3) | fail)
  simp only [Exit.noGoto];exact ⟨_,results_tmp2 rfl _ _ _,rfl,HB1.out.trans (HB3.out.mono (by simp))⟩
end
section
open Go Go.RowKit
def DT (v ws:Sp) (l:List aa):af:=⟨1,2,Sp.none,[],Sp.none,[],v,[⟨xB,3,0⟩],Sp.none,[],aR 1 1,Sp.none,[],Sp.none,[],ws,l,Sp.none,[],aR 1 1⟩
theorem za:∀(l:List aQ) (b:Int),b+((l.map fun i=>1+i.value.pre.length).sum:Nat)≤20000→initsN l b=b+((l.map fun i=>1+i.value.pre.length).sum:Nat)
 | [],b,_=>by simp [initsN]
 | i::l,b,h=>by
  have e:initsN (i::l) b=initsN l (fA i.value.pre.length (b+1)):=rfl;simp only [List.map_cons,List.sum_cons] at h ⊢;rw [e,pR (by omega),za l _ (by omega)];omega
theorem zn:∀(l:List aO) (b:Int),b+((l.map gI).sum:Nat)≤20000→fM l b=b+((l.map gI).sum:Nat)
 | [],b,_=>by simp [fM]
 | q::l,b,h=>by
  have e:fM (q::l) b=fM l (dR (q.body.flatMap aa.pre) (b+1+q.params.length)):=rfl;have e2:gI q=1+q.params.length+gU (q.body.flatMap aa.pre):=rfl;simp only [List.map_cons,List.sum_cons] at h ⊢;rw [e,kN _ _ (by omega),zn l _ (by omega)];omega
theorem ma {p:af} (h:aP p≤20000):countP p=aP p:=by
 have e:iV p=(p.inputs.length+p.ghosts.length+p.vars.length+p.arrays.length+1:Nat):=by unfold iV;omega
 unfold aP ay at *;unfold countP;have h1:fA p.require.pre.length (iV p)=iV p+p.require.pre.length:=pR (by omega);rw [h1];have h2:=za p.inits (iV p+p.require.pre.length) (by omega);rw [h2];have h3:=zn p.procs (iV p+p.require.pre.length+((p.inits.map fun i=>1+i.value.pre.length).sum:Nat)) (by omega);rw [h3];have h4:=kN (p.work.flatMap aa.pre) (iV p+p.require.pre.length+((p.inits.map fun i=>1+i.value.pre.length).sum:Nat)+((p.procs.map gI).sum:Nat)) (by omega);rw [h4];have h5:=kN (p.recover.flatMap aa.pre) (iV p+p.require.pre.length+((p.inits.map fun i=>1+i.value.pre.length).sum:Nat)+((p.procs.map gI).sum:Nat)+gU (p.work.flatMap aa.pre)) (by omega);rw [h5,pR (by omega)];omega
theorem sj (l:List aa):iy l≤gU l:=by
 unfold iy gU;refine qM _ _ _ fun s _=>?_
 have:s.exprs.length≤aN s.exprs:=lD _ (fun e=>iD e) _;omega
theorem jX (p:af):eu p≤aP p:=by
 have h1:(p.procs.map fun q=>1+q.params.length+iy (q.body.flatMap aa.pre)).sum≤(p.procs.map gI).sum:=by
  refine qM _ _ _ fun q _=>?_
  have:=sj (q.body.flatMap aa.pre);unfold gI ay;omega
 have h2:=sj (p.work.flatMap aa.pre);have h3:=sj (p.recover.flatMap aa.pre);unfold eu aP ay;omega
theorem LC {p:af} {k:Nat} (hk:(bJ p 0).length=k) (h:k≤20000) (hN:dP p):Fit p:=by
 have hh:aP p=k:=by rw [←gY p 0,hk]
 exact ⟨by rw [ma (by omega)];omega,hN,by have:=jX p;omega⟩
theorem Ls {p:af} {k:Nat} (hk:(bJ p 0).length=k) (h:k≤20000):Cb p=fU (bJ p k) 0:=by
 have hh:aP p=k:=by rw [←gY p 0,hk]
 unfold Cb;rw [ma (by omega),hh];unfold dW;rw [if_pos (by omega)]
theorem CL {p:af} {k:Nat} (hk:(bJ p 0).length=k) (h:k≤20000) {r:Int × Int} (hr:(fU (bJ p k) 0).headD (0,0)=r):dL p=r:=by
 have hh:aP p=k:=by rw [←gY p 0,hk]
 unfold dL;rw [if_pos (by rw [ma (by omega)];omega),Ls hk h,hr]
section
variable (v ws a b c d:Sp)
def Nh (rs:Sp):af:={ DT v ws [] with rs:=rs,procs:=[⟨⟨#[112]⟩,Sp.none,[],a,[zA b ⟨#[112]⟩ []]⟩] }
def M0:aa:=.mk 7 ⟨#[]⟩ a [bP xB] 0 Sp.none [] Sp.none []
def Mf:af:={ DT v ws [] with require:=bP xB }
def M8 (e:ae):ae:=.mk 8 0 0 3 ⟨#[]⟩ a [e]
def MP:af:={ DT v ws [] with vars:=[⟨xB,3,0⟩,⟨xB,1,0⟩] }
end
end
section
open Go
def Lg (p:af) (size:Int):List Int :=
 gu p size::(bG p false p.inputs []++(bG p false p.ghosts (lN p)++(bG p false p.vars (names2 p)++(bG p true p.arrays (lQ p)++(fu p outside 1 p.require 1++dY p p.inits [])))))
theorem Bd (p:af) (size:Int):bJ p size=Lg p size++(dN p p.procs 0 (dn p)++(aL p outside p.work 1++(aL p outside p.recover 1++fu p outside 2 p.invariant 1))):=by
 unfold bJ Lg;simp only [List.cons_append,List.append_assoc]
theorem GI {M:gy} {p:af} (h:nU M p):dn p=(iE M++dx M++iq M++[(M.N.a,(⟨4,M.w⟩:cK))]).map (·.1):=by
 obtain ⟨z,_,_,hz⟩:=h.arrays;unfold dn lQ names2 lN;rw [h.inputs,h.ghosts,h.vars,hz];have e:(gL M).map aF.name=(iE M).map (·.1):=by
  unfold gL iE;rw [List.map_take,List.map_take];rfl
 rw [e];simp only [List.map_append]
 rfl
theorem Eo {M:gy} {p:af} (h:nU M p):∀s∈dn p,s∈[M.N.i,M.N.j,M.N.g,M.N.h,M.N.v,M.N.c,M.N.a]:=by
 rw [GI h];exact fun s hs=>zh.subset hs
theorem Jb {M:gy} {p:af} (h:nU M p):p.inputs.length+p.ghosts.length+p.vars.length+p.arrays.length+1+p.require.pre.length+(p.inits.map fun i=>1+i.value.pre.length).sum+p.invariant.pre.length≤76:=by
 obtain ⟨z,_,_,hz⟩:=h.arrays;have e1:p.inputs.length≤2:=by rw [h.inputs];exact Nat.le_trans (List.length_take_le' _ _) (Nat.le_refl _)
 have e2:p.ghosts.length=2:=by rw [h.ghosts];rfl
 have e3:p.vars.length=2:=by rw [h.vars];rfl
 have e4:p.arrays.length=1:=by rw [hz];rfl
 have e5:=h.require.few;have e6:=h.invariant.few;have e7:(p.inits.map fun i=>1+i.value.pre.length).sum≤p.inits.length*5:=by
  have:∀l:List aQ,(∀i∈l,i.value.pre.length≤4)→(l.map fun i=>1+i.value.pre.length).sum≤l.length*5:=by
   intro l;induction l with
   | nil=>intro _;simp
   | cons x l ih =>
    intro hl;have h1:=hl x (List.mem_cons_self ..);have h2:=ih fun i hi=>hl i (List.mem_cons_of_mem _ hi)
    simp only [List.map_cons,List.sum_cons,List.length_cons];omega
  exact this _ fun i hi=>((h.inits i hi).2.2.few:_)
 have e8:=h.initsN;simp only [Br] at e5 e6;omega
theorem om {M:gy} {hasP:Bool} {p:af} (h:mO M hasP p):p.procs.length≤1∧(p.procs.map gI).sum≤206:=by
 have hp:=h.procs
 split at hp
 ·obtain ⟨q,h1,h2⟩:=hp
  rw [h1];refine ⟨Nat.le_refl _,?_⟩;have h3:=kP (k:=68) fun s hs=>(h2.body s hs).few
  have h4:=h2.few;simp only [List.map_cons,List.map_nil,List.sum_cons,List.sum_nil,gI,h2.params,List.length_cons,List.length_nil];omega
 ·rw [hp];simp
theorem sZ {M:gy} {hasP:Bool} {p:af} (h:mO M hasP p):aP p≤1576:=by
 have h1:=Jb h.tonU;have h2:=(om h).2;have h3:=kP (k:=218) fun s hs=>(h.work s hs).few
 have h4:=kP (k:=68) fun s hs=>(h.recover s hs).few
 have h5:=h.workN;have h6:=h.recoverN;unfold aP;omega
theorem Dt {M:gy} {p:af} (h:nU M p) (hN:EM M.N=true):∀d,d∈p.inputs++p.ghosts++p.vars++p.arrays→d.name.size≤4294967200:=fun d hd=>by
 have hm:d.name∈dn p:=by
  unfold dn lQ names2 lN;simp only [List.mem_append,List.mem_map] at hd ⊢;rcases hd with ((hd | hd) | hd) | hd
  ·exact .inl (.inl (.inl ⟨d,hd,rfl⟩))
  ·exact .inl (.inl (.inr ⟨d,hd,rfl⟩))
  ·exact .inl (.inr ⟨d,hd,rfl⟩)
  ·exact .inr ⟨d,hd,rfl⟩
 have:=(Jc hN _ (Eo h _ hm)).2.2;omega
theorem DZ {M:gy} {hasP:Bool} {q:aO} (h:DY M hasP q):q.name.size≤4294967200∧∀d∈q.params,d.name.size≤4294967200:=by
 rw [h.name,h.params];refine ⟨by decide,fun d hd=>?_⟩;simp at hd;subst hd;show xB.size≤4294967200
 decide
theorem jP {M:gy} {hasP:Bool} {p:af} (h:mO M hasP p) (hN:EM M.N=true):dP p:=by
 refine ⟨Dt h.tonU hN,fun q hq=>?_⟩;have hp:=h.procs
 split at hp
 ·obtain ⟨q2,h1,h2⟩:=hp
  rw [h1] at hq;rw [List.mem_singleton.1 hq];exact DZ h2
 ·rw [hp] at hq;cases hq
end
section
open Go
def gP:ByteArray:=⟨#[110,111,110,101]⟩
def Nv (w:Int) (sp so:Sp):Nat→aa
 | 0=>.mk 0 ⟨#[]⟩ Sp.none [] 0 Sp.none [] Sp.none []
 | 1=>gp sp ⟨#[105]⟩ (aR 1 w)
 | 2=>gp sp gP (aR 1 w)
 | 3=>gp sp ⟨#[97]⟩ (aR 1 w)
 | 4=>gp sp ⟨#[118]⟩ (aR 0 (w+1))
 | 5=>tN sp (aR 1 w) (aR 0 (w+1))
 | 6=>zA Sp.none gP []
 | 7=>.mk 7 ⟨#[]⟩ sp [aR 1 w] 17 Sp.none [] Sp.none []
 | 8=>.mk 4 ⟨#[]⟩ Sp.none [] 1 Sp.none [] Sp.none []
 | 9=>gp sp ⟨#[118]⟩ (bP gP)
 | 10=>tN sp (aR 2 1) (aR 1 w)
 | _=>.mk 6 ⟨#[]⟩ sp [aR 1 w] 0 Sp.none [] so [.mk 9 ⟨#[]⟩ Sp.none [] 0 Sp.none [] Sp.none []]
def Nu:Nat→List Int
 | 0=>[325]
 | 1=>[321,0]
 | 2=>[321,0]
 | 3=>[321,0]
 | 4=>[322,0]
 | 5=>[322,0,0]
 | 6=>[321]
 | 7=>[329,0]
 | 8=>[325]
 | 9=>[0,321]
 | 10=>[0,322,0]
 | _=>[0,0,325]
section
variable {M:gy} {p:af}
theorem K6 (h:nU M p) {i:Int} {s:ByteArray} (hs:∀x∈[M.N.i,M.N.j,M.N.g,M.N.h,M.N.v,M.N.c,M.N.a],x≠s):aJ p ⟨i,[]⟩ s=⟨0,0⟩:=by
 unfold aJ;have e:look ([]:List (ByteArray × cK)) s=none:=rfl;have e2:look (fO p) s=none:=by
  unfold look;rw [Option.map_eq_none_iff,List.find?_eq_none];intro x hx;rw [Hw h] at hx;have:=hs x.1 (He hx)
  simpa using this
 simp only [e,e2];rfl
theorem G8 {E:Env} {s:aa} {k:Nat} {e:Int} (h1:jL s=true) (h2:dF p E s=e) (h3:e≠0):iU p E s k=e:=by
 unfold iU;rw [if_pos h1,if_neg (by rw [h2];exact h3),h2]
def NB:Nat→Nat
 | 9=>1
 | 10=>1
 | k=>if 11≤k then 2 else 0
def Nn:Nat→Int
 | 0=>325
 | 1=>321
 | 2=>321
 | 3=>321
 | 4=>322
 | 5=>322
 | 6=>321
 | 7=>329
 | 8=>325
 | 9=>321
 | 10=>322
 | _=>325
def LK (p:af) (s:aa) (cs:Sp):af:={ p with recover:=p.recover++[s],cs:=cs }
def MU (p:af) (s:aa) (cs ws:Sp):af:={ LK p s cs with work:=p.work++[s],ws:=ws }
theorem GM (a b:List aa):ay (a++b)=ay a+ay b:=by
 unfold ay gU;rw [List.flatMap_append,List.map_append,List.sum_append]
theorem Cz (q:af) (E:Env) (a:List aa) (s:aa) (d:Nat):aL q E (a++[s]) d=aL q E a d++kH q E s d:=by
 rw [bn,bn,List.flatMap_append];simp
end
end
section
open Go
mutual
def aK:ae→ae
 | .mk k o v w n _ l=>.mk k o v w n Sp.none (tH l)
def tH:List ae→List ae
 | []=>[]
 | e::l=>aK e::tH l
end
theorem tC:∀l:List ae,tH l=l.map aK
 | []=>by rw [tH];rfl
 | e::l=>by rw [tH,tC l];rfl
theorem gm (k o v w:Int) (n:ByteArray) (sp:Sp) (l:List ae):aK (.mk k o v w n sp l)=.mk k o v w n Sp.none (l.map aK):=by rw [aK,tC]
mutual
def ag:aa→aa
 | .mk k n _ ex b _ th _ el=>.mk k n Sp.none (tH ex) b Sp.none (um th) Sp.none (um el)
def um:List aa→List aa
 | []=>[]
 | s::l=>ag s::um l
end
theorem ui:∀l:List aa,um l=l.map ag
 | []=>by rw [um];rfl
 | e::l=>by rw [um,ui l];rfl
theorem bV (k b:Int) (n:ByteArray) (es ts os:Sp) (ex:List ae) (th el:List aa):ag (.mk k n es ex b ts th os el)=.mk k n Sp.none (ex.map aK) b Sp.none (th.map ag) Sp.none (el.map ag):=by rw [ag,tC,ui,ui]
def vE (i:aQ):aQ:=⟨i.block,aK i.value⟩
def kI (q:aO):aO:=⟨q.name,Sp.none,q.params,Sp.none,q.body.map ag⟩
def aH (p:af):af :=
 { blocks:=p.blocks,width:=p.width,is:=Sp.none,inputs:=p.inputs,gs:=Sp.none,ghosts:=p.ghosts,vs:=Sp.none,vars:=p.vars,«as»:=Sp.none,arrays:=p.arrays,require:=aK p.require,ns:=Sp.none,inits:=p.inits.map vE,rs:=Sp.none,procs:=p.procs.map kI,ws:=Sp.none,work:=p.work.map ag,cs:=Sp.none,recover:=p.recover.map ag,invariant:=aK p.invariant }
section
variable (e:ae) (s:aa)
theorem mU:(aK e).kind=e.kind:=by cases e;rw [gm];rfl
theorem Co:(aK e).op=e.op:=by cases e;rw [gm];rfl
theorem uT:(aK e).value=e.value:=by cases e;rw [gm];rfl
theorem oC:(aK e).width=e.width:=by cases e;rw [gm];rfl
theorem qA:(aK e).name=e.name:=by cases e;rw [gm];rfl
theorem kX:(aK e).subs=e.subs.map aK:=by cases e;rw [gm];rfl
theorem gD:(ag s).kind=s.kind:=by cases s;rw [bV];rfl
theorem kZ:(ag s).name=s.name:=by cases s;rw [bV];rfl
theorem kw:(ag s).bound=s.bound:=by cases s;rw [bV];rfl
theorem iJ:(ag s).exprs=s.exprs.map aK:=by cases s;rw [bV];rfl
theorem jS:(ag s).thn=s.thn.map ag:=by cases s;rw [bV];rfl
theorem mg:(ag s).els=s.els.map ag:=by cases s;rw [bV];rfl
end
section
variable (p:af) (E:Env)
theorem yo (s:ByteArray):aJ (aH p) E s=aJ p E s:=rfl
theorem yC (k op wd:Int) (nm:ByteArray) (s0 s1:Int):dw (aH p) E k op wd nm s0 s1=dw p E k op wd nm s0 s1:=rfl
end
theorem ae.ind {M:ae→Prop} (h:∀k o v w n sp l,(∀s∈l,M s)→M (.mk k o v w n sp l)):∀e,M e:=fun e=>by
 refine ae.rec (motive_1:=M) (motive_2:=fun l=>∀s∈l,M s) (fun k o v w n sp l ih=>h k o v w n sp l ih) (fun s hs=>by cases hs) (fun a l ha hl s hs=>?_) e;rcases List.mem_cons.1 hs with rfl | hs
 ·exact ha
 ·exact hl s hs
theorem aa.ind {M:aa→Prop} (h:∀k n es ex b ts th os el,(∀s∈th,M s)→(∀s∈el,M s)→M (.mk k n es ex b ts th os el)):∀s,M s:=fun s=>by
 refine aa.rec (motive_1:=M) (motive_2:=fun l=>∀s∈l,M s) (fun k n es ex b ts th os el i1 i2=>h k n es ex b ts th os el i1 i2) (fun s hs=>by cases hs) (fun a l ha hl s hs=>?_) s;rcases List.mem_cons.1 hs with rfl | hs
 ·exact ha
 ·exact hl s hs
theorem eF {α β:Type} {f g:α→List β}:∀{l:List α},(∀x∈l,f x=g x)→l.flatMap f=l.flatMap g
 | [],_=>rfl
 | x::l,h=>by rw [List.flatMap_cons,List.flatMap_cons,h x (List.mem_cons_self ..),eF fun y hy=>h y (List.mem_cons_of_mem _ hy)]
theorem dZ {α β:Type} {f g:α→β} {l:List α} (h:∀x∈l,f x=g x):l.map f=l.map g:=List.map_congr_left h
section
variable (p:af) (E:Env)
theorem xg {l:List ae} (h:∀s∈l,bL (aH p) E (aK s)=bL p E s) (i:Nat):bE (aH p) E (l.map aK) i=bE p E l i:=by
 unfold bE;rw [List.getElem?_map];cases hi:l[i]? with
 | none=>rfl
 | some x=>exact h x (List.mem_of_getElem? hi)
theorem oZ (e:ae):bL (aH p) E (aK e)=bL p E e:=by
 induction e using ae.ind with
 | h k o v w n sp l ih =>
  rw [fZ,fZ,mU,Co,oC,qA,kX,yC,xg (l:=(ae.mk k o v w n sp l).subs) p E ih,xg (l:=(ae.mk k o v w n sp l).subs) p E ih]
theorem mo (l:List ae) (i:Nat):bE (aH p) E (l.map aK) i=bE p E l i:=xg p E (fun s _=>oZ p E s) i
theorem BU (e:ae):jg (aK e)=jg e:=by
 unfold jg;rw [mU,Co,uT,oC,qA,kX,List.length_map]
theorem AR (e:ae):bX (aH p) E (aK e)=bX p E e:=by
 unfold bX;rw [mU,uT,oC,kX,List.length_map,mo,mo,mo]
theorem lK (a b:Int):dX (aH p) a b=dX p a b:=by
 unfold dX;rw [show (aH p).procs.length=p.procs.length from List.length_map _]
theorem Dl (wh:Int) (e:ae) (d:Nat):jk (aH p) E wh (aK e) d=jk p E wh e d:=by
 unfold jk bK;rw [mU,qA,BU,AR,lK,yo]
theorem mH (wh:Int) (e:ae):∀d,fu (aH p) E wh (aK e) d=fu p E wh e d:=by
 induction e using ae.ind with
 | h k o v w n sp l ih =>
  intro d;rw [fJ,fJ,Dl,aY,aY,kX,List.flatMap_map]
  congr 1
  exact eF fun s hs=>ih s hs (d+1)
theorem Ca (wh:Int) (l:List ae) (d:Nat):cO (aH p) E wh (l.map aK) d=cO p E wh l d:=by
 rw [aY,aY,List.flatMap_map];exact eF fun s _=>mH p E wh s d
theorem DK (s:aa):jL (ag s)=jL s:=by
 unfold jL;rw [gD,kw,kZ,iJ,jS,mg,List.length_map,List.length_map,List.length_map]
theorem rQ {α β:Type} (f:β→ByteArray) (g:α→β):∀(l:List α) (n:Nat),numbered f (l.map g) n=numbered (fun x=>f (g x)) l n
 | [],_=>rfl
 | x::l,n=>by rw [List.map_cons,numbered,numbered,rQ f g l]
theorem r9:dI (aH p)=dI p:=by
 unfold dI;rw [show (aH p).procs=p.procs.map kI from rfl,rQ]
 rfl
theorem zW (s:aa):(ag s).pre=s.pre.map ag:=by
 induction s using aa.ind with
 | h k n es ex b ts th os el i1 i2 =>
  rw [aa.pre_eq,aa.pre_eq,List.map_cons,List.map_append,jS,mg,List.flatMap_map,List.flatMap_map,List.map_flatMap,List.map_flatMap]
  congr 2
  ·exact eF fun s hs=>i1 s hs
  ·exact eF fun s hs=>i2 s hs
theorem lW (l:List aa):(l.map ag).flatMap aa.pre=(l.flatMap aa.pre).map ag:=by
 rw [List.flatMap_map,List.map_flatMap];exact eF fun s _=>zW s
theorem Bw (l:List aa):jD (l.map ag)=jD l:=by
 unfold jD;rw [lW,List.foldl_map];simp only [gD,kZ]
theorem wP (i:Nat):gQ (aH p) i=gQ p i:=by
 unfold gQ;rw [r9,show (aH p).procs[i]? = (p.procs[i]?).map kI from List.getElem?_map];cases p.procs[i]? with
 | none=>rfl
 | some q=>simp only [Option.map_some];rw [show (kI q).body=q.body.map ag from rfl,Bw]
theorem oD (tgt:Nat):∀(n:Nat) (seen todo:List Nat),gF (aH p) tgt n seen todo=gF p tgt n seen todo
 | 0,_,_=>rfl
 | _+1,_,[]=>rfl
 | n+1,seen,i::todo=>by
  rw [gF,gF,oD tgt n,oD tgt n,wP]
theorem BA (a b:Nat):ji (aH p) a b=ji p a b:=by
 unfold ji oN;rw [oD,show (aH p).procs.length=p.procs.length from List.length_map _];simp only [wP]
theorem wT:∀(ds:List aF) (l:List ae),lH (aH p) E ds (l.map aK)=lH p E ds l
 | [],_=>by simp [lH]
 | _::_,[]=>by simp [lH]
 | d::ds,e::l=>by rw [List.map_cons,lH,lH,oZ,wT ds l]
theorem EJ (i:Nat) (l:List ae):kY (aH p) E i (l.map aK)=kY p E i l:=by
 unfold kY;rw [show (aH p).procs[i]? = (p.procs[i]?).map kI from List.getElem?_map];cases p.procs[i]? with
 | none=>rfl
 | some q =>
  simp only [Option.map_some,List.length_map];rw [show (kI q).params=q.params from rfl,wT]
theorem CK (s:aa):dF (aH p) E (ag s)=dF p E s:=by
 unfold dF;rw [gD,kZ,kw,iJ,mo,mo,r9,yo];simp only [EJ,BA]
 rfl
theorem EN (s:aa) (d:Nat):iU (aH p) E (ag s) d=iU p E s d:=by
 unfold iU;rw [DK,CK,lK]
theorem Dy (s:aa):∀d,kH (aH p) E (ag s) d=kH p E s d:=by
 induction s using aa.ind with
 | h k n es ex b ts th os el i1 i2 =>
  intro d;rw [gq,gq,EN,iJ,jS,mg,Ca,bn,bn,bn,bn,List.flatMap_map,List.flatMap_map]
  congr 2
  congr 1
  ·exact eF fun s hs=>i1 s hs (d+1)
  ·exact eF fun s hs=>i2 s hs (d+1)
theorem nS (l:List aa) (d:Nat):aL (aH p) E (l.map ag) d=aL p E l d:=by
 rw [bn,bn,List.flatMap_map];exact eF fun s _=>Dy p E s d
theorem xW (s:List UInt8):iY (aH p) s=iY p s:=by
 unfold iY;rw [show (aH p).procs.length=p.procs.length from List.length_map _]
theorem Dp (before:List ByteArray) (a:Bool) (d:aF):og (aH p) before a d=og p before a d:=by
 unfold og;rw [xW]
theorem jm (a:Bool):∀(l:List aF) (before:List ByteArray),bG (aH p) a l before=bG p a l before
 | [],_=>rfl
 | d::l,before=>by rw [bG,bG,Dp,jm a l]
theorem CZ (i:Nat):inside (aH p) i=inside p i:=by
 unfold inside;rw [show (aH p).procs[i]? = (p.procs[i]?).map kI from List.getElem?_map];cases p.procs[i]? <;> rfl
theorem Dk (before:List ByteArray) (i:Nat) (q:aO):kT (aH p) before i (kI q)=kT p before i q:=by
 unfold kT xY;rw [xW,jm,CZ,show (kI q).body=q.body.map ag from rfl,nS]
 rfl
theorem vB:∀(l:List aO) (i:Nat) (before:List ByteArray),dN (aH p) (l.map kI) i before=dN p l i before
 | [],_,_=>rfl
 | q::l,i,before=>by rw [List.map_cons,dN,dN,Dk,vB l];rfl
theorem ve:∀(l:List aQ) (before:List Int),dY (aH p) (l.map vE) before=dY p l before
 | [],_=>rfl
 | x::l,before=>by
  rw [List.map_cons,dY,dY,ve l];have e1:vC (aH p) before (vE x)=vC p before x:=by
   unfold vC;rw [show (vE x).value=aK x.value from rfl,oZ]
   rfl
  rw [e1,show (vE x).value=aK x.value from rfl,mH]
  rfl
theorem yA (k:Int):gu (aH p) k=gu p k:=by
 unfold gu;rw [lK,lK,show (aH p).procs.length=p.procs.length from List.length_map _]
 rfl
theorem uH (k:Int):bJ (aH p) k=bJ p k:=by
 unfold bJ;rw [yA,jm,jm,jm,jm];rw [show (aH p).require=aK p.require from rfl,show (aH p).invariant=aK p.invariant from rfl,show (aH p).inits=p.inits.map vE from rfl,show (aH p).procs=p.procs.map kI from rfl,show (aH p).work=p.work.map ag from rfl,show (aH p).recover=p.recover.map ag from rfl];rw [mH,mH,ve,vB,nS,nS]
 rfl
end
end
section
open Go
mutual
def J6:ae→ae→Bool
 | .mk k o v w n _ l,b=>decide (k=b.kind∧o=b.op∧v=b.value∧w=b.width∧n=b.name) && jv l b.subs
def jv:List ae→List ae→Bool
 | [],l=>l.isEmpty
 | a::l,m=>match m with
  | b::m=>J6 a b && jv l m
  | []=>false
end
mutual
def J7:aa→aa→Bool
 | .mk k n _ ex bd _ th _ el,b=>decide (k=b.kind∧n=b.name∧bd=b.bound) && (jv ex b.exprs && (iO th b.thn && iO el b.els))
def iO:List aa→List aa→Bool
 | [],l=>l.isEmpty
 | a::l,m=>match m with
  | b::m=>J7 a b && iO l m
  | []=>false
end
theorem Fj {l:List ae} (ih:∀a∈l,∀b,J6 a b=true↔aK a=aK b):∀m,jv l m=true↔l.map aK=m.map aK:=by
 induction l with
 | nil=>intro m;rw [jv];cases m <;> simp
 | cons a l ihl =>
  intro m;cases m with
  | nil=>simp [jv]
  | cons b m =>
   rw [jv,Bool.and_eq_true,ih a (List.mem_cons_self ..),ihl fun x hx=>ih x (List.mem_cons_of_mem _ hx),List.map_cons,List.map_cons,List.cons.injEq]
theorem Kw (a:ae):∀b,J6 a b=true↔aK a=aK b:=by
 induction a using ae.ind with
 | h k o v w n sp l ih =>
  intro b;rw [J6,Bool.and_eq_true,decide_eq_true_eq,Fj ih];obtain ⟨k',o',v',w',n',sp',l'⟩:=b;rw [gm,gm];show (k=k'∧o=o'∧v=v'∧w=w'∧n=n')∧l.map aK=l'.map aK↔_;rw [ae.mk.injEq]
  constructor
  ·rintro ⟨⟨rfl,rfl,rfl,rfl,rfl⟩,h⟩;exact ⟨rfl,rfl,rfl,rfl,rfl,rfl,h⟩
  ·rintro ⟨rfl,rfl,rfl,rfl,rfl,_,h⟩;exact ⟨⟨rfl,rfl,rfl,rfl,rfl⟩,h⟩
theorem BD (l m:List ae):jv l m=true↔l.map aK=m.map aK:=Fj (fun a _=>Kw a) m
theorem Ba {l:List aa} (ih:∀a∈l,∀b,J7 a b=true↔ag a=ag b):∀m,iO l m=true↔l.map ag=m.map ag:=by
 induction l with
 | nil=>intro m;rw [iO];cases m <;> simp
 | cons a l ihl =>
  intro m;cases m with
  | nil=>simp [iO]
  | cons b m =>
   rw [iO,Bool.and_eq_true,ih a (List.mem_cons_self ..),ihl fun x hx=>ih x (List.mem_cons_of_mem _ hx),List.map_cons,List.map_cons,List.cons.injEq]
theorem sG (a:aa):∀b,J7 a b=true↔ag a=ag b:=by
 induction a using aa.ind with
 | h k n es ex bd ts th os el i1 i2 =>
  intro b;rw [J7,Bool.and_eq_true,Bool.and_eq_true,Bool.and_eq_true,decide_eq_true_eq,BD,Ba i1,Ba i2];obtain ⟨k',n',es',ex',bd',ts',th',os',el'⟩:=b;rw [bV,bV];show (k=k'∧n=n'∧bd=bd')∧ex.map aK=ex'.map aK∧th.map ag=th'.map ag∧el.map ag=el'.map ag↔_;rw [aa.mk.injEq]
  constructor
  ·rintro ⟨⟨rfl,rfl,rfl⟩,h1,h2,h3⟩;exact ⟨rfl,rfl,rfl,h1,rfl,rfl,h2,rfl,h3⟩
  ·rintro ⟨rfl,rfl,_,h1,rfl,_,h2,_,h3⟩;exact ⟨⟨rfl,rfl,rfl⟩,h1,h2,h3⟩
theorem BF (l m:List aa):iO l m=true↔l.map ag=m.map ag:=Ba (fun a _=>sG a) m
def Nz (x y:aQ):Bool:=decide (x.block=y.block) && J6 x.value y.value
def M9 {α:Type} (f:α→α→Bool):List α→List α→Bool
 | [],[]=>true
 | a::l,b::m=>f a b && M9 f l m
 | _,_=>false
def Nl (x y:aF):Bool:=decide (x.name=y.name∧x.width=y.width∧x.size=y.size)
def Nw (x y:aO):Bool:=decide (x.name=y.name) && (M9 Nl x.params y.params && iO x.body y.body)
end
section
open Go
def eG:aa:=.mk 7 ⟨#[]⟩ Sp.none [.mk 1 0 1 1 ⟨#[]⟩ Sp.none []] 1 Sp.none [] Sp.none []
def eO (s:aa):Bool:=J7 s eG
def fK (s:aa):Bool:=decide (s.kind=7) && !eO s
theorem j5 (s:aa):eO (ag s)=eO s:=by
 have hb:ag (ag s)=ag s:=by
  induction s using aa.ind with
  | h k n es ex b ts th os el i1 i2 =>
   have hx:∀e:ae,aK (aK e)=aK e:=fun e=>by
    induction e using ae.ind with
    | h k o v w n sp l ih=>rw [gm,gm,List.map_map,dZ (f:=aK ∘ aK) (g:=aK) ih]
   rw [bV,bV,List.map_map,List.map_map,List.map_map,dZ (f:=aK ∘ aK) (g:=aK) fun e _=>hx e,dZ (f:=ag ∘ ag) (g:=ag) i1,dZ (f:=ag ∘ ag) (g:=ag) i2]
 unfold eO;rw [Bool.eq_iff_iff,sG,sG,hb]
theorem kU (s:aa):fK (ag s)=fK s:=by unfold fK;rw [gD,j5]
mutual
def uj:aa→Int
 | .mk k n es ex b ts th os el=>if fK (.mk k n es ex b ts th os el)=true then b*(1+(aN ex:Int)+eT th 0)+(1+(aN ex:Int))+2 else 1+(aN ex:Int)+eT th 0+eT el 0
def eT:List aa→Int→Int
 | [],n=>n
 | s::l,n=>if n+uj s>20000 then 20001 else eT l (n+uj s)
end
mutual
def Bt:aa→Int
 | .mk k n es ex b ts th os el=>if fK (.mk k n es ex b ts th os el)=true then b+max (max (min (il th 0) 1001) (min (il el 0) 1001)) 2 else 1+max (min (il th 0) 1001) (min (il el 0) 1001)
def il:List aa→Int→Int
 | [],n=>n
 | s::l,n=>il l (max n (Bt s))
end
def fV (e:List ae) (th:List aa):aa:=.mk 6 ⟨#[]⟩ Sp.none (e.take 1) 0 Sp.none th Sp.none []
def lV {α:Type} (f:α→α):Nat→α→α
 | 0,x=>x
 | n+1,x=>lV f n (f x)
mutual
def uX:aa→aa
 | .mk k n es ex b ts th os el=>if fK (.mk k n es ex b ts th os el)=true then lV (fun last=>fV ex (aZ th++[last])) b.toNat (fV ex [eG]) else .mk k n Sp.none ex b Sp.none (aZ th) Sp.none (aZ el)
def aZ:List aa→List aa
 | []=>[]
 | s::l=>uX s::aZ l
end
theorem jJ:∀l:List aa,aZ l=l.map uX
 | []=>by rw [aZ];rfl
 | e::l=>by rw [aZ,jJ l];rfl
def qF (l:List aa):List Int:=((l.flatMap aa.pre).filter fun s=>decide (s.kind=3∨s.kind=4∨s.kind=5)).map aa.kind
def fQ (l:List aa):Nat:=(l.flatMap aa.pre).countP eO
def nJ (l:List aa):Bool:=(l.flatMap aa.pre).all fun s=>!fK s
end
end Go.Proofs.YtepacjkacjabbaaGreatDoor
