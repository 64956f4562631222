import Derived.Test.YtepacjkacjabbaaGreatDoorPAA
import Derived.Test.YtepacjkacjabbaaGreatDoorPAW
import Derived.Test.YtepacjkacjabbaaGreatDoorPAV
import Derived.Sort.CutIn
import Derived.Test.YtepacjkacjabbaaGreatDoorPAG
import Derived.Test.YtepacjkacjabbaaGreatDoorPAN
import Derived.Test.YtepacjkacjabbaaGreatDoorPAH
namespace Go.Proofs.YtepacjkacjabbaaGreatDoor
section
open Go Go.RowKit Go.Maps
def BB (p:af):List (Int × Int):=fq (bK p (bW (countP p))) 0
theorem zG (p:af) (w:World):Calls Tryz.prog 168 #[.agg p.arr] w fun o w'=>o=.returned (.func (.func 202) #[] #[.pointer (some ⟨w.heap.size,0,none⟩)])∧w'=w.alloc (.cells p.arr 35):=by
 have harr:∃a,p.arr=a:=⟨_,rfl⟩;obtain ⟨a,ha⟩:=harr;rw [ha];clear ha;go_enter Tryz.func168,Tryz.ntmps168
 go_wp2
 go_ret
 exact ⟨rfl,rfl⟩
theorem KJ {q mt mp n₀ B:Nat} {p:af} {yv yv':Value} {pm:Option Nat} {E:Env} {n:Int} {over:Bool} {W:World} (h:jv ⟨q,p,n₀,B,yv,mt,mp⟩ pm E n over W):jv ⟨q,p,n₀,B,yv',mt,mp⟩ pm E n over (W.setCell ⟨q,28,none⟩ yv'):=by
 have hn:n₀≤q:=by have:=h.q;have:=h.n0;simp only at *;omega
 have hk:∀k o,B≤k→W.heap[k]? = some o→o.isCells=false→(W.setCell ⟨q,28,none⟩ yv').heap[k]? = some o:=fun k o _ hk ho =>
  (Below.heap_setCell _ _ _ k (fun e=>by simp only at e;subst e;rw [h.box] at hk;cases hk;cases ho)).trans hk
 refine ⟨?_,h.params.stays (K:=⟨q,p,n₀,B,yv,mt,mp⟩) hk,jI h.things h.mt hk,jI h.procs h.mp hk,h.prog.below ((Below.refl _ _).setCell hn _),h.n0,h.q,h.mt,h.mp⟩;simp [World.setCell,Array.getElem?_modify,h.box,gp.cells]
structure Fit (p:af):Prop where
 heft:countP p≤20000
 names:eT p
 weight:eU p≤1125899906842624
theorem Fit.light {p:af} (h:Fit p):aR p≤20000:=by have:=yZ h.heft;have:=h.heft;omega
set_option maxRecDepth 1000000 in
set_option maxHeartbeats 4000000 in
theorem xc (p:af) (n₀:Nat) (W:World) (Bs l:Nat) (hp:jW n₀ W p) (hn:n₀≤W.heap.size) (hn0:0<n₀) (hf:Fit p) (hmx:MxAt W) (hBs:W.heap[Bs]? = some (.cells p.arr 35 (0,0)))
  (J Jx:List (Int × Int)→World→Prop) (hJ:bN 246 W.heap.size J) (hJx:bN 246 W.heap.size Jx)
  (hY:∀pre (x:Int × Int) W1,J pre W1→pre.length<1000000→YieldAt Fence.wide 0 Tryz.prog l #[.agg #[.int .i64 x.1,.int .i64 x.2]] W1 fun e W' =>
   (e=.returned (.bool true)∧J (pre++[x]) W'∧ax TK W.heap.size W1 W'∧Below n₀ W1 W')∨(e=.returned (.bool false)∧Jx (pre++[x]) W'∧ax TK W.heap.size W1 W'∧Below n₀ W1 W'))
  (h0:J [] W):Calls Tryz.prog 202 #[.func (.yield l) #[] #[],.pointer (some ⟨Bs,0,none⟩)] W fun o W'=>(∃v,o=.returned v)∧(J (BB p) W'∨∃pre,pre≠[]∧pre <+: BB p∧Jx pre W'):=by
 have hNW:=JI W p n₀ W.heap.size hp hn (Nat.le_refl _);rw [ut] at hNW;have HNW:=zhd hNW;have HBS:=zhd hBs;have HY:=zhd hY;clear hNW hBs hY hp;go_enter Tryz.func202,Tryz.ntmps202
 obtain ⟨v8,hv8⟩:∃v,Value.agg p.arr=v:=⟨_,rfl⟩;rw [hv8] at HNW;go_upto_region 1 with (first | (refine wpList_load_row rfl 35 _ rfl Bs rfl 35 _ (0,0) _ HBS.out Tryz.underlying35 rfl (aN p) ?_) | (go_at_call 203;refine HNW.out.mono ?_;rintro o2 w2 ⟨q,mt,mp,rfl,hck,hq,hmt,hmp,hb2⟩) | fail)
 have f28:=hck.frozen 28;have c28:=hck.c28;have hck2:=KJ (yv':=.func (.yield l) #[] #[]) hck;have hJ2:J [] (w2.setCell ⟨q,28,none⟩ (.func (.yield l) #[] #[])):=hJ.cell _ (hJ.new h0 hb2) hq hck.box;have hmx2:MxAt (w2.setCell ⟨q,28,none⟩ (.func (.yield l) #[] #[])):=hmx.below ((hb2.mono hn).setCell (by simp only;omega) _) hn0;have hst:iU ⟨q,p,n₀,W.heap.size,.func (.yield l) #[] #[],mt,mp⟩ J Jx none outside [] (w2.setCell ⟨q,28,none⟩ (.func (.yield l) #[] #[])):=⟨false,hck2,.inl ⟨rfl,hJ2⟩⟩;have hTell:j6 ⟨q,p,n₀,W.heap.size,.func (.yield l) #[] #[],mt,mp⟩ J Jx:=F8 _ l rfl J Jx hJ hJx HY.out;have hAll:=Jv hJ hJx hTell hf.light hf.names hn0 hf.weight _ hst hmx2;have HALL:=zhd hAll;clear hck hck2 hJ2 hmx2 hst hTell hAll HNW HBS;go_wp2_with fail
 refine HALL.out.mono ?_;rintro o w3 ⟨rfl,⟨pm,hst3⟩,hk3⟩;have HST3:=zhd hst3;clear hst3 hk3;go_wp2_with fail
 go_returns
 refine ⟨⟨_,rfl⟩,?_⟩;obtain ⟨over,-,hts⟩:=HST3.out.ex;rcases hts with ⟨_,h⟩ | ⟨_,pre,h1,h2,h3⟩
 ·exact .inl h
 ·exact .inr ⟨pre,h1,h2,h3⟩
theorem zH (p:af) (n₀:Nat) (w:World) (Bs:Nat) (hp:jW n₀ w p) (hn:n₀≤w.heap.size) (hn0:0<n₀) (hf:Fit p) (hmx:MxAt w) (hBs:w.heap[Bs]? = some (.cells p.arr 35 (0,0))) :
  KT Fence.wide 1 Tryz.prog 202 #[.pointer (some ⟨Bs,0,none⟩)] (fun x:Int × Int=>#[.agg #[.int .i64 x.1,.int .i64 x.2]]) TK 246 n₀ (fun xs=>xs=BB p) (fun pre=>pre≠[]∧pre <+: BB p) 1000000 w:=by
 intro l J Jx W hW hJ hJx hY h0;have hlt:=(zgs hBs).1;have hs:=hW.size;refine callsIn_wide.2 ((xc p n₀ W Bs l (hp.below (hW.mono hn)) (by omega) hn0 hf (hmx.below hW (by omega)) ((hW.block _ hlt).trans hBs) J Jx hJ hJx hY h0).mono ?_);rintro e W' ⟨h1,h2 | ⟨pre,h3,h4,h5⟩⟩
 ·exact ⟨h1,.inl ⟨_,rfl,h2⟩⟩
 ·exact ⟨h1,.inr ⟨pre,⟨h3,h4⟩,h5⟩⟩
end
section
open Go Go.RowKit Go.Maps
attribute [local go_sem] Oper.semAt_some
theorem iO {F:Fence} {n:Nat} {P:Program} {ops:Array Oper} {rest:List Oper} {o:Oper} {a:Act} {w:World} {Q:Exit→Act→World→Prop} (hgd:o.guard=none) (ty:TypeId) (x:Operand) (ho:o.op=.load ty x)
  (g:Nat) (hx:a.eval x=.pointer (some ⟨g,0,none⟩)) (t:TypeId) (cs:Array Value) (fr:Nat × Nat) (d:TypeDesc) (hg:w.heap[g]? = some (.cells cs t fr))
  (hu:P.underlying ty=some d) (hd:(match d with | .struct _ | .array _ _=>true | _=>false)=true) (hi:(P.info? ty).map (·.size)=some cs.size)
  (h:wpListIn F n P ops Q rest (a.put o.dst (.agg cs)) w):wpListIn F n P ops Q (o::rest) a w :=
 wpListIn_plain hgd fun K hK=>by
  unfold Oper.wpIn;refine ⟨?_,?_⟩
  ·simp [Oper.about,ho]
  ·rw [Oper.semAt_plain F _ _ (by rw [ho];intro c hc';cases hc')]
   simp only [execOp,ho,hx,Instr.loadAt,Instr.sureAddr,Sem.run_bind,Sem.run_pure,Result.andThen_ok,run_loadVar_row w g t ty cs fr d hg hu hd hi];exact hK _ _ h
def eD (p:af):Int × Int:=if countP p≤20000 then (BB p).headD (0,0) else (0,5)
def fe (W:World) (q:Nat) (t:TypeId) (v:Int):Prop:=W.heap[q]? = some (.cells #[.int .i64 v] t (0,0))
theorem lu {B q:Nat} {t:TypeId} {v:Int} {W W':World} {row:Option Nat} (h:fe W q t v) (hg:W.grownBy W' row) (hr:∀r,row=some r→B≤r∧∃o:Obj,W.heap[r]? = some o∧(o.isCells=false∨∃cs fr,o=.cells cs 246 fr)) (ht:t≠246):fe W' q t v :=
 (hg.block q (zgs (h:W.heap[q]? = _)).1 (fun e=>by
  obtain ⟨_,o,ho,hc⟩:=hr q e.symm;rw [(h:W.heap[q]? = _)] at ho;cases ho
  rcases hc with hc | ⟨cs,fr,hc⟩
  ·cases hc
  ·cases hc;exact ht rfl)).trans h
theorem Es {B n₀ p e:Nat} {tp te:TypeId} {a b a' b':Int} {W:World} (hP:fe W p tp a) (hE:fe W e te b) (hne:p≠e) (h1:TK tp=false) (h2:TK te=false) (hp:n₀≤p) (he:n₀≤e) :
  ax TK B W ((W.drew.setCell ⟨p,0,none⟩ (.int .i64 a')).setCell ⟨e,0,none⟩ (.int .i64 b'))∧Below n₀ W ((W.drew.setCell ⟨p,0,none⟩ (.int .i64 a')).setCell ⟨e,0,none⟩ (.int .i64 b')) ∧
  fe ((W.drew.setCell ⟨p,0,none⟩ (.int .i64 a')).setCell ⟨e,0,none⟩ (.int .i64 b')) p tp a'∧fe ((W.drew.setCell ⟨p,0,none⟩ (.int .i64 a')).setCell ⟨e,0,none⟩ (.int .i64 b')) e te b':=by
 have hbd:Below W.heap.size W W.drew:=(Below.refl _ _).drew;have hP0:fe W.drew p tp a:=hP;have hE0:fe W.drew e te b:=hE;have hE1:fe (W.drew.setCell ⟨p,0,none⟩ (.int .i64 a')) e te b:=(Below.heap_setCell _ _ _ _ (fun h=>hne (by simpa using h.symm))).trans hE0;have hP1:fe (W.drew.setCell ⟨p,0,none⟩ (.int .i64 a')) p tp a':=(show Boxed W.drew p tp (.int .i64 a) from hP0).set (.int .i64 a');refine ⟨((ax.of_below hbd).trans (ax.set (a:=⟨p,0,none⟩) hP0 h1 _)).trans (ax.set (a:=⟨e,0,none⟩) hE1 h2 _),((Below.refl _ W).drew.setCell (p:=⟨p,0,none⟩) hp _).setCell (p:=⟨e,0,none⟩) he _,?_,(show Boxed (W.drew.setCell ⟨p,0,none⟩ (.int .i64 a')) e te (.int .i64 b) from hE1).set (.int .i64 b')⟩;exact (Below.heap_setCell _ _ _ _ (fun h=>hne (by simpa using h))).trans hP1
set_option maxRecDepth 1000000 in
set_option maxHeartbeats 4000000 in
theorem EH (w:World) (p:af) (hp:jW w.heap.size w p) (hn0:0<w.heap.size) (hN:eT p) (hwt:eU p≤1125899906842624) (hmx:MxAt w) :
  Calls Tryz.prog 108 #[p.val] w fun o w'=>o=.returned (.tuple #[.int .i64 (eD p).1,.int .i64 (eD p).2])∧Below w.heap.size w w':=by
 refine (callsIn_wide (n:=2)).1 ?_;have hb1:=zba w (.cells p.arr 35);have hB:=zan w (.cells p.arr 35);have hLG:=vJ _ p ((hp.below hb1).more (Nat.le_of_lt (by simp:w.heap.size<(w.alloc (.cells p.arr 35)).heap.size))) hwt;have hPR:=fun W=>zG p W
 rw [ut] at hLG ⊢;obtain ⟨arr,harr⟩:∃a,p.arr=a:=⟨_,rfl⟩;have harrs:=aN p;rw [harr] at hLG hPR hb1 hB harrs ⊢;have HLG:=zhd hLG;have HPR:=zhd hPR;have HB:=zhd hB;have HARR:=zhd harr;have HP:=zhd hp;have HB1:=zhd hb1;clear hLG hPR hB harr hp hb1;by_cases hl:countP p≤20000
 ·have hf:Fit p:=⟨hl,hN,hwt⟩
  have hck:eD p=(BB p).headD (0,0):=if_pos hl;rw [decide_eq_true hl] at HLG;have HF:=zhd hf;have HCK:=zhd hck;clear hl hf hck hN hwt;refine callsIn_of_wp_marks Tryz.func108 rfl trivial ?_ rfl;simp only [Tryz.ntmps108,List.size_toArray,List.length_cons,List.length_nil,Nat.reduceAdd,Nat.reduceSub,Array.replicate_succ,Array.replicate_zero,List.push_toArray,List.append_toArray,List.nil_append,List.cons_append]
  gi_wp2
  refine wpIn_wide.2 (wp_scope_straight (wpIn_wide (n:=2).1 ?_))
  gi_wp2_with (first | (refine iO rfl 35 _ rfl w.heap.size rfl 35 _ (0,0) _ HB.out Tryz.underlying35 rfl harrs ?_) | (refine ⟨trivial,?_⟩;gi_at_call 112;refine (callsIn_wide.2 HLG.out).mono ?_;rintro o3 w3 ⟨rfl,hb3⟩;have HB3:=zhd hb3;clear hb3) | fail)
  have hszA:w.heap.size<(w.alloc (.cells arr 35)).heap.size:=by simp
  have hb3w:Below w.heap.size w w3:=HB1.out.trans (HB3.out.mono (by omega));have hbox3:w3.heap[w.heap.size]? = some (.cells arr 35 (0,0)):=(HB3.out.block _ hszA).trans HB.out;have hs3:w.heap.size<w3.heap.size:=(zgs hbox3).1;have hP1:fe ((w3.alloc (.cells #[.int .i64 0] 3)).alloc (.cells #[.int .i64 0] 37)) w3.heap.size 3 0:=(Below.heap_alloc _ _ _ (by simp)).trans (zan _ _);have hP2:fe ((w3.alloc (.cells #[.int .i64 0] 3)).alloc (.cells #[.int .i64 0] 37)) (w3.heap.size+1) 37 0:=by
   have:=zan (w3.alloc (.cells #[.int .i64 0] 3)) (.cells #[.int .i64 0] 37)
   rwa [World.size_alloc] at this
  have hb4:Below w3.heap.size w3 ((w3.alloc (.cells #[.int .i64 0] 3)).alloc (.cells #[.int .i64 0] 37)):=((Below.refl _ _).alloc (Nat.le_refl _) _).alloc (by simp) _;have hs4:((w3.alloc (.cells #[.int .i64 0] 3)).alloc (.cells #[.int .i64 0] 37)).heap.size=w3.heap.size+2:=by simp
  generalize (w3.alloc (.cells #[.int .i64 0] 3)).alloc (.cells #[.int .i64 0] 37)=w4 at *;have hbox4:=(hb4.block _ hs3).trans hbox3;have HBX4:=zhd hbox4;refine wpIn_label ?_
  gi_wp2_with (first | (refine iO rfl 35 _ rfl w.heap.size rfl 35 _ (0,0) _ HBX4.out Tryz.underlying35 rfl harrs ?_) | (refine ⟨trivial,?_⟩;gi_at_call 168;refine (callsIn_wide.2 (HPR.out _)).mono ?_;rintro o5 w5 ⟨rfl,rfl⟩) | fail)
  have hbxA:=zan w4 (.cells arr 35);have hb5:=zba w4 (.cells arr 35);have hsA:(w4.alloc (.cells arr 35)).heap.size=w3.heap.size+3:=by simp [hs4]
  rw [hs4] at hbxA;have hb0A:Below w.heap.size w (w4.alloc (.cells arr 35)):=(hb3w.trans (hb4.mono (by omega))).trans (hb5.mono (by omega));have hPA:fe (w4.alloc (.cells arr 35)) w3.heap.size 3 0:=(hb5.block _ (by omega)).trans hP1;have hEA:fe (w4.alloc (.cells arr 35)) (w3.heap.size+1) 37 0:=(hb5.block _ (by omega)).trans hP2;generalize w4.alloc (.cells arr 35)=wA at *;clear hP1 hP2 hb5 hbox4 HBX4;rw [←HARR.out] at hbxA;refine nR (T:=TK) (Tc:=246) (n₀:=w.heap.size) rfl (fun h=>by cases h) (gf:=202) (lb:=#[.pointer (some ⟨w3.heap.size+2,0,none⟩)]) rfl trivial (enters_of Tryz.func202 (by kernel_rfl) rfl)
   (zH p w.heap.size wA (w3.heap.size+2) (HP.out.below hb0A) (by omega) hn0 HF.out (hmx.below hb0A hn0) hbxA) (by omega) (Below.refl _ _) (fun _=>rfl)
   (fun pre W=>pre=[]∧wA.heap.size≤W.heap.size∧Below w.heap.size w W∧fe W w3.heap.size 3 0∧fe W (w3.heap.size+1) 37 0)
   (fun c pre W=>∃x:Int × Int,pre=[x]∧c=.exit 0∧Below w.heap.size w W∧fe W w3.heap.size 3 x.1∧fe W (w3.heap.size+1) 37 x.2)
   ?hI ?hIx ⟨rfl,Nat.le_refl _,hb0A,hPA,hEA⟩
   (fun x a' W=>∃b:Nat,wA.heap.size≤b∧W.heap[b]? = some (.cells #[.int .i64 x.1,.int .i64 x.2] 206 (0,0))∧a'={ tmps:=#[.agg arr,.pointer (some ⟨w.heap.size,0,none⟩),.int .i64 0,.int .i64 0,.pointer (some ⟨w3.heap.size,0,none⟩),.pointer (some ⟨w3.heap.size+1,0,none⟩),.pointer (some ⟨b,0,none⟩),.agg arr,.bool true,.bool false,.agg arr,.func (.func 202) #[] #[.pointer (some ⟨w3.heap.size+2,0,none⟩)],.agg #[.int .i64 x.1,.int .i64 x.2],undef,undef,undef,undef,undef,undef],defers:=[] })
   ?hAx ?assign ?body ?done ?stop
  case hI =>
   rintro s X' Y rw ⟨h1,h1s,h2,h3,h4⟩ hg hr;exact ⟨h1,Nat.le_trans h1s hg.size,h2.grown hg h2.size (fun q hq=>by have:=(hr q hq).1;omega),lu h3 hg hr (by decide),lu h4 hg hr (by decide)⟩
  case hIx =>
   rintro c s X' Y rw ⟨x,h0,h1,h2,h3,h4⟩ hg hr;exact ⟨x,h0,h1,h2.grown hg h2.size (fun q hq=>by have:=(hr q hq).1;omega),lu h3 hg hr (by decide),lu h4 hg hr (by decide)⟩
  case hAx =>
   rintro x a' _ X' Y rw ⟨b,h0,h1,h2⟩ hg hr;exact ⟨b,h0,(hg.block b (zgs h1).1 (fun e=>by
    obtain ⟨_,o,ho,hc⟩:=hr b e.symm;rw [h1] at ho;cases ho
    rcases hc with hc | ⟨cs,fr,hc⟩ <;> cases hc)).trans h1,h2⟩
  case assign =>
   rintro l2 pre x Wc K ⟨h1,h1s,h2,h3,h4⟩ hK;have hba:=zba Wc (.cells #[.int .i64 x.1,.int .i64 x.2] 206)
   gi_wp2
   exact hK _ _ (ax.of_below hba) (hba.mono (by omega)) ⟨h1,Nat.le_trans h1s hba.size,h2.trans (hba.mono (by omega)),(hba.block _ (zgs (h3:Wc.heap[_]? = _)).1).trans h3,(hba.block _ (zgs (h4:Wc.heap[_]? = _)).1).trans h4⟩ ⟨_,h1s,zan _ _,rfl⟩
  case body =>
   rintro l2 pre x a' Wc hl2 ⟨rfl,h1s,h2,h3,h4⟩ ⟨b,hb0,hb,rfl⟩ hlen;obtain ⟨q0,q1⟩:=nK hb;have hH3:=zhd h3;have hH4:=zhd h4;have cP:=one_cell (h3:Wc.heap[_]? = _);have cE:=one_cell (h4:Wc.heap[_]? = _);have fP:Wc.frozen? ⟨w3.heap.size,0,none⟩=false:=by
    have h:=hH3.out;unfold fe at h;simp [World.frozen?,h]
   have fE:Wc.frozen? ⟨w3.heap.size+1,0,none⟩=false:=by
    have h:=hH4.out;unfold fe at h;simp [World.frozen?,h]
   have F1:=zhd (Es (B:=wA.heap.size) (n₀:=w.heap.size) (a':=x.1) (b':=x.2) h3 h4 (by omega) rfl rfl (by omega) (by omega));have F2:=zhd (Es (B:=wA.heap.size) (n₀:=w.heap.size) (a':=x.2) (b':=x.1) h4 h3 (by omega) rfl rfl (by omega) (by omega));clear h3 h4 hb
   gi_wp2
   gi_region
   all_goals
    gi_wp2
    first
     | exact ⟨F1.out.1,F1.out.2.1,x,rfl,rfl,h2.trans F1.out.2.1,F1.out.2.2.1,F1.out.2.2.2⟩
     | exact ⟨F2.out.1,F2.out.2.1,x,rfl,rfl,h2.trans F2.out.2.1,F2.out.2.2.2,F2.out.2.2.1⟩
  case done =>
   rintro Dq ys Wd hD rfl ⟨h1,h1s,h2,h3,h4⟩ hK;have cP:=one_cell (h3:Wd.heap[_]? = _);have cE:=one_cell (h4:Wd.heap[_]? = _);have hres:eD p=(0,0):=by rw [HCK.out,h1];rfl
   have HR:=zhd hres;have HKD:=zhd hK;clear h1 hres hK h3 h4
   gi_wp2
   gi_region
   gi_wp2
   simp only [Exit.noGoto];refine ⟨by simp,.inl ⟨_,_,rfl,run_takeDeferred (w:=Wd.drew) HKD.out,?_⟩⟩;exact ⟨_,results_tmp2 rfl _ _ _,by rw [HR.out];rfl,(h2.trans ((Below.refl _ Wd).drew)).trans (bD _ _ (by omega))⟩
  case stop =>
   rintro Dq c pre Wd hD ⟨hp1,hp2⟩ ⟨x,rfl,rfl,h2,h3,h4⟩ hK;have cP:=one_cell (h3:Wd.heap[_]? = _);have cE:=one_cell (h4:Wd.heap[_]? = _);have hres:eD p=x:=by
    obtain ⟨r,hr⟩:=hp2;rw [HCK.out,←hr];rfl
   have HR:=zhd hres;have HKD:=zhd hK;clear hp1 hp2 hres hK h3 h4
   gi_wp2
   gi_region
   gi_wp2
   simp only [Exit.noGoto];refine ⟨by simp,.inl ⟨_,_,rfl,run_takeDeferred (w:=Wd.drew) HKD.out,?_⟩⟩;exact ⟨_,results_tmp2 rfl _ _ _,by rw [HR.out];rfl,(h2.trans ((Below.refl _ Wd).drew)).trans (bD _ _ (by omega))⟩
 ·have hck:eD p=(0,5):=if_neg hl
  rw [decide_eq_false hl] at HLG;rw [hck];clear hl hck hN hwt;refine callsIn_of_wp_marks Tryz.func108 rfl trivial ?_ rfl;simp only [Tryz.ntmps108,List.size_toArray,List.length_cons,List.length_nil,Nat.reduceAdd,Nat.reduceSub,Array.replicate_succ,Array.replicate_zero,List.push_toArray,List.append_toArray,List.nil_append,List.cons_append]
  gi_wp2
  refine wpIn_wide.2 (wp_scope_straight (wpIn_wide (n:=2).1 ?_))
  gi_wp2_with (first | (refine iO rfl 35 _ rfl w.heap.size rfl 35 _ (0,0) _ HB.out Tryz.underlying35 rfl harrs ?_) | (refine ⟨trivial,?_⟩;gi_at_call 112;refine (callsIn_wide.2 HLG.out).mono ?_;rintro o3 w3 ⟨rfl,hb3⟩;have HB3:=zhd hb3;clear hb3) | fail)
  simp only [Exit.noGoto];exact ⟨_,results_tmp2 rfl _ _ _,rfl,HB1.out.trans (HB3.out.mono (by simp))⟩
end
section
open Go Go.RowKit
def DN (v ws:Sp) (l:List aa):af:=⟨1,2,Sp.none,[],Sp.none,[],v,[⟨xB,3,0⟩],Sp.none,[],dB 1 1,Sp.none,[],Sp.none,[],ws,l,Sp.none,[],dB 1 1⟩
theorem xY:∀(l:List bn) (b:Int),b+((l.map fun i=>1+i.value.pre.length).sum:Nat)≤20000→dJ l b=b+((l.map fun i=>1+i.value.pre.length).sum:Nat)
 | [],b,_=>by simp [dJ]
 | i::l,b,h=>by
  have e:dJ (i::l) b=dJ l (dF i.value.pre.length (b+1)):=rfl;simp only [List.map_cons,List.sum_cons] at h ⊢;rw [e,mZ (by omega),xY l _ (by omega)];omega
theorem yz:∀(l:List aK) (b:Int),b+((l.map ic).sum:Nat)≤20000→dN l b=b+((l.map ic).sum:Nat)
 | [],b,_=>by simp [dN]
 | q::l,b,h=>by
  have e:dN (q::l) b=dN l (bS (q.body.flatMap aa.pre) (b+1+q.params.length)):=rfl;have e2:ic q=1+q.params.length+gJ (q.body.flatMap aa.pre):=rfl;simp only [List.map_cons,List.sum_cons] at h ⊢;rw [e,jE _ _ (by omega),yz l _ (by omega)];omega
theorem kC {p:af} (h:aR p≤20000):countP p=aR p:=by
 have e:gZ p=(p.inputs.length+p.ghosts.length+p.vars.length+p.arrays.length+1:Nat):=by unfold gZ;omega
 unfold aR ay at *;unfold countP;have h1:dF p.require.pre.length (gZ p)=gZ p+p.require.pre.length:=mZ (by omega);rw [h1];have h2:=xY p.inits (gZ p+p.require.pre.length) (by omega);rw [h2];have h3:=yz p.procs (gZ p+p.require.pre.length+((p.inits.map fun i=>1+i.value.pre.length).sum:Nat)) (by omega);rw [h3];have h4:=jE (p.work.flatMap aa.pre) (gZ p+p.require.pre.length+((p.inits.map fun i=>1+i.value.pre.length).sum:Nat)+((p.procs.map ic).sum:Nat)) (by omega);rw [h4];have h5:=jE (p.recover.flatMap aa.pre) (gZ p+p.require.pre.length+((p.inits.map fun i=>1+i.value.pre.length).sum:Nat)+((p.procs.map ic).sum:Nat)+gJ (p.work.flatMap aa.pre)) (by omega);rw [h5,mZ (by omega)];omega
theorem qi (l:List aa):gq l≤gJ l:=by
 unfold gq gJ;refine pg _ _ _ fun s _=>?_
 have:s.exprs.length≤aF s.exprs:=jP _ (fun e=>gu e) _;omega
theorem nL (p:af):eU p≤aR p:=by
 have h1:(p.procs.map fun q=>1+q.params.length+gq (q.body.flatMap aa.pre)).sum≤(p.procs.map ic).sum:=by
  refine pg _ _ _ fun q _=>?_
  have:=qi (q.body.flatMap aa.pre);unfold ic ay;omega
 have h2:=qi (p.work.flatMap aa.pre);have h3:=qi (p.recover.flatMap aa.pre);unfold eU aR ay;omega
theorem KD {p:af} {k:Nat} (hk:(bK p 0).length=k) (h:k≤20000) (hN:eT p):Fit p:=by
 have hh:aR p=k:=by rw [←fG p 0,hk]
 exact ⟨by rw [kC (by omega)];omega,hN,by have:=nL p;omega⟩
theorem KH {p:af} {k:Nat} (hk:(bK p 0).length=k) (h:k≤20000):BB p=fq (bK p k) 0:=by
 have hh:aR p=k:=by rw [←fG p 0,hk]
 unfold BB;rw [kC (by omega),hh];unfold bW;rw [if_pos (by omega)]
theorem Ar {p:af} {k:Nat} (hk:(bK p 0).length=k) (h:k≤20000) {r:Int × Int} (hr:(fq (bK p k) 0).headD (0,0)=r):eD p=r:=by
 have hh:aR p=k:=by rw [←fG p 0,hk]
 unfold eD;rw [if_pos (by rw [kC (by omega)];omega),KH hk h,hr]
section
variable (v ws a b c d:Sp)
def LX (rs:Sp):af:={ DN v ws [] with rs:=rs,procs:=[⟨⟨#[112]⟩,Sp.none,[],a,[KW b ⟨#[112]⟩ []]⟩] }
def LK:aa:=.mk 7 ⟨#[]⟩ a [ik xB] 0 Sp.none [] Sp.none []
def Ld:af:={ DN v ws [] with require:=ik xB }
def LQ (e:ae):ae:=.mk 8 0 0 3 ⟨#[]⟩ a [e]
def LF:af:={ DN v ws [] with vars:=[⟨xB,3,0⟩,⟨xB,1,0⟩] }
end
end
section
open Go
theorem FE (e:ae):(av e).pre=e.pre.map av:=by
 induction e using ae.ind with
 | h k o v w n sp l ih =>
  rw [ae.pre_eq,ae.pre_eq,List.map_cons,jM,List.flatMap_map,List.map_flatMap]
  congr 1
  exact bZ fun s hs=>ih s hs
theorem nC (e:ae):(av e).pre.length=e.pre.length:=by rw [FE,List.length_map]
theorem vG (l:List ae):aF (l.map av)=aF l:=by
 unfold aF;rw [List.map_map];exact congrArg List.sum (List.map_congr_left fun e _=>nC e)
theorem C8 (l:List aa):gJ (l.map ah)=gJ l:=by
 unfold gJ;rw [List.map_map];refine congrArg List.sum (List.map_congr_left fun s _=>?_);show 1+aF (ah s).exprs=_;rw [gB,vG]
theorem eH (l:List aa):ay (l.map ah)=ay l:=by
 unfold ay;rw [nE,C8]
theorem gI (p:af):aR (aD p)=aR p:=by
 unfold aR;rw [show (aD p).require=av p.require from rfl,show (aD p).invariant=av p.invariant from rfl,show (aD p).inits=p.inits.map su from rfl,show (aD p).procs=p.procs.map jA from rfl,show (aD p).work=p.work.map ah from rfl,show (aD p).recover=p.recover.map ah from rfl,nC,nC,eH,eH,List.map_map,List.map_map];have e1:(fun i:bn=>1+i.value.pre.length) ∘ su=fun i=>1+i.value.pre.length:=by funext i;exact congrArg (1+·) (nC i.value)
 have e2:ic ∘ jA=ic:=by
  funext q
  show 1+q.params.length+ay (q.body.map ah)=_;rw [eH]
  rfl
 rw [e1,e2]
 rfl
theorem Dw {p:af} (h:eT p):eT (aD p) :=
 ⟨h.decls,fun q hq=>by
  obtain ⟨q0,h0,rfl⟩:=List.mem_map.1 hq;exact h.procs q0 h0⟩
theorem wZ {p:af} (h:eT (aD p)):eT p :=
 ⟨h.decls,fun q hq=>h.procs (jA q) (List.mem_map_of_mem hq)⟩
theorem G7 {p q:af} (h:aD p=aD q) (hp:eT q) (hl:aR q≤20000):Fit p :=
 KD (by rw [fG]) (by rw [←gI,h,gI];exact hl) (wZ (by rw [h];exact Dw hp))
theorem CF {p q:af} (h:aD p=aD q) (k:Int):bK p k=bK q k:=by rw [←sI,h,sI]
end
section
open Go
def aM (x:aa):Prop:=x.kind=7→1≤x.bound∧x.bound≤16∧x.exprs.length=1∧x.els=[]
theorem qH {s:aa} (h:dY s=true):uh s=kG (fun last=>fT s.exprs (aX s.thn++[last])) s.bound.toNat (fT s.exprs [dh]):=by
 cases s
 rw [uh,if_pos h]
 rfl
theorem zP {s:aa} (h:dY s=false):uh s=.mk s.kind s.name Sp.none s.exprs s.bound Sp.none (aX s.thn) Sp.none (aX s.els):=by
 cases s
 rw [uh,if_neg (by rw [h];decide)]
 rfl
theorem xZ {α:Type} (P:Nat→α→Prop) (f:α→α) (step:∀k y,P k y→P (k+1) (f y)):∀(n k:Nat) (x:α),P k x→P (k+n) (kG f n x)
 | 0,k,x,h=>h
 | n+1,k,x,h=>by
  rw [kG,show k+(n+1)=(k+1)+n by omega];exact xZ P f step n (k+1) (f x) (step k x h)
theorem Dt {s:aa} (h:s.kind≠7):dY s=false:=by unfold dY;rw [decide_eq_false h];rfl
theorem mG {s:aa} (h:dY s=true):s.kind=7:=by
 unfold dY at h;rw [Bool.and_eq_true] at h;exact of_decide_eq_true h.1
def xX (s:aa):Nat:=1+aF s.exprs+ay s.thn+ay s.els
theorem gH (s:aa) (l:List aa):ay (s::l)=xX s+ay l:=jO s l
theorem gT:ay []=0:=rfl
theorem zk:xX dh=2:=by
 show 1+aF [.mk 1 0 1 1 ⟨#[]⟩ Sp.none []]+ay []+ay []=2;rw [gT];unfold aF;rw [List.map_cons,kK]
 rfl
theorem CZ (a b:List aa):ay (a++b)=ay a+ay b:=by
 unfold ay gJ;rw [List.flatMap_append,List.map_append,List.sum_append]
theorem BS {α:Type} {l:List α} (h:l.length=1):l.take 1=l:=List.take_of_length_le (by omega)
theorem aM.thn {s:aa} (h:∀x∈s.pre,aM x):∀t∈s.thn,∀x∈t.pre,aM x:=fun t ht x hx=>h x (by
 rw [aa.pre_eq];exact List.mem_cons_of_mem _ (List.mem_append_left _ (List.mem_flatMap.2 ⟨t,ht,hx⟩)))
theorem aM.els {s:aa} (h:∀x∈s.pre,aM x):∀t∈s.els,∀x∈t.pre,aM x:=fun t ht x hx=>h x (by
 rw [aa.pre_eq];exact List.mem_cons_of_mem _ (List.mem_append_right _ (List.mem_flatMap.2 ⟨t,ht,hx⟩)))
theorem aM.own {s:aa} (h:∀x∈s.pre,aM x):aM s:=h s (by rw [aa.pre_eq];exact List.mem_cons_self ..)
theorem nN:∀(l:List aa),(∀s∈l,rZ s=xX (uh s)∨(20000<rZ s∧20000<xX (uh s)))→∀n:Int,0≤n→n≤20000→(dz l n=n+ay (aX l)∧n+ay (aX l)≤20000)∨(dz l n=20001∧20000<n+ay (aX l))
 | [],_,n,h0,h1=>by rw [dz,aX,gT];left;omega
 | s::l,h,n,h0,h1=>by
  rw [dz,aX,gH];have hs:=h s (List.mem_cons_self ..);by_cases hb:n+rZ s>20000
  ·rw [if_pos hb]
   right
   omega
  ·rw [if_neg hb]
   have e:rZ s=xX (uh s):=by
    rcases hs with e | ⟨h2,_⟩
    ·exact e
    ·omega
   rw [e] at hb ⊢;have:=nN l (fun t ht=>h t (List.mem_cons_of_mem _ ht)) (n+xX (uh s)) (by omega) (by omega);omega
theorem Ei {b x:Int} (hb:1≤b) (hx:0≤x):x≤b*x:=by
 have:=Int.mul_nonneg (show 0≤b - 1 by omega) hx;rw [Int.sub_mul,Int.one_mul] at this;omega
theorem JF {s:aa} (h:dY s=true) (hx:s.exprs.length=1):(xX (uh s):Int)=(s.bound.toNat:Int)*(1+(aF s.exprs:Int)+ay (aX s.thn))+(1+(aF s.exprs:Int))+2:=by
 rw [qH h];have h1:=xZ (fun k y=>(xX y:Int)=(k:Int)*(1+(aF s.exprs:Int)+ay (aX s.thn))+(1+(aF s.exprs:Int))+2) (fun last=>fT s.exprs (aX s.thn++[last])) (fun k y hy=>by
  have e:xX (fT s.exprs (aX s.thn++[y]))=1+aF s.exprs+(ay (aX s.thn)+xX y):=by
   show 1+aF (s.exprs.take 1)+ay (aX s.thn++[y])+ay []=_;rw [BS hx,CZ,gH,gT];omega
  rw [e];rw [Int.natCast_add k 1,Int.add_mul];omega) s.bound.toNat 0 (fT s.exprs [dh]) (by
  have e:xX (fT s.exprs [dh])=1+aF s.exprs+2:=by
   show 1+aF (s.exprs.take 1)+ay [dh]+ay []=_;rw [BS hx,gH,gT,zk]
  rw [e];simp)
 rw [Nat.zero_add] at h1;exact h1
theorem Cb (s:aa) (h:∀x∈s.pre,aM x):rZ s=xX (uh s)∨(20000<rZ s∧20000<xX (uh s)):=by
 induction s using aa.ind with
 | h k n es ex b ts th os el i1 i2 =>
  have a1:=nN th (fun s hs=>i1 s hs (aM.thn h s hs)) 0 (by decide) (by decide);have a2:=nN el (fun s hs=>i2 s hs (aM.els h s hs)) 0 (by decide) (by decide);rw [rZ];cases hl:dY (.mk k n es ex b ts th os el) with
  | true =>
   rw [if_pos rfl];obtain ⟨h1,h2,h3,h4⟩:=aM.own h (mG hl);have hh:=JF hl h3;change 1≤b at h1;have e:(((aa.mk k n es ex b ts th os el).bound.toNat:Nat):Int)=b:=Int.toNat_of_nonneg (by show 0≤b;omega);rw [e] at hh;change (xX (uh (.mk k n es ex b ts th os el)):Int)=b*(1+(aF ex:Int)+ay (aX th))+(1+(aF ex:Int))+2 at hh;rcases a1 with ⟨e1,_⟩ | ⟨e1,e2⟩
   ·left
    rw [hh,e1,Int.zero_add]
   ·right
    rw [e1];have m1:=Ei h1 (show 0≤1+(aF ex:Int)+20001 by omega);have m2:=Ei h1 (show 0≤1+(aF ex:Int)+ay (aX th) by omega);omega
  | false =>
   rw [if_neg (by decide),zP hl];have e:xX (.mk k n Sp.none ex b Sp.none (aX th) Sp.none (aX el))=1+aF ex+ay (aX th)+ay (aX el):=rfl;show _=((xX (.mk k n Sp.none ex b Sp.none (aX th) Sp.none (aX el)):Nat):Int)∨(_∧20000<xX (.mk k n Sp.none ex b Sp.none (aX th) Sp.none (aX el)));rw [e];omega
theorem zS {l:List aa} (h:∀x∈l.flatMap aa.pre,aM x):(dz l 0=ay (aX l)∧ay (aX l)≤20000)∨(dz l 0=20001∧20000<ay (aX l)):=by
 have:=nN l (fun s hs=>Cb s fun x hx=>h x (List.mem_flatMap.2 ⟨s,hs,hx⟩)) 0 (by decide) (by decide);omega
mutual
def Lv:aa→Nat
 | .mk _ _ _ _ _ _ th _ el=>1+max (mr th) (mr el)
def mr:List aa→Nat
 | []=>0
 | s::l=>max (Lv s) (mr l)
end
theorem uX:∀(a b:List aa),mr (a++b)=max (mr a) (mr b)
 | [],b=>by rw [List.nil_append,mr];omega
 | s::a,b=>by rw [List.cons_append,mr,mr,uX a b];omega
end
section
open Go Go.RowKit Go.Maps
theorem xz:ah dh=dh:=rfl
theorem fV {P:Program} {Q:Exit→Act→World→Prop} {a:Act} {w:World} {C C':Code} (h:C=C') (h2:C'.wp P Q a w):C.wp P Q a w:=by subst h;exact h2
theorem Gw {a:Act} (h:a.tmps.size=8) (hd:a.defers=[]):∃F:Nat→Value,(∀i:Nat,F i=a.eval (.tmp i))∧a=⟨(F 0::F 1::F 2::F 3::F 4::F 5::F 6::F 7::[]).toArray,[]⟩:=⟨fun i=>a.eval (.tmp i),fun _=>rfl,mf h hd⟩
theorem vH {p:aa} (h:ah p=dh):ay [p]≤20000:=by
 rw [←eH,List.map_cons,List.map_nil,h,gH,gT,zk]
 decide
theorem AL {s p:aa} (h:ah p=dh):dw [s] [p]=aY s:=by
 unfold aY;rw [Bool.eq_iff_iff,AB,pX,List.map_cons,List.map_nil,List.map_cons,List.map_nil,h,xz];simp
noncomputable def opsIP:Array Oper:=((Tryz.f27.body.bind (opsOf 1)).getD #[])
def Dk (t:Nat):Bool:=decide (t≤1)
theorem Ik:dR opsIP 6 8 Dk=true:=by kernel_rfl
set_option maxRecDepth 10000000 in
set_option maxHeartbeats 64000000 in
theorem JG {a0:Act} {w0:World} (hsz:a0.tmps.size=8) (b1:Nat) (s:aa) (f1:a0.tmps[1]?.getD undef=.pointer (some ⟨b1,0,none⟩)) (hbx:w0.heap[b1]? = some (.cells #[.int .u8 s.kind,.string s.name,.slice s.es.at_ s.exprs.length s.es.cap,.int .i64 s.bound,.slice s.ts.at_ s.thn.length s.ts.cap,.slice s.os.at_ s.els.length s.os.cap] 43 (0,0))) (hrd:nP w0 s) (hw:ay [s]≤20000) :
  (Code.region 1 opsIP true).wp Tryz.prog (fun e a w=>e=.normal∧a.tmps.size=8∧a.defers=a0.defers∧(∀t:Nat,Dk t=true→a.tmps[t]?.getD undef=a0.tmps[t]?.getD undef)∧a.tmps[2]?.getD undef=.bool (aY s)∧Below w0.heap.size w0 w) a0 w0:=by
 have hb1:b1<w0.heap.size:=(zgs hbx).1;obtain ⟨x0,x1,x2,x3,x4,x5⟩:=ag hbx;refine aP (n:=6) (sz:=8) (keep:=Dk) rfl Ik hsz (fun _ w=>Below w0.heap.size w0 w) (fun _ w w'=>Below w.heap.size w w') ((Below.refl _ _).drew) ?_;have e:opsIP.toList=opsIP.toList:=rfl
 conv at e=>rhs;arg 1;whnf
 simp only at e;rw [e];clear e
 apply ak.exact rfl rfl
 ·exact fun _ _ h=>h
 ·exact fun w=>Below.refl _ w
 ·rintro L a w ⟨-,hS,-,hsm,haft⟩
  have f1:a.tmps[1]?.getD undef=_:=(hsm 1 rfl).trans f1;have c0:=(hS.cell (p:=⟨b1,0,none⟩) hb1).trans (x0);have c1:=(hS.cell (p:=⟨b1,1,none⟩) hb1).trans (x1);have c2:=(hS.cell (p:=⟨b1,2,none⟩) hb1).trans (x2);have c3:=(hS.cell (p:=⟨b1,3,none⟩) hb1).trans (x3);have c4:=(hS.cell (p:=⟨b1,4,none⟩) hb1).trans (x4);have c5:=(hS.cell (p:=⟨b1,5,none⟩) hb1).trans (x5);simp [go_sem,f1,c0,c1,c2,c3,c4,c5];exact rfl
 refine ak.any (fun L v w=>∃b,v=.slice (some ⟨b,0,none⟩) 1 1∧RowOf w.heap.size w ⟨some ⟨b,0,none⟩,1⟩ 6 aa.cells [s]) rfl ?_ ?_ ?_
 ·exact fun _ _ _ _ _ _ hR hP=>hP.imp fun b h2=>⟨h2.1,(h2.2.below hR).more hR.size⟩
 ·rintro L a w ⟨hL,hS,hbeh,hsm,haft⟩
  have f3:a.tmps[3]?.getD undef=_:=aj (haft.1 rfl).2;have hb2:=zba w (.cells #[.int .u8 s.kind,.string s.name,.slice s.es.at_ s.exprs.length s.es.cap,.int .i64 s.bound,.slice s.ts.at_ s.thn.length s.ts.cap,.slice s.os.at_ s.els.length s.os.cap] 43);refine Oper.wp_value (v:=.slice (some ⟨w.heap.size,0,none⟩) 1 1) (w':=w.alloc (.cells #[.int .u8 s.kind,.string s.name,.slice s.es.at_ s.exprs.length s.es.cap,.int .i64 s.bound,.slice s.ts.at_ s.thn.length s.ts.cap,.slice s.os.at_ s.els.length s.os.cap] 43)) ?_ ?_
  ·simp [go_sem,f3]
  ·exact ⟨_,rfl,fun e=>(by cases e),⟨_,rfl,row_one (enc:=aa.cells) (x:=s) (zan w _)⟩,hS.trans (hb2.mono hS.size),hb2⟩
 refine ak.any (fun L v w=>∃p:aa,v=.agg #[.int .u8 p.kind,.string p.name,.slice p.es.at_ p.exprs.length p.es.cap,.int .i64 p.bound,.slice p.ts.at_ p.thn.length p.ts.cap,.slice p.os.at_ p.els.length p.os.cap]∧ah p=dh∧nP w p) rfl ?_ ?_ ?_
 ·exact fun _ _ _ _ _ _ hR hP=>hP.imp fun p h2=>⟨h2.1,h2.2.1,(h2.2.2.stays hR).more hR.size⟩
 ·rintro L a w ⟨hL,hS,hbeh,hsm,haft⟩
  refine Oper.wp_enter (f:=30) (args:=#[]) (w':=w) ?_ ?_
  ·simp [go_sem]
  ·refine (Bt w).mono ?_
   rintro o w' ⟨p,rfl,h1,h2,hb2⟩;exact ⟨_,rfl,_,rfl,fun e=>(by cases e),⟨p,rfl,h1,h2⟩,hS.trans (hb2.mono hS.size),hb2⟩
 refine ak.any (fun L v w=>∃b p,v=.slice (some ⟨b,0,none⟩) 1 1∧ah p=dh∧RowOf w.heap.size w ⟨some ⟨b,0,none⟩,1⟩ 6 aa.cells [p]∧nP w p) rfl ?_ ?_ ?_
 ·exact fun _ _ _ _ _ _ hR hP=>hP.imp fun b h=>h.imp fun p h2=>⟨h2.1,h2.2.1,(h2.2.2.1.below hR).more hR.size,(h2.2.2.2.stays hR).more hR.size⟩
 ·rintro L a w ⟨hL,hS,hbeh,hsm,haft⟩
  obtain ⟨p,x5,hp,hnp⟩:=(haft.1 rfl).2;have f5:a.tmps[5]?.getD undef=.agg #[.int .u8 p.kind,.string p.name,.slice p.es.at_ p.exprs.length p.es.cap,.int .i64 p.bound,.slice p.ts.at_ p.thn.length p.ts.cap,.slice p.os.at_ p.els.length p.os.cap]:=aj x5;have hb2:=zba w (.cells #[.int .u8 p.kind,.string p.name,.slice p.es.at_ p.exprs.length p.es.cap,.int .i64 p.bound,.slice p.ts.at_ p.thn.length p.ts.cap,.slice p.os.at_ p.els.length p.os.cap] 43);refine Oper.wp_value (v:=.slice (some ⟨w.heap.size,0,none⟩) 1 1) (w':=w.alloc (.cells #[.int .u8 p.kind,.string p.name,.slice p.es.at_ p.exprs.length p.es.cap,.int .i64 p.bound,.slice p.ts.at_ p.thn.length p.ts.cap,.slice p.os.at_ p.els.length p.os.cap] 43)) ?_ ?_
  ·simp [go_sem,f5]
  ·exact ⟨_,rfl,fun e=>(by cases e),⟨_,p,rfl,hp,row_one (enc:=aa.cells) (x:=p) (zan w _),(hnp.stays hb2).more hb2.size⟩,hS.trans (hb2.mono hS.size),hb2⟩
 refine ak.any (fun L v w=>v=.bool (aY s)) rfl ?_ ?_ ?_
 ·exact fun _ _ _ _ _ _ _ hP=>hP
 ·rintro L a w ⟨hL,hS,hbeh,hsm,haft⟩
  obtain ⟨b,x4,hr4⟩:=(haft.1 rfl).2;obtain ⟨b6,p,x6,hp,hr6,hnp⟩:=(haft.2.1 rfl).2;have f4:a.tmps[4]?.getD undef=.slice (some ⟨b,0,none⟩) 1 1:=aj x4;have f6:a.tmps[6]?.getD undef=.slice (some ⟨b6,0,none⟩) 1 1:=aj x6;have hst:nP w s:=(hrd.stays hS).more hS.size;have hone:∀x:aa,nP w x→∀t∈[x],nP w t:=fun x hx t ht=>by rw [List.mem_singleton.1 ht];exact hx
  have hCL:=xh w ⟨some ⟨b,0,none⟩,1⟩ ⟨some ⟨b6,0,none⟩,1⟩ [s] [p] ⟨hr4,hone s hst⟩ ⟨hr6,hone p hnp⟩ hw (vH hp);have heq:dw [s] [p]=aY s:=AL hp;rw [heq] at hCL;refine Oper.wp_enter (f:=38) (args:=#[.slice (some ⟨b,0,none⟩) 1 1,.slice (some ⟨b6,0,none⟩) 1 1]) (w':=w) ?_ ?_
  ·simp [go_sem,f4,f6]
  ·refine hCL.mono ?_
   rintro o w' ⟨rfl,hb2⟩;exact ⟨_,rfl,_,rfl,fun e=>(by cases e),rfl,hS.trans (hb2.mono hS.size),hb2⟩
 refine ak.any (fun L v w=>v=.bool (aY s)) rfl ?_ ?_ ?_
 ·exact fun _ _ _ _ _ _ _ hP=>hP
 ·rintro L a w ⟨hL,hS,hbeh,hsm,haft⟩
  have f7:a.tmps[7]?.getD undef=.bool (aY s):=aj (haft.1 rfl).2;refine Oper.wp_value (v:=.bool (aY s)) (w':=w) ?_ ?_
  ·simp [go_sem,f7]
  ·exact ⟨_,rfl,fun e=>(by cases e),rfl,hS,Below.refl _ _⟩
 rintro L a w hL ⟨hS,hsame,hv⟩;exact ⟨rfl,hsame.1.trans hsz,hsame.2.1,hsame.2.2,aj (hv 5),hS⟩
set_option maxRecDepth 1000000 in
set_option maxHeartbeats 4000000 in
theorem fK (w:World) (s:aa) (h:eu w.heap.size w s) (hw:ay [s]≤20000) :
  Calls Tryz.prog 27 #[.agg #[.int .u8 s.kind,.string s.name,.slice s.es.at_ s.exprs.length s.es.cap,.int .i64 s.bound,.slice s.ts.at_ s.thn.length s.ts.cap,.slice s.os.at_ s.els.length s.os.cap]] w fun o w'=>o=.returned (.bool (aY s))∧Below w.heap.size w w':=by
 have hb1:=zba w (.cells #[.int .u8 s.kind,.string s.name,.slice s.es.at_ s.exprs.length s.es.cap,.int .i64 s.bound,.slice s.ts.at_ s.thn.length s.ts.cap,.slice s.os.at_ s.els.length s.os.cap] 43);have hB:=zan w (.cells #[.int .u8 s.kind,.string s.name,.slice s.es.at_ s.exprs.length s.es.cap,.int .i64 s.bound,.slice s.ts.at_ s.thn.length s.ts.cap,.slice s.os.at_ s.els.length s.os.cap] 43);have hrd:nP (w.alloc (.cells #[.int .u8 s.kind,.string s.name,.slice s.es.at_ s.exprs.length s.es.cap,.int .i64 s.bound,.slice s.ts.at_ s.thn.length s.ts.cap,.slice s.os.at_ s.els.length s.os.cap] 43)) s:=(h.stays hb1).more hb1.size;have HW:=zhd hw;have HB:=zhd hB;have HRD:=zhd hrd;have HB1:=zhd hb1;clear h hw hB hrd hb1;go_enter Tryz.func27,Tryz.ntmps27
 go_wp2_with fail
 refine Code.wp_mono ?_ (fV (C':=.region 1 opsIP true) (by kernel_rfl) (JG rfl w.heap.size s rfl HB.out HRD.out HW.out));rintro e a9 w2 ⟨rfl,hsz9,hd9,hsm9,h2,hb2⟩;obtain ⟨F,hF,rfl⟩:=Gw hsz9 hd9;have g2:F 2=.bool (aY s):=(hF 2).trans (au h2);rw [g2];clear hF g2 hsz9 hd9 hsm9 h2;go_wp2_with fail
 go_ret
 exact ⟨rfl,HB1.out.trans (hb2.mono HB1.out.size)⟩
set_option maxRecDepth 1000000 in
set_option maxHeartbeats 4000000 in
theorem qg (w:World) (s:aa) (h:eu w.heap.size w s) (hw:ay [s]≤20000) :
  Calls Tryz.prog 106 #[.agg #[.int .u8 s.kind,.string s.name,.slice s.es.at_ s.exprs.length s.es.cap,.int .i64 s.bound,.slice s.ts.at_ s.thn.length s.ts.cap,.slice s.os.at_ s.els.length s.os.cap]] w fun o w'=>o=.returned (.bool (dY s))∧Below w.heap.size w w':=by
 have hb1:=zba w (.cells #[.int .u8 s.kind,.string s.name,.slice s.es.at_ s.exprs.length s.es.cap,.int .i64 s.bound,.slice s.ts.at_ s.thn.length s.ts.cap,.slice s.os.at_ s.els.length s.os.cap] 43);have HP:=zhd (fK (w.alloc (.cells #[.int .u8 s.kind,.string s.name,.slice s.es.at_ s.exprs.length s.es.cap,.int .i64 s.bound,.slice s.ts.at_ s.thn.length s.ts.cap,.slice s.os.at_ s.els.length s.os.cap] 43)) s ((h.stays hb1).more hb1.size) hw);have HB1:=zhd hb1;clear h hw hb1;by_cases hk:s.kind=7
 ·have hd:(s.kind == 7)=true:=by simp [hk]
  have e:dY s=!aY s:=by unfold dY;rw [decide_eq_true hk,Bool.true_and]
  rw [e];clear hk e;go_enter Tryz.func106,Tryz.ntmps106
  go_wp2_with fail
  refine HP.out.mono ?_;rintro o w2 ⟨rfl,hb2⟩;go_wp2_with fail
  go_ret
  exact ⟨rfl,HB1.out.trans (hb2.mono HB1.out.size)⟩
 ·have hd:(s.kind == 7)=false:=by simp [hk]
  rw [Dt hk];clear hk;go_enter Tryz.func106,Tryz.ntmps106
  go_wp2_with fail
  go_ret
  exact ⟨rfl,HB1.out⟩
end
end Go.Proofs.YtepacjkacjabbaaGreatDoor
