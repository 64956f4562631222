import Derived.Test.YtepacjkacjabbaaGreatDoorPAA
import Derived.Test.YtepacjkacjabbaaGreatDoorPBD
import Derived.Test.YtepacjkacjabbaaGreatDoorPBC
import Derived.Test.YtepacjkacjabbaaGreatDoorPAI
import Derived.Test.YtepacjkacjabbaaGreatDoorPBA
import Derived.Test.YtepacjkacjabbaaGreatDoorPAX
namespace Go.Proofs.YtepacjkacjabbaaGreatDoor
section
open Go Go.RowKit Go.Maps
def uI (n0:Nat) (W0:World) (sp:Sp) (l:List aa):Prop:=∀W,Below n0 W0 W→n0≤W.heap.size →
 Calls Tryz.prog 101 #[.slice sp.at_ l.length sp.cap] W fun o w'=>∃(A:Option Addr) (c:Nat) (l':List aa),o=.returned (.slice A l'.length c)∧l'.map ah=(aX l).map ah∧aI W.heap.size w' 43 6 aa.cells (.slice A l'.length c) l'∧(∀s,s∈l'→dH W.heap.size (Value.slice A l'.length c).ownBlock w' s)∧Below W.heap.size W w'
theorem rU {l' l:List aa} (h:l'.map ah=(aX l).map ah):l'.length=l.length:=by
 have:=congrArg List.length h
 rwa [List.length_map,List.length_map,lN,List.length_map] at this
def uD (lo:Nat) (g:Option Nat) (W:World) (sp:Sp) (l:List aa):Prop:=RowOf W.heap.size (dK lo (gK g W)) sp 6 aa.cells l∧∀s,s∈l→dH lo g W s
theorem uD.below {lo:Nat} {g:Option Nat} {W W':World} {sp:Sp} {l:List aa} (h:uD lo g W sp l) (hb:Below W.heap.size W W'):uD lo g W' sp l :=
 ⟨(h.1.cells fun _ _ hp hc=>dZ.2 ⟨(dZ.1 hc).1,(dZ.1 hc).2.1,(hb.cell hp).trans (dZ.1 hc).2.2⟩).more hb.size,fun s hs=>(h.2 s hs).below hb⟩
def Kt (n0:Nat) (W0:World) (s:aa):Prop:=∀(g:Option Nat) (ts:Sp) (th:List aa) (lo:Nat) (W:World),Below n0 W0 W→n0≤W.heap.size→lo≤W.heap.size→(∀b,g=some b→b<W.heap.size)→uD lo g W ts th →
 Calls Tryz.prog 160 #[.agg #[.int .u8 s.kind,.string s.name,.slice s.es.at_ s.exprs.length s.es.cap,.int .i64 s.bound,.slice s.ts.at_ s.thn.length s.ts.cap,.slice s.os.at_ s.els.length s.os.cap],.slice ts.at_ th.length ts.cap] W fun o w'=>∃y:aa,o=.returned (.agg #[.int .u8 y.kind,.string y.name,.slice y.es.at_ y.exprs.length y.es.cap,.int .i64 y.bound,.slice y.ts.at_ y.thn.length y.ts.cap,.slice y.os.at_ y.els.length y.os.cap])∧ah y=ah (fT s.exprs th)∧dH lo g w' y∧Below W.heap.size W w'
theorem wE (a b:Int) (s:ByteArray) (x y z:Value):(Tryz.prog.info? 43).map (·.size)=some (#[Value.int .u8 a,.string s,x,.int .i64 b,y,z]:Array Value).size:=by kernel_rfl
theorem JK (lo:Nat) (W:World) (x wd:Int) (hx:0≤x∧x≤4294967295) (hw:(Lit.int .i64 wd).wf=true):gM lo W (dB x wd) :=
 .mk _ (show (0:Int)≤1∧(1:Int)≤255 by decide) (show (0:Int)≤0∧(0:Int)≤255 by decide) hx hw (show (0:Nat)≤maxLen by decide) RowOf.nil (fun _ h=>absurd h (by simp [dB,ae.subs]))
theorem FC (w:World):Calls Tryz.prog 30 #[] w fun o w'=>∃s:aa,o=.returned (.agg #[.int .u8 s.kind,.string s.name,.slice s.es.at_ s.exprs.length s.es.cap,.int .i64 s.bound,.slice s.ts.at_ s.thn.length s.ts.cap,.slice s.os.at_ s.els.length s.os.cap])∧ah s=dh∧iE w.heap.size w' s∧Below w.heap.size w w':=by
 go_enter Tryz.func30,Tryz.ntmps30
 go_wp2_with fail
 obtain ⟨h1,h2,h3,h4⟩:=gY w (.cells #[.int .u8 7,.string ⟨#[]⟩,.slice (some ⟨w.heap.size+1,0,none⟩) 1 1,.int .i64 1,.slice none 0 0,.slice none 0 0] 43) (.cells #[.int .u8 1,.int .u8 0,.int .u32 1,.int .i64 1,.string ⟨#[]⟩,.slice none 0 0] 30);refine bodyPost_ret (results_cell_row rfl _ _ w.heap.size 43 _ (0,0) _ rfl h1 Tryz.underlying43 rfl (by kernel_rfl)) rfl ⟨.mk 7 ⟨#[]⟩ ⟨some ⟨w.heap.size+1,0,none⟩,1⟩ [dB 1 1] 1 Sp.none [] Sp.none [],rfl,rfl,?_,h4⟩;exact yj ((row_one (enc:=ae.cells) (x:=dB 1 1) h2).low (Nat.le_succ _)) (fun e he=>by rw [List.mem_singleton.1 he];exact JK _ _ 1 1 (by decide) (by decide)) yl yl ⟨by decide,by decide⟩ (show (Lit.int .i64 1).wf=true by decide) (show (0:Nat)≤maxLen by decide)
theorem yA {α:Type} {n k b:Nat} {W:World} {sp:Sp} {enc:α→List Value} {l:List α} (h:RowOf n W sp k enc l) (hne:∀off,0<l.length→sp.at_≠some ⟨b,off,none⟩):RowOf n (gK (some b) W) sp k enc l :=
 ⟨h.cap,h.big,h.few,fun h0=>by
  obtain ⟨b',off,e,hlt,hx⟩:=h.row h0;have hb:b'≠b:=fun e2=>hne off h0 (by rw [e,e2])
  exact ⟨b',off,e,hlt,fun j hj r u hu=>lD.2 ⟨fun e2=>hb (Option.some.inj e2).symm,hx j hj r u hu⟩⟩⟩
def tL (W:World) (b:Nat):Prop:=W.heap[b]? = some (.cells #[.int .u8 0,.string ⟨#[]⟩,.slice none 0 0,.int .i64 0,.slice none 0 0,.slice none 0 0] 43 (0,0))
theorem Bp {W:World} {b off:Nat} {u:Value} (hz:tL W b) (h:W.cell? ⟨b,off+0*6+5,none⟩=some u):off=0:=by
 have hh:W.heap[b]? = _:=hz;simp only [World.cell?,hh] at h;have:=(zgs h).1;simp at this;omega
theorem sJ {n b:Nat} {W:World} {sp:Sp} {l:List ae} (hz:tL W b) (h:RowOf n W sp 6 ae.cells l):RowOf n (gK (some b) W) sp 6 ae.cells l :=
 yA h fun off h0 e=>by
  obtain ⟨b',off',e',_,hx⟩:=h.row h0;rw [e] at e';cases e'
  obtain rfl:=Bp hz (hx 0 h0 5 _ rfl);have h1:=hx 0 h0 1 _ rfl;have hh:W.heap[b]? = _:=hz;simp [World.cell?,hh] at h1
theorem tC {n b:Nat} {W:World} {sp:Sp} {l:List aa} (hz:tL W b) (h:RowOf n W sp 6 aa.cells l) (hk:∀s,s∈l→s.kind≠0):RowOf n (gK (some b) W) sp 6 aa.cells l :=
 yA h fun off h0 e=>by
  obtain ⟨b',off',e',_,hx⟩:=h.row h0;rw [e] at e';cases e'
  obtain rfl:=Bp hz (hx 0 h0 5 _ rfl);have h1:=hx 0 h0 0 _ rfl;have hh:W.heap[b]? = _:=hz;simp [World.cell?,hh] at h1;exact hk _ (List.getElem_mem h0) h1.symm
theorem iw.avoid {n b:Nat} {W:World} {e:ae} (hz:tL W b) (h:iw n W e):iw n (gK (some b) W) e:=by
 induction h with
 | mk e k o v w nm row _ ih=>exact .mk e k o v w nm (sJ hz row) ih
theorem eu.avoid {n b:Nat} {W:World} {s:aa} (hz:tL W b) (h:eu n W s):(∀t,t∈s.thn++s.els→∀x∈t.pre,x.kind≠0)→eu n (gK (some b) W) s:=by
 induction h with
 | mk s k b' nm er ex tr th orow el ih1 ih2 =>
  intro hk;have own:∀t,t∈s.thn++s.els→t.kind≠0:=fun t ht=>hk t ht t (by rw [aa.pre_eq];exact List.mem_cons_self ..)
  have sub:∀t,t∈s.thn++s.els→∀u,u∈t.thn++t.els→∀x∈u.pre,x.kind≠0:=fun t ht u hu x hx=>hk t ht x (by
   rw [aa.pre_eq];refine List.mem_cons_of_mem _ ?_;rcases List.mem_append.1 hu with h1 | h1
   ·exact List.mem_append_left _ (List.mem_flatMap.2 ⟨u,h1,hx⟩)
   ·exact List.mem_append_right _ (List.mem_flatMap.2 ⟨u,h1,hx⟩))
  exact .mk s k b' nm (sJ hz er) (fun e he=>(ex e he).avoid hz) (tC hz tr fun t ht=>own t (List.mem_append_left _ ht)) (fun t ht=>ih1 t ht (sub t (List.mem_append_left _ ht))) (tC hz orow fun t ht=>own t (List.mem_append_right _ ht)) (fun t ht=>ih2 t ht (sub t (List.mem_append_right _ ht)))
theorem DZ {y:aa} {ex:List ae} (h:ah y=ah (fT ex [dh])):∀t,t∈y.thn++y.els→∀x∈t.pre,x.kind≠0:=by
 rw [dI] at h;have h1:(ah y).thn=[ah dh]:=by rw [h];rfl
 have h2:(ah y).els=[]:=by rw [h];rfl
 rw [iV] at h1;rw [kz] at h2;have e2:y.els=[]:=List.map_eq_nil_iff.1 h2;intro t ht x hx;rw [e2,List.append_nil] at ht;have hb:ah t∈y.thn.map ah:=List.mem_map_of_mem ht;rw [h1,List.mem_singleton] at hb;have hx2:ah x∈(ah t).pre:=by rw [xy];exact List.mem_map_of_mem hx
 rw [hb] at hx2;have hp:(ah dh).pre=[dh]:=by rw [aa.pre_eq];kernel_rfl
 rw [hp,List.mem_singleton] at hx2;have:(ah x).kind=7:=by rw [hx2];rfl
 rw [gD] at this;omega
def QT (lo:Nat) (th:List aa) (v:Value) (w:World):Prop:=∃(A:Option Addr) (c:Nat) (l':List aa),v=.slice A l'.length c∧l'.map ah=(aX th).map ah∧bQ lo w ⟨A,c⟩ l'
theorem QT.on {lo bx:Nat} {th:List aa} {v:Value} {w w':World} (h:QT lo th v w) (hm:Mk bx w w') (hs:bx<lo):QT lo th v w':=by
 obtain ⟨A,c,l',h1,h2,h3⟩:=h;exact ⟨A,c,l',h1,h2,h3.on hm hs⟩
def D7 (bx:Nat) (w:World) (x:aa) (v4 v5:Value):Prop:=w.heap[bx]? = some (.cells #[.int .u8 x.kind,.string x.name,.slice x.es.at_ x.exprs.length x.es.cap,.int .i64 x.bound,v4,v5] 43 (0,0))
theorem D7.lt {bx:Nat} {w:World} {x:aa} {v4 v5:Value} (h:D7 bx w x v4 v5):bx<w.heap.size:=(zgs h).1
theorem D7.free {bx:Nat} {w:World} {x:aa} {v4 v5:Value} (h:D7 bx w x v4 v5) (i:Nat):w.frozen? ⟨bx,i,none⟩=false:=by
 have:w.heap[bx]? = _:=h;simp [World.frozen?,this]
theorem D7.set4 {bx:Nat} {w:World} {x:aa} {v4 v5 v:Value} (h:D7 bx w x v4 v5):D7 bx (w.setCell ⟨bx,4,none⟩ v) x v v5:=by
 have hh:w.heap[bx]? = _:=h;unfold D7;simp [World.setCell,Array.getElem?_modify,hh]
theorem D7.set5 {bx:Nat} {w:World} {x:aa} {v4 v5 v:Value} (h:D7 bx w x v4 v5):D7 bx (w.setCell ⟨bx,5,none⟩ v) x v4 v:=by
 have hh:w.heap[bx]? = _:=h;unfold D7;simp [World.setCell,Array.getElem?_modify,hh]
noncomputable def opsU8:Array Oper:=((Tryz.f101.body.bind (opsOf 8)).getD #[])
def Dm (t:Nat):Bool:=decide (t≤30) || decide (39≤t)
theorem Ir:dR opsU8 10 68 Dm=true:=by kernel_rfl
def zV (bx lo:Nat) (s x:aa) (w0:World) (L:Nat→Bool) (w:World):Prop:=Mk bx w0 w∧∃v4 v5,D7 bx w x v4 v5∧(L 7=true→QT lo s.thn v4 w)∧(L 9=true→QT lo s.els v5 w)
theorem zV.flag {bx lo k:Nat} {s x:aa} {w0:World} {L:Nat→Bool} {w:World} (hk:k≠7∧k≠9) (h:zV bx lo s x w0 L w):zV bx lo s x w0 (jr L k) w:=by
 unfold zV at h ⊢;rw [ai (Ne.symm hk.1),ai (Ne.symm hk.2)];exact h
theorem zV.on {bx lo:Nat} {s x:aa} {w0:World} {L:Nat→Bool} {w w':World} (hs:bx<lo) (h:zV bx lo s x w0 L w) (hb:Below w.heap.size w w'):zV bx lo s x w0 L w':=by
 obtain ⟨hm,v4,v5,hx,y0,y1⟩:=h;have hm2:=Mk.of hb hx.lt;exact ⟨hm.trans hm2,v4,v5,(hb.block _ hx.lt).trans hx,fun e=>(y0 e).on hm2 hs,fun e=>(y1 e).on hm2 hs⟩
set_option maxRecDepth 10000000 in
set_option maxHeartbeats 64000000 in
theorem LH {a0:Act} {w0:World} (hsz:a0.tmps.size=68) (bs bx lo n0:Nat) (W0:World) (s x:aa) (v4 v5:Value) (hlo:bx<lo) (hlw:lo≤w0.heap.size) (hn0:n0≤bx) (hne:bs≠bx)
  (f6:a0.tmps[6]?.getD undef=.pointer (some ⟨bs,0,none⟩)) (f7:a0.tmps[7]?.getD undef=.pointer (some ⟨bx,0,none⟩))
  (hbs:w0.heap[bs]? = some (.cells #[.int .u8 s.kind,.string s.name,.slice s.es.at_ s.exprs.length s.es.cap,.int .i64 s.bound,.slice s.ts.at_ s.thn.length s.ts.cap,.slice s.os.at_ s.els.length s.os.cap] 43 (0,0))) (hbx:D7 bx w0 x v4 v5) (hlow:Below n0 W0 w0) (hl1:s.thn.length≤1000000) (hl2:s.els.length≤1000000) (ih1:uI n0 W0 s.ts s.thn) (ih2:uI n0 W0 s.os s.els) :
  (Code.region 8 opsU8 true).wp Tryz.prog (fun e a w=>e=.normal∧a.tmps.size=68∧a.defers=a0.defers∧(∀t:Nat,Dm t=true→a.tmps[t]?.getD undef=a0.tmps[t]?.getD undef)∧zV bx lo s x w0 (fun _=>true) w) a0 w0:=by
 have hbl:bs<w0.heap.size:=(zgs hbs).1;refine aP (n:=10) (sz:=68) (keep:=Dm) rfl Ir hsz (zV bx lo s x w0) (fun _ w w'=>Mk bx w w') (⟨(Below.refl _ _).drew,v4,v5,hbx,fun e=>(by cases e),fun e=>(by cases e)⟩) ?_;have e:opsU8.toList=opsU8.toList:=rfl
 conv at e=>rhs;arg 1;whnf
 simp only at e;rw [e];clear e
 apply ak.exact rfl rfl
 ·exact fun _ _ h=>zV.flag (by decide) h
 ·exact fun w=>Mk.refl
 ·rintro L a w ⟨-,hS,hbeh,hsm,haft⟩
  have f6:a.tmps[6]?.getD undef=_:=(hsm 6 rfl).trans f6;simp [go_sem,f6];exact rfl
 apply ak.exact rfl rfl
 ·exact fun _ _ h=>zV.flag (by decide) h
 ·exact fun w=>Mk.refl
 ·rintro L a w ⟨-,hS,hbeh,hsm,haft⟩
  have f31:a.tmps[31]?.getD undef=_:=aj (haft.1 rfl).2;have hc:w.cell? ⟨bs,4,none⟩=some (.slice s.ts.at_ s.thn.length s.ts.cap):=(hS.1.cell (a:=⟨bs,4,none⟩) hne hbl).trans (by simp [World.cell?,hbs]);simp [go_sem,f31,hc];exact rfl
 refine ak.any (fun L v w=>QT lo s.thn v w) rfl ?_ ?_ ?_
 ·exact fun _ _ _ _ _ _ hm h=>h.on hm hlo
 ·rintro L a w ⟨hL,hS,hbeh,hsm,haft⟩
  have f32:a.tmps[32]?.getD undef=_:=aj (haft.1 rfl).2;have hS2:=hS;obtain ⟨hm,v4,v5,hx,y0,y1⟩:=hS;refine Oper.wp_enter (f:=101) (args:=#[.slice s.ts.at_ s.thn.length s.ts.cap]) (w':=w) ?_ ?_
  ·simp [go_sem,f32]
  ·refine (ih1 w (hlow.trans (hm.below hn0 (by omega))) (by have:=hm.size;omega)).mono ?_
   rintro o w' ⟨A,c,l',rfl,hb,hown,hnew,hbel⟩;have hlen:=rU hb;exact ⟨_,rfl,_,rfl,fun e=>(by cases e),⟨A,c,l',rfl,hb,(lG hown (fun s hs=>(hnew s hs).newT) (by omega)).less (by have:=hm.size;omega)⟩,zV.flag (by decide) (hS2.on hlo hbel),Mk.of hbel hx.lt⟩
 apply ak.exact rfl rfl
 ·exact fun _ _ h=>zV.flag (by decide) h
 ·exact fun w=>Mk.refl
 ·rintro L a w ⟨-,hS,hbeh,hsm,haft⟩
  have f6:a.tmps[6]?.getD undef=_:=(hsm 6 rfl).trans f6;simp [go_sem,f6];exact rfl
 apply ak.exact rfl rfl
 ·exact fun _ _ h=>zV.flag (by decide) h
 ·exact fun w=>Mk.refl
 ·rintro L a w ⟨-,hS,hbeh,hsm,haft⟩
  have f34:a.tmps[34]?.getD undef=_:=aj (haft.1 rfl).2;have hc:w.cell? ⟨bs,5,none⟩=some (.slice s.os.at_ s.els.length s.os.cap):=(hS.1.cell (a:=⟨bs,5,none⟩) hne hbl).trans (by simp [World.cell?,hbs]);simp [go_sem,f34,hc];exact rfl
 refine ak.any (fun L v w=>QT lo s.els v w) rfl ?_ ?_ ?_
 ·exact fun _ _ _ _ _ _ hm h=>h.on hm hlo
 ·rintro L a w ⟨hL,hS,hbeh,hsm,haft⟩
  have f35:a.tmps[35]?.getD undef=_:=aj (haft.1 rfl).2;have hS2:=hS;obtain ⟨hm,v4,v5,hx,y0,y1⟩:=hS;refine Oper.wp_enter (f:=101) (args:=#[.slice s.os.at_ s.els.length s.os.cap]) (w':=w) ?_ ?_
  ·simp [go_sem,f35]
  ·refine (ih2 w (hlow.trans (hm.below hn0 (by omega))) (by have:=hm.size;omega)).mono ?_
   rintro o w' ⟨A,c,l',rfl,hb,hown,hnew,hbel⟩;have hlen:=rU hb;exact ⟨_,rfl,_,rfl,fun e=>(by cases e),⟨A,c,l',rfl,hb,(lG hown (fun s hs=>(hnew s hs).newT) (by omega)).less (by have:=hm.size;omega)⟩,zV.flag (by decide) (hS2.on hlo hbel),Mk.of hbel hx.lt⟩
 apply ak.exact rfl rfl
 ·exact fun _ _ h=>zV.flag (by decide) h
 ·exact fun w=>Mk.refl
 ·rintro L a w ⟨-,hS,hbeh,hsm,haft⟩
  have f7:a.tmps[7]?.getD undef=_:=(hsm 7 rfl).trans f7;simp [go_sem,f7];exact rfl
 refine ak.any (fun L v w=>True) rfl ?_ ?_ ?_
 ·exact fun _ _ _ _ _ _ _ h=>h
 ·rintro L a w ⟨hL,hS,hbeh,hsm,haft⟩
  have f37:a.tmps[37]?.getD undef=_:=aj (haft.1 rfl).2;obtain ⟨v,hv⟩:∃v,a.eval (.tmp 33)=v:=⟨_,rfl⟩;have hq:QT lo s.thn (a.eval (.tmp 33)) w:=(haft.2.1 rfl).2;rw [hv] at hq;obtain ⟨hm,v4,v5,hx,y0,y1⟩:=hS;have hm2:=Mk.set hx.lt 4 v;have hc:w.cell? ⟨bx,4,none⟩=some v4:=by have hh:w.heap[bx]? = _:=hx;simp [World.cell?,hh]
  have hfr:=hx.free 4;obtain ⟨A,c,l',rfl,hq1,hq2⟩:=hq;refine Oper.wp_skip (w':=w.setCell ⟨bx,4,none⟩ (.slice A l'.length c)) ?_ ?_
  ·simp [go_sem,f37,aj hv,hc,hfr]
  ·exact ⟨undef,rfl,fun _=>rfl,trivial,⟨hm.trans hm2,_,v5,hx.set4,(by rw [aC];exact fun _=>⟨A,c,l',rfl,hq1,hq2.on hm2 hlo⟩),(by rw [ai (by decide)];exact fun e=>(y1 e).on hm2 hlo)⟩,hm2⟩
 apply ak.exact rfl rfl
 ·exact fun _ _ h=>zV.flag (by decide) h
 ·exact fun w=>Mk.refl
 ·rintro L a w ⟨-,hS,hbeh,hsm,haft⟩
  have f7:a.tmps[7]?.getD undef=_:=(hsm 7 rfl).trans f7;simp [go_sem,f7];exact rfl
 refine ak.any (fun L v w=>True) rfl ?_ ?_ ?_
 ·exact fun _ _ _ _ _ _ _ h=>h
 ·rintro L a w ⟨hL,hS,hbeh,hsm,haft⟩
  have f38:a.tmps[38]?.getD undef=_:=aj (haft.1 rfl).2;obtain ⟨v,hv⟩:∃v,a.eval (.tmp 36)=v:=⟨_,rfl⟩;have hq:QT lo s.els (a.eval (.tmp 36)) w:=(haft.2.1 rfl).2;rw [hv] at hq;obtain ⟨hm,v4,v5,hx,y0,y1⟩:=hS;have hm2:=Mk.set hx.lt 5 v;have hc:w.cell? ⟨bx,5,none⟩=some v5:=by have hh:w.heap[bx]? = _:=hx;simp [World.cell?,hh]
  have hfr:=hx.free 5;obtain ⟨A,c,l',rfl,hq1,hq2⟩:=hq;refine Oper.wp_skip (w':=w.setCell ⟨bx,5,none⟩ (.slice A l'.length c)) ?_ ?_
  ·simp [go_sem,f38,aj hv,hc,hfr]
  ·exact ⟨undef,rfl,fun _=>rfl,trivial,⟨hm.trans hm2,v4,_,hx.set5,(by rw [ai (by decide)];exact fun e=>(y0 e).on hm2 hlo),(by rw [aC];exact fun _=>⟨A,c,l',rfl,hq1,hq2.on hm2 hlo⟩)⟩,hm2⟩
 rintro L a w hL ⟨hS,hsame,hv⟩;exact ⟨rfl,hsame.1.trans hsz,hsame.2.1,hsame.2.2,by have e7:=hL 7 (by decide);have e9:=hL 9 (by decide);unfold zV at hS ⊢;rw [e7,e9] at hS;exact hS⟩
noncomputable def opsU10:Array Oper:=((Tryz.f101.body.bind (opsOf 10)).getD #[])
def zx (t:Nat):Bool:=decide (t≤7) || (decide (9≤t) && decide (t≤42)) || decide (48≤t)
theorem Fz:dR opsU10 7 68 zx=true:=by kernel_rfl
def Aa (lo:Nat) (s:aa) (f:Bool) (v:Value) (w:World):Prop:=∃b,v=.pointer (some ⟨b,0,none⟩)∧lo≤b∧b<w.heap.size∧(f=false→w.heap[b]? = some (.cells #[.int .u8 0,.string ⟨#[]⟩,.slice none 0 0,.int .i64 0,.slice none 0 0,.slice none 0 0] 43 (0,0)))∧(f=true→∃y:aa,w.heap[b]? = some (.cells #[.int .u8 y.kind,.string y.name,.slice y.es.at_ y.exprs.length y.es.cap,.int .i64 y.bound,.slice y.ts.at_ y.thn.length y.ts.cap,.slice y.os.at_ y.els.length y.os.cap] 43 (0,0))∧ah y=ah (fT s.exprs [dh])∧dH lo (some b) w y)
theorem Aa.on {lo:Nat} {s:aa} {f:Bool} {v:Value} {w w':World} (h:Aa lo s f v w) (hb:Below w.heap.size w w'):Aa lo s f v w':=by
 obtain ⟨b,h1,h2,h3,h4,h5⟩:=h;refine ⟨b,h1,h2,Nat.lt_of_lt_of_le h3 hb.size,fun e=>(hb.block b h3).trans (h4 e),fun e=>?_⟩;obtain ⟨y,y1,y2,y3⟩:=h5 e;exact ⟨y,(hb.block b h3).trans y1,y2,y3.below hb⟩
def l9 (lo:Nat) (s:aa) (i:Nat) (L:Nat→Bool) (a:Act) (w w':World):Prop:=if i=6 then L 4=true∧Aa lo s true (a.eval (.tmp 8)) w' else Below w.heap.size w w'
theorem l9.six {lo:Nat} {s:aa} {i:Nat} {L:Nat→Bool} {a:Act} {w w':World} (h:l9 lo s i L a w w') (hi:i=6):L 4=true∧Aa lo s true (a.eval (.tmp 8)) w':=by unfold l9 at h;rwa [if_pos hi] at h
theorem l9.other {lo:Nat} {s:aa} {i:Nat} {L:Nat→Bool} {a:Act} {w w':World} (h:l9 lo s i L a w w') (hi:i≠6):Below w.heap.size w w':=by unfold l9 at h;rwa [if_neg hi] at h
theorem l9.of {lo:Nat} {s:aa} {i:Nat} {L:Nat→Bool} {a:Act} {w w':World} (hi:i≠6) (h:Below w.heap.size w w'):l9 lo s i L a w w':=by unfold l9;rwa [if_neg hi]
set_option maxRecDepth 10000000 in
set_option maxHeartbeats 64000000 in
theorem Lf {a0:Act} {w0:World} (hsz:a0.tmps.size=68) (bs n0:Nat) (W0:World) (s:aa)
  (f4:a0.tmps[4]?.getD undef=.func (.func 160) #[] #[]) (f6:a0.tmps[6]?.getD undef=.pointer (some ⟨bs,0,none⟩))
  (hbs:w0.heap[bs]? = some (.cells #[.int .u8 s.kind,.string s.name,.slice s.es.at_ s.exprs.length s.es.cap,.int .i64 s.bound,.slice s.ts.at_ s.thn.length s.ts.cap,.slice s.os.at_ s.els.length s.os.cap] 43 (0,0))) (hlow:Below n0 W0 w0) (hn0:n0≤w0.heap.size) (hwh:Kt n0 W0 s) :
  (Code.region 10 opsU10 true).wp Tryz.prog (fun e a w=>e=.normal∧a.tmps.size=68∧a.defers=a0.defers∧(∀t:Nat,zx t=true→a.tmps[t]?.getD undef=a0.tmps[t]?.getD undef)∧Aa w0.heap.size s true (a.tmps[8]?.getD undef) w∧Below w0.heap.size w0 w) a0 w0:=by
 have hbl:bs<w0.heap.size:=(zgs hbs).1;obtain ⟨x0,x1,x2,x3,x4,x5⟩:=ag hbs;refine kR (n:=7) (sz:=68) (keep:=zx) rfl Fz hsz (fun _ w=>Below w0.heap.size w0 w) (l9 w0.heap.size s) ((Below.refl _ _).drew) ?_;have e:opsU10.toList=opsU10.toList:=rfl
 conv at e=>rhs;arg 1;whnf
 simp only at e;rw [e];clear e
 apply aV.exact rfl rfl
 ·exact fun _ _ h=>h
 ·exact fun _ _ w=>l9.of (by decide) (Below.refl _ w)
 ·rintro L a w ⟨-,hS,hbeh,hsm,haft⟩
  have f4:a.tmps[4]?.getD undef=_:=(hsm 4 rfl).trans f4;simp [go_sem,f4];exact rfl
 apply aV.exact rfl rfl
 ·exact fun _ _ h=>h
 ·exact fun _ _ w=>l9.of (by decide) (Below.refl _ w)
 ·rintro L a w ⟨-,hS,hbeh,hsm,haft⟩
  have f6:a.tmps[6]?.getD undef=_:=(hsm 6 rfl).trans f6;have c0:=(hS.cell (p:=⟨bs,0,none⟩) hbl).trans (x0);have c1:=(hS.cell (p:=⟨bs,1,none⟩) hbl).trans (x1);have c2:=(hS.cell (p:=⟨bs,2,none⟩) hbl).trans (x2);have c3:=(hS.cell (p:=⟨bs,3,none⟩) hbl).trans (x3);have c4:=(hS.cell (p:=⟨bs,4,none⟩) hbl).trans (x4);have c5:=(hS.cell (p:=⟨bs,5,none⟩) hbl).trans (x5);simp [go_sem,f6,c0,c1,c2,c3,c4,c5];exact rfl
 refine aV.any (fun L v w=>L 4=true∨∃p:aa,v=.agg #[.int .u8 p.kind,.string p.name,.slice p.es.at_ p.exprs.length p.es.cap,.int .i64 p.bound,.slice p.ts.at_ p.thn.length p.ts.cap,.slice p.os.at_ p.els.length p.os.cap]∧ah p=dh∧iE w0.heap.size w p) rfl ?_ ?_ ?_
 ·intro i L a w w' hne hk hR hP
  by_cases hi:i=6
  ·exact .inl (by rw [ai (by omega)];exact (hR.six hi).1)
  rcases hP with hP | ⟨p,h1,h2,h3⟩
  ·exact .inl (by unfold jr;split <;> first | rfl | exact hP)
  ·exact .inr ⟨p,h1,h2,h3.below (hR.other hi)⟩
 ·rintro L a w ⟨hL,hS,hbeh,hsm,haft⟩
  refine Oper.wp_enter (f:=30) (args:=#[]) (w':=w) ?_ ?_
  ·simp [go_sem]
  ·refine (FC w).mono ?_
   rintro o w' ⟨p,rfl,h1,h2,hb2⟩;exact ⟨_,rfl,_,rfl,fun e=>(by cases e),.inr ⟨p,rfl,h1,h2.less hS.size⟩,hS.trans (hb2.mono hS.size),l9.of (by decide) hb2⟩
 refine aV.any (fun L v w=>L 4=true∨∃b p,v=.slice (some ⟨b,0,none⟩) 1 1∧ah p=dh∧bQ w0.heap.size w ⟨some ⟨b,0,none⟩,1⟩ [p]) rfl ?_ ?_ ?_
 ·intro i L a w w' hne hk hR hP
  by_cases hi:i=6
  ·exact .inl (by rw [ai (by omega)];exact (hR.six hi).1)
  rcases hP with hP | ⟨b,p,h1,h2,h3⟩
  ·exact .inl (by unfold jr;split <;> first | rfl | exact hP)
  ·exact .inr ⟨b,p,h1,h2,h3.below (hR.other hi)⟩
 ·rintro L a w ⟨hL,hS,hbeh,hsm,haft⟩
  rcases (haft.1 rfl).2 with hP | ⟨p,x5,hp,hnp⟩
  ·rw [hbeh 4 rfl] at hP;cases hP
  have f45:a.tmps[45]?.getD undef=.agg #[.int .u8 p.kind,.string p.name,.slice p.es.at_ p.exprs.length p.es.cap,.int .i64 p.bound,.slice p.ts.at_ p.thn.length p.ts.cap,.slice p.os.at_ p.els.length p.os.cap]:=aj x5;have hb2:=zba w (.cells #[.int .u8 p.kind,.string p.name,.slice p.es.at_ p.exprs.length p.es.cap,.int .i64 p.bound,.slice p.ts.at_ p.thn.length p.ts.cap,.slice p.os.at_ p.els.length p.os.cap] 43);refine Oper.wp_value (v:=.slice (some ⟨w.heap.size,0,none⟩) 1 1) (w':=w.alloc (.cells #[.int .u8 p.kind,.string p.name,.slice p.es.at_ p.exprs.length p.es.cap,.int .i64 p.bound,.slice p.ts.at_ p.thn.length p.ts.cap,.slice p.os.at_ p.els.length p.os.cap] 43)) ?_ ?_
  ·simp [go_sem,f45]
  ·exact ⟨_,rfl,fun e=>(by cases e),.inr ⟨_,p,rfl,hp,⟨(row_one (enc:=aa.cells) (x:=p) (zan w _)).low hS.size,fun t ht=>by rw [List.mem_singleton.1 ht];exact hnp.below hb2⟩⟩,hS.trans (hb2.mono hS.size),l9.of (by decide) hb2⟩
 refine aV.any (fun L v w=>L 6=true∨∃y:aa,v=.agg #[.int .u8 y.kind,.string y.name,.slice y.es.at_ y.exprs.length y.es.cap,.int .i64 y.bound,.slice y.ts.at_ y.thn.length y.ts.cap,.slice y.os.at_ y.els.length y.os.cap]∧ah y=ah (fT s.exprs [dh])∧iE w0.heap.size w y) rfl ?_ ?_ ?_
 ·intro i L a w w' hne hk hR hP
  by_cases hi:i=6
  ·exact .inl (by rw [hi];exact aC)
  rcases hP with hP | ⟨y,h1,h2,h3⟩
  ·exact .inl (by unfold jr;split <;> first | rfl | exact hP)
  ·exact .inr ⟨y,h1,h2,h3.below (hR.other hi)⟩
 ·rintro L a w ⟨hL,hS,hbeh,hsm,haft⟩
  have f43:a.tmps[43]?.getD undef=_:=aj (haft.1 rfl).2;have f44:a.tmps[44]?.getD undef=_:=aj (haft.2.1 rfl).2;rcases (haft.2.2.1 rfl).2 with hP | ⟨b,p,x5,hp,hnp⟩
  ·rw [hL] at hP;cases hP
  have f46:a.tmps[46]?.getD undef=.slice (some ⟨b,0,none⟩) 1 1:=aj x5;refine Oper.wp_enter (f:=160) (args:=#[.agg #[.int .u8 s.kind,.string s.name,.slice s.es.at_ s.exprs.length s.es.cap,.int .i64 s.bound,.slice s.ts.at_ s.thn.length s.ts.cap,.slice s.os.at_ s.els.length s.os.cap],.slice (some ⟨b,0,none⟩) 1 1]) (w':=w) ?_ ?_
  ·simp [go_sem,f43,f44,f46]
  ·refine (hwh none ⟨some ⟨b,0,none⟩,1⟩ [p] w0.heap.size w (hlow.trans (hS.mono hn0)) (by have:=hS.size;omega) hS.size (fun b e=>(by cases e)) hnp).mono ?_
   rintro o w' ⟨y,rfl,h1,h2,hb2⟩;refine ⟨_,rfl,_,rfl,fun e=>(by cases e),.inr ⟨y,rfl,h1.trans ?_,h2⟩,hS.trans (hb2.mono hS.size),l9.of (by decide) hb2⟩;rw [dI,dI,List.map_cons,List.map_cons,hp];rfl
 refine aV.any (fun L v w=>Aa w0.heap.size s (L 6) v w) rfl ?_ ?_ ?_
 ·intro i L a w w' hne hk hR hP
  by_cases hi:i=6
  ·rw [hi,aC];exact (hR.six hi).2
  ·rw [ai (Ne.symm hi)];exact hP.on (hR.other hi)
 ·rintro L a w ⟨hL,hS,hbeh,hsm,haft⟩
  have hb2:=zba w (.cells #[.int .u8 0,.string ⟨#[]⟩,.slice none 0 0,.int .i64 0,.slice none 0 0,.slice none 0 0] 43);refine Oper.wp_value (v:=.pointer (some ⟨w.heap.size,0,none⟩)) (w':=w.alloc (.cells #[.int .u8 0,.string ⟨#[]⟩,.slice none 0 0,.int .i64 0,.slice none 0 0,.slice none 0 0] 43)) ?_ ?_
  ·simp [go_sem]
  ·refine ⟨_,rfl,fun e=>(by cases e),⟨w.heap.size,rfl,hS.size,by simp,fun _=>zan w _,fun e=>?_⟩,hS.trans (hb2.mono hS.size),l9.of (by decide) hb2⟩
   rw [ai (by decide),hbeh 6 rfl] at e;cases e
 refine aV.any (fun L v w=>True) rfl ?_ ?_ ?_
 ·exact fun _ _ _ _ _ _ _ _ h=>h
 ·rintro L a w ⟨hL,hS,hbeh,hsm,haft⟩
  have h4:=(haft.2.1 rfl);rcases h4.2 with hP | ⟨y,x47,hy1,hy2⟩
  ·rw [hL] at hP;cases hP
  have f47:a.tmps[47]?.getD undef=.agg #[.int .u8 y.kind,.string y.name,.slice y.es.at_ y.exprs.length y.es.cap,.int .i64 y.bound,.slice y.ts.at_ y.thn.length y.ts.cap,.slice y.os.at_ y.els.length y.os.cap]:=aj x47;obtain ⟨b,x8,hb1,hb2,hz,-⟩:=(haft.1 rfl).2;have f8:a.tmps[8]?.getD undef=.pointer (some ⟨b,0,none⟩):=aj x8;have hz:=hz hL;obtain ⟨z0,z1,z2,z3,z4,z5⟩:=ag hz;have fz:∀j,w.frozen? ⟨b,j,none⟩=false:=fun j=>by simp [World.frozen?,hz]
  have q0:=fz 0;have q1:=fz 1;have q2:=fz 2;have q3:=fz 3;have q4:=fz 4;have q5:=fz 5;obtain ⟨w1,hw1⟩:∃w1,w1=six w b 0 (.int .u8 y.kind) (.string y.name) (.slice y.es.at_ y.exprs.length y.es.cap) (.int .i64 y.bound) (.slice y.ts.at_ y.thn.length y.ts.cap) (.slice y.os.at_ y.els.length y.os.cap):=⟨_,rfl⟩;refine Oper.wp_skip (w':=w1) ?_ ?_
  ·rw [hw1];simp [go_sem,six,f8,f47,z0,z1,z2,z3,z4,z5,q0,q1,q2,q3,q4,q5]
  ·have hbel:Below w0.heap.size w0 w1:=by rw [hw1];exact je hS hb1 _ _ _ _ _ _ _
   have hrow:w1.heap[b]? = some (.cells #[.int .u8 y.kind,.string y.name,.slice y.es.at_ y.exprs.length y.es.cap,.int .i64 y.bound,.slice y.ts.at_ y.thn.length y.ts.cap,.slice y.os.at_ y.els.length y.os.cap] 43 (0,0)):=by rw [hw1];exact nH hz _ _ _ _ _ _
   have hny:dH w0.heap.size (some b) w1 y:=by
    have hav:=eu.avoid (b:=b) (show tL (dK w0.heap.size w) b by unfold tL;rw [rA,hz];simp;omega) hy2 (DZ hy1);refine (eu.cells hav fun p u hp hc=>?_).more (show w.heap.size≤w1.heap.size by rw [hw1,jm];exact Nat.le_refl _);obtain ⟨k1,k2⟩:=lD.1 hc;obtain ⟨k3,k4⟩:=az.1 k2;exact dZ.2 ⟨k3,k1,(World.cell?_of_block (by rw [hw1];exact iM _ _ _ _ _ _ _ _ _ (fun e=>k1 (by rw [e])))).trans k4⟩
   have e8:a.eval (.tmp 8)=.pointer (some ⟨b,0,none⟩):=au f8;refine ⟨undef,rfl,fun _=>rfl,trivial,hbel,?_⟩;unfold l9;rw [if_pos rfl,e8];exact ⟨h4.1,b,rfl,hb1,(zgs hrow).1,fun e=>(by cases e),fun _=>⟨y,hrow,hy1,hny⟩⟩
 rintro L a w hL ⟨hS,hsame,hv⟩;refine ⟨rfl,hsame.1.trans hsz,hsame.2.1,hsame.2.2,?_,hS⟩;have h5:=hv 5;have e6:=hL 6 (by decide);have h6:Aa w0.heap.size s (L 6) (a.eval (.tmp 8)) w:=h5;rw [e6] at h6
 rwa [show a.eval (.tmp 8)=a.tmps[8]?.getD undef from by simp [Act.eval]] at h6
noncomputable def opsU13:Array Oper:=((Tryz.f101.body.bind (opsOf 13)).getD #[])
def zy (t:Nat):Bool:=decide (t≤51) || decide (61≤t)
theorem FB:dR opsU13 10 68 zy=true:=by kernel_rfl
def jK (i:Nat) (L:Nat→Bool) (_:Act) (w w':World):Prop:=if i=7 then L 7=false else if i=9 then L 8=true∧L 7=true else Below w.heap.size w w'
theorem jK.app {i:Nat} {L:Nat→Bool} {a:Act} {w w':World} (h:jK i L a w w') (hi:i=7):L 7=false:=by unfold jK at h;rwa [if_pos hi] at h
theorem jK.end_ {i:Nat} {L:Nat→Bool} {a:Act} {w w':World} (h:jK i L a w w') (hi:i=9):L 8=true∧L 7=true:=by unfold jK at h;rwa [if_neg (by omega),if_pos hi] at h
theorem jK.other {i:Nat} {L:Nat→Bool} {a:Act} {w w':World} (h:jK i L a w w') (h7:i≠7) (h9:i≠9):Below w.heap.size w w':=by unfold jK at h;rwa [if_neg h7,if_neg h9] at h
theorem jK.of {i:Nat} {L:Nat→Bool} {a:Act} {w w':World} (h7:i≠7) (h9:i≠9) (h:Below w.heap.size w w'):jK i L a w w':=by unfold jK;rwa [if_neg h7,if_neg h9]
def LastB (lo b:Nat) (w:World) (y:aa):Prop:=w.heap[b]? = some (.cells #[.int .u8 y.kind,.string y.name,.slice y.es.at_ y.exprs.length y.es.cap,.int .i64 y.bound,.slice y.ts.at_ y.thn.length y.ts.cap,.slice y.os.at_ y.els.length y.os.cap] 43 (0,0))∧dH lo (some b) w y
def ma (b lo:Nat) (s y:aa) (w0:World) (L:Nat→Bool) (w:World):Prop:=(L 9=false→Below w0.heap.size w0 w)∧(L 9=true→Mk b w0 w∧∃y',ah y'=ah (fT s.exprs (aX s.thn++[y]))∧LastB lo b w y')
theorem ma.flag {b lo k:Nat} {s y:aa} {w0:World} {L:Nat→Bool} {w:World} (hk:k≠9) (h:ma b lo s y w0 L w):ma b lo s y w0 (jr L k) w:=by
 unfold ma at h ⊢;rw [ai (Ne.symm hk)];exact h
theorem ma.on {b lo k:Nat} {s y:aa} {w0:World} {L:Nat→Bool} {w':World} (hk:k≠9) (h9:L 9=false) (hb:Below w0.heap.size w0 w'):ma b lo s y w0 (jr L k) w':=by
 unfold ma;rw [ai (Ne.symm hk)];exact ⟨fun _=>hb,fun e=>by rw [h9] at e;cases e⟩
set_option maxRecDepth 10000000 in
set_option maxHeartbeats 64000000 in
theorem Lg {a0:Act} {w0:World} (hsz:a0.tmps.size=68) (bs b n0 lo:Nat) (W0:World) (s y:aa)
  (f4:a0.tmps[4]?.getD undef=.func (.func 160) #[] #[]) (f6:a0.tmps[6]?.getD undef=.pointer (some ⟨bs,0,none⟩)) (f8:a0.tmps[8]?.getD undef=.pointer (some ⟨b,0,none⟩))
  (hbs:w0.heap[bs]? = some (.cells #[.int .u8 s.kind,.string s.name,.slice s.es.at_ s.exprs.length s.es.cap,.int .i64 s.bound,.slice s.ts.at_ s.thn.length s.ts.cap,.slice s.os.at_ s.els.length s.os.cap] 43 (0,0))) (hy:LastB lo b w0 y) (hlow:Below n0 W0 w0) (hn0:n0≤w0.heap.size) (hlo:lo≤w0.heap.size) (hl1:s.thn.length≤900000) (ih1:uI n0 W0 s.ts s.thn) (hwh:Kt n0 W0 s) :
  (Code.region 13 opsU13 true).wp Tryz.prog (fun e a w=>e=.normal∧a.tmps.size=68∧a.defers=a0.defers∧(∀t:Nat,zy t=true→a.tmps[t]?.getD undef=a0.tmps[t]?.getD undef)∧Mk b w0 w∧∃y',ah y'=ah (fT s.exprs (aX s.thn++[y]))∧LastB lo b w y') a0 w0:=by
 have hbl:bs<w0.heap.size:=(zgs hbs).1;have hb0:b<w0.heap.size:=(zgs hy.1).1;obtain ⟨x0,x1,x2,x3,x4,x5⟩:=ag hbs;obtain ⟨y0,y1,y2,y3,y4,y5⟩:=ag hy.1;refine kR (n:=10) (sz:=68) (keep:=zy) rfl FB hsz (ma b lo s y w0) jK (⟨fun _=>(Below.refl _ _).drew,fun e=>(by cases e)⟩) ?_;have e:opsU13.toList=opsU13.toList:=rfl
 conv at e=>rhs;arg 1;whnf
 simp only at e;rw [e];clear e
 apply aV.exact rfl rfl
 ·exact fun _ _ h=>ma.flag (by decide) h
 ·exact fun _ _ w=>jK.of (by decide) (by decide) (Below.refl _ w)
 ·rintro L a w ⟨-,hS,hbeh,hsm,haft⟩
  have f4:a.tmps[4]?.getD undef=_:=(hsm 4 rfl).trans f4;simp [go_sem,f4];exact rfl
 apply aV.exact rfl rfl
 ·exact fun _ _ h=>ma.flag (by decide) h
 ·exact fun _ _ w=>jK.of (by decide) (by decide) (Below.refl _ w)
 ·rintro L a w ⟨-,hS,hbeh,hsm,haft⟩
  have f6:a.tmps[6]?.getD undef=_:=(hsm 6 rfl).trans f6;have hS0:=hS.1 (hbeh 9 rfl);have c0:=(hS0.cell (p:=⟨bs,0,none⟩) hbl).trans (x0);have c1:=(hS0.cell (p:=⟨bs,1,none⟩) hbl).trans (x1);have c2:=(hS0.cell (p:=⟨bs,2,none⟩) hbl).trans (x2);have c3:=(hS0.cell (p:=⟨bs,3,none⟩) hbl).trans (x3);have c4:=(hS0.cell (p:=⟨bs,4,none⟩) hbl).trans (x4);have c5:=(hS0.cell (p:=⟨bs,5,none⟩) hbl).trans (x5);simp [go_sem,f6,c0,c1,c2,c3,c4,c5];exact rfl
 apply aV.exact rfl rfl
 ·exact fun _ _ h=>ma.flag (by decide) h
 ·exact fun _ _ w=>jK.of (by decide) (by decide) (Below.refl _ w)
 ·rintro L a w ⟨-,hS,hbeh,hsm,haft⟩
  have f6:a.tmps[6]?.getD undef=_:=(hsm 6 rfl).trans f6;simp [go_sem,f6];exact rfl
 apply aV.exact rfl rfl
 ·exact fun _ _ h=>ma.flag (by decide) h
 ·exact fun _ _ w=>jK.of (by decide) (by decide) (Below.refl _ w)
 ·rintro L a w ⟨-,hS,hbeh,hsm,haft⟩
  have f54:a.tmps[54]?.getD undef=_:=aj (haft.1 rfl).2;have hS0:=hS.1 (hbeh 9 rfl);have c4:=(hS0.cell (p:=⟨bs,4,none⟩) hbl).trans (x4);simp [go_sem,f54,c4];exact rfl
 refine aV.any (fun L v w=>L 7=true∨∃(A:Option Addr) (c:Nat) (l':List aa),v=.slice A l'.length c∧l'.map ah=(aX s.thn).map ah∧aI w0.heap.size w 43 6 aa.cells v l'∧∀t,t∈l'→dH w0.heap.size v.ownBlock w t) rfl ?_ ?_ ?_
 ·intro i L a w w' hne hk hR hP
  by_cases h7:i=7
  ·exact .inl (by rw [h7];exact aC)
  by_cases h9:i=9
  ·exact .inl (by rw [ai (by omega)];exact (hR.end_ h9).2)
  rcases hP with hP | ⟨A,c,l',h1,h2,h3,h4⟩
  ·exact .inl (by rw [ai (Ne.symm h7)];exact hP)
  ·have hb:=hR.other h7 h9
   exact .inr ⟨A,c,l',h1,h2,h3.on hb,fun t ht=>(h4 t ht).below hb⟩
 ·rintro L a w ⟨hL,hS,hbeh,hsm,haft⟩
  have f55:a.tmps[55]?.getD undef=_:=aj (haft.1 rfl).2;have hS0:=hS.1 (hbeh 9 rfl);refine Oper.wp_enter (f:=101) (args:=#[.slice s.ts.at_ s.thn.length s.ts.cap]) (w':=w) ?_ ?_
  ·simp [go_sem,f55]
  ·refine (ih1 w (hlow.trans (hS0.mono hn0)) (by have:=hS0.size;omega)).mono ?_
   rintro o w' ⟨A,c,l',rfl,hb,hown,hnew,hbel⟩;exact ⟨_,rfl,_,rfl,fun e=>(by cases e),.inr ⟨A,c,l',rfl,hb,hown.less hS0.size,fun t ht=>(hnew t ht).less hS0.size⟩,ma.on (by decide) (hbeh 9 rfl) (hS0.trans (hbel.mono hS0.size)),jK.of (by decide) (by decide) hbel⟩
 apply aV.exact rfl rfl
 ·exact fun _ _ h=>ma.flag (by decide) h
 ·exact fun _ _ w=>jK.of (by decide) (by decide) (Below.refl _ w)
 ·rintro L a w ⟨-,hS,hbeh,hsm,haft⟩
  have f8:a.tmps[8]?.getD undef=_:=(hsm 8 rfl).trans f8;have hS0:=hS.1 (hbeh 9 rfl);have d0:=(hS0.cell (p:=⟨b,0,none⟩) hb0).trans (y0);have d1:=(hS0.cell (p:=⟨b,1,none⟩) hb0).trans (y1);have d2:=(hS0.cell (p:=⟨b,2,none⟩) hb0).trans (y2);have d3:=(hS0.cell (p:=⟨b,3,none⟩) hb0).trans (y3);have d4:=(hS0.cell (p:=⟨b,4,none⟩) hb0).trans (y4);have d5:=(hS0.cell (p:=⟨b,5,none⟩) hb0).trans (y5);simp [go_sem,f8,d0,d1,d2,d3,d4,d5];exact rfl
 refine aV.any (fun L v w=>L 7=true∨∃b',v=.slice (some ⟨b',0,none⟩) 1 1∧RowOf w.heap.size w ⟨some ⟨b',0,none⟩,1⟩ 6 aa.cells [y]) rfl ?_ ?_ ?_
 ·intro i L a w w' hne hk hR hP
  by_cases h7:i=7
  ·exact .inl (by rw [h7];exact aC)
  by_cases h9:i=9
  ·exact .inl (by rw [ai (by omega)];exact (hR.end_ h9).2)
  rcases hP with hP | ⟨b',h1,h2⟩
  ·exact .inl (by rw [ai (Ne.symm h7)];exact hP)
  ·have hb:=hR.other h7 h9
   exact .inr ⟨b',h1,(h2.below hb).more hb.size⟩
 ·rintro L a w ⟨hL,hS,hbeh,hsm,haft⟩
  have f57:a.tmps[57]?.getD undef=_:=aj (haft.1 rfl).2;have hS0:=hS.1 (hbeh 9 rfl);have hb2:=zba w (.cells #[.int .u8 y.kind,.string y.name,.slice y.es.at_ y.exprs.length y.es.cap,.int .i64 y.bound,.slice y.ts.at_ y.thn.length y.ts.cap,.slice y.os.at_ y.els.length y.os.cap] 43);refine Oper.wp_value (v:=.slice (some ⟨w.heap.size,0,none⟩) 1 1) (w':=w.alloc (.cells #[.int .u8 y.kind,.string y.name,.slice y.es.at_ y.exprs.length y.es.cap,.int .i64 y.bound,.slice y.ts.at_ y.thn.length y.ts.cap,.slice y.os.at_ y.els.length y.os.cap] 43)) ?_ ?_
  ·simp [go_sem,f57]
  ·exact ⟨_,rfl,fun e=>(by cases e),.inr ⟨_,rfl,row_one (enc:=aa.cells) (x:=y) (zan w _)⟩,ma.on (by decide) (hbeh 9 rfl) (hS0.trans (hb2.mono hS0.size)),jK.of (by decide) (by decide) hb2⟩
 refine aV.any (fun L v w=>L 8=true∨∃(A:Option Addr) (c:Nat) (l':List aa),v=.slice A (l'++[y]).length c∧l'.map ah=(aX s.thn).map ah∧aI w0.heap.size w 43 6 aa.cells v (l'++[y])∧∀t,t∈l'→iE w0.heap.size w t) rfl ?_ ?_ ?_
 ·intro i L a w w' hne hk hR hP
  by_cases h9:i=9
  ·exact .inl (by rw [ai (by omega)];exact (hR.end_ h9).1)
  rcases hP with hP | ⟨A,c,l',h1,h2,h3,h4⟩
  ·exact .inl (by unfold jr;split <;> first | rfl | exact hP)
  ·have hb:=hR.other hne h9
   exact .inr ⟨A,c,l',h1,h2,h3.on hb,fun t ht=>(h4 t ht).below hb⟩
 ·rintro L a w ⟨hL,hS,hbeh,hsm,haft⟩
  have hS0:=hS.1 (hbeh 9 rfl);rcases (haft.1 rfl).2 with hP | ⟨A,c,l',e56,hb,hown,hnew⟩
  ·rw [hL] at hP;cases hP
  rcases (haft.2.1 rfl).2 with hP | ⟨b',e58,hrow⟩
  ·rw [hL] at hP;cases hP
  have hlen:=rU hb;rw [e56] at hown hnew;refine Oper.wp_append (.tmp 56) (.tmp 58) 33 rfl IY (fun _=>rfl) qo _ l' e56 hown ⟨some ⟨b',0,none⟩,1⟩ [y] e58 hrow (by simp;omega) hS0.size ?_;intro v' w' ho hg hat;have hbel:Below w0.heap.size w0 w':=aI.below hown hg (Nat.le_refl _) hS0 hS0.size;obtain ⟨A',c',e'⟩:=ho.form;refine ⟨v',rfl,fun e=>(by cases e),.inr ⟨A',c',l',e',hb,ho,fun t ht=>((hnew t ht).grow hg hat).newT⟩,ma.on (by decide) (hbeh 9 rfl) hbel,by unfold jK;rw [if_pos rfl];exact hL⟩
 refine aV.any (fun L v w=>L 9=true∨L 7=true∧∃y':aa,v=.agg #[.int .u8 y'.kind,.string y'.name,.slice y'.es.at_ y'.exprs.length y'.es.cap,.int .i64 y'.bound,.slice y'.ts.at_ y'.thn.length y'.ts.cap,.slice y'.os.at_ y'.els.length y'.os.cap]∧ah y'=ah (fT s.exprs (aX s.thn++[y]))∧dH lo (some b) w y') rfl ?_ ?_ ?_
 ·intro i L a w w' hne hk hR hP
  by_cases h9:i=9
  ·exact .inl (by rw [h9];exact aC)
  rcases hP with hP | ⟨h7,y',h1,h2,h3⟩
  ·exact .inl (by unfold jr;split <;> first | rfl | exact hP)
  ·have hi7:i≠7:=fun e=>by have:=hR.app e;rw [h7] at this;cases this
   have hb:=hR.other hi7 h9;exact .inr ⟨by rw [ai (Ne.symm hi7)];exact h7,y',h1,h2,h3.below hb⟩
 ·rintro L a w ⟨hL,hS,hbeh,hsm,haft⟩
  have f52:a.tmps[52]?.getD undef=_:=aj (haft.1 rfl).2;have f53:a.tmps[53]?.getD undef=_:=aj (haft.2.1 rfl).2;have hS0:=hS.1 (hbeh 9 rfl);have h7:=(haft.2.2.1 rfl);rcases h7.2 with hP | ⟨A,c,l',e59,hb,hown,hnew⟩
  ·rw [hL] at hP;cases hP
  have f59:a.tmps[59]?.getD undef=.slice A (l'++[y]).length c:=aj e59;have hlen:=rU hb;rw [e59] at hown;have hrow:uD lo (some b) w ⟨A,c⟩ (l'++[y]):=by
   obtain ⟨sp,e,hr,hbk⟩:=hown.row (fun _=>rfl) (by simp;omega);have:sp=⟨A,c⟩:=by unfold Sp.val at e;injection e with e1 e2 e3;rw [e1,e3]
   subst this;refine ⟨⟨hr.cap,hr.big,hr.few,fun h0=>?_⟩,fun t ht=>?_⟩
   ·obtain ⟨b',off,e,hlt,hc⟩:=hr.row h0
    have hge:w0.heap.size≤b':=(hbk _ e).1;refine ⟨b',off,e,hlt,fun j hj r u hu=>dZ.2 ⟨by show lo≤b';omega,fun e=>?_,hc j hj r u hu⟩⟩;have e2:b=b':=Option.some.inj e;omega
   ·rcases List.mem_append.1 ht with h1 | h1
    ·exact eu.cells (hnew t h1) fun p u hp hc=>by obtain ⟨k1,k2⟩:=az.1 hc;exact dZ.2 ⟨by omega,fun e=>by have:=Option.some.inj e;omega,k2⟩
    ·rw [List.mem_singleton.1 h1];exact hy.2.below hS0
  refine Oper.wp_enter (f:=160) (args:=#[.agg #[.int .u8 s.kind,.string s.name,.slice s.es.at_ s.exprs.length s.es.cap,.int .i64 s.bound,.slice s.ts.at_ s.thn.length s.ts.cap,.slice s.os.at_ s.els.length s.os.cap],.slice A (l'++[y]).length c]) (w':=w) ?_ ?_
  ·simp [go_sem,f52,f53,f59]
  ·refine (hwh (some b) ⟨A,c⟩ (l'++[y]) lo w (hlow.trans (hS0.mono hn0)) (by have:=hS0.size;omega) (Nat.le_trans hlo hS0.size) (fun b' e=>by cases e;exact Nat.lt_of_lt_of_le hb0 hS0.size) hrow).mono ?_
   rintro o w' ⟨y',rfl,h1,h2,hb2⟩;refine ⟨_,rfl,_,rfl,fun e=>(by cases e),.inr ⟨by rw [ai (by decide)];exact h7.1,y',rfl,h1.trans ?_,h2⟩,ma.on (by decide) (hbeh 9 rfl) (hS0.trans (hb2.mono hS0.size)),jK.of (by decide) (by decide) hb2⟩;rw [dI,dI,List.map_append,List.map_append,hb]
 refine aV.any (fun L v w=>True) rfl ?_ ?_ ?_
 ·exact fun _ _ _ _ _ _ _ _ h=>h
 ·rintro L a w ⟨hL,hS,hbeh,hsm,haft⟩
  have f8:a.tmps[8]?.getD undef=_:=(hsm 8 rfl).trans f8;have h8:=(haft.1 rfl);rcases h8.2 with hP | ⟨h7,y',x60,hy1,hy2⟩
  ·rw [hL] at hP;cases hP
  have f60:a.tmps[60]?.getD undef=.agg #[.int .u8 y'.kind,.string y'.name,.slice y'.es.at_ y'.exprs.length y'.es.cap,.int .i64 y'.bound,.slice y'.ts.at_ y'.thn.length y'.ts.cap,.slice y'.os.at_ y'.els.length y'.os.cap]:=aj x60;have hS0:=hS.1 hL;have hz:=(hS0.block b hb0).trans hy.1;obtain ⟨z0,z1,z2,z3,z4,z5⟩:=ag hz;have fz:∀j,w.frozen? ⟨b,j,none⟩=false:=fun j=>by simp [World.frozen?,hz]
  have q0:=fz 0;have q1:=fz 1;have q2:=fz 2;have q3:=fz 3;have q4:=fz 4;have q5:=fz 5;obtain ⟨w1,hw1⟩:∃w1,w1=six w b 0 (.int .u8 y'.kind) (.string y'.name) (.slice y'.es.at_ y'.exprs.length y'.es.cap) (.int .i64 y'.bound) (.slice y'.ts.at_ y'.thn.length y'.ts.cap) (.slice y'.os.at_ y'.els.length y'.os.cap):=⟨_,rfl⟩;refine Oper.wp_skip (w':=w1) ?_ ?_
  ·rw [hw1];simp [go_sem,six,f8,f60,z0,z1,z2,z3,z4,z5,q0,q1,q2,q3,q4,q5]
  ·have hbw:b<w.heap.size:=Nat.lt_of_lt_of_le hb0 hS0.size
   have hm2:Mk b w w1:=by rw [hw1];exact Mk.six hbw _ _ _ _ _ _ _
   have hrow:w1.heap[b]? = some (.cells #[.int .u8 y'.kind,.string y'.name,.slice y'.es.at_ y'.exprs.length y'.es.cap,.int .i64 y'.bound,.slice y'.ts.at_ y'.thn.length y'.ts.cap,.slice y'.os.at_ y'.els.length y'.os.cap] 43 (0,0)):=by rw [hw1];exact nH hz _ _ _ _ _ _
   have hny:dH lo (some b) w1 y':=by
    refine (eu.cells hy2 fun p u hp hc=>?_).more (show w.heap.size≤w1.heap.size by rw [hw1,jm];exact Nat.le_refl _);obtain ⟨k1,k2,k3⟩:=dZ.1 hc;exact dZ.2 ⟨k1,k2,(World.cell?_of_block (by rw [hw1];exact iM _ _ _ _ _ _ _ _ _ (fun e=>k2 (by rw [e])))).trans k3⟩
   refine ⟨undef,rfl,fun _=>rfl,trivial,⟨fun e=>?_,fun _=>⟨(Mk.of hS0 hb0).trans hm2,y',hy1,hrow,hny⟩⟩,?_⟩
   ·rw [aC] at e;cases e
   ·unfold jK;rw [if_neg (by decide),if_pos rfl];exact ⟨h8.1,h7⟩
 rintro L a w hL ⟨hS,hsame,hv⟩;exact ⟨rfl,hsame.1.trans hsz,hsame.2.1,hsame.2.2,hS.2 (hL 9 (by decide))⟩
end
end Go.Proofs.YtepacjkacjabbaaGreatDoor
