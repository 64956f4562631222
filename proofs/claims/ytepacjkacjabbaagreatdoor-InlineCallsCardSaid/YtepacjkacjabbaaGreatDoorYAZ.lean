import Derived.Test.YtepacjkacjabbaaGreatDoorYAW
set_option linter.all false
set_option maxRecDepth 10000000
set_option maxHeartbeats 64000000
namespace Go.Proofs.YtepacjkacjabbaaGreatDoor
open Go Go.Maps Go.RowKit
theorem mf{W:World}{b j:Nat}{cs:Array Value}{t:TypeId}{fr:Nat × Nat}{v:Value}(h:W.heap[b]?=some (.cells cs t fr))(D:cs[j]?=some v):W.cell? ⟨b,j,none⟩=some v:=by simp[World.cell?,h,D]
def Sw(f t:ByteArray)(n:ByteArray):ByteArray:=if n=f then t else n
theorem Ik(w:World)(s f t:ByteArray)(D O:Nat)(h1:w.cell? ⟨D,0,none⟩=some (.string f))(V:w.cell? ⟨O,0,none⟩=some (.string t)) :
  Calls Tryz.prog 252 #[.string s,.pointer (some ⟨D,0,none⟩),.pointer (some ⟨O,0,none⟩)] w λo w'=>o=.returned (.string (Sw f t s))/\w'=w:=by
 by_cases h:s=f
 .have U:(s.toList == f.toList)=true:=by rw[h];simp
  have e:Sw f t s=t:=by unfold Sw;rw[if_pos h]
  rw[e];clear h e;go_enter Tryz.func252,Tryz.ntmps252
  go_wp2_with fail
  go_ret
  exact⟨rfl,rfl⟩
 .have U:(s.toList == f.toList)=false:=beq_eq_false_iff_ne.2 λe=>h (toList_inj e)
  have e:Sw f t s=s:=by unfold Sw;rw[if_neg h]
  rw[e];clear h e;go_enter Tryz.func252,Tryz.ntmps252
  go_wp2_with fail
  go_ret
  exact⟨rfl,rfl⟩
theorem J2(w:World)(f t:ByteArray):Calls Tryz.prog 219 #[.string f,.string t] w λo w'=>o=.returned (.func (.func 252) #[] #[.pointer (some ⟨w.heap.size,0,none⟩),.pointer (some ⟨w.heap.size+1,0,none⟩)])/\w'=(w.alloc (.cells #[.string f] 9)).alloc (.cells #[.string t] 9):=by
 go_enter Tryz.func219,Tryz.ntmps219
 go_wp2_with fail
 go_ret
 exact⟨rfl,rfl⟩
theorem MO{w:World}(f t:ByteArray)(D O:Nat)(U:D<w.heap.size)(V:O<w.heap.size)(h1:w.cell? ⟨D,0,none⟩=some (.string f))(h2:w.cell? ⟨O,0,none⟩=some (.string t)) :
  Aj 252 #[.pointer (some ⟨D,0,none⟩),.pointer (some ⟨O,0,none⟩)] (Sw f t) w.heap.size w :=
 ⟨λargs W=>by simp[go_sem],λW hW _ s _=>Ik W s f t D O ((hW.cell (p:=⟨D,0,none⟩) U).trans h1) ((hW.cell (p:=⟨O,0,none⟩) V).trans h2)⟩
theorem Cc(w:World)(sp:Sp)(l:List aa)(h:gq w.heap.size w sp l)(hl:aV l<=20000)(f t:ByteArray)(ht:t.size<=maxLen) :
  Calls Tryz.prog 195 #[.slice sp.dO l.length sp.df,.string f,.string t] w λo w'=>∃(D:Sp) (l':List aa),o=.returned (.slice D.dO l'.length D.df)/\l'.map aJ=(l.map (tF (Sz f t) (Sy f t))).map aJ/\j4 w.heap.size w' D l'/\Below w.heap.size w w':=by
 have hC:=kN w sp l 0 h (by omega);simp only[Sp.val]at hC;have hL:=λW=>qi (jU (l.flatMap aa.pre) 0) W
 rw[aC (S9 hl)]at hL;have HC:=ae hC;have HL:=ae hL;have ab:=ae λW=>J2 W f t
 have HN:=ae λ(W:World) (hW:Below w.heap.size w W)=>by
  obtain⟨q1,q2,_,q4⟩:=pX W (.cells #[.string f] 9) (.cells #[.string t] 9);have z1:((W.alloc (.cells #[.string f] 9)).alloc (.cells #[.string t] 9)).cell? ⟨W.heap.size,0,none⟩=some (.string f):=mf q1 rfl;have z2:((W.alloc (.cells #[.string f] 9)).alloc (.cells #[.string t] 9)).cell? ⟨W.heap.size+1,0,none⟩=some (.string t):=mf q2 rfl;have hb:=hW.trans (q4.mono hW.size);exact And.intro (si (τ:=Sw f t) (λs hs=>by unfold Sw;split;exact ht;exact hs) (MO (w:=(W.alloc (.cells #[.string f] 9)).alloc (.cells #[.string t] 9)) f t W.heap.size (W.heap.size+1) (dM q1).1 (dM q2).1 z1 z2) sp l ((h.below hb).more hb.size) (by omega) _ (ag _ _) (af _)) hb
 clear hC hL h hl;go_enter Tryz.func195,Tryz.ntmps195
 go_wp2_with fail
 refine HC.o.mono ?_;rintro o w1 ⟨rfl,V⟩;go_wp2_with fail
 refine(HL.o _).mono ?_;rintro o w2 ⟨rfl,rfl⟩;go_wp2_with fail
 refine(ab.o _).mono ?_;rintro o w2 ⟨rfl,rfl⟩;have an:=ae (HN.o w1 V).1;have U:=ae (HN.o w1 V).2;clear V HN ab HL HC;go_wp2_with fail
 refine an.o.mono ?_;rintro o w3 ⟨D,l',rfl,al,O,ad⟩;have ap:=ae al;have ao:=ae O;have am:=ae ad;clear al O ad;go_wp2_with fail
 go_ret
 exact⟨D,l',rfl,(by have h1:=ap.o;unfold yY at h1;rw[h1,dw];rfl),ao.o.less U.o.size,U.o.trans (am.o.mono U.o.size)⟩
theorem qm{l:List UInt8}(h:kE l=true):l.length<=16:=by
 unfold kE at h;simp only[bg,aU]at h;omega
theorem vz{K:jq}(am:fF K.p)(w:World)(V:mK K w)(i k:Nat)(hi:i<K.p.aA.length)(hk:k<(K.p.aA[i]).bC.length) :
  Calls Tryz.prog 82 #[.pointer (some ⟨K.q,0,none⟩),.int .i64 (i:Nat),.int .i64 (k:Nat)] w λo w'=>o=.returned (.agg #[.string (kC K.p.aA[i] (K.p.aA[i]).bC[k]),.int .i64 ((K.p.aA[i]).bC[k]).aS,.int .i64 0])/\Below w.heap.size w w':=by
 have hne:K.p.aA≠[]:=λh=>by rw[h]at hi;exact absurd hi (dX _)
 obtain⟨u1,_,u3⟩:=am.undP hne (ak hi);have s1:=qm u1;have s2:=qm (u3 _ (ak hk)).1;obtain⟨gp,op,eA,aq,hc⟩:=V.prog.prow.row (by omega);have U:=hc i hi;have al:=(V.prog.aA _ (ak hi)).bC;generalize K.p.aA[i]=q at *;obtain⟨gd,od,eD,a1,ad⟩:=al.row.row (by omega);have D:=ad k hk;have a6:(k:Int)<(q.bC.length:Int):=by omega
 generalize q.bC[k]=d at *;have p0:=U 0 _ rfl;rw[bS]at p0;have p1:w.cell? ⟨gp,op+i*3+1,none⟩=some (.slice q.ps.dO q.bC.length q.ps.df):=U 1 _ rfl;have d0:=D 0 _ rfl;rw[bS]at d0;have d1:=D 1 _ rfl;have d2:=D 2 _ rfl;have O:=V.c13;rw[eA]at O;rw[eD]at p1;have a3:(0:Int)<=(i:Int):=by omega
 have a4:(i:Int)<(K.p.aA.length:Int):=by omega
 have a5:(0:Int)<=(k:Int):=by omega
 have a7:q.aT.size<=16:=by simpa using s1
 have aw:d.aT.size<=16:=by simpa using s2
 have an:=λ(W:World)=>run_string_add_sum (P:=Tryz.prog) W q.aT ⟨#[46]⟩ (by show q.aT.size+1<=_;omega)
 have ao:=λ(W:World)=>run_string_add_sum (P:=Tryz.prog) W (q.aT++⟨#[46]⟩) d.aT (by rw[lU];show q.aT.size+1+d.aT.size<=_;omega)
 obtain⟨q1,q2,q3,q4⟩:=pX w (.cells #[.string ⟨#[]⟩,.int .i64 0,.int .i64 0] 50) (.cells d.r 50);have z0:((w.alloc (.cells #[.string ⟨#[]⟩,.int .i64 0,.int .i64 0] 50)).alloc (.cells d.r 50)).cell? ⟨w.heap.size+1,0,none⟩=some (.string d.aT):=mf q2 rfl;have z1:((w.alloc (.cells #[.string ⟨#[]⟩,.int .i64 0,.int .i64 0] 50)).alloc (.cells d.r 50)).cell? ⟨w.heap.size+1,1,none⟩=some (.int .i64 d.aS):=mf q2 rfl;have Q1:=ae q1;have Q4:=ae q4;have P0:=ae ((q4.cell (p:=⟨gp,op+i*3,none⟩) aq).trans p0);have ab:=ae ((q4.cell (p:=⟨K.q,13,none⟩) (dM V.blk).1).trans O);clear q1 q2 q3 q4 hc U ad D al eA eD s1 s2 u1 u3 hne;have a8:K.q<w.heap.size:=(dM V.blk).1;clear V;go_enter Tryz.func82,Tryz.ntmps82
 go_upto_region 2 with fail
 clear p0 p1 d0 d1 d2 O;generalize (w.alloc (.cells #[.string ⟨#[]⟩,.int .i64 0,.int .i64 0] 50)).alloc (.cells d.r 50)=W2 at *;have p0:=P0.o;have O:=ab.o
 go_still_tail 16,(by kernel_rfl)
 change wpList _ _ _ _ _ W2.drew;have hz:W2.drew.heap[w.heap.size]?=some (.cells #[.string ⟨#[]⟩,.int .i64 0,.int .i64 0] 50 (0,0)):=Q1.o;have ar:=bM _ _ _ (#[.string (q.aT++⟨#[46]⟩++d.aT),.int .i64 d.aS,.int .i64 0]:Array Value) _ _ hz;have ap:Below w.heap.size w (W2.drew.setRow w.heap.size #[.string (q.aT++⟨#[46]⟩++d.aT),.int .i64 d.aS,.int .i64 0]):=below_setRow (Q4.o.trans (ag _ _).drew) (af _);clear p0 O z0 z1 Q1 P0 ab Q4;go_wp2_with(first
  |(refine aK rfl 50 (.tmp 6) (.tmp 35) rfl w.heap.size #[.string (q.aT++⟨#[46]⟩++d.aT),.int .i64 d.aS,.int .i64 0] rfl rfl 50 _ hz (by kernel_rfl) rfl (by simp[Value.oneCell']) ?_)
  |fail)
 exact aW (aL rfl _ _ w.heap.size 50 _ (0,0) _ rfl ar Tryz.underlying50 rfl (by kernel_rfl)) rfl ⟨rfl,ap⟩
section
def GO(G:Nat->Bool)(o:Option Nat)(b:Nat):Bool:=G b || decide (o=some b)
theorem Q5(G:Nat->Bool):GO G none=G:=by funext b;simp[GO]
theorem LM{G:Nat->Bool}{o:Option Nat}{b:Nat}(h:GO G o b=false):G b=false/\o≠some b:=by simpa[GO]using h
theorem OL{G:Nat->Bool}{o:Option Nat}{b:Nat}(h:G b=false)(D:o≠some b):GO G o b=false:=by simp[GO,h,D]
structure vO(K:jq)(G:Nat->Bool)(W0:World)(sp:Sp)(l:List aa)(A:Option Addr)(c:Nat)(cur:List aa)(w:World):Prop where
 own:dz W0.heap.size w 43 6 aa.cells (.slice A cur.length c) cur
 el:∀x∈cur,lV w.heap.size (fu (GO G (Value.slice A cur.length c).ownBlock) w) x
 kept:Mk K.bd W0 w
 dn:Ah (GO G (Value.slice A cur.length c).ownBlock) K w
 prog:jT w.heap.size (fu (GO G (Value.slice A cur.length c).ownBlock) w) K.p
 src:gq w.heap.size (fu (GO G (Value.slice A cur.length c).ownBlock) w) sp l
section
variable {K:jq}{G:Nat->Bool}{W0:World}{sp:Sp}{l:List aa}{A:Option Addr}{c:Nat}{cur:List aa}{w w':World}
theorem vO.init(D:Ah G K w)(hp:jT w.heap.size (fu G w) K.p)(O:gq w.heap.size (fu G w) sp l):vO K G w sp l none 0 [] w:=by
 have e:GO G (Value.slice none ([]:List aa).length 0).ownBlock=G:=Q5 G;exact⟨dz.nil,λ_ h=>(by cases h),Mk.refl,by rw[e];exact D,by rw[e];exact hp,by rw[e];exact O⟩
theorem vO.below(h:vO K G W0 sp l A c cur w)(hb:Below w.heap.size w w'):vO K G W0 sp l A c cur w' :=
 ⟨h.own.on hb,λx hx=>(h.el x hx).move hb.size (mR hb),h.kept.trans (Mk.of hb h.dn.isMap.lt),h.dn.below hb,h.prog.move hb.size (mR hb),h.src.move hb.size (mR hb)⟩
theorem vO.mk'(h:vO K G W0 sp l A c cur w)(hm:Mk K.bd w w')(U:Ah (GO G (Value.slice A cur.length c).ownBlock) K w'):vO K G W0 sp l A c cur w' :=
 ⟨h.own.kept λg cs fr _ O=>hm.heap (λe=>by
   obtain⟨_,_,D⟩:=h.dn.isMap;rw[<-e,O]at D;cases D) (dM O).1,
  λx hx=>(h.el x hx).move hm.size (FC hm h.dn.isMap),h.kept.trans hm,U,h.prog.move hm.size (FC hm h.dn.isMap),h.src.move hm.size (FC hm h.dn.isMap)⟩
theorem vO.push(h:vO K G W0 sp l A c cur w){ys:List aa}{v':Value}(hy:∀y∈ys,lV w.heap.size (fu (GO G (Value.slice A cur.length c).ownBlock) w) y)(ho:dz W0.heap.size w' 43 6 aa.cells v' (cur++ys))(O:w.grownBy w' (Value.slice A cur.length c).ownBlock)
  (ab:v'.ownBlock=(Value.slice A cur.length c).ownBlock\/v'.ownBlock=some w.heap.size):∃U V,v'=.slice U (cur++ys).length V/\vO K G W0 sp l U V (cur++ys) w':=by
 obtain⟨U,V,rfl⟩:=ho.form;have D:∀(p:Addr) (u:Value),p.block<w.heap.size->(fu (GO G (Value.slice A cur.length c).ownBlock) w).cell? p=some u->(fu (GO G (Value.slice U (cur++ys).length V).ownBlock) w').cell? p=some u:=Tq λp u hp al hc=>by
  obtain⟨h1,h2⟩:=LM al;refine⟨OL h1 ?_,(aM (O.block _ hp λe=>h2 e.symm)).trans hc⟩;rcases ab with e|e
  .rw[e];exact h2
  .rw[e]
   intro e2;have:=iL e2;omega
 have ad:some K.bd≠(Value.slice A cur.length c).ownBlock:=λe=>by
  obtain⟨_,cs,fr,hh⟩:=h.own.iO e.symm;obtain⟨_,_,h2⟩:=h.dn.isMap;rw[hh]at h2;cases h2
 refine⟨U,V,rfl,ho,λx hx=>?_,Below.trans h.kept (bn h.dn.isMap.lt (h.own.below O (af _) (ag _ _) h.kept.size)),h.dn.move O.size (O.block _ h.dn.isMap.lt ad) D,h.prog.move O.size D,h.src.move O.size D⟩;rcases List.mem_append.1 hx with hx|hx
 .exact(h.el x hx).move O.size D
 .exact(hy x hx).move O.size D
end
end
section
def rM(K:jq)(l:List aa):Prop:=∀(w:World) (sp:Sp) (G:Nat->Bool),(∀b,G b=true->b<w.heap.size)->mK K w->Ah G K w->jT w.heap.size (fu G w) K.p->gq w.heap.size (fu G w) sp l ->
 Calls Tryz.prog 83 #[.pointer (some ⟨K.q,0,none⟩),.slice sp.dO l.length sp.df] w λo w'=>∃(D:Sp) (m:List aa),o=.returned (.slice D.dO m.length D.df)/\m.map aJ=(fG K.p (eU K.p) l).map aJ/\gq w'.heap.size (fu G w') D m/\Mk K.bd w w'/\Ah G K w'
def CO(K:jq)(i:Nat):Prop:=∀(w:World) (G:Nat->Bool),(∀b,G b=true->b<w.heap.size)->mK K w->Ah G K w->jT w.heap.size (fu G w) K.p ->
 Calls Tryz.prog 146 #[.pointer (some ⟨K.q,0,none⟩),.int .i64 (i:Nat)] w λo w'=>∃(D:Sp) (m:List aa),o=.returned (.slice D.dO m.length D.df)/\m.map aJ=(eU K.p i).map aJ/\gq w'.heap.size (fu G w') D m/\Mk K.bd w w'/\Ah G K w'
def JQ(G:Nat->Bool)(w:World)(v:Value)(l:List aa):Prop:=∃(sp:Sp) (m:List aa),v=.slice sp.dO m.length sp.df/\m.map aJ=l.map aJ/\gq w.heap.size (fu G w) sp m
def vK(G:Nat->Bool)(w w':World):Prop:=w.heap.size<=w'.heap.size/\∀(p:Addr) (u:Value),p.block<w.heap.size->(fu G w).cell? p=some u->(fu G w').cell? p=some u
theorem JQ.on{G:Nat->Bool}{w w':World}{v:Value}{l:List aa}(h:JQ G w v l)(hk:vK G w w'):JQ G w' v l:=by
 obtain⟨sp,m,h1,D,O⟩:=h;exact⟨sp,m,h1,D,O.move hk.1 hk.2⟩
theorem vK.refl(G:Nat->Bool)(w:World):vK G w w:=⟨af _,λ_ _ _ h=>h⟩
theorem vK.set{G:Nat->Bool}{w:World}{b i:Nat}(hb:G b=true)(v:Value):vK G w (w.setCell ⟨b,i,none⟩ v):=⟨by simp,Tq λp u _ D hc=>⟨D,(aM (aN _ _ _ _ (by rintro rfl;rw[hb]at D;cases D))).trans hc⟩⟩
theorem vK.mk{G:Nat->Bool}{b:Nat}{w w':World}(h:Mk b w w')(hi:IsMap w b):vK G w w':=⟨h.size,FC h hi⟩
structure S6(K:jq)(G:Nat->Bool)(b7:Nat)(s:aa)(w0:World)(lt le:List aa)(L:Nat->Bool)(w:World):Prop where
 kept:Below b7 (mask K.bd w0) (mask K.bd w)
 size:w0.heap.size<=w.heap.size
 dn:Ah G K w
 box:∃v4 v5,w.heap[b7]?=some (.cells #[.int .u8 s.bI,.string s.aT,.slice s.es.dO s.bf.length s.es.df,.int .i64 s.gT,v4,v5] 43 (0,0))/\(L 9=true->JQ G w v4 lt)/\(L 9=false->v4=.slice s.ts.dO s.gy.length s.ts.df)/\(L 11=true->JQ G w v5 le)/\(L 11=false->v5=.slice s.os.dO s.iD.length s.os.df)
theorem S6.flag{K:jq}{G:Nat->Bool}{D:Nat}{s:aa}{w0:World}{lt O:List aa}{L:Nat->Bool}{w:World}{k:Nat}(hk:k≠9/\k≠11)(h:S6 K G D s w0 lt O L w):S6 K G D s w0 lt O (pI L k) w:=by
 obtain⟨U,V,h1⟩:=h.box;exact⟨h.kept,h.size,h.dn,U,V,by rw[av (Ne.symm hk.1),av (Ne.symm hk.2)];exact h1⟩
theorem S6.call{K:jq}{G:Nat->Bool}{D:Nat}{s:aa}{w0:World}{lt U:List aa}{L:Nat->Bool}{w w':World}{k:Nat}(hk:k≠9/\k≠11)(h:S6 K G D s w0 lt U L w)(hm:Mk K.bd w w')(hd:Ah G K w')(hb:D<w0.heap.size):S6 K G D s w0 lt U (pI L k) w':=by
 obtain⟨v4,v5,h1,V,h3,h4,h5⟩:=h.box;have hi:=h.dn.isMap;refine⟨Below.trans h.kept (Below.mono hm (by have:=h.size;omega)),ai h.size hm.size,hd,v4,v5,?_⟩;rw[av (Ne.symm hk.1),av (Ne.symm hk.2)];refine⟨(hm.heap ?_ (dM h1).1).trans h1,λe=>(V e).on (.mk hm hi),h3,λe=>(h4 e).on (.mk hm hi),h5⟩;rintro rfl;obtain⟨_,_,O⟩:=hi;rw[h1]at O;cases O
theorem BQ{n b D:Nat}{w:World}{cs:Array Value}(h:n<=b)(hb:D<w.heap.size):Below n (mask D w) (mask D (w.setRow b cs)):=bn hb (below_setRow (ag _ _) h)
theorem mK.of{K:jq}{w w':World}{n:Nat}(h:mK K w)(hk:Below n (mask K.bd w) (mask K.bd w'))(hi:IsMap w K.bd)(U:n<=w'.heap.size)(D:K.q<n/\K.bi<n/\jT n w K.p):mK K w' where
 blk:=by
  have hq:K.q≠K.bd:=λe=>by
   obtain⟨_,_,O⟩:=hi;rw[<-e,h.blk]at O;cases O
  exact(iB hk D.1 hq).trans h.blk
 idx:=by
  obtain⟨m,O⟩:=h.idx;exact⟨m,O.of_block (iB hk D.2.1 h.ne1)⟩
 prog:=(jT.cells D.2.2 λp u hp hc=>(aM (iB hk hp (hi.no hc))).trans hc).more U
 ne1:=h.ne1
 ne2:=h.ne2
 ne3:=h.ne3
noncomputable def opsI6:Array Oper:=((Tryz.f83.body.bind (opsOf 6)).getD #[])
def KS(t:Nat):Bool:=decide (t<=19) || decide (30<=t)
theorem Qg:jH opsI6 12 68 KS=true:=by kernel_rfl
theorem Uu{a0:Act}{w0:World}{K:jq}{G G0:Nat->Bool}(a8:a0.tmps.size=68)(V:Nat)(s:aa)(f0:a0.tmps[0]?.getD undef=.pointer (some ⟨K.q,0,none⟩))(f7:a0.tmps[7]?.getD undef=.pointer (some ⟨V,0,none⟩))
  (a5:w0.heap[V]?=some (.cells s.r 43)) (hG:∀b,G b=true->b<w0.heap.size) (a4:G V=true) (a3:∀b,b<V->G0 b=false->G b=false) (hB:mK K w0) (ap:K.q<V/\K.bi<V/\jT V w0 K.p) (hD:Ah G K w0) (hp:jT V (fu G0 w0) K.p)
  (br:rM K s.gy) (bo:rM K s.iD) (a7:gq V (fu G0 w0) s.ts s.gy) (a6:gq V (fu G0 w0) s.os s.iD) :
  (Code.region 6 opsI6 true).wp Tryz.prog (λe a w=>e=.normal/\a.tmps.size=68/\a.defers=a0.defers/\(∀t:Nat,KS t=true->a.tmps[t]?.getD undef=a0.tmps[t]?.getD undef)/\Below V (mask K.bd w0) (mask K.bd w)/\w0.heap.size<=w.heap.size/\Ah G K w /\
   ∃v4 v5,w.heap[V]?=some (.cells #[.int .u8 s.bI,.string s.aT,.slice s.es.dO s.bf.length s.es.df,.int .i64 s.gT,v4,v5] 43 (0,0))/\JQ G w v4 (fG K.p (eU K.p) s.gy)/\JQ G w v5 (fG K.p (eU K.p) s.iD)) a0 w0:=by
 have ab:V<w0.heap.size:=(dM a5).1;have an:=hD.isMap;refine lQ (n:=12) (sz:=68) (keep:=KS) rfl Qg a8 (S6 K G V s w0 (fG K.p (eU K.p) s.gy) (fG K.p (eU K.p) s.iD)) (λ_ w w'=>vK G w w') ⟨bn an.lt (ag _ _).drew,af _,hD.below (ag _ _).drew,_,_,a5,λh=>(by cases h),λ_=>rfl,λh=>(by cases h),λ_=>rfl⟩ ?_;have e:opsI6.toList=opsI6.toList:=rfl
 conv at e=>rhs;arg 1;whnf
 simp only at e;rw[e];clear e
 apply StepsF.exact rfl rfl rfl;exact λ_ _ h=>h.flag (by decide);exact λw=>vK.refl _ w;rintro _ _ _ ⟨-,⟨_,_⟩,_,b,_⟩;simp[go_sem,(b 0 rfl).trans f0];exact rfl
 apply StepsF.exact rfl rfl rfl;exact λ_ _ h=>h.flag (by decide);exact λw=>vK.refl _ w;rintro _ _ _ ⟨-,⟨_,_⟩,_,b,_⟩;simp[go_sem,(b 7 rfl).trans f7];exact rfl
 apply StepsF.exact rfl rfl rfl;exact λ_ _ h=>h.flag (by decide);exact λw=>vK.refl _ w;rintro _ _ w ⟨-,⟨_,b⟩,c,_,d⟩;have aE:=aB (d.1 rfl).2;obtain⟨v4,v5,hx,_,h4,_,h5⟩:=b.box;rw[h4 (c 9 rfl)]at hx;have cc:w.cell? ⟨V,4,none⟩=some _:=mf hx rfl;simp[go_sem,aE,cc];exact rfl
 refine StepsF.any (λL v w=>JQ G w v (fG K.p (eU K.p) s.gy)) rfl rfl ?_ ?_ ?_
 .exact λ_ _ _ _ _ _ hR hP=>hP.on hR
 .rintro L a w ⟨_,⟨_,O⟩,_,_,U⟩
  have a9:=aB (U.1 rfl).2;have ba:=aB (U.2.1 rfl).2;have hi:=O.dn.isMap;have ar:∀b,G b=true->b<w.heap.size:=λb hb=>aI (hG b hb) O.size
  have al:∀(p:Addr) (u:Value),p.block<V->(fu G0 w0).cell? p=some u->(fu G w).cell? p=some u:=λp u hp hc=>by
   obtain⟨h1,h2⟩:=kw.1 hc;exact kw.2 ⟨a3 _ hp h1,(aM (iB O.kept hp (an.no h2))).trans h2⟩
  refine Oper.wp_enter (f:=83) (args:=#[.pointer (some ⟨K.q,0,none⟩),.slice s.ts.dO s.gy.length s.ts.df]) (w':=w) ?_ ?_
  .simp[go_sem,a9,ba]
  .refine(br w s.ts G ar (hB.of O.kept an (ai (dI ab) O.size) ap) O.dn ((jT.cells hp al).more (ai (dI ab) O.size)) ⟨(a7.row.cells al).more (ai (dI ab) O.size),λt ht=>((a7.ok t ht).cells al).more (ai (dI ab) O.size)⟩).mono ?_
   rintro o w' ⟨D,m,rfl,hm,hr,ao,hd⟩;exact⟨_,rfl,_,rfl,λe=>(by cases e),⟨D,m,rfl,hm,hr⟩,O.call (by decide) ao hd ab,.mk ao hi⟩
 apply StepsF.exact rfl rfl rfl;exact λ_ _ h=>h.flag (by decide);exact λw=>vK.refl _ w;rintro _ _ _ ⟨-,⟨_,_⟩,_,b,_⟩;simp[go_sem,(b 0 rfl).trans f0];exact rfl
 apply StepsF.exact rfl rfl rfl;exact λ_ _ h=>h.flag (by decide);exact λw=>vK.refl _ w;rintro _ _ _ ⟨-,⟨_,_⟩,_,b,_⟩;simp[go_sem,(b 7 rfl).trans f7];exact rfl
 apply StepsF.exact rfl rfl rfl;exact λ_ _ h=>h.flag (by decide);exact λw=>vK.refl _ w;rintro _ _ w ⟨-,⟨_,b⟩,c,_,d⟩;have be:=aB (d.1 rfl).2;obtain⟨v4,v5,hx,_,h4,_,h5⟩:=b.box;rw[h5 (c 11 rfl)]at hx;have cc:w.cell? ⟨V,5,none⟩=some _:=mf hx rfl;simp[go_sem,be,cc];exact rfl
 refine StepsF.any (λL v w=>JQ G w v (fG K.p (eU K.p) s.iD)) rfl rfl ?_ ?_ ?_
 .exact λ_ _ _ _ _ _ hR hP=>hP.on hR
 .rintro L a w ⟨_,⟨_,O⟩,_,_,U⟩
  have bc:=aB (U.1 rfl).2;have bh:=aB (U.2.1 rfl).2;have hi:=O.dn.isMap;have ar:∀b,G b=true->b<w.heap.size:=λb hb=>aI (hG b hb) O.size
  have al:∀(p:Addr) (u:Value),p.block<V->(fu G0 w0).cell? p=some u->(fu G w).cell? p=some u:=λp u hp hc=>by
   obtain⟨h1,h2⟩:=kw.1 hc;exact kw.2 ⟨a3 _ hp h1,(aM (iB O.kept hp (an.no h2))).trans h2⟩
  refine Oper.wp_enter (f:=83) (args:=#[.pointer (some ⟨K.q,0,none⟩),.slice s.os.dO s.iD.length s.os.df]) (w':=w) ?_ ?_
  .simp[go_sem,bc,bh]
  .refine(bo w s.os G ar (hB.of O.kept an (ai (dI ab) O.size) ap) O.dn ((jT.cells hp al).more (ai (dI ab) O.size)) ⟨(a6.row.cells al).more (ai (dI ab) O.size),λt ht=>((a6.ok t ht).cells al).more (ai (dI ab) O.size)⟩).mono ?_
   rintro o w' ⟨D,m,rfl,hm,hr,ao,hd⟩;exact⟨_,rfl,_,rfl,λe=>(by cases e),⟨D,m,rfl,hm,hr⟩,O.call (by decide) ao hd ab,.mk ao hi⟩
 apply StepsF.exact rfl rfl rfl;exact λ_ _ h=>h.flag (by decide);exact λw=>vK.refl _ w;rintro _ _ _ ⟨-,⟨_,_⟩,_,b,_⟩;simp[go_sem,(b 7 rfl).trans f7];exact rfl
 refine StepsF.any (λL v w=>True) rfl rfl ?_ ?_ ?_
 .exact λ_ _ _ _ _ _ _ h=>h
 .rintro L a w ⟨_,⟨_,O⟩,_,_,U⟩
  have bj:=aB (U.1 rfl).2;obtain⟨D,m,hv,hm,hr⟩:=(U.2.1 rfl).2;have fv:a.tmps[23]?.getD undef=.slice D.dO m.length D.df:=aB hv;obtain⟨v4,v5,hx,_,_,a1,aw⟩:=O.box;have ad:=Js (i:=4) (v:=.slice D.dO m.length D.df) hx;have hfz:w.frozen? ⟨V,4,none⟩=false:=by simp[World.frozen?,hx]
  have aq:w.cell? ⟨V,4,none⟩=some _:=mf hx rfl;have hk:=vK.set (G:=G) (w:=w) (i:=4) a4 (.slice D.dO m.length D.df);refine Oper.wp_skip (w':=w.setCell ⟨V,4,none⟩ (.slice D.dO m.length D.df)) ?_ ?_
  .simp[go_sem,bj,fv,hfz,aq]
  .refine⟨_,rfl,λ_=>rfl,trivial,⟨?_,by simpa using O.size,O.dn.move (by simp) (aN _ _ _ _ ?_) hk.2,_,v5,?_,λ_=>⟨D,m,rfl,hm,hr.move hk.1 hk.2⟩,λh=>(by rw[bU]at h;cases h),λh=>(a1 (by rwa [av (by decide)]at h)).on hk,λh=>aw (by rwa [av (by decide)]at h)⟩,hk⟩
   .rw[ad];exact Below.trans O.kept (BQ (af _) O.dn.isMap.lt)
   .rintro h;obtain⟨_,_,h6⟩:=O.dn.isMap;rw[show K.bd=V from h,hx]at h6;cases h6
   .rw[ad];exact bM _ _ _ _ _ _ hx
 apply StepsF.exact rfl rfl rfl;exact λ_ _ h=>h.flag (by decide);exact λw=>vK.refl _ w;rintro _ _ _ ⟨-,⟨_,_⟩,_,b,_⟩;simp[go_sem,(b 7 rfl).trans f7];exact rfl
 refine StepsF.any (λL v w=>True) rfl rfl ?_ ?_ ?_
 .exact λ_ _ _ _ _ _ _ h=>h
 .rintro L a w ⟨_,⟨_,O⟩,_,_,U⟩
  have bk:=aB (U.1 rfl).2;obtain⟨D,m,hv,hm,hr⟩:=(U.2.1 rfl).2;have fv:a.tmps[27]?.getD undef=.slice D.dO m.length D.df:=aB hv;obtain⟨v4,v5,hx,bm,bl,_,_⟩:=O.box;have ad:=Js (i:=5) (v:=.slice D.dO m.length D.df) hx;have hfz:w.frozen? ⟨V,5,none⟩=false:=by simp[World.frozen?,hx]
  have aq:w.cell? ⟨V,5,none⟩=some _:=mf hx rfl;have hk:=vK.set (G:=G) (w:=w) (i:=5) a4 (.slice D.dO m.length D.df);refine Oper.wp_skip (w':=w.setCell ⟨V,5,none⟩ (.slice D.dO m.length D.df)) ?_ ?_
  .simp[go_sem,bk,fv,hfz,aq]
  .refine⟨_,rfl,λ_=>rfl,trivial,⟨?_,by simpa using O.size,O.dn.move (by simp) (aN _ _ _ _ ?_) hk.2,v4,_,?_,λh=>(bm (by rwa [av (by decide)]at h)).on hk,λh=>bl (by rwa [av (by decide)]at h),λ_=>⟨D,m,rfl,hm,hr.move hk.1 hk.2⟩,λh=>(by rw[bU]at h;cases h)⟩,hk⟩
   .rw[ad];exact Below.trans O.kept (BQ (af _) O.dn.isMap.lt)
   .rintro h;obtain⟨_,_,h6⟩:=O.dn.isMap;rw[show K.bd=V from h,hx]at h6;cases h6
   .rw[ad];exact bM _ _ _ _ _ _ hx
 rintro L a w hL ⟨⟨-,O⟩,am,_⟩;obtain⟨v4,v5,h1,h2,_,h3,_⟩:=O.box;exact⟨rfl,am.1.trans a8,am.2.1,am.2.2,O.kept,O.size,O.dn,v4,v5,h1,h2 (hL 9 (by decide)),h3 (hL 11 (by decide))⟩
def Be(D:ByteArray)(b:Nat)(e:ah):aa:=.mk 1 D ⟨some ⟨b,0,none⟩,1⟩ [e] 0 Sp.none [] Sp.none []
theorem RX{V:ByteArray}{b:Nat}{e:ah}{G:Nat->Bool}{o:Option Nat}{w:World}(O:V.size<=maxLen)(hr:RowOf w.heap.size w ⟨some ⟨b,0,none⟩,1⟩ 6 ah.cells [e])(he:mM w.heap.size (fu (GO G o) w) e)(hb:∀bb,(G bb=true\/o=some bb)->bb<b):lV w.heap.size (fu (GO G o) w) (Be V b e):=
 .mk _ (show(0:Int)<=1/\(1:Int)<=255 by decide) (show(Lit.int .i64 0).wf=true by decide) O ⟨hr.df,hr.big,hr.few,λh0=>by
  obtain⟨b',off,U,D,hc⟩:=hr.row h0;refine⟨b',off,U,D,λjj hj r u hu=>kw.2 ⟨?_,hc jj hj r u hu⟩⟩;have e2:b=b':=congrArg Addr.block (iL U);subst e2;cases hg:GO G o b with
  |false=>rfl
  |true =>
   exfalso
   have:G b=true\/o=some b:=by simpa[GO]using hg
   exact absurd (hb b this) (Nat.lt_irrefl _)⟩ (λx hx=>by
  have:x=e:=by simpa[Be,aa.bf]using hx
  rw[this];exact he) RowOf.nil (λ_ h=>absurd h (by simp[Be,aa.gy])) RowOf.nil (λ_ h=>absurd h (by simp[Be,aa.iD]))
theorem CG{L:Nat->Bool}{j:Nat}(k:Nat)(h:L j=true):pI L k j=true:=by by_cases e:j=k;rw[e];exact bU;rw[av e];exact h
structure Ch(L:Nat->Bool):Prop where
 c10:L 10=true->L 9=true
 c9:L 9=true->L 8=true
 c8:L 8=true->L 7=true
 c7:L 7=true->L 6=true
theorem Mj{a b:Bool}(h:a=true->b=true)(hb:b=false):a=false:=by cases a;rfl;rw[h rfl]at hb;cases hb
theorem Ch.n9{L:Nat->Bool}(h:Ch L)(k:L 9=false):L 10=false:=Mj h.c10 k
theorem Ch.n8{L:Nat->Bool}(h:Ch L)(k:L 8=false):L 10=false:=h.n9 (Mj h.c9 k)
theorem Ch.n7{L:Nat->Bool}(h:Ch L)(k:L 7=false):L 10=false:=h.n8 (Mj h.c8 k)
theorem Ch.n6{L:Nat->Bool}(h:Ch L)(k:L 6=false):L 10=false:=h.n7 (Mj h.c7 k)
theorem Ch.on{L:Nat->Bool}{k:Nat}(h:Ch L)(D:k=10->L 9=true)(V:k=9->L 8=true)(U:k=8->L 7=true)(O:k=7->L 6=true):Ch (pI L k) where
 c10 e:=CG _ (by by_cases hk:k=10;exact D hk;rw[av (Ne.symm hk)]at e;exact h.c10 e)
 c9 e:=CG _ (by by_cases hk:k=9;exact V hk;rw[av (Ne.symm hk)]at e;exact h.c9 e)
 c8 e:=CG _ (by by_cases hk:k=8;exact U hk;rw[av (Ne.symm hk)]at e;exact h.c8 e)
 c7 e:=CG _ (by by_cases hk:k=7;exact O hk;rw[av (Ne.symm hk)]at e;exact h.c7 e)
noncomputable def opsI12:Array Oper:=((Tryz.f83.body.bind (opsOf 12)).getD #[])
def GD(t:Nat):Bool:=decide (t<=4) || (decide (6<=t) && decide (t<=48)) || decide (60<=t)
theorem NC:jH opsI12 12 68 GD=true:=by kernel_rfl
structure Ca(a0:Act)(w0:World)(Out:Value->World->Prop)(L:Nat->Bool)(a:Act)(w:World):Prop where
 first:uw opsI12 a0 L a/\a.tmps.size=68
 low:L 10=false->Below w0.heap.size w0 w
 o:L 10=true->Out (a.eval (.tmp 59)) w
 last:L 11=true->a.eval (.tmp 5)=a.eval (.tmp 59)
 ch:Ch L
section
variable {a0:Act}{w0:World}{Out:Value->World->Prop}{L:Nat->Bool}{a:Act}{w w':World}{k:Nat}{d0:Option Nat}{v:Value}
theorem Ca.put(h:Ca a0 w0 Out L a w)(hk:k≠10/\k≠11)(D:d0≠some 59/\d0≠some 5)(O:oL opsI12 k=d0)(hc:Ch (pI L k)):Ca a0 w0 Out (pI L k) (a.put d0 v) w where
 first:=⟨h.first.1.put O v,by rw[<-h.first.2];cases d0<;>simp[Act.put]⟩
 low e:=h.low (by rwa [av (Ne.symm hk.1)]at e)
 o e:=by
  have:=h.o (by rwa [av (Ne.symm hk.1)]at e);cases d0 with
  |none=>exact this
  |some d=>rw[cB (λe=>D.1 (by rw[e]))];exact this
 last e:=by
  have:=h.last (by rwa [av (Ne.symm hk.2)]at e);cases d0 with
  |none=>exact this
  |some d=>rw[cB (λe=>D.2 (by rw[e])),cB (λe=>D.1 (by rw[e]))];exact this
 ch:=hc
theorem Ca.flag(h:Ca a0 w0 Out L a w)(hk:(k≠10/\k≠11)/\k≠9/\k≠8/\k≠7)(O:d0≠some 59/\d0≠some 5)(D:oL opsI12 k=d0):Ca a0 w0 Out (pI L k) (a.put d0 v) w :=
 h.put hk.1 O D (h.ch.on (λe=>absurd e hk.1.1) (λe=>absurd e hk.2.1) (λe=>absurd e hk.2.2.1) λe=>absurd e hk.2.2.2)
theorem Ca.world(h:Ca a0 w0 Out L a w)(D:L 10=false)(hb:Below w.heap.size w w'):Ca a0 w0 Out L a w' :=
 ⟨h.first,λe=>(h.low e).trans (hb.mono (h.low e).size),λe=>(by rw[D]at e;cases e),h.last,h.ch⟩
theorem Ca.step7(h:Ca a0 w0 Out L a w)(O:L 6=true)(D:oL opsI12 7=some 56):Ca a0 w0 Out (pI L 7) (a.put (some 56) v) w:=h.put (by decide) (by decide) D (h.ch.on (λe=>(by cases e)) (λe=>(by cases e)) (λe=>(by cases e)) λ_=>O)
theorem Ca.step8(h:Ca a0 w0 Out L a w)(O:L 7=true)(D:oL opsI12 8=some 57):Ca a0 w0 Out (pI L 8) (a.put (some 57) v) w:=h.put (by decide) (by decide) D (h.ch.on (λe=>(by cases e)) (λe=>(by cases e)) (λ_=>O) λe=>(by cases e))
theorem Ca.step9(h:Ca a0 w0 Out L a w)(O:L 8=true)(D:oL opsI12 9=some 58):Ca a0 w0 Out (pI L 9) (a.put (some 58) v) w:=h.put (by decide) (by decide) D (h.ch.on (λe=>(by cases e)) (λ_=>O) (λe=>(by cases e)) λe=>(by cases e))
theorem Ca.step10(h:Ca a0 w0 Out L a w)(U:L 9=true)(_:L 10=false)(D:L 11=false)(hs:59<a.tmps.size)(O:oL opsI12 10=some 59)(V:Out v w'):Ca a0 w0 Out (pI L 10) (a.put (some 59) v) w' where
 first:=⟨h.first.1.put O v,by rw[<-h.first.2];simp[Act.put]⟩
 low e:=by rw[bU]at e;cases e
 o _:=by rw[eval_put_same hs];exact V
 last e:=by rw[av (by decide),D]at e;cases e
 ch:=h.ch.on (λ_=>U) (λe=>(by cases e)) (λe=>(by cases e)) λe=>(by cases e)
theorem Ca.step11(h:Ca a0 w0 Out L a w)(O:5<a.tmps.size)(U:v=a.eval (.tmp 59))(D:oL opsI12 11=some 5):Ca a0 w0 Out (pI L 11) (a.put (some 5) v) w where
 first:=⟨h.first.1.put D v,by rw[<-h.first.2];simp[Act.put]⟩
 low e:=h.low (by rwa [av (by decide)]at e)
 o e:=by rw[cB (by decide)];exact h.o (by rwa [av (by decide)]at e)
 last _:=by rw[eval_put_same O,cB (by decide)];exact U
 ch:=h.ch.on (λe=>(by cases e)) (λe=>(by cases e)) (λe=>(by cases e)) λe=>(by cases e)
end
def U4(i:Nat)(w w':World):Prop:=i=10\/Below w.heap.size w w'
theorem TL{k:Nat}{P:Value->World->Prop}(h:∀{v:Value}{w w':World},Below w.heap.size w w'->P v w->P v w'):vD U4 k (λL v w=>L 10=false->P v w):=λi L v w w' _ O U D=>by
 rcases O with rfl|O
 .rw[bU]at D;cases D
 .exact h O (U (rA D))
theorem TB{a0:Act}{w0:World}{K:jq}{G:Nat->Bool}{W0:World}{sp:Sp}{l:List aa}{A:Option Addr}{c:Nat}{cur:List aa}(a1:a0.tmps.size=68)(al i j:Nat)(e:ah)(bi:fF K.p)(hi:i<K.p.aA.length)(hj:j<(K.p.aA[i]).bC.length)
  (f0:a0.tmps[0]?.getD undef=.pointer (some ⟨K.q,0,none⟩)) (f5:a0.tmps[5]?.getD undef=.slice A cur.length c) (f8:a0.tmps[8]?.getD undef=.int .i64 (i:Nat)) (f9:a0.tmps[9]?.getD undef=.int .i64 (j:Nat)) (f10:a0.tmps[10]?.getD undef=.pointer (some ⟨al,0,none⟩))
  (a3:w0.heap[al]?=some (.cells e.r 30)) (hG:∀b,G b=true->b<W0.heap.size) (hB:mK K w0) (hO:vO K G W0 sp l A c cur w0) (bl:mM w0.heap.size (fu (GO G (Value.slice A cur.length c).ownBlock) w0) e) (b1:cur.length+1<=1000000) (bo:(kC K.p.aA[i] (K.p.aA[i]).bC[j]).size<=maxLen) :
  (Code.region 12 opsI12 true).wp Tryz.prog (λe' a w=>e'=.normal/\a.tmps.size=68/\a.defers=a0.defers/\(∀t:Nat,GD t=true->a.tmps[t]?.getD undef=a0.tmps[t]?.getD undef)/\∃A' c' b,a.tmps[5]?.getD undef=.slice A' (cur.length+1) c'/\vO K G W0 sp l A' c' (cur++[Be (kC K.p.aA[i] (K.p.aA[i]).bC[j]) b e]) w) a0 w0:=by
 have ad:al<w0.heap.size:=(dM a3).1;obtain⟨x0,x1,x2,x3,x4,x5⟩:=aR a3;refine nI (n:=12) (sz:=68) (keep:=GD) rfl NC a1 (Ca a0 w0 (λv w=>∃A' c' b,v=.slice A' (cur.length+1) c'/\vO K G W0 sp l A' c' (cur++[Be (kC K.p.aA[i] (K.p.aA[i]).bC[j]) b e]) w)) U4 ⟨⟨λ_ _=>rfl,a1⟩,λ_=>(ag _ _).drew,λh=>(by cases h),λh=>(by cases h),λh=>(by cases h),λh=>(by cases h),λh=>(by cases h),λh=>(by cases h)⟩ ?_;have e:opsI12.toList=opsI12.toList:=rfl
 conv at e=>rhs;arg 1;whnf
 simp only at e;rw[e];clear e
 apply dP.exactB rfl rfl
 .rintro L a w ⟨hL,U,O,V,D⟩
  have hF:=U.first
  have f5:a.tmps[5]?.getD undef=_:=(hF.1.at 11 (by kernel_rfl) (O 11 rfl)).trans f5;simp[go_sem,f5];exact rfl
 .exact λ_ _ _ h=>h.flag (by decide) (by decide) rfl
 .exact λw=>.inr (ag _ w)
 apply dP.exactB rfl rfl
 .rintro L a w ⟨hL,U,O,V,D⟩
  have hF:=U.first
  have f0:=(V 0 rfl).trans f0;simp[go_sem,f0];exact rfl
 .exact λ_ _ _ h=>h.flag (by decide) (by decide) rfl
 .exact λw=>.inr (ag _ w)
 apply dP.exactB rfl rfl
 .rintro L a w ⟨hL,U,O,V,D⟩
  have hF:=U.first
  have f8:=(V 8 rfl).trans f8;simp[go_sem,f8];exact rfl
 .exact λ_ _ _ h=>h.flag (by decide) (by decide) rfl
 .exact λw=>.inr (ag _ w)
 apply dP.exactB rfl rfl
 .rintro L a w ⟨hL,U,O,V,D⟩
  have hF:=U.first
  have f9:=(V 9 rfl).trans f9;simp[go_sem,f9];exact rfl
 .exact λ_ _ _ h=>h.flag (by decide) (by decide) rfl
 .exact λw=>.inr (ag _ w)
 refine dP.any (λL v w=>v=.agg #[.string (kC K.p.aA[i] (K.p.aA[i]).bC[j]),.int .i64 ((K.p.aA[i]).bC[j]).aS,.int .i64 0]) rfl ?_ ?_ ?_
 .exact λ_ _ _ _ _ _ _ hP=>hP
 .rintro L a w ⟨hL,U,O,V,D⟩
  have hF:=U.first
  have a6:=aB (D.1 rfl).2;have a7:=aB (D.2.1 rfl).2;have a8:=aB (D.2.2.1 rfl).2;have ab:=U.low (O 10 rfl);refine Oper.wp_enter (f:=82) (args:=#[.pointer (some ⟨K.q,0,none⟩),.int .i64 (i:Nat),.int .i64 (j:Nat)]) (w':=w) ?_ ?_
  .simp[go_sem,a6,a7,a8]
  .refine(vz bi w (hB.below ab) i j hi hj).mono ?_
   rintro o w' ⟨rfl,hb⟩;exact⟨_,rfl,_,rfl,λe=>(by cases e),rfl,(U.flag (by decide) (by decide) rfl).world (by rw[av (by decide)];exact O 10 rfl) hb,.inr hb⟩
 apply dP.exactB rfl rfl
 .rintro L a w ⟨hL,U,O,V,D⟩
  have hF:=U.first
  have a9:=aB (D.1 rfl).2;simp[go_sem,a9];exact rfl
 .exact λ_ _ _ h=>h.flag (by decide) (by decide) rfl
 .exact λw=>.inr (ag _ w)
 apply dP.exactB rfl rfl
 .rintro L a w ⟨hL,U,O,V,D⟩
  have hF:=U.first
  have f10:=(V 10 rfl).trans f10;have ab:=U.low (U.ch.n6 hL);have c0:=(ab.cell (p:=⟨al,0,none⟩) ad).trans x0;have c1:=(ab.cell (p:=⟨al,1,none⟩) ad).trans x1;have c2:=(ab.cell (p:=⟨al,2,none⟩) ad).trans x2;have c3:=(ab.cell (p:=⟨al,3,none⟩) ad).trans x3;have c4:=(ab.cell (p:=⟨al,4,none⟩) ad).trans x4;have c5:=(ab.cell (p:=⟨al,5,none⟩) ad).trans x5;simp[go_sem,f10,c0,c1,c2,c3,c4,c5];exact rfl
 .exact λ_ _ _ h=>h.flag (by decide) (by decide) rfl
 .exact λw=>.inr (ag _ w)
 refine dP.any (λL v w=>L 10=false->∃b,v=.slice (some ⟨b,0,none⟩) 1 1/\w0.heap.size<=b/\RowOf w.heap.size w ⟨some ⟨b,0,none⟩,1⟩ 6 ah.cells [e]) rfl ?_ ?_ ?_
 .exact TL λhR hP=>hP.imp λb h2=>⟨h2.1,h2.2.1,(h2.2.2.below hR).more hR.size⟩
 .rintro L a w ⟨hL,U,O,V,D⟩
  have hF:=U.first
  have ba:=aB (D.1 rfl).2;have ab:=U.low (U.ch.n7 hL);have am:=jc w (.cells e.r 30);refine Oper.wp_value (v:=.slice (some ⟨w.heap.size,0,none⟩) 1 1) (w':=w.alloc (.cells e.r 30)) ?_ ?_
  .simp[go_sem,ba]
  .exact⟨_,rfl,λe=>(by cases e),λ_=>⟨_,rfl,ab.size,row_one (enc:=ah.cells) (x:=e) (gM w _)⟩,(U.step7 (D.1 rfl).1 rfl).world (by rw[av (by decide)];exact U.ch.n7 hL) am,.inr am⟩
 refine dP.any (λL v w=>L 10=false->∃b,v=.agg #[.int .u8 1,.string (kC K.p.aA[i] (K.p.aA[i]).bC[j]),.slice (some ⟨b,0,none⟩) 1 1,.int .i64 0,.slice none 0 0,.slice none 0 0]/\w0.heap.size<=b/\RowOf w.heap.size w ⟨some ⟨b,0,none⟩,1⟩ 6 ah.cells [e]) rfl ?_ ?_ ?_
 .exact TL λhR hP=>hP.imp λb h2=>⟨h2.1,h2.2.1,(h2.2.2.below hR).more hR.size⟩
 .rintro L a w ⟨hL,U,O,V,D⟩
  have hF:=U.first
  have aE:=aB (D.1 rfl).2;obtain⟨b,bt,ao,aq⟩:=(D.2.1 rfl).2 (U.ch.n8 hL);have bc:a.tmps[56]?.getD undef=.slice (some ⟨b,0,none⟩) 1 1:=aB bt;refine Oper.wp_value (v:=.agg #[.int .u8 1,.string (kC K.p.aA[i] (K.p.aA[i]).bC[j]),.slice (some ⟨b,0,none⟩) 1 1,.int .i64 0,.slice none 0 0,.slice none 0 0]) (w':=w) ?_ ?_
  .simp[go_sem,aE,bc]
  .exact⟨_,rfl,λe=>(by cases e),λ_=>⟨b,rfl,ao,aq⟩,U.step8 (D.2.1 rfl).1 rfl,.inr (ag _ w)⟩
 refine dP.any (λL v w=>L 10=false->∃b b9,v=.slice (some ⟨b9,0,none⟩) 1 1/\w0.heap.size<=b/\RowOf w.heap.size w ⟨some ⟨b,0,none⟩,1⟩ 6 ah.cells [e]/\RowOf w.heap.size w ⟨some ⟨b9,0,none⟩,1⟩ 6 aa.cells [Be (kC K.p.aA[i] (K.p.aA[i]).bC[j]) b e]) rfl ?_ ?_ ?_
 .exact TL λhR hP=>hP.imp λb h=>h.imp λb9 h2=>⟨h2.1,h2.2.1,(h2.2.2.1.below hR).more hR.size,(h2.2.2.2.below hR).more hR.size⟩
 .rintro L a w ⟨hL,U,O,V,D⟩
  have hF:=U.first
  obtain⟨b,bw,ao,aq⟩:=(D.1 rfl).2 (U.ch.n9 hL);have bd:a.tmps[57]?.getD undef=.agg #[.int .u8 1,.string (kC K.p.aA[i] (K.p.aA[i]).bC[j]),.slice (some ⟨b,0,none⟩) 1 1,.int .i64 0,.slice none 0 0,.slice none 0 0]:=aB bw;have am:=jc w (.cells #[.int .u8 1,.string (kC K.p.aA[i] (K.p.aA[i]).bC[j]),.slice (some ⟨b,0,none⟩) 1 1,.int .i64 0,.slice none 0 0,.slice none 0 0] 43);refine Oper.wp_value (v:=.slice (some ⟨w.heap.size,0,none⟩) 1 1) (w':=w.alloc (.cells #[.int .u8 1,.string (kC K.p.aA[i] (K.p.aA[i]).bC[j]),.slice (some ⟨b,0,none⟩) 1 1,.int .i64 0,.slice none 0 0,.slice none 0 0] 43)) ?_ ?_
  .simp[go_sem,bd]
  .exact⟨_,rfl,λe=>(by cases e),λ_=>⟨b,_,rfl,ao,(aq.below am).more am.size,row_one (enc:=aa.cells) (x:=Be (kC K.p.aA[i] (K.p.aA[i]).bC[j]) b e) (gM w _)⟩,(U.step9 (D.1 rfl).1 rfl).world (by rw[av (by decide)];exact U.ch.n9 hL) am,.inr am⟩
 refine dP.any (λL v w=>True) rfl ?_ ?_ ?_
 .exact λ_ _ _ _ _ _ _ h=>h
 .rintro L a w ⟨hL,U,O,V,D⟩
  have hF:=U.first
  obtain⟨b,b9,b0,ao,aw,ar⟩:=(D.2.1 rfl).2 hL;have ab:=U.low hL;have ap:=hO.below ab;have a5:a.eval (.tmp 49)=.slice A cur.length c:=(D.1 rfl).2;have he:mM w.heap.size (fu (GO G (Value.slice A cur.length c).ownBlock) w) e:=(bl.cells (mR ab)).more ab.size;have bm:W0.heap.size<=w.heap.size:=ap.kept.size;refine Oper.wp_append (.tmp 49) (.tmp 58) 33 rfl xQ (λ_=>rfl) mV _ cur a5 ap.own ⟨some ⟨b9,0,none⟩,1⟩ [_] b0 ar (by simp;omega) bm ?_;intro v' w' ho hg bj;obtain⟨A',c',rfl,br⟩:=ap.push (ys:=[Be (kC K.p.aA[i] (K.p.aA[i]).bC[j]) b e]) (λy hy=>by rw[List.mem_singleton.1 hy];exact RX bo aw he λbb bk=>(by rcases bk with h|h;exact aI (aI (hG _ h) hO.kept.size) ao;exact aI (hO.own.iP _ h) ao)) ho hg bj;exact⟨_,rfl,λe=>(by cases e),trivial,U.step10 (D.2.1 rfl).1 hL (O 11 rfl) (by rw[hF.2];decide) rfl ⟨A',c',b,by simp,br⟩,.inl rfl⟩
 refine dP.any (λL v w=>True) rfl ?_ ?_ ?_
 .exact λ_ _ _ _ _ _ _ h=>h
 .rintro L a w ⟨hL,U,O,V,D⟩
  have hF:=U.first
  have bh:=(D.1 rfl).1;obtain⟨A',c',b,a4,_⟩:=U.o bh;have be:a.tmps[59]?.getD undef=.slice A' (cur.length+1) c':=aB a4;refine Oper.wp_value (v:=.slice A' (cur.length+1) c') (w':=w) ?_ ?_
  .simp[go_sem,be]
  .exact⟨_,rfl,λe=>(by cases e),trivial,U.step11 (by rw[hF.2];decide) a4.symm rfl,.inr (ag _ w)⟩
 rintro L a w hL ⟨U,an,_⟩;obtain⟨A',c',b,h1,h2⟩:=U.o (hL 10 (by decide));exact⟨rfl,an.1.trans a1,an.2.1,an.2.2,A',c',b,aB ((U.last (hL 11 (by decide))).trans h1),h2⟩
end
theorem Rz{g h:uz}{m l:List aa}(e:m.map aJ=l.map aJ):(m.map (tF g h)).map aJ=(l.map (tF g h)).map aJ:=by
 rw[dw,dw,dA (f:=aJ ∘ tF g h) (g:=tF g h ∘ aJ) λs _=>zF g h s,dA (f:=aJ ∘ tF g h) (g:=tF g h ∘ aJ) λs _=>zF g h s,<-dw,<-dw,e]
theorem Ko{m l:List aa}(e:m.map aJ=l.map aJ):aV m=aV l:=by rw[<-iV,e,iV]
def EE(q:bG)(l:List aa)(d:bO):List aa:=l.map (tF (Sz d.aT (kC q d)) (Sy d.aT (kC q d)))
theorem Ih{p:aj}(h:fF p)(i:Nat)(hi:i<p.aA.length):eU p i=Ld (fU p i) (fG p (eU p) (fU p i).eY):=by
 have U:=ve p i;unfold eU;rw[j5]
 congr 1
 refine yw p _ λs V c hc=>?_
 have D:c∈eT (fU p i).eY:=by rw[gZ];exact List.mem_flatMap.2 ⟨s,V,hc⟩
 obtain⟨x,hx,hk,rfl⟩:=wZ D;obtain⟨h1,O⟩:=h.rank i hi x hx hk;exact xZ h.rank _ _ _ O (by omega) (by have:=ve p (dG p x.aT);omega)
noncomputable def opsB8:Array Oper:=((Tryz.f146.body.bind (opsOf 8)).getD #[])
def KM(t:Nat):Bool:=decide (t<=6) || (decide (8<=t) && decide (t<=46)) || decide (56<=t)
theorem Qa:jH opsB8 10 64 KM=true:=by kernel_rfl
theorem vK.below{G:Nat->Bool}{w w':World}(h:Below w.heap.size w w'):vK G w w':=⟨h.size,mR h⟩
theorem Ru{G:Nat->Bool}{n:Nat}{w:World}{sp:Sp}{m l:List aa}(h:j4 n w sp m)(U:∀b,G b=true->b<n)(e:m.map aJ=l.map aJ):JQ G w (.slice sp.dO m.length sp.df) l:=by
 have D:∀(p:Addr) (u:Value),p.block<w.heap.size->(gP n w).cell? p=some u->(fu G w).cell? p=some u:=λp u _ hc=>by
  obtain⟨h1,O⟩:=bJ.1 hc;refine kw.2 ⟨?_,O⟩;cases hg:G p.block with
  |false=>rfl
  |true=>exact absurd (U _ hg) (by omega)
 exact⟨sp,m,rfl,e,h.1.cells D,λt ht=>(h.2 t ht).cells D⟩
theorem Ur{a0:Act}{w0:World}{K:jq}{G:Nat->Bool}(ad:a0.tmps.size=64)(b9 i j:Nat)(d:bO)(sp:Sp)(m:List aa)(aw:fF K.p)(hi:i<K.p.aA.length)(hj:j<(K.p.aA[i]).bC.length)(hd:d=(K.p.aA[i]).bC[j])
  (f0:a0.tmps[0]?.getD undef=.pointer (some ⟨K.q,0,none⟩)) (f1:a0.tmps[1]?.getD undef=.int .i64 (i:Nat)) (f7:a0.tmps[7]?.getD undef=.slice sp.dO m.length sp.df) (f8:a0.tmps[8]?.getD undef=.int .i64 (j:Nat)) (f9:a0.tmps[9]?.getD undef=.pointer (some ⟨b9,0,none⟩))
  (ab:w0.heap[b9]?=some (.cells d.r 50)) (hG:∀b,G b=true->b<w0.heap.size) (hB:mK K w0) (a7:gq w0.heap.size w0 sp m) (a3:aV m<=20000) (a6:(kC K.p.aA[i] (K.p.aA[i]).bC[j]).size<=maxLen) :
  (Code.region 8 opsB8 true).wp Tryz.prog (λe' a w=>e'=.normal/\a.tmps.size=64/\a.defers=a0.defers/\(∀t:Nat,KM t=true->a.tmps[t]?.getD undef=a0.tmps[t]?.getD undef)/\JQ G w (a.eval (.tmp 7)) (EE K.p.aA[i] m (K.p.aA[i]).bC[j])/\Below w0.heap.size w0 w) a0 w0:=by
 have a1:b9<w0.heap.size:=(dM ab).1;have x0:w0.cell? ⟨b9,0,none⟩=some (.string d.aT):=mf ab rfl;refine lQ (n:=10) (sz:=64) (keep:=KM) rfl Qa ad (λ_ w=>Below w0.heap.size w0 w) (λ_ w w'=>Below w.heap.size w w') ((ag _ _).drew) ?_;have e:opsB8.toList=opsB8.toList:=rfl
 conv at e=>rhs;arg 1;whnf
 simp only at e;rw[e];clear e
 apply StepsF.exact rfl rfl rfl;exact λ_ _ h=>h;exact λw=>ag _ w;rintro _ a _ ⟨-,⟨b,_⟩,c,_,_⟩;have f7:a.tmps[7]?.getD undef=_:=(b.at 9 (by kernel_rfl) (c 9 rfl)).trans f7;simp[go_sem,f7];exact rfl
 apply StepsF.exact rfl rfl rfl;exact λ_ _ h=>h;exact λw=>ag _ w;rintro _ _ _ ⟨-,⟨_,_⟩,_,b,_⟩;simp[go_sem,(b 9 rfl).trans f9];exact rfl
 apply StepsF.exact rfl rfl rfl;exact λ_ _ h=>h;exact λw=>ag _ w;rintro _ _ _ ⟨-,⟨_,b⟩,_,_,c⟩;have am:=aB (c.1 rfl).2;have c0:=(b.cell (p:=⟨b9,0,none⟩) a1).trans x0;simp[go_sem,am,c0];exact rfl
 apply StepsF.exact rfl rfl rfl;exact λ_ _ h=>h;exact λw=>ag _ w;rintro _ _ _ ⟨-,⟨_,_⟩,_,b,_⟩;simp[go_sem,(b 0 rfl).trans f0];exact rfl
 apply StepsF.exact rfl rfl rfl;exact λ_ _ h=>h;exact λw=>ag _ w;rintro _ _ _ ⟨-,⟨_,_⟩,_,b,_⟩;simp[go_sem,(b 1 rfl).trans f1];exact rfl
 apply StepsF.exact rfl rfl rfl;exact λ_ _ h=>h;exact λw=>ag _ w;rintro _ _ _ ⟨-,⟨_,_⟩,_,b,_⟩;simp[go_sem,(b 8 rfl).trans f8];exact rfl
 refine StepsF.any (λL v w=>v=.agg #[.string (kC K.p.aA[i] (K.p.aA[i]).bC[j]),.int .i64 ((K.p.aA[i]).bC[j]).aS,.int .i64 0]) rfl rfl ?_ ?_ ?_
 .exact λ_ _ _ _ _ _ _ V=>V
 .rintro L a w ⟨_,⟨_,U⟩,_,_,D⟩
  have ao:=aB (D.1 rfl).2;have ap:=aB (D.2.1 rfl).2;have aq:=aB (D.2.2.1 rfl).2;refine Oper.wp_enter (f:=82) (args:=#[.pointer (some ⟨K.q,0,none⟩),.int .i64 (i:Nat),.int .i64 (j:Nat)]) (w':=w) ?_ ?_
  .simp[go_sem,ao,ap,aq]
  .refine(vz aw w (hB.below U) i j hi hj).mono ?_
   rintro o w' ⟨rfl,hb⟩;exact⟨_,rfl,_,rfl,λe=>(by cases e),rfl,U.trans (hb.mono U.size),hb⟩
 apply StepsF.exact rfl rfl rfl;exact λ_ _ h=>h;exact λw=>ag _ w;rintro _ _ _ ⟨-,⟨_,_⟩,_,_,b⟩;simp[go_sem,aB (b.1 rfl).2];exact rfl
 refine StepsF.any (λL v w=>JQ G w v (EE K.p.aA[i] m (K.p.aA[i]).bC[j])) rfl rfl ?_ ?_ ?_
 .exact λ_ _ _ _ _ _ hR V=>V.on (vK.below hR)
 .rintro L a w ⟨_,⟨_,U⟩,_,_,D⟩
  have al:=aB (D.1 rfl).2;have an:=aB (D.2.1 rfl).2;have ar:=aB (D.2.2.1 rfl).2;refine Oper.wp_enter (f:=195) (args:=#[.slice sp.dO m.length sp.df,.string d.aT,.string (kC K.p.aA[i] (K.p.aA[i]).bC[j])]) (w':=w) ?_ ?_
  .simp[go_sem,al,an,ar]
  .refine(Cc w sp m ((a7.below U).more U.size) a3 d.aT _ a6).mono ?_
   rintro o w' ⟨a8,m',rfl,a4,a5,hb⟩;refine⟨_,rfl,_,rfl,λe=>(by cases e),Ru a5 (λb hb=>aI (hG b hb) U.size) ?_,U.trans (hb.mono U.size),hb⟩;rw[a4,hd]
   rfl
 refine StepsF.any (λL v w=>JQ G w v (EE K.p.aA[i] m (K.p.aA[i]).bC[j])) rfl rfl ?_ ?_ ?_
 .exact λ_ _ _ _ _ _ hR V=>V.on (vK.below hR)
 .rintro L a w ⟨_,⟨_,U⟩,_,_,D⟩
  have V:=(D.1 rfl).2;refine Oper.wp_value (v:=a.eval (.tmp 55)) (w':=w) ?_ ?_
  .simp[go_sem,Act.eval]
  .exact⟨_,rfl,λe=>(by cases e),V,U,ag _ w⟩
 rintro L a w _ ⟨⟨-,U⟩,O,hv⟩;exact⟨rfl,O.1.trans ad,O.2.1,O.2.2,hv 9,U⟩
theorem Ah.put{K:jq}{G:Nat->Bool}{w w':World}{n:Nat}{g:Int->Option (Option Addr × Nat × Nat)}(V:∀i x,g i=some x->∃(j:Nat) (m:List aa),i=j/\j<K.p.aA.length/\x.2.1=m.length/\gq w.heap.size (fu G w) ⟨x.1,x.2.2⟩ m/\m.map aJ=(eU K.p j).map aJ)
  (hk:vK G w w') {i:Nat}(hi:i<K.p.aA.length) {sp:Sp}{m:List aa}(hr:gq w.heap.size (fu G w) sp m) (hm:m.map aJ=(eU K.p i).map aJ)
  (h:iZ UK 3 w' K.bd (n+1) (Bb (mg g) (.int .i64 i) (sp.dO,m.length,sp.df))):Ah G K w':=by
 rw[uY]at h;have D:∀j x,(if j=(i:Int) then some (sp.dO,m.length,sp.df) else g j)=some x->∃(O:Nat) (m:List aa),j=O/\O<K.p.aA.length/\x.2.1=m.length/\gq w'.heap.size (fu G w') ⟨x.1,x.2.2⟩ m/\m.map aJ=(eU K.p O).map aJ:=λj x hx=>by
  by_cases e:j=(i:Int)
  .rw[if_pos e]at hx
   have U:=iL hx;subst U;exact⟨i,m,e,hi,rfl,hr.move hk.1 hk.2,hm⟩
  .rw[if_neg e]at hx
   obtain⟨O,m',a,b,c,d,e⟩:=V j x hx;exact⟨O,m',a,b,c,d.move hk.1 hk.2,e⟩
 exact⟨_,_,Eb h GM (λj x hx=>by obtain⟨m,_,a,b,_⟩:=D j x hx;exact⟨m,a,b⟩),af _,D⟩
theorem Qu(q:bG)(ds:List bO):∀l:List aa,aV (ds.foldl (EE q) l)=aV l:=by
 induction ds with
 |nil=>intro l;rfl
 |cons d ds D =>
  intro l;rw[il,D];unfold EE;exact Dn _ _ l
theorem Ol{q:bG}{ds:List bO}{j:Nat}(h:j<ds.length)(l:List aa):(ds.take (j+1)).foldl (EE q) l=EE q ((ds.take j).foldl (EE q) l) ds[j]:=by
 rw[aG h,List.foldl_append]
 rfl
theorem kD{P:Program}{Q:Exit->Act->World->Prop}{a:Act}{w:World}{C C':Code}(h:C=C')(D:C'.wp P Q a w):C.wp P Q a w:=by subst h;exact D
theorem Rb{K:jq}(ao:fF K.p){i:Nat}(hi:i<K.p.aA.length)(cJ:aV (eU K.p i)<=20000)(V:rM K (fU K.p i).eY):CO K i:=by
 intro w G hG hB hD hp;have hq:fU K.p i=K.p.aA[i]:=by unfold fU;rw[aX hi];rfl
 have hne:K.p.aA≠[]:=λh=>by rw[h]at hi;exact absurd hi (dX _)
 have cW:K.p.aA.length<=16:=(ao.few hne).1;have aE:=(ao.proc i hi).1.few;obtain⟨g,o,eA,hg,hc⟩:=hB.prog.prow.row (by omega);have bm:=hc i hi;have cr:=hp.aA _ (ak hi);have ba:=hB.prog.aA _ (ak hi);have a6:=Ih ao i hi;have cq:∀(j:Nat) (hj:j<(K.p.aA[i]).bC.length),(kC K.p.aA[i] (K.p.aA[i]).bC[j]).size<=maxLen:=λj hj=>by
  obtain⟨u1,_,u3⟩:=ao.undP hne (ak hi);have s1:=qm u1;have s2:=qm (u3 _ (ak hj)).1;unfold kC;rw[lU,lU];have e1:(K.p.aA[i]).aT.size<=16:=by simpa using s1
  have e2:((K.p.aA[i]).bC[j]).aT.size<=16:=by simpa using s2
  show(K.p.aA[i]).aT.size+1+_<=9223372036854775807;omega
 have cH:=ae λ(j:Nat) (hj:j<(K.p.aA[i]).bC.length)=>hj
 rw[hq]at V a6;have ck:aV (fG K.p (eU K.p) (K.p.aA[i]).eY)<=20000:=by
  have e1:aV (eU K.p i)=aV (fG K.p (eU K.p) (K.p.aA[i]).eY):=by
   rw[a6,qc]
  omega
 obtain⟨q,a7⟩:∃q,K.p.aA[i]=q:=⟨_,rfl⟩;have k1:w.cell? ⟨g,o+i*3+1,none⟩=some (.slice q.ps.dO q.bC.length q.ps.df):=by rw[<-a7];exact bm 1 _ rfl
 have k2:w.cell? ⟨g,o+i*3+2,none⟩=some (.slice q.bs.dO q.eY.length q.bs.df):=by rw[<-a7];exact bm 2 _ rfl
 have bo:keyOf Tryz.prog 3 (.int .i64 (i:Int))=some (.int .i64 (i:Int)):=Tp (by
  have:(i:Int)<=1000:=by omega
  simp only[Lit.wf,bg,aU];exact⟨by show(-9223372036854775808:Int)<=i;omega,by show(i:Int)<=9223372036854775807;omega⟩)
 have HM:=ae hD.isMap;obtain⟨n,f,aw,hn,hf⟩:=hD.ex;have ap:=aw.look_ok GM Tryz.underlying184 bo;have an:=hB.c13;have cI:=hB.c23;rw[eA]at an;have cR:(0:Int)<=(i:Int):=by omega
 have cS:(i:Int)<(K.p.aA.length:Int):=by omega
 have HB:=ae hB;have HD:=ae hD;have HP:=ae hp;have HG:=ae hG;have b2:=ae V;have b1:=ae a6;have ca:=ae cr.eY;have bj:=ae ba.bC;have c7:=ae bo;have cC:=ae cq;have cD:=ae ao;have HI:=ae hi;have O:=ae a7;have b4:=ae ck;have b8:=ae aE;have D:=ae (And.intro hg (And.intro k1 an));clear hB hD hp hG V a6 hc bm cr ba hq bo cq ao a7 hne ck aE cH cJ;cases hfi:f i with
 |some x =>
  obtain⟨j,m,hj,cV,cx,hr,hm⟩:=hf _ _ hfi;obtain rfl:i=j:=by omega
  obtain⟨xa,xn,xc⟩:=x;change xn=m.length at cx;subst cx;have a8:(Instr.lookup 184 (.map (some K.bd)) (.int .i64 (i:Int)) true).run Tryz.prog w=.ok (.tuple #[.slice xa m.length xc,.bool true]) w:=by
   have e1:mg f (.int .i64 (i:Int))=some (xa,m.length,xc):=hfi;rw[e1]at ap;exact ap
  have cG:=ae hr;have cA:=ae hm;clear ap hfi hf aw hn eA hr hm k1 k2 an hg D O;go_enter Tryz.func146,Tryz.ntmps146
  go_wp2_with fail
  go_ret
  exact⟨⟨xa,xc⟩,m,rfl,cA.o,cG.o,Mk.refl,HD.o⟩
 |none =>
  have a8:(Instr.lookup 184 (.map (some K.bd)) (.int .i64 (i:Int)) true).run Tryz.prog w=.ok (.tuple #[.slice none 0 0,.bool false]) w:=by
   have e1:mg f (.int .i64 (i:Int))=none:=hfi;rw[e1]at ap;exact ap
  clear ap hfi hf aw hn eA;go_enter Tryz.func146,Tryz.ntmps146
  go_wp2_with fail
  clear an cI k1 k2 a8 hg;rw[O.o]at b2 ca;refine(b2.o w q.bs G HG.o HB.o HD.o HP.o ca.o).mono ?_;rintro o1 w1 ⟨cM,m1,rfl,cn,ct,ad,cf⟩;have b5:=ae ad;have b3:=ae cf;have b6:=ae cn;have cb:=ae ct;have cj:=D.o.1;have k1:=(ad.cell (HM.o.no D.o.2.1) cj).trans D.o.2.1;have an:=(ad.cell (HM.o.no D.o.2.2) (dM HB.o.blk).1).trans D.o.2.2;clear cn ct ad cf D cj;rw[O.o]at bj b4 b8 b1;go_upto_region 6 with fail
  clear k1 an;go_wp2_with fail
  go_loopw[42,7] (λbt s7 wr=>∃(j:Nat) (sp:Sp) (m:List aa),j<=q.bC.length/\bt=.int .i64 j/\s7=.slice sp.dO m.length sp.df/\m.map aJ=((q.bC.take j).foldl (EE q) (fG K.p (eU K.p) q.eY)).map aJ/\gq wr.heap.size (fu G wr) sp m/\Mk K.bd w wr/\Ah G K wr) (λbt _ _=>q.bC.length - (intOf bt).toNat)
  case atStart=>exact⟨0,cM,m1,aH _,rfl,rfl,b6.o,cb.o,b5.o,b3.o⟩
  case round =>
   clear b6 cb b5 b3;obtain⟨j,sp,m,hj,rfl,rfl,hm,hr,cp,hd⟩:=hrel;have a4:=ae hm;have a5:=ae hr;have am:=ae cp;have al:=ae hd;clear hm hr cp hd;have cT:(0:Int)<=(j:Int):=by omega
   by_cases aq:j<q.bC.length
   .obtain⟨gd,od,eD,_,ce⟩:=(bj.o.row.cells (mQ am.o HM.o)).row (by omega)
    have ab:=ce j aq;have cU:(j:Int)<(q.bC.length:Int):=by omega
    have cQ:=bj.o.row.few;have cc:=ae (Ol (q:=q) aq (fG K.p (eU K.p) q.eY));obtain⟨d,ar⟩:∃d,q.bC[j]=d:=⟨_,rfl⟩;have c4:=ae ar;have p0:wr.cell? ⟨gd,od+j*3,none⟩=some (.string d.aT):=by rw[<-ar];simpa using ab 0 _ rfl
    have p1:wr.cell? ⟨gd,od+j*3+1,none⟩=some (.int .i64 d.aS):=by rw[<-ar];exact ab 1 _ rfl
    have p2:wr.cell? ⟨gd,od+j*3+2,none⟩=some (.int .i64 d.size):=by rw[<-ar];exact ab 2 _ rfl
    have U:=jc wr (.cells d.r 50);have cd:=ae (gM wr (.cells d.r 50));have cy:=ae U;have b0:=ae ((HB.o.on am.o HM.o HB.o.ne1.symm).below U);have bk:=ae (a5.o.move U.size (mR U));have be:=ae (al.o.below U);have bh:=ae (am.o.trans (Mk.of U al.o.isMap.lt));clear ce ab U ar a5 al am;rw[eD];clear eD;go_upto_region 8 with fail
    clear p0 p1 p2;generalize wr.alloc (.cells d.r 50)=W5 at *;generalize wr.heap.size=b9 at *;have cl:aV m<=20000:=by rw[Ko a4.o,Qu];exact b4.o
    refine dK ?_ (kD (C':=.region 8 opsB8 true) (by kernel_rfl) (Ur (G:=G) rfl b9 i j d sp m cD.o HI.o (by rw[O.o];exact aq) (by simp only[O.o];exact c4.o.symm) rfl rfl rfl rfl rfl cd.o (λb hb=>aI (HG.o b hb) bh.o.size) b0.o ⟨bk.o.row.cells G6,λt ht=>(bk.o.ok t ht).cells G6⟩ cl (cC.o j (by rw[O.o];exact aq))));rintro ex a9 w7 ⟨rfl,bc,cg,cm,⟨bw,m7,e7,co,cv⟩,bl⟩;obtain⟨F,hF,ci⟩:=nu bc cg cm rfl [7,47,48,49,50,51,52,53,54,55] rfl;rw[ci];simp only[Oz,OA,OB,Oy,OC];have g7:F 7=.slice bw.dO m7.length bw.df:=(hF 7).trans e7;rw[g7];clear hF ci cm bc cg g7;have c8:Hid (m7.map aJ=((q.bC.take (j+1)).foldl (EE q) (fG K.p (eU K.p) q.eY)).map aJ):=ae (by
     rw[cc.o,co];simp only[O.o];exact Rz a4.o)
    have cF:=ae cv;have c6:=ae (bh.o.trans (Mk.of bl be.o.isMap.lt));have c3:=ae (be.o.below bl);clear co cv bl bk be bh b0 cd cy cc a4 cl;go_wp2_with fail
    exact⟨⟨j+1,bw,m7,aq,rfl,rfl,c8.o,cF.o,c6.o,c3.o⟩,by simp only[intOf];omega⟩
   .obtain rfl:j=q.bC.length:=by omega
    have b7:Hid (m.map aJ=(eU K.p i).map aJ):=ae (by
     rw[a4.o,bW,b1.o]
     rfl)
    obtain⟨n1,f1,a1,cL,ch⟩:=al.o.ex;have cN:=(HB.o.on am.o HM.o HB.o.ne1.symm).c23;obtain⟨w2,cw,a3,br⟩:=a1.store GM Tryz.underlying184 (by unfold maxLen;omega) c7.o (sp.dO,m.length,sp.df);have cP:(Instr.mapUpdate 184 (.map (some K.bd)) (.int .i64 (i:Int)) (.slice sp.dO m.length sp.df)).run Tryz.prog wr=.ok () w2:=cw;have bi:=ae (Mk.turned br);have c0:=ae (Ah.put ch (vK.mk (Mk.turned br) al.o.isMap) HI.o a5.o b7.o a3);have cE:=ae (a5.o.move bi.o.size (FC bi.o al.o.isMap));have c5:=ae (am.o.trans bi.o);clear a1 cL ch cw a3 br aq;go_wp2_with fail
    go_ret
    exact⟨sp,m,rfl,b7.o,cE.o,c5.o,c0.o⟩
section
def bY:ByteArray:=⟨#[121]⟩
def bZ:ByteArray:=⟨#[122]⟩
def bQ:ByteArray:=⟨#[113]⟩
def bR:ByteArray:=⟨#[114]⟩
def bV:ByteArray:=⟨#[118]⟩
def bP:ByteArray:=⟨#[112]⟩
def TW(w:Int)(U D O:Sp):List aa:=[fw U (aZ bZ) (rU 3 (aZ bY) (cO 1 w) D),ji O bY (cO 0 w)]
def qV(w:Int):bG:=⟨bQ,Sp.none,[⟨bY,w,0⟩,⟨bZ,1,0⟩],Sp.none,TW w Sp.none Sp.none Sp.none⟩
def RP:aa:=dN Sp.none bQ [aZ bY,cO 0 1]
def QW:aa:=dN Sp.none bP [aZ bY]
def TV(es ts:Sp)(e:ah)(l:List aa):aa:=.mk 6 ⟨#[]⟩ es [e] 0 ts l Sp.none []
def NP(w:Int):aa:=TV Sp.none Sp.none (aZ bY) [dN Sp.none bQ [cO 1 w,cO 1 1]]
def rV(w:Int)(hasP:Bool):bG:=⟨bR,Sp.none,[⟨bY,w,0⟩],Sp.none,RP::(if hasP=true then[QW] else[])++[NP w]⟩
def QX:aa:=dN Sp.none bR [aZ bV]
def Sd:aa:=dN Sp.none bQ [aZ bV,cO 0 1]
def qK(D:Nat):List aa:=if D / 2 % 3=0 then[QX] else if D / 2 % 3=1 then[Sd] else[]
def uP(p:aj)(hasP:Bool)(D:Nat):aj:={ p with aA:=if D % 2=1 then(p.aA++[rV p.aS hasP,qV p.aS]).reverse else p.aA++[rV p.aS hasP,qV p.aS],eX:=p.eX++qK D }
theorem ql(lo:Nat)(W:World)(s:ByteArray)(D:s.size<=maxLen):fV lo W (aZ s):=.mk _ (show(0:Int)<=2/\(2:Int)<=255 by decide) (show(0:Int)<=0/\(0:Int)<=255 by decide) (show(0:Int)<=0/\(0:Int)<=4294967295 by decide) (show(Lit.int .i64 0).wf=true by decide) D RowOf.nil λ_ h=>absurd h (by simp[aZ,ah.cu])
theorem ui(lo:Nat)(W:World)(x wd:Int)(hx:0<=x/\x<=4294967295)(D:(Lit.int .i64 wd).wf=true):fV lo W (cO x wd):=.mk _ (show(0:Int)<=1/\(1:Int)<=255 by decide) (show(0:Int)<=0/\(0:Int)<=255 by decide) hx D (by show(0:Nat)<=maxLen;decide) RowOf.nil λ_ h=>absurd h (by simp[cO,ah.cu])
theorem tN{lo:Nat}{W:World}{s:ByteArray}{sp:Sp}{l:List ah}(D:s.size<=maxLen)(hr:RowOf W.heap.size (gP lo W) sp 6 ah.cells l)(hx:∀x∈l,fV lo W x):nk lo W (dN sp s l):=
 jP hr hx gG gG (show(0:Int)<=8/\(8:Int)<=255 by decide) (show(Lit.int .i64 0).wf=true by decide) D
theorem Rq{lo:Nat}{W:World}{es ts:Sp}{e:ah}{l:List aa}(hr:RowOf W.heap.size (gP lo W) es 6 ah.cells [e])(hx:fV lo W e)(ht:j4 lo W ts l):nk lo W (TV es ts e l):=
 jP hr (λx h=>by rw[List.mem_singleton.1 h];exact hx) ht gG (show(0:Int)<=6/\(6:Int)<=255 by decide) (show(Lit.int .i64 0).wf=true by decide) (show(0:Nat)<=maxLen by decide)
structure EK(bb:Nat)(g:Option Nat)(W0 W:World):Prop where
 os:W.os=W0.os
 tape:W.tape=W0.tape
 output:W.output=W0.output
 size:W0.heap.size<=W.heap.size
 block:∀b,b<W0.heap.size->b≠bb->g≠some b->W.heap[b]?=W0.heap[b]?
section
variable {bb:Nat}{g:Option Nat}{W0 W W':World}
theorem EK.of(h:Below W0.heap.size W0 W):EK bb g W0 W:=⟨h.os,h.tape,h.output,h.size,λb hb _ _=>h.block b hb⟩
theorem EK.on(h:EK bb g W0 W)(hb:Below W.heap.size W W'):EK bb g W0 W':=⟨hb.os.trans h.os,hb.tape.trans h.tape,hb.output.trans h.output,ai h.size hb.size,λb h1 D O=>(hb.block b (aI h1 h.size)).trans (h.block b h1 D O)⟩
theorem EK.grown(h:EK bb g W0 W)(hb:W.grownBy W' g):EK bb g W0 W':=⟨hb.os.trans h.os,hb.tape.trans h.tape,hb.output.trans h.output,ai h.size hb.size,λb h1 O D=>(hb.block b (aI h1 h.size) λe=>D e.symm).trans (h.block b h1 O D)⟩
theorem EK.set(h:EK bb g W0 W)(i:Nat)(v:Value):EK bb g W0 (W.setCell ⟨bb,i,none⟩ v):=⟨h.os,h.tape,h.output,by simpa using h.size,λb h1 D O=>(aN _ _ _ _ D).trans (h.block b h1 D O)⟩
theorem EK.below(h:EK bb g W0 W){n:Nat}(h1:n<=bb)(D:∀b,g=some b->n<=b)(O:n<=W0.heap.size):Below n W0 W:=⟨h.os,h.tape,h.output,ai (af _) h.size,λb hb=>h.block b (by omega) (by omega) λe=>by have:=D _ e;omega⟩
end
def qF(lo:Nat)(g:Option Nat)(bb:Nat)(W:World)(s:aa):Prop:=lV W.heap.size (gP lo (jZ g (mask bb W))) s
theorem qW{lo:Nat}{g:Option Nat}{bb:Nat}{W:World}{p:Addr}{u:Value}:(gP lo (jZ g (mask bb W))).cell? p=some u↔lo<=p.block/\g≠some p.block/\p.block≠bb/\W.cell? p=some u:=by
 rw[iJ,show(mask bb W).cell? p=some u↔_ from Dw (g:=some bb)]
 constructor
 .rintro⟨h1,D,O,U⟩
  exact⟨h1,D,λe=>O (by rw[e]),U⟩
 .rintro⟨h1,D,O,U⟩
  exact⟨h1,D,λe=>O (iL e).symm,U⟩
section
variable {lo bb:Nat}{g:Option Nat}{W W':World}{s:aa}
theorem qF.below(h:qF lo g bb W s)(hb:Below W.heap.size W W'):qF lo g bb W' s :=
 (lV.cells h λ_ _ hp hc=>by
  obtain⟨h1,D,O,U⟩:=qW.1 hc;exact qW.2 ⟨h1,D,O,(hb.cell hp).trans U⟩).more hb.size
theorem qF.grow{g':Option Nat}(h:qF lo g bb W s)(U:W.grownBy W' g)(D:g'=g\/g'=some W.heap.size):qF lo g' bb W' s :=
 (lV.cells h λp u hp hc=>by
  obtain⟨h1,O,V,h4⟩:=qW.1 hc;refine qW.2 ⟨h1,?_,V,(aM (U.block _ hp (λe=>O e.symm))).trans h4⟩;rcases D with rfl|rfl
  .exact O
  .intro e
   have:=iL e;omega).more U.size
theorem qF.set(h:qF lo g bb W s)(i:Nat)(v:Value):qF lo g bb (W.setCell ⟨bb,i,none⟩ v) s:=by
 unfold qF at h ⊢;rw[l6];have e:(W.setCell ⟨bb,i,none⟩ v).heap.size=W.heap.size:=by simp
 rw[e];exact h
theorem nk.tob{lo':Nat}(h:nk lo W s)(O:∀b,g=some b->b<lo)(hb:bb<lo)(hl:lo'<=lo):qF lo' g bb W s :=
 lV.cells h λp u _ hc=>by
  obtain⟨h1,D⟩:=bJ.1 hc;exact qW.2 ⟨by omega,λe=>by have:=O _ e;omega,by omega,D⟩
theorem kQ{a b:Bool}(h:a=true->b=true)(hb:b=false):a=false:=by
 cases a with
 |false=>rfl
 |true=>rw[h rfl]at hb;cases hb
theorem uQ{L:Nat->Bool}{C:List (Nat × Nat)}{k:Nat}(h:∀p∈C,L p.1=true->L p.2=true)(hc:(C.all λp=>p.1 != k || L p.2)=true):∀p∈C,pI L k p.1=true->pI L k p.2=true:=λp hp e=>by
 by_cases D:p.2=k
 .rw[D];exact bU
 .rw[av D]
  by_cases h1:p.1=k
  .have:=List.all_eq_true.1 hc p hp
   simpa[h1]using this
  .rw[av h1]at e
   exact h p hp e
end
structure Gd(lo bb f:Nat)(ty:TypeId)(cs:Array Value)(A:Option Addr)(c:Nat)(cur:List aa)(W:World):Prop where
 ne:ty≠43
 box:W.heap[bb]?=some (.cells (cs.setIfInBounds f (.slice A cur.length c)) ty (0,0))
 own:dz lo W 43 6 aa.cells (.slice A cur.length c) cur
 el:∀s∈cur,qF lo (Value.slice A cur.length c).ownBlock bb W s
theorem Gd.on{lo bb f:Nat}{ty:TypeId}{cs:Array Value}{A:Option Addr}{c:Nat}{cur:List aa}{W W':World}(h:Gd lo bb f ty cs A c cur W)(hb:Below W.heap.size W W'):Gd lo bb f ty cs A c cur W' :=
 ⟨h.ne,(hb.block _ (dM h.box).1).trans h.box,h.own.on hb,λs D=>(h.el s D).below hb⟩
structure SB(C:List (Nat × Nat))(kA kS lo bb f:Nat)(ty:TypeId)(cs:Array Value)(A:Option Addr)(c:Nat)(cur:List aa)(t:aa)(W0:World)(L:Nat->Bool)(w:World):Prop where
 a:L kA=false->L kS=false->Gd lo bb f ty cs A c cur w
 kept:EK bb (Value.slice A cur.length c).ownBlock W0 w
 b:L kS=false->w.heap[bb]?=some (.cells (cs.setIfInBounds f (.slice A cur.length c)) ty (0,0))
 d:L kS=true->∃A' c' s,aJ s=aJ t/\Gd lo bb f ty cs A' c' (cur++[s]) w/\((Value.slice A' (cur++[s]).length c').ownBlock=(Value.slice A cur.length c).ownBlock\/∃b,(Value.slice A' (cur++[s]).length c').ownBlock=some b/\W0.heap.size<=b)
 ch:∀p∈C,L p.1=true->L p.2=true
section
variable {C:List (Nat × Nat)}{kA kS lo bb f c:Nat}{ty:TypeId}{cs:Array Value}{A:Option Addr}{cur:List aa}{t:aa}{W0 w w':World}{L:Nat->Bool}{k:Nat}
theorem SB.flag(hk:k≠kA/\k≠kS)(hc:(C.all λp=>p.1 != k || L p.2)=true)(h:SB C kA kS lo bb f ty cs A c cur t W0 L w):SB C kA kS lo bb f ty cs A c cur t W0 (pI L k) w:=by
 have O:pI L k kA=L kA:=av (Ne.symm hk.1);have D:pI L k kS=L kS:=av (Ne.symm hk.2);exact⟨by rw[O,D];exact h.a,h.kept,by rw[D];exact h.b,by rw[D];exact h.d,uQ h.ch hc⟩
theorem SB.world(h:SB C kA kS lo bb f ty cs A c cur t W0 L w)(O:L kA=false)(D:L kS=false)(hb:Below w.heap.size w w'):SB C kA kS lo bb f ty cs A c cur t W0 L w':=by
 have v:=(h.a O D).on hb;exact⟨λ_ _=>v,h.kept.on hb,λ_=>v.box,λe=>(by rw[D]at e;cases e),h.ch⟩
theorem SB.start(h:Gd lo bb f ty cs A c cur W0):SB C kA kS lo bb f ty cs A c cur t W0 (λ_=>false) W0.drew :=
 ⟨λ_ _=>h.on (ag _ _).drew,.of (ag _ _).drew,λ_=>(h.on (ag _ _).drew).box,λh=>(by cases h),λ_ _ h=>(by cases h)⟩
end
def RB(kA kS i:Nat)(w w':World):Prop:=i=kA\/i=kS\/Below w.heap.size w w'
theorem Ls{kA kS k:Nat}{P:Value->World->Prop}(h:∀{v:Value}{w w':World},Below w.heap.size w w'->P v w->P v w'):vD (RB kA kS) k (λL v w=>L kA=false->L kS=false->P v w):=λi L v w w' _ U V D O=>by
 rcases U with rfl|rfl|U
 .rw[bU]at D;cases D
 .rw[bU]at O;cases O
 .exact h U (V (rA D) (rA O))
theorem R5{kA kS:Nat}{P:Value->World->Prop}(h:∀{v:Value}{w w':World},Below w.heap.size w w'->P v w->P v w'):vD (RB kA kS) kA (λL v w=>L kS=false->P v w):=λi L v w w' hi O U D=>by
 rcases O with rfl|rfl|O
 .exact absurd rfl hi
 .rw[bU]at D;cases D
 .exact h O (U (rA D))
def ME(lo:Nat)(l:List ah)(v:Value)(w:World):Prop:=∃b,v=.slice (some ⟨b,0,none⟩) l.length l.length/\RowOf w.heap.size (gP lo w) ⟨some ⟨b,0,none⟩,l.length⟩ 6 ah.cells l
def MG(lo:Nat)(t:aa)(v:Value)(w:World):Prop:=∃s:aa,v=.agg s.r/\aJ s=aJ t/\nk lo w s
def MF(lo:Nat)(t:aa)(v:Value)(w:World):Prop:=∃(b:Nat) (s:aa),v=.slice (some ⟨b,0,none⟩) 1 1/\aJ s=aJ t/\nk lo w s/\RowOf w.heap.size (gP lo w) ⟨some ⟨b,0,none⟩,1⟩ 6 aa.cells [s]
def OP(lo hi bb:Nat)(A:Option Addr)(c:Nat)(cur:List aa)(t:aa)(v:Value)(w:World):Prop:=∃D O s,v=.slice D (cur++[s]).length O/\aJ s=aJ t/\dz lo w 43 6 aa.cells (.slice D (cur++[s]).length O) (cur++[s])/\(∀x∈cur++[s],qF lo (Value.slice D (cur++[s]).length O).ownBlock bb w x)/\((Value.slice D (cur++[s]).length O).ownBlock=(Value.slice A cur.length c).ownBlock\/∃b,(Value.slice D (cur++[s]).length O).ownBlock=some b/\hi<=b)
section
variable {lo hi bb:Nat}{w w':World}{v:Value}
theorem qE(hb:Below w.heap.size w w'):∀(p:Addr) (u:Value),p.block<w.heap.size->(gP lo w).cell? p=some u->(gP lo w').cell? p=some u:=λ_ _ hp hc=>bJ.2 ⟨(bJ.1 hc).1,(hb.cell hp).trans (bJ.1 hc).2⟩
theorem ME.on{l:List ah}(hb:Below w.heap.size w w')(h:ME lo l v w):ME lo l v w':=h.imp λ_ h=>⟨h.1,(h.2.cells (qE hb)).more hb.size⟩
theorem MG.on{t:aa}(hb:Below w.heap.size w w')(h:MG lo t v w):MG lo t v w':=h.imp λ_ h=>⟨h.1,h.2.1,h.2.2.below hb⟩
theorem MF.on{t:aa}(hb:Below w.heap.size w w')(h:MF lo t v w):MF lo t v w':=h.imp λ_ h=>h.imp λ_ h=>⟨h.1,h.2.1,h.2.2.1.below hb,(h.2.2.2.cells (qE hb)).more hb.size⟩
theorem OP.on{A:Option Addr}{c:Nat}{cur:List aa}{t:aa}(hb:Below w.heap.size w w')(h:OP lo hi bb A c cur t v w):OP lo hi bb A c cur t v w':=h.imp λ_ h=>h.imp λ_ h=>h.imp λ_ h=>⟨h.1,h.2.1,h.2.2.1.on hb,λx hx=>(h.2.2.2.1 x hx).below hb,h.2.2.2.2⟩
theorem om{α:Type}{k:Nat}{t:TypeId}{fr:Nat × Nat}{enc:α->List Value}{x:α}{b:Nat}(h:w.heap[b]?=some (.cells (enc x).toArray t fr))(hb:lo<=b):RowOf w.heap.size (gP lo w) ⟨some ⟨b,0,none⟩,1⟩ k enc [x]:=(row_one h).low' λa D=>by cases D;exact hb
theorem sG{α:Type}{k:Nat}{t:TypeId}{fr:Nat × Nat}{enc:α->List Value}{x y:α}{b:Nat}(hk:(enc x).length=k)(h:w.heap[b]?=some (.cells (enc x++enc y).toArray t fr))(hb:lo<=b):RowOf w.heap.size (gP lo w) ⟨some ⟨b,0,none⟩,2⟩ k enc [x,y]:=(pM hk h).low' λa D=>by cases D;exact hb
theorem rP(sp:Sp)(s:ByteArray)(l:List ah):aJ (dN sp s l)=aJ (dN Sp.none s l):=by unfold dN;rw[dS,dS]
end
end
def OI(p:aj)(E:Env)(M:jr)(hasP:Bool)(D:Nat):Prop:=hasP=true->M.iR=false ->
 look (eG p) pB=some (D:Int)/\(∃q d,p.aA[D]?=some q/\q.bC=[d]/\d.aS=M.w)/\(E.within<0\/kF p D E.within.toNat=false)
theorem WT.codesJ{M:jr}(D:M.ok){p:aj}{E:Env}(hE:EH p E M){hasP:Bool}{pi:Nat}(hC:OI p E M hasP pi){d:Nat}{s:aa}(h:WT M hasP d s):∀k:Nat,k+d<=30->jF (lF p E s k):=by
 induction h with
 |write O hb =>
  intro k hk;rw[iH];refine .cons (ig rfl ?_ (by omega)) ?_
  .have e:∀sp a b,jh p E (fw sp a b)=if iT (gB p E [a,b] 1) p.aS=true then 322 else 0:=λ_ _ _=>rfl
   rw[e];simp only[gB,dm,bD,(hb.aS D hE).1,hE.aS,gK]
   rfl
  .simp only[fw,aa.bf,aa.gy,aa.iD,oC,je,aP]
   exact(O.codes D hE 1 (by omega)).append (hb.codes D hE 1 (by omega))
 |flush ab =>
  intro k hk;rw[iH];refine .cons ?_ ?_
  .rcases ab with rfl|rfl<;>exact ig rfl rfl (by omega)
  .simp only[yo,aa.bf,aa.gy,aa.iD,je,aP,fJ]
   exact .nil
 |set hm O =>
  intro k hk;have hl:=zR hm;have hf:=hE.find _ hl.1;have ad:=hl.2;simp only at hf ad;rw[iH];refine .cons (ig rfl ?_ (by omega)) ?_
  .have e:∀sp s ex,jh p E (ji sp s ex)=if(dJ p E s).bI=0\/(dJ p E s).bI=1\/(dJ p E s).bI=4 then 321
     else if iT (gB p E [ex] 0) (dJ p E s).aS=true then 322 else 0:=λ_ _ _=>rfl
   rw[e,hf,if_neg (by omega)];simp only[gB,bD,(O.aS D hE).1,gK]
   rfl
  .simp only[ji,aa.bf,aa.gy,aa.iD,jL,je,aP]
   exact O.codes D hE 1 (by omega)
 |put O hb =>
  intro k hk;rw[iH];refine .cons (ig rfl ?_ (by omega)) ?_
  .have e:∀sp s ex,jh p E (.mk 2 s sp ex 0 Sp.none [] Sp.none [])=if(dJ p E s).bI≠4 then 321
     else if iT (gB p E ex 1) (dJ p E s).aS=true then 322 else 0:=λ_ _ _=>rfl
   rw[e,hE.arr,if_neg (by simp)];simp only[gB,bD,dm,(hb.aS D hE).1,gK]
   rfl
  .simp only[aa.bf,aa.gy,aa.iD,oC,je,aP]
   exact(O.codes D hE 1 (by omega)).append (hb.codes D hE 1 (by omega))
 |cond he _ _ _ _ U al =>
  intro k hk;rw[iH];refine .cons (ig rfl rfl (by omega)) ?_;simp only[aa.bf,aa.gy,aa.iD,jL];exact(he.codes D hE 1 (by omega)).append ((nU λs V=>U s V _ (by omega)).append (nU λs V=>al s V _ (by omega)))
 |loop b1 b2 he _ _ U =>
  intro k hk;rw[iH];refine .cons (ig rfl ?_ (by omega)) ?_
  .have e:∀sp ex b ts th,jh p E (.mk 7 ⟨#[]⟩ sp ex b ts th Sp.none [])=if b<1\/b>16 then 329 else 0:=λ_ _ _ _ _=>rfl
   rw[e,if_neg (by omega)]
  simp only[aa.bf,aa.gy,aa.iD,jL,je,aP];exact(he.codes D hE 1 (by omega)).append (nU λs V=>U s V _ (by omega))
 |@call _ _ ex hp hP O =>
  intro k hk;obtain⟨h1,⟨q,dd,h2,h3,h4⟩,h5⟩:=hC hP hp;rw[iH];refine .cons (ig rfl ?_ (by omega)) ?_
  .have e:∀sp ex,jh p E (dN sp pB ex)=(match look (eG p) pB with
    |none=>321
    |some i=>if lJ p E i.toNat ex=true then 327
     else if E.within≥0/\kF p i.toNat E.within.toNat=true then 328 else 0):=λ_ _=>rfl
   rw[e,h1];have e2:lJ p E (pi:Int).toNat [ex]=false:=by
    unfold lJ;rw[gD,h2];simp only[h3,aF,bK,oW,(O.aS D hE).1,h4,gK]
    rfl
   simp only[e2];rw[if_neg (by decide),if_neg];rintro⟨h6,h7⟩;rcases h5 with h5|h5
   .omega
   .rw[gD,h5]at h7;cases h7
  .simp only[dN,aa.bf,aa.gy,aa.iD,jL,je,aP]
   exact O.codes D hE 1 (by omega)
theorem wD{M:jr}{p:aj}(h:IsHead M p)(O:M.N=std){s:ByteArray}(D:s∉[std.i,std.j,std.g,std.h,std.v,std.c,std.a]):s∉fC p:=λhm=>D (by have:=sj h _ hm;rwa [O]at this)
theorem zG{s:ByteArray}(h:((((((s≠std.i/\s≠std.j)/\s≠std.g)/\s≠std.h)/\s≠std.v)/\s≠std.c)/\s≠std.a)):s∉[std.i,std.j,std.g,std.h,std.v,std.c,std.a]:=by
 obtain⟨⟨⟨⟨⟨⟨h1,D⟩,O⟩,U⟩,V⟩,h6⟩,h7⟩:=h;simp[h1,D,O,U,V,h6,h7]
theorem Ma{before:List ByteArray}{s:ByteArray}(hb:s∉before):lK before s=false:=by
 unfold lK;rw[List.any_eq_false];intro x hx;simp only[aU];rintro rfl;exact hb hx
theorem ym{p:aj}{i:Int}{w:Int}{l:List (ByteArray × gV)}:dJ p ⟨i,(bY,⟨5,w⟩)::l⟩ bY=⟨5,w⟩:=rfl
theorem Ti{p:aj}{i:Int}{w:Int}:dJ p ⟨i,[(bY,⟨5,w⟩),(bZ,⟨5,1⟩)]⟩ bZ=⟨5,1⟩:=rfl
theorem FO{p:aj}{E:Env}{s:ByteArray}{w:Int}(hf:dJ p E s=⟨5,w⟩)(h1:1<=w)(D:w<=16):fZ p E (aZ s)=w:=by
 rw[jR];simp only[aZ,ah.bI,ah.op,ah.aS,ah.aT,iW,hf];simp only[show ¬((2:Int)=1\/(2:Int)=8) by decide,if_false,true_or,if_true];rw[if_pos (by decide),pg ⟨h1,D⟩]
theorem um{p:aj}{E:Env}{s:ByteArray}{w:Int}(hf:dJ p E s=⟨5,w⟩)(k:Nat)(hk:k<=32):jF (jv p E 0 (aZ s) k):=by
 rw[jY];refine .cons (kr rfl ?_ ?_ rfl (by omega)) (by rw[fJ];exact jF.nil)
 .simp only[aZ,ah.aT,ah.bI,hf]
  intro h;rcases h.2 with h|h
  .exact absurd h (by decide)
  .exact h (by constructor<;>intro h<;>exact absurd h (by decide))
 .simp only[aZ,ah.aT,ah.bI,hf]
  rintro(⟨h1,h|⟨_,h⟩⟩|⟨h1,_,h⟩)<;>first|exact absurd h1 (by decide)|exact absurd h (by decide)
theorem uk{p:aj}{E:Env}{x w:Int}(h1:1<=w)(D:w<=16):fZ p E (cO x w)=w:=by
 rw[jR];exact pg ⟨h1,D⟩
theorem uj{p:aj}{E:Env}{x w:Int}(hx:x<2 ^ w.toNat)(h1:1<=w)(D:w<=16)(k:Nat)(hk:k<=32):jF (jv p E 0 (cO x w) k):=by
 rw[jY];refine .cons (kr rfl (λh=>absurd h.1 (by simp[iM,cO,ah.bI])) ?_ ?_ (by omega)) (by rw[fJ];exact jF.nil)
 .simp[iM,cO,ah.bI]
 .unfold iI
  rw[if_pos (show(cO x w).bI=1 from rfl)];have:ug w=2 ^ w.toNat - 1:=by unfold ug;rw[if_pos (mY ⟨h1,D⟩)]
  simp only[cO,ah.aS,ah.bv,mY ⟨h1,D⟩,this,Bool.not_true,Bool.false_or,decide_eq_false_iff_not];omega
theorem MM{p:aj}{E:Env}{a b:ah}{sp:Sp}{w:Int}(O:fZ p E a=w)(h1:1<=w)(D:w<=16):fZ p E (rU 3 a b sp)=w:=by
 rw[jR];have U:uR 3=true:=by decide
 have ht:mF 3=false:=by decide
 simp only[rU,ah.bI,ah.op,ah.aS,ah.aT,ah.cu,iW,gB,bD,O,l8,U,ht,mY ⟨h1,D⟩];exact pg ⟨h1,D⟩
theorem ML{p:aj}{E:Env}{a b:ah}{sp:Sp}{w:Int}(U:fZ p E a=w)(hb:fZ p E b=w){k:Nat}(hk:k<=31)(D:jF (jv p E 0 a (k+1)))(O:jF (jv p E 0 b (k+1))):jF (jv p E 0 (rU 3 a b sp) k):=by
 have V:sS 3=true:=by decide
 rw[jY];refine .cons (kr ?_ (λh=>absurd h.1 (by simp[iM,rU,ah.bI])) (by simp[iM,rU,ah.bI]) ?_ (by omega)) ?_
 .simp only[pO,rU,ah.bI,ah.op,ah.bv,ah.aS,ah.aT,ah.cu,V];rfl
 .simp only[iI,rU,ah.bI,ah.cu,gB,bD,dm,U,hb,gK];rfl
 .rw[fJ]
  simp only[rU,ah.cu,bA,dV,aP];exact D.append O
theorem Tx{M:jr}{p:aj}(h:IsHead M p)(i:Int)(sw V ss:Sp):∀s∈TW M.w sw V ss,jF (lF p ⟨i,[(bY,⟨5,M.w⟩),(bZ,⟨5,1⟩)]⟩ s 1):=by
 obtain⟨D,ab,_⟩:=h.ok;have hm:M.w<=16:=by omega
 have O:(1:Int)<2 ^ M.w.toNat:=by
  have:M.w=1\/M.w=2\/M.w=3:=by omega
  rcases this with e|e|e<;>rw[e] <;>decide
 have wy:fZ p ⟨i,[(bY,⟨5,M.w⟩),(bZ,⟨5,1⟩)]⟩ (aZ bY)=M.w:=FO ym D hm;have wn:fZ p ⟨i,[(bY,⟨5,M.w⟩),(bZ,⟨5,1⟩)]⟩ (cO 1 M.w)=M.w:=uk D hm;intro s U;have U:s=fw sw (aZ bZ) (rU 3 (aZ bY) (cO 1 M.w) V)\/s=ji ss bY (cO 0 M.w):=by simpa[TW]using U
 rcases U with rfl|rfl
 .rw[iH]
  refine .cons (ig rfl ?_ (by decide)) ?_
  .have e:∀sp a b,jh p ⟨i,[(bY,⟨5,M.w⟩),(bZ,⟨5,1⟩)]⟩ (fw sp a b)=if iT (gB p ⟨i,[(bY,⟨5,M.w⟩),(bZ,⟨5,1⟩)]⟩ [a,b] 1) p.aS=true then 322 else 0:=λ_ _ _=>rfl
   rw[e];simp only[gB,dm,bD,MM wy D hm,h.aS,gK]
   rfl
  .simp only[fw,aa.bf,aa.gy,aa.iD,oC,je,aP]
   exact(um Ti 1 (by decide)).append (ML wy wn (by decide) (um ym 2 (by decide)) (uj O D hm 2 (by decide)))
 .rw[iH]
  refine .cons (ig rfl ?_ (by decide)) ?_
  .have e:∀sp s ex,jh p ⟨i,[(bY,⟨5,M.w⟩),(bZ,⟨5,1⟩)]⟩ (ji sp s ex)=if(dJ p ⟨i,[(bY,⟨5,M.w⟩),(bZ,⟨5,1⟩)]⟩ s).bI=0\/(dJ p ⟨i,[(bY,⟨5,M.w⟩),(bZ,⟨5,1⟩)]⟩ s).bI=1\/(dJ p ⟨i,[(bY,⟨5,M.w⟩),(bZ,⟨5,1⟩)]⟩ s).bI=4 then 321
     else if iT (gB p ⟨i,[(bY,⟨5,M.w⟩),(bZ,⟨5,1⟩)]⟩ [ex] 0) (dJ p ⟨i,[(bY,⟨5,M.w⟩),(bZ,⟨5,1⟩)]⟩ s).aS=true then 322 else 0:=λ_ _ _=>rfl
   have hf:dJ p ⟨i,[(bY,⟨5,M.w⟩),(bZ,⟨5,1⟩)]⟩ bY=⟨5,M.w⟩:=ym;rw[e,hf,if_neg (show ¬((5:Int)=0\/(5:Int)=1\/(5:Int)=4) by decide)];simp only[gB,bD,uk D hm,gK]
   rfl
  .simp only[ji,aa.bf,aa.gy,aa.iD,jL,je,aP]
   exact uj (by omega) D hm 1 (by decide)
theorem p8{p:aj}{E:Env}{D:ByteArray}{ex:List ah}{j:Nat}(hl:look (eG p) D=some (j:Int))(ha:lJ p E j ex=false)(O:E.within<0\/kF p j E.within.toNat=false){k:Nat}(hk:k<=32)(hx:jF (iU p E 0 ex 1))(sp:Sp)(hf:qJ (dN sp D ex)=true):jF (lF p E (dN sp D ex) k):=by
 rw[iH];refine .cons (ig hf ?_ hk) ?_
 .have e:∀sp ex,jh p E (dN sp D ex)=(match look (eG p) D with
   |none=>321
   |some i=>if lJ p E i.toNat ex=true then 327
    else if E.within≥0/\kF p i.toNat E.within.toNat=true then 328 else 0):=λ_ _=>rfl
  rw[e,hl];have e2:lJ p E (j:Int).toNat ex=false:=by rw[gD];exact ha
  simp only[e2];rw[if_neg (by decide),if_neg];rintro⟨h6,V⟩;rcases O with U|U
  .omega
  .rw[gD,U]at V;cases V
 .simp only[dN,aa.bf,aa.gy,aa.iD,je,aP]
  exact hx
theorem RO{M:jr}{p:aj}(h:IsHead M p)(hN:su M.N=true)(V:M.N=std):jF (gH p false [⟨bY,M.w,0⟩,⟨bZ,1,0⟩] (eO p)):=by
 obtain⟨D,ab,_⟩:=h.ok;have hy:=wD h V (s:=bY) (zG (by decide));have hz:=wD h V (s:=bZ) (zG (by decide));refine vX _ _ ?_ λd O=>?_
 .rw[tC,j6]
  refine⟨rz h hN,(by decide:[bY,bZ].Nodup),λa U b hb=>?_⟩;have hb:b=bY\/b=bZ:=by simpa using hb
  rcases hb with rfl|rfl
  .exact λe=>hy (e ▸ U)
  .exact λe=>hz (e ▸ U)
 .have O:d=⟨bY,M.w,0⟩\/d=⟨bZ,1,0⟩:=by simpa using O
  rcases O with rfl|rfl
  .exact⟨qL (s:=bY.data.toList) (by decide) (by decide),⟨D,show M.w<=16 by omega⟩,by simp⟩
  .exact⟨qL (s:=bZ.data.toList) (by decide) (by decide),⟨by decide,by decide⟩,by simp⟩
theorem RQ{M:jr}{p:aj}(h:IsHead M p)(V:su M.N=true)(hs:M.N=std):jF (gH p false [⟨bY,M.w,0⟩] (eO p)):=by
 obtain⟨D,U,_⟩:=h.ok;have hy:=wD h hs (s:=bY) (zG (by decide));refine vX _ _ ?_ λd O=>?_
 .rw[tC,j6]
  refine⟨rz h V,(by decide:[bY].Nodup),λa ha b hb=>?_⟩;have hb:b=bY:=by simpa using hb
  rw[hb];exact λe=>hy (e ▸ ha)
 .have O:d=⟨bY,M.w,0⟩:=by simpa using O
  rw[O];exact⟨qL (s:=bY.data.toList) (by decide) (by decide),⟨D,show M.w<=16 by omega⟩,by simp⟩
theorem Ff(p:aj)(B:Nat->List aa)(l:List aa)(k:Nat):aV (fG p B (l.take k))<=aV (fG p B l):=by
 have:fG p B l=fG p B (l.take k)++fG p B (l.drop k):=by rw[<-wm,fA]
 rw[this,ku];omega
theorem Fj(p:aj)(B:Nat->List aa)(l:List aa)(k:Nat)(h:k<l.length):fG p B (l.take (k+1))=fG p B (l.take k)++inT p B l[k]:=by
 rw[aG h,wm]
 congr 1
 rw[fG,fG,aP]
theorem vZ(p:aj)(B:Nat->List aa)(l:List aa)(s:aa)(h:s∈l):aV (inT p B s)<=aV (fG p B l):=by
 obtain⟨k,hk,rfl⟩:=gm h;have h1:=Ff p B l (k+1);rw[Fj p B l k hk,ku]at h1;omega
theorem zA{m l:List aa}(e:m.map aJ=l.map aJ):m.length=l.length:=by simpa using congrArg List.length e
theorem Fg(p:aj)(B:Nat->List aa){s:aa}(h:s.bI≠8):inT p B s=[.mk s.bI s.aT s.es s.bf s.gT Sp.none (fG p B s.gy) Sp.none (fG p B s.iD)]:=by
 obtain⟨k,n,es,ex,b,ts,th,os,el⟩:=s;change k≠8 at h;rw[inT,if_neg h]
 rfl
theorem Dt(p:aj)(B:Nat->List aa){s:aa}(h:s.bI=8):inT p B s=qO (fU p (dG p s.aT)) s.bf++B (dG p s.aT):=by
 obtain⟨k,n,es,ex,b,ts,th,os,el⟩:=s;change k=8 at h;rw[inT,if_pos h]
 rfl
theorem RU{G:Nat->Bool}{w w2:World}{s:aa}{sp4 sp5:Sp}{m4 m5:List aa}(hs:lV w.heap.size (fu G w) s)(D:w.heap.size<=w2.heap.size)(hc:∀(p:Addr) (u:Value),p.block<w.heap.size->(fu G w).cell? p=some u->(fu G w2).cell? p=some u)(O:gq w2.heap.size (fu G w2) sp4 m4)(U:gq w2.heap.size (fu G w2) sp5 m5):lV w2.heap.size (fu G w2) (.mk s.bI s.aT s.es s.bf s.gT sp4 m4 sp5 m5):=by
 have h:=hs.move D hc;cases h with
 |mk _ k b n V ex _ _ _ _=>exact .mk _ k b n V ex O.row O.ok U.row U.ok
theorem NZ{q:bG}{ex:List ah}{j:Nat}(h1:j<q.bC.length)(D:j<ex.length):(qO q ex).take (j+1)=(qO q ex).take j++[yH (kC q q.bC[j]) ex[j]]:=by
 have h:j<(qO q ex).length:=by simp[qO];omega
 rw[aG h]
 congr 2
 simp[qO]
theorem NW(D:ByteArray)(b:Nat)(e:ah):aJ (Be D b e)=aJ (yH D e):=by
 unfold Be yH;rw[dS,dS]
theorem JG{p:aj}(h:fF p){i j:Nat}(hi:i<p.aA.length)(D:j<(p.aA[i]).bC.length):(kC p.aA[i] (p.aA[i]).bC[j]).size<=maxLen:=by
 have hne:p.aA≠[]:=λh=>by rw[h]at hi;exact absurd hi (dX _)
 obtain⟨V,_,u3⟩:=h.undP hne (ak hi);have O:=qm V;have U:=qm (u3 _ (ak D)).1;unfold kC;rw[lU,lU];have e1:(p.aA[i]).aT.size<=16:=by simpa using O
 have e2:((p.aA[i]).bC[j]).aT.size<=16:=by simpa using U
 show(p.aA[i]).aT.size+1+_<=9223372036854775807;omega
theorem JB{K:jq}(cS:fF K.p){l:List aa}(da:aV (fG K.p (eU K.p) l)<=20000)(hc:∀s∈l,CallsIn K.p s)(cc:∀s∈l,s.bI=8->(fU K.p (dG K.p s.aT)).bC.length=s.bf.length)(cV:∀s∈l,s.bI=8->CO K (dG K.p s.aT))(ih:∀s∈l,s.bI≠8->rM K s.gy/\rM K s.iD):rM K l:=by
 intro w sp G hG hB hD hp hr;have b0:=ae hB;have HM:=ae hD.isMap;have HG:=ae hG;have ci:=ae cS;have ce:=ae da;have d6:=ae λ(i:Nat) (hi:i<l.length)=>ih _ (ak hi)
 have dv:=ae λ(i:Nat) (hi:i<l.length)=>cV _ (ak hi)
 have dy:=ae λ(i:Nat) (hi:i<l.length)=>hc _ (ak hi)
 have d3:=ae λ(i:Nat) (hi:i<l.length)=>cc _ (ak hi)
 have c6:=ae (vO.init hD hp hr);have er:=hr.row.few;clear hB hD hp hr hG cS da hc cc cV ih;go_enter Tryz.func83,Tryz.ntmps83
 go_wp2_with fail
 go_loopw[13,5] (λcw s5 wr=>∃(k:Nat) (A:Option Addr) (c:Nat) (cur:List aa),k<=l.length/\cw=.int .i64 k/\s5=.slice A cur.length c/\cur.map aJ=(fG K.p (eU K.p) (l.take k)).map aJ/\vO K G w sp l A c cur wr) (λcw _ _=>l.length - (intOf cw).toNat)
 case atStart=>exact⟨0,none,0,[],aH _,rfl,rfl,by rw[iY,fG],c6.o⟩
 case round =>
  clear c6;obtain⟨k,A,c,cur,hk,rfl,rfl,he,hO⟩:=hrel;have HE:=ae he;have HO:=ae hO;clear he hO;have ez:(0:Int)<=(k:Int):=by omega
  by_cases O:k<l.length
  .obtain⟨g,o,eA,hg,hc⟩:=(HO.o.src.row.cells G6).row (by omega)
   have a4:=hc k O;have e0:(k:Int)<(l.length:Int):=by omega
   have cL:=ae (Fj K.p (eU K.p) l k O);have cI:=ae (HO.o.src.ok _ (ak O));have eg:=ae (ak O);have d4:=ae (ai (vZ K.p (eU K.p) l _ (ak O)) ce.o);have b6:=ae (d6.o k O);have cF:=ae (dv.o k O);have cG:=ae (dy.o k O);have cH:=ae (d3.o k O);have c4:Hid (cur.length<=20000):=ae (by rw[zA HE.o];exact ai (lM _) (ai (Ff _ _ _ _) ce.o));clear hc;generalize l[k]=s at *;have k0:=a4 0 _ rfl;rw[bS]at k0;have k1:=a4 1 _ rfl;have k2:wr.cell? ⟨g,o+k*6+2,none⟩=some (.slice s.es.dO s.bf.length s.es.df):=a4 2 _ rfl;have k3:=a4 3 _ rfl;have k4:wr.cell? ⟨g,o+k*6+4,none⟩=some (.slice s.ts.dO s.gy.length s.ts.df):=a4 4 _ rfl;have k5:wr.cell? ⟨g,o+k*6+5,none⟩=some (.slice s.os.dO s.iD.length s.os.df):=a4 5 _ rfl;have aw:=jc wr (.cells s.r 43);have b7:=ae (gM wr (.cells s.r 43));have an:=ae aw;have a7:=ae (b0.o.on HO.o.kept HM.o b0.o.ne1.symm);have cJ:Hid ((wr.alloc (.cells s.r 43)).heap.size=wr.heap.size+1):=ae (by simp);have ep:w.heap.size<=wr.heap.size:=HO.o.kept.size;clear a4 aw;rw[eA];clear eA;go_upto_region 5 with fail
   clear k0 k1 k2 k3 k4 k5;generalize em:wr.alloc (.cells s.r 43)=W5 at *;generalize cW:wr.heap.size=bx at *;have D:=ae cW;clear em cW;have a6:Hid (lV wr.heap.size (fu (GO G (Value.slice A cur.length c).ownBlock) wr) s):=ae (by rw[D.o];exact cI.o);obtain⟨x0,x1,x2,x3,x4,x5⟩:=aR b7.o;by_cases ab:s.bI=8
   .have cq:(s.bI != 8)=false:=by simp[ab]
    obtain⟨i,a5⟩:∃i,dG K.p s.aT=i:=⟨_,rfl⟩;have b4:Hid (i<K.p.aA.length):=ae (a5 ▸ cG.o.own ab);have dt:Hid (CO K i):=ae (a5 ▸ cF.o ab);have cg:Hid ((fU K.p i).bC.length=s.bf.length):=ae (a5 ▸ cH.o ab);have ch:Hid (fU K.p i=K.p.aA[i]'b4.o):=ae (by unfold fU;rw[aX b4.o];rfl);have cb:=Dt K.p (eU K.p) ab;rw[a5]at cb;have d5:=ae cb;have e6:s.bf.length<=8:=by
     rw[<-cg.o,ch.o];exact(ci.o.proc i b4.o).1.few
    have du:Hid (aV (eU K.p i)<=20000):=ae (by
     have h1:=d4.o;rw[cb,ku]at h1;omega)
    have dl:s.aT.size<=maxLen:=by cases a6.o;assumption
    have b1:=ae (a7.o.below (by rw[D.o];exact an.o));have c7:=ae (HO.o.below (by rw[D.o];exact an.o));have dd:=b1.o.look dl;rw[xy,a5]at dd;have br:=(b1.o.below (ag _ _).drew).look dl;rw[xy,a5]at br;have de:(Instr.lookup 119 (.map (some K.bi)) (.string s.aT) false).run Tryz.prog { heap:=W5.heap,tape:=W5.tape,drawn:=W5.drawn+1,os:=W5.os,output:=W5.output }=.ok (.int .i64 (i:Nat)) { heap:=W5.heap,tape:=W5.tape,drawn:=W5.drawn+1,os:=W5.os,output:=W5.output }:=br;have ej:=b1.o.c22;clear a5 ab cF cG cH b6 cb;go_upto_region 8 with fail
    go_still_tail 7,(by kernel_rfl)
    change wpList _ _ _ _ _ W5.drew;have c8:=ae (c7.o.below (ag _ _).drew);have cM:Hid (W5.drew.heap[bx]?=some (.cells s.r 43)):=ae b7.o;clear x0 x1 x2 x3 x4 x5 dd br de ej cq b1 c7 HO a7 b7 an a6 cI;generalize W5.drew=W6 at *;obtain⟨x0,x1,x2,x3,x4,x5⟩:=aR cM.o;go_upto_region 10 with fail
    clear x0 x1 x2 x3 x4 x5;go_wp2_with fail
    go_loopw[44,5] (λcx s5 wq=>∃(j:Nat) (A2:Option Addr) (c2:Nat) (cur2:List aa),j<=s.bf.length/\cx=.int .i64 j/\s5=.slice A2 cur2.length c2/\cur2.map aJ=(cur++(qO (fU K.p i) s.bf).take j).map aJ/\vO K G w sp l A2 c2 cur2 wq) (λcx _ _=>s.bf.length - (intOf cx).toNat)
    case atStart=>exact⟨0,A,c,cur,aH _,rfl,rfl,by rw[iY,aP],c8.o⟩
    case round =>
     clear c8 cM;obtain⟨j,A2,c2,cur2,hj,rfl,rfl,co,cl⟩:=hrel;have b3:=ae co;have ao:=ae cl;have b2:=ae (b0.o.on cl.kept HM.o b0.o.ne1.symm);have c3:Hid (cur2.length<=20008):=ae (by
      rw[zA co,ay];have h1:=c4.o;have h2:((qO (fU K.p i) s.bf).take j).length<=8:=by rw[dW];omega
      omega)
     clear co cl;have ew:(0:Int)<=(j:Int):=by omega
     by_cases al:j<s.bf.length
     .have cv:=ao.o.src.ok s eg.o
      obtain⟨ge,oe,eE,ev,hce⟩:=(cv.xs.row.cells G6).row (by omega);have V:=hce j al;have ck:=ae (cv.xs.ok _ (ak al));have db:j<(K.p.aA[i]'b4.o).bC.length:=by rw[<-ch.o,cg.o];exact al
      have bc:=ae (NZ (q:=fU K.p i) (ex:=s.bf) (by rw[cg.o];exact al) al);have ey:(j:Int)<(s.bf.length:Int):=by omega
      obtain⟨e,cp⟩:∃e,s.bf[j]=e:=⟨_,rfl⟩;have et:=ae cp;rw[cp]at V ck bc;have k0:=V 0 _ rfl;rw[bS]at k0;have k1:=V 1 _ rfl;have k2:=V 2 _ rfl;have k3:=V 3 _ rfl;have k4:=V 4 _ rfl;have k5:wr.cell? ⟨ge,oe+j*6+5,none⟩=some (.slice e.sp.dO e.cu.length e.sp.df):=V 5 _ rfl;have aw:=jc wr (.cells e.r 30);have cN:=ae (gM wr (.cells e.r 30));have a8:=ae (ao.o.below aw);have cy:=ae (b2.o.below aw);have cP:=ae ((ck.o.cells (mR aw)).more aw.size);have c5:=ae db;clear hce V cv aw cp ck db;rw[eE];clear eE;go_upto_region 12 with fail
      clear k0 k1 k2 k3 k4 k5;generalize wr.alloc (.cells e.r 30)=W8 at *;generalize wr.heap.size=ei at *;refine dK ?_ (kD (C':=.region 12 opsI12 true) (by kernel_rfl) (TB (G:=G) (W0:=w) (sp:=sp) (l:=l) (A:=A2) (c:=c2) (cur:=cur2) rfl ei i j e ci.o b4.o c5.o rfl rfl rfl rfl rfl cN.o HG.o cy.o a8.o cP.o (by have:=c3.o;omega) (JG ci.o b4.o c5.o)));rintro ex a9 w9 ⟨rfl,a1,bj,bm,A9,c9,b9,h5,aq⟩;obtain⟨F,hF,bk⟩:=nu a1 bj bm rfl [5,49,50,51,52,53,54,55,56,57,58,59] rfl;rw[bk];simp only[Oz,OA,OB,Oy,OC];have g5:F 5=.slice A9 (cur2.length+1) c9:=(hF 5).trans (bz h5);rw[g5];clear hF bk bm a1 bj g5;have ba:=ae aq;have aE:Hid ((cur2++[Be (kC (K.p.aA[i]'b4.o) ((K.p.aA[i]'b4.o).bC[j]'c5.o)) b9 e]).map aJ=(cur++(qO (fU K.p i) s.bf).take (j+1)).map aJ):=ae (by
       rw[bc.o,aO,b3.o,<-aY,aO (l₂:=[_]),ax,ax,NW];simp only[ch.o])
      have bo:cur2.length+1=(cur2++[Be (kC (K.p.aA[i]'b4.o) ((K.p.aA[i]'b4.o).bC[j]'c5.o)) b9 e]).length:=by simp
      rw[bo];clear aq a8 cy cP cN bc b3 ao b2 bo;go_wp2_with fail
      exact⟨⟨j+1,A9,c9,_,al,rfl,rfl,aE.o,ba.o⟩,by simp only[intOf];omega⟩
     .obtain rfl:j=s.bf.length:=by omega
      have d2:Hid (cur2.map aJ=(cur++qO (fU K.p i) s.bf).map aJ):=ae (by
       rw[b3.o,List.take_of_length_le];simp[qO];omega)
      have cY:∀b,GO G (Value.slice A2 cur2.length c2).ownBlock b=true->b<wr.heap.size:=λb hb=>by
       rcases Bool.or_eq_true_iff.1 hb with h|h
       .exact aI (HG.o b h) ao.o.kept.size
       .exact ao.o.own.iP b (dB h)
      have c0:=ae (dt.o wr _ cY b2.o ao.o.dn ao.o.prog);clear cY b3;go_wp2_with fail
      refine c0.o.mono ?_;rintro o1 w7 ⟨eq,m7,rfl,cr,ct,am,bh⟩;have a3:=ae (ao.o.mk' am bh);have dT:=ae cr;have cD:=ae ct;have cE:=ae (ct.row.cells G6);have cf:Hid (cur2.length+m7.length<=1000000):=ae (by
       have h1:=c3.o;have h2:=zA cr;have h3:=lM (eU K.p i);have h4:=du.o;omega)
      have cj:=ae a3.o.kept.size;clear cr ct am bh c0 ao b2;go_wp2_with(first
       |(at_builtin;refine gQ rfl (.tmp 61) (.tmp 64) 33 rfl xQ (λ_=>rfl) mV _ cur2 rfl a3.o.own eq m7 rfl cE.o cf.o cj.o ?_)
       |fail)
      intro v9 w9 ad bl ar;obtain⟨A9,c9,rfl,aq⟩:=a3.o.push (ys:=m7) (λy hy=>cD.o.ok y hy) ad bl ar;have ba:=ae aq;have aE:Hid ((cur2++m7).map aJ=(fG K.p (eU K.p) (l.take (k+1))).map aJ):=ae (by
       rw[cL.o,d5.o,aO,d2.o,dT.o,aO,HE.o,aO,aO,aY])
      clear ad bl ar aq a3 cD cE;go_wp2_with fail
      exact⟨⟨k+1,A9,c9,_,O,rfl,rfl,aE.o,ba.o⟩,by simp only[intOf];omega⟩
   .have cq:(s.bI != 8)=true:=by simp[ab]
    have dc:(s.bI == 8)=false:=by simp[ab]
    go_upto_region 6 with fail
    clear x0 x1 x2 x3 x4 x5 cq dc;have cd:∀b,(GO G (Value.slice A cur.length c).ownBlock) b=true->b<bx:=λb hb=>by
     rcases Bool.or_eq_true_iff.1 hb with h|h
     .exact aI (HG.o b h) ep
     .have:=HO.o.own.iP b (dB h)
      rwa [D.o]at this
    have cX:∀b,GO (GO G (Value.slice A cur.length c).ownBlock) (some bx) b=true->b<W5.heap.size:=λb hb=>by
     rw[cJ.o];rcases Bool.or_eq_true_iff.1 hb with h|h
     .exact Nat.lt_succ_of_lt (cd b h)
     .have:=iL (dB h)
      omega
    have dk:∀(p:Addr) (u:Value),p.block<wr.heap.size->(fu (GO G (Value.slice A cur.length c).ownBlock) wr).cell? p=some u->(fu (GO (GO G (Value.slice A cur.length c).ownBlock) (some bx)) W5).cell? p=some u:=Tq λp u hp hg hc=>⟨OL hg (λe=>by have:=iL e;rw[D.o]at hp;omega),(an.o.cell (by rw[D.o]at hp;exact hp)).trans hc⟩
    have bt:∀(p:Addr) (u:Value),p.block<wr.heap.size->(fu (GO G (Value.slice A cur.length c).ownBlock) wr).cell? p=some u->(fu (GO G (Value.slice A cur.length c).ownBlock) W5).cell? p=some u:=Tq λp u hp hg hc=>⟨hg,(an.o.cell (by rw[D.o]at hp;exact hp)).trans hc⟩
    have cR:Ah (GO (GO G (Value.slice A cur.length c).ownBlock) (some bx)) K W5:=HO.o.dn.move (by rw[D.o,cJ.o];omega) (an.o.block _ (by have:=HO.o.dn.isMap.lt;rwa [D.o]at this)) dk;have cQ:mK K W5:=a7.o.below (by rw[D.o];exact an.o);have cm:=jT.cells HO.o.prog bt;have b8:=a6.o.cells bt;have cn:=jT.cells a7.o.prog λp u hp hc=>(an.o.cell (by rw[D.o]at hp;exact hp)).trans hc
    rw[D.o]at cm b8 cn;have hq:=(dM a7.o.blk).1;have ca:=a7.o.idx;obtain⟨nn,ca⟩:=ca;have be:=ca.lt;rw[D.o]at hq be;refine dK ?_ (kD (C':=.region 6 opsI6 true) (by kernel_rfl) (Uu (G:=GO (GO G (Value.slice A cur.length c).ownBlock) (some bx)) (G0:=(GO G (Value.slice A cur.length c).ownBlock)) rfl bx s rfl rfl b7.o cX (by simp[GO]) (λb hb h=>OL h (λe=>by have:=iL e;omega)) cQ ⟨hq,be,cn⟩ cR cm (b6.o ab).1 (b6.o ab).2 b8.kS b8.ko));rintro ex a9 w7 ⟨rfl,a1,bj,bm,cU,eo,bh,v4,v5,dr,⟨sp4,m4,rfl,dg,dp⟩,⟨sp5,m5,rfl,dj,dq⟩⟩;obtain⟨F,hF,bk⟩:=nu a1 bj bm rfl [20,21,22,23,24,25,26,27,28,29] rfl;rw[bk];simp only[Oz,OA,OB,Oy,OC];clear hF bk bm a1 bj;have am:Mk K.bd wr w7:=by
     unfold Mk;rw[D.o];exact Below.trans (bn HO.o.dn.isMap.lt an.o) cU
    have ap:∀b,GO (GO G (Value.slice A cur.length c).ownBlock) (some bx) b=false->(GO G (Value.slice A cur.length c).ownBlock) b=false:=λb h=>(LM h).1
    have a3:=ae (HO.o.mk' am (bh.move (af _) rfl (zD ap)));have cA:=ae (dp.move (af _) (zD ap));have cC:=ae (dq.move (af _) (zD ap));have d7:=ae dg;have d8:=ae dj;have eh:=ae dr;have b5:=ae am;clear cU eo bh dr dg dp dj dq am ap cd cX dk bt cR cQ cm b8 cn hq ca be b6;obtain⟨y0,y1,y2,y3,y4,y5⟩:=aR eh.o;have U:=jc w7 (.cells #[.int .u8 s.bI,.string s.aT,.slice s.es.dO s.bf.length s.es.df,.int .i64 s.gT,.slice sp4.dO m4.length sp4.df,.slice sp5.dO m5.length sp5.df] 43);have a8:=ae (a3.o.below U);have ef:=ae (row_one (enc:=aa.cells) (x:=(.mk s.bI s.aT s.es s.bf s.gT sp4 m4 sp5 m5:aa)) (k:=6) (gM w7 (.cells #[.int .u8 s.bI,.string s.aT,.slice s.es.dO s.bf.length s.es.df,.int .i64 s.gT,.slice sp4.dO m4.length sp4.df,.slice sp5.dO m5.length sp5.df] 43)));have eb:=ae (RU (sp4:=sp4) (sp5:=sp5) (m4:=m4) (m5:=m5) a6.o (ai b5.o.size U.size) (λp u hp hc=>mR U p u (aI hp b5.o.size) (FC b5.o HO.o.dn.isMap p u hp hc)) (cA.o.move U.size (mR U)) (cC.o.move U.size (mR U)));have cf:Hid (cur.length+1<=1000000):=ae (by have:=c4.o;omega);have cj:Hid (w.heap.size<=(w7.alloc (.cells #[.int .u8 s.bI,.string s.aT,.slice s.es.dO s.bf.length s.es.df,.int .i64 s.gT,.slice sp4.dO m4.length sp4.df,.slice sp5.dO m5.length sp5.df] 43)).heap.size):=ae a8.o.kept.size;clear U a3 cA cC b5;go_wp2_with(first
     |(at_builtin;refine gQ rfl (.tmp 30) (.tmp 32) 33 rfl xQ (λ_=>rfl) mV _ cur rfl a8.o.own ⟨some ⟨w7.heap.size,0,none⟩,1⟩ [(.mk s.bI s.aT s.es s.bf s.gT sp4 m4 sp5 m5:aa)] rfl ef.o cf.o cj.o ?_)
     |fail)
    intro v9 w9 ad bl ar;obtain⟨A9,c9,rfl,aq⟩:=a8.o.push (ys:=[(.mk s.bI s.aT s.es s.bf s.gT sp4 m4 sp5 m5:aa)]) (λy hy=>by rw[List.mem_singleton.1 hy];exact eb.o) ad bl (by rw[di];exact ar);have ba:=ae aq;have aE:Hid ((cur++[(.mk s.bI s.aT s.es s.bf s.gT sp4 m4 sp5 m5:aa)]).map aJ=(fG K.p (eU K.p) (l.take (k+1))).map aJ):=ae (by
     rw[cL.o,Fg _ _ ab,aO,aO,HE.o,ax,ax,dS,dS,d7.o,d8.o])
    clear ad bl ar aq y0 y1 y2 y3 y4 y5;go_wp2_with fail
    exact⟨⟨k+1,A9,c9,_,O,rfl,rfl,aE.o,ba.o⟩,by simp only[intOf];omega⟩
  .obtain rfl:k=l.length:=by omega
   rw[bW]at HE;have en:cur.length<=1000000:=by rw[zA HE.o];exact ai (lM _) (ai ce.o (by decide))
   obtain⟨sq,e1,bw,cT⟩:=HO.o.own.row (λ_=>rfl) (by omega);have e2:sq=⟨A,c⟩:=by
    unfold Sp.val at e1;injection e1 with e3 e4 e5;cases sq
    rw[e3,e5]
   subst e2;have ee:Hid (gq wr.heap.size (fu G wr) ⟨A,c⟩ cur):=ae ⟨⟨bw.df,bw.big,bw.few,λh0=>by
    obtain⟨b,off,e,O,hc⟩:=bw.row h0;refine⟨b,off,e,O,λj hj r u hu=>kw.2 ⟨?_,hc j hj r u hu⟩⟩;have h1:=(cT _ e).1;cases hgb:G b with
    |false=>rfl
    |true=>exact absurd (HG.o b hgb) (by simp only at h1;omega)⟩,λt ht=>(HO.o.el t ht).cells (zD λb h=>(LM h).1)⟩
   have d1:=ae (HO.o.dn.move (G':=G) (af _) rfl (zD λb h=>(LM h).1));clear e1 bw cT en O;go_wp2_with fail
   go_ret
   exact⟨⟨A,c⟩,cur,rfl,HE.o,ee.o,HO.o.kept,d1.o⟩
theorem CJ(t:aa):t∈t.pre:=by rw[aa.pre_eq];exact aD ..
theorem Kw(p:aj)(B:Nat->List aa){s:aa}(h:s.bI≠8):aV (fG p B s.gy)+aV (fG p B s.iD)<=aV (inT p B s):=by
 rw[Fg p B h,pz];show _<=1+dU s.bf+aV (fG p B s.gy)+aV (fG p B s.iD);omega
theorem R8{K:jq}(V:fF K.p)(s:aa):aV (inT K.p (eU K.p) s)<=20000->CallsIn K.p s->(∀x∈s.pre,mJ K.p x)->(∀x∈s.pre,x.bI=8->aV (eU K.p (dG K.p x.aT))<=20000->CO K (dG K.p x.aT))->s.bI≠8->rM K s.gy/\rM K s.iD:=by
 induction s using aa.ind with
 |h k n es ex b ts th os el i1 i2 =>
  intro hl hc hf hg hk;have hp:=Kw K.p (eU K.p) hk;have al:aV (fG K.p (eU K.p) th)+aV (fG K.p (eU K.p) el)<=aV (inT K.p (eU K.p) (.mk k n es ex b ts th os el)):=hp;have ad:∀t∈th,∀x∈t.pre,x∈(aa.mk k n es ex b ts th os el).pre:=λt ht x hx=>by
   rw[aa.pre_eq];exact au _ (cz _ (List.mem_flatMap.2 ⟨t,ht,hx⟩))
  have ab:∀t∈el,∀x∈t.pre,x∈(aa.mk k n es ex b ts th os el).pre:=λt ht x hx=>by
   rw[aa.pre_eq];exact au _ (bF _ (List.mem_flatMap.2 ⟨t,ht,hx⟩))
  have each:∀l:List aa,aV (fG K.p (eU K.p) l)<=20000->(∀t∈l,CallsIn K.p t)->(∀t∈l,∀x∈t.pre,x∈(aa.mk k n es ex b ts th os el).pre)->(∀t∈l,aV (inT K.p (eU K.p) t)<=20000->CallsIn K.p t->(∀x∈t.pre,mJ K.p x)->(∀x∈t.pre,x.bI=8->aV (eU K.p (dG K.p x.aT))<=20000->CO K (dG K.p x.aT))->t.bI≠8->rM K t.gy/\rM K t.iD)->rM K l:=λl U O hm ih =>
   JB V U O (λt ht D=>(hf t (hm t ht t (CJ t)) D).2.2) (λt ht D=>hg t (hm t ht t (CJ t)) D (by
    have h1:=vZ K.p (eU K.p) l t ht;rw[Dt _ _ D,ku]at h1;omega)) λt ht D=>ih t ht (ai (vZ K.p (eU K.p) l t ht) U) (O t ht) (λx hx=>hf x (hm t ht x hx)) (λx hx=>hg x (hm t ht x hx)) D
  exact⟨each th (by omega) hc.gy ad i1,each el (by omega) hc.iD ab i2⟩
theorem JA{K:jq}(O:fF K.p){l:List aa}(hl:aV (fG K.p (eU K.p) l)<=20000)(hc:∀s∈l,CallsIn K.p s)(hf:∀x∈l.flatMap aa.pre,mJ K.p x)(U:∀x∈l.flatMap aa.pre,x.bI=8->aV (eU K.p (dG K.p x.aT))<=20000->CO K (dG K.p x.aT)):rM K l :=
 JB O hl hc (λt ht D=>(hf t (List.mem_flatMap.2 ⟨t,ht,CJ t⟩) D).2.2) (λt ht D=>U t (List.mem_flatMap.2 ⟨t,ht,CJ t⟩) D (by
  have h1:=vZ K.p (eU K.p) l t ht;rw[Dt _ _ D,ku]at h1;omega)) λt ht D=>R8 O t (ai (vZ K.p (eU K.p) l t ht) hl) (hc t ht) (λx hx=>hf x (List.mem_flatMap.2 ⟨t,ht,hx⟩)) (λx hx=>U x (List.mem_flatMap.2 ⟨t,ht,hx⟩)) D
theorem LW{K:jq}(D:fF K.p):∀(r i:Nat),i<K.p.aA.length->rankP K.p i<r->aV (eU K.p i)<=20000->CO K i
 |0,_,_,h,_=>absurd h (dX _)
 |r+1,i,hi,h,hl=>by
  have hq:fU K.p i=K.p.aA[i]:=by unfold fU;rw[aX hi];rfl
  refine Rb D hi hl (JA D ?_ ?_ ?_ λx hx hk O=>?_)
  .have h1:aV (eU K.p i)=aV (fG K.p (eU K.p) (fU K.p i).eY):=by rw[Ih D i hi,qc]
   omega
  .rw[hq]
   exact qH D (D.proc i hi).1.eY
  .rw[hq]
   exact ru D (D.proc i hi).1.eY
  .obtain⟨h1,U⟩:=D.rank i hi x hx hk
   exact LW D r _ U (by omega) O
theorem Mq{K:jq}(D:fF K.p){l:List aa}(hl:aV (fG K.p (eU K.p) l)<=20000)(hc:∀s∈l,CallsIn K.p s)(hf:∀x∈l.flatMap aa.pre,mJ K.p x):rM K l :=
 JA D hl hc hf λx hx hk O=>LW D _ _ (by
  obtain⟨s,U,hx⟩:=List.mem_flatMap.1 hx;exact hc s U x hx hk) (bN _) O
def QE(v ws rs:Sp)(eX:List aa)(aA:List bG):aj:=⟨1,2,Sp.none,[],Sp.none,[],v,[⟨bV,2,0⟩],Sp.none,[],cO 1 1,Sp.none,[],rs,aA,ws,eX,Sp.none,[],cO 1 1⟩
theorem R4{W:World}{v ws rs:Sp}{l:List aa}{m:List bG}(U:RowOf W.heap.size W v 3 bO.cells [⟨bV,2,0⟩])(hl:gq W.heap.size W ws l)(hr:RowOf W.heap.size W rs 3 bG.cells m)(hm:∀q∈m,tH W.heap.size W q):jT W.heap.size W (QE v ws rs l m):=by
 have D:q8 W.heap.size W Sp.none []:=⟨RowOf.nil,λ_ h=>absurd h (by simp)⟩;have ht:gq W.heap.size W Sp.none []:=⟨RowOf.nil,λ_ h=>absurd h (by simp)⟩;have O:sU W (cO 1 1):=.mk _ (show(0:Int)<=1/\(1:Int)<=255 by decide) (show(0:Int)<=0/\(0:Int)<=255 by decide) (show(0:Int)<=1/\(1:Int)<=4294967295 by decide) (show(Lit.int .i64 1).wf=true by decide) (show(0:Nat)<=maxLen by decide) RowOf.nil λ_ h=>absurd h (by simp[cO,ah.cu])
 refine⟨show(Lit.int .i64 1).wf=true by decide,show(Lit.int .i64 2).wf=true by decide,D,D,⟨U,λd h=>?_⟩,D,O,RowOf.nil,λ_ h=>absurd h (by simp[QE]),hr,hm,hl,ht,O⟩;have:d=⟨bV,2,0⟩:=by simpa[QE]using h
 rw[this];exact⟨by decide,by decide,by decide⟩
theorem Lp(ws rs:Sp)(l:List aa)(m:List bG)(w:World)(h:gq w.heap.size w ws l)(hr:RowOf w.heap.size w rs 3 bG.cells m)(hm:∀q∈m,tH w.heap.size w q):Calls Tryz.prog 67 #[.slice ws.dO l.length ws.df,.slice rs.dO m.length rs.df] w λo w'=>∃b:Nat,o=.returned (.agg (QE ⟨some ⟨b,0,none⟩,1⟩ ws rs l m).arr)/\jT w'.heap.size w' (QE ⟨some ⟨b,0,none⟩,1⟩ ws rs l m)/\Below w.heap.size w w':=by
 have aw:=ae h;have ar:=ae hr;have U:=ae hm;have al:=jc w (.cells ed.arr 35);have ab:=gM w (.cells ed.arr 35);have a5:(w.alloc (.cells ed.arr 35)).heap.size=w.heap.size+1:=by simp
 have hN:=λW=>pG 1 1 W
 simp only[cO,ah.val,ah.bI,ah.op,ah.bv,ah.aS,ah.aT,ah.sp,ah.cu,Sp.val,Sp.none,bK]at hN;have aq:=ae hN;clear h hN hr hm;go_enter Tryz.func67,Tryz.ntmps67
 go_upto_region 1 with (first|(refine dY (t:=35) rfl rfl (jQ _) ?_)|fail)
 generalize w.alloc (.cells ed.arr 35)=W0 at *;have ap:=ae al;have a1:=ae ab;have am:=jc W0 (.cells #[.string bV,.int .i64 2,.int .i64 0] 50);have ad:=gM W0 (.cells #[.string bV,.int .i64 2,.int .i64 0] 50);have V:=ae am;have a3:=ae ad;clear al ab am ad;have ao:(W0.alloc (.cells #[.string bV,.int .i64 2,.int .i64 0] 50)).heap[w.heap.size]?=some (.cells ed.arr 35 (0,0))/\(W0.alloc (.cells #[.string bV,.int .i64 2,.int .i64 0] 50)).heap[w.heap.size+1]?=some (.cells #[.string bV,.int .i64 2,.int .i64 0] 50 (0,0))/\Below w.heap.size w (W0.alloc (.cells #[.string bV,.int .i64 2,.int .i64 0] 50)):=
  ⟨(V.o.block _ (by omega)).trans a1.o,by have h:=a3.o;rw[a5]at h;exact h,ap.o.trans (V.o.mono (by omega))⟩
 have a4:Hid (∀A B:World,Below A.heap.size A B->(A.heap[w.heap.size]?=some (.cells ed.arr 35 (0,0))/\A.heap[w.heap.size+1]?=some (.cells #[.string bV,.int .i64 2,.int .i64 0] 50 (0,0))/\Below w.heap.size w A)->(B.heap[w.heap.size]?=some (.cells ed.arr 35 (0,0))/\B.heap[w.heap.size+1]?=some (.cells #[.string bV,.int .i64 2,.int .i64 0] 50 (0,0))/\Below w.heap.size w B)):=ae λA B hb ⟨h1,h2,h3⟩ =>
  ⟨(hb.block _ (dM h1).1).trans h1,(hb.block _ (dM h2).1).trans h2,h3.trans (hb.mono h3.size)⟩
 have D:=ae ao;clear ao;go_wp2_with(first
  |(go_at_call 34;refine(aq.o _).mono ?_;rintro o2 w2 ⟨rfl,an⟩;have D:=ae (a4.o _ _ an D.o);clear an)
  |(refine aK rfl 35 _ _ rfl w.heap.size (QE ⟨some ⟨w.heap.size+1,0,none⟩,1⟩ ws rs l m).arr (by rfl) (by rfl) 35 ed.arr D.o.1 (dZ _) (by kernel_rfl) (lX _) ?_)
  |fail)
 obtain⟨h1,h2,h3⟩:=D.o;have h4:=bM w2 w.heap.size ed.arr (QE ⟨some ⟨w.heap.size+1,0,none⟩,1⟩ ws rs l m).arr 35 (0,0) h1;have O:Below w.heap.size w (w2.setRow w.heap.size (QE ⟨some ⟨w.heap.size+1,0,none⟩,1⟩ ws rs l m).arr):=below_setRow h3 (af _);refine aW (aL rfl _ _ w.heap.size 35 _ (0,0) _ rfl h4 Tryz.underlying35 rfl (dZ _)) rfl ⟨w.heap.size+1,rfl,?_,O⟩;exact R4 (row_one (enc:=bO.cells) (x:=⟨bV,2,0⟩) (t:=50) (fr:=(0,0)) ((dQ _ _ _ _ (by omega)).trans h2)) (aw.o.on O) ((ar.o.below O).more O.size) λq hq=>⟨(U.o q hq).aT,((U.o q hq).bC.below O).more O.size,((U.o q hq).eY.below O).more O.size⟩
theorem FU(s t:ByteArray)(hs:s.size<=maxLen)(ht:Gb ⟨t,2,0⟩)(hne:t≠⟨#[]⟩)(bs:Sp)(l:List aa)(w:World)(h:gq w.heap.size w bs l):Calls Tryz.prog 66 #[.string s,.string t,.slice bs.dO l.length bs.df] w λo w'=>∃b:Nat,o=.returned (.agg #[.string s,.slice (some ⟨b,0,none⟩) 1 1,.slice bs.dO l.length bs.df])/\tH w'.heap.size w' ⟨s,⟨some ⟨b,0,none⟩,1⟩,[⟨t,2,0⟩],bs,l⟩/\Below w.heap.size w w':=by
 have O:(t.toList == [])=false:=by
  rw[iA];intro e;exact hne (toList_inj (e.trans (by kernel_rfl:([]:List UInt8)=(⟨#[]⟩:ByteArray).toList)))
 have ab:(t.toList != [])=true:=by rw[bne,O];rfl
 have V:=ae h;have D:=ae ht;clear h ht hne;go_enter Tryz.func66,Tryz.ntmps66
 go_wp2_with fail
 obtain⟨h1,h2,h3,h4,U⟩:=CR w (.cells #[.string s,.slice (some ⟨w.heap.size+1+1,0,none⟩) 1 1,.slice bs.dO l.length bs.df] 54) (.cells #[.string s,.slice (some ⟨w.heap.size+1+1,0,none⟩) 1 1,.slice bs.dO l.length bs.df] 54) (.cells #[.string t,.int .i64 2,.int .i64 0] 50);refine aW (aL rfl _ _ w.heap.size 54 _ (0,0) _ rfl h1 Tryz.underlying54 rfl (by kernel_rfl)) rfl ⟨w.heap.size+1+1,rfl,⟨hs,⟨row_one (enc:=bO.cells) (x:=⟨t,2,0⟩) (t:=50) (fr:=(0,0)) h3,λd O=>?_⟩,V.o.on U⟩,U⟩;rw[List.mem_singleton.1 O];exact D.o
noncomputable def opsH6:Array Oper:=((Tryz.f15.body.bind (opsOf 6)).getD #[])
def KQ(t:Nat):Bool:=decide (t<41) || decide (48<t)
theorem Qe:jH opsH6 9 101 KQ=true:=by kernel_rfl
theorem Us{a0:Act}{w0:World}(a5:a0.tmps.size=101)(lo bb c:Nat)(ty:TypeId)(cs:Array Value)(A:Option Addr)(cur:List aa)
  (fb:a0.tmps[8]?.getD undef=.pointer (some ⟨bb,0,none⟩)) (a3:2<cs.size) (a4:lo<=w0.heap.size) (hO:Gd lo bb 2 ty cs A c cur w0) (bl:cur.length+1<=1000000) :
  (Code.region 6 opsH6 true).wp Tryz.prog (λe' a w=>e'=.normal/\a.tmps.size=101/\a.defers=a0.defers/\(∀t:Nat,KQ t=true->a.tmps[t]?.getD undef=a0.tmps[t]?.getD undef)/\EK bb (Value.slice A cur.length c).ownBlock w0 w/\∃A' c' s,aJ s=aJ QW/\Gd lo bb 2 ty cs A' c' (cur++[s]) w/\((Value.slice A' (cur++[s]).length c').ownBlock=(Value.slice A cur.length c).ownBlock\/∃b,(Value.slice A' (cur++[s]).length c').ownBlock=some b/\w0.heap.size<=b)) a0 w0:=by
 refine fQ (n:=9) (sz:=101) (keep:=KQ) rfl Qe a5 (SB [(6,4)] 6 8 lo bb 2 ty cs A c cur QW w0) (RB 6 8) (SB.start hO) ?_;have e:opsH6.toList=opsH6.toList:=rfl
 conv at e=>rhs;arg 1;whnf
 simp only at e;rw[e];clear e
 apply aQ.exact rfl rfl;exact λ_ _ h=>h.flag (by decide) rfl;exact λw=>.inr (.inr (ag _ w));rintro _ _ _ ⟨-,_,_,b,_⟩;simp[go_sem,(b 8 rfl).trans fb];exact rfl
 apply aQ.exact rfl rfl
 .exact λ_ _ h=>h.flag (by decide) rfl
 .exact λw=>.inr (.inr (ag _ w))
 .rintro L a w ⟨-,U,D,_,O⟩
  have a7:=aB (O.1 rfl).2;have V:=U.b (D 8 rfl);have hc:w.cell? ⟨bb,2,none⟩=some (.slice A cur.length c):=by simp[World.cell?,V,a3]
  simp[go_sem,a7,hc];exact rfl
 refine aQ.any (λL v w=>v=.agg #[.int .u8 2,.int .u8 0,.int .u32 0,.int .i64 0,.string bY,.slice none 0 0]) rfl ?_ ?_ ?_
 .exact λ_ _ _ _ _ _ _ hP=>hP
 .rintro L a w ⟨hL,U,D,ao,O⟩
  refine Oper.wp_enter (f:=33) (args:=#[.string bY]) (w':=w) ?_ ?_
  .simp[go_sem,bY]
  .refine(nz bY w).mono ?_
   rintro o w' ⟨rfl,hb⟩;exact⟨_,rfl,_,rfl,λe=>(by cases e),rfl,(U.flag (by decide) (by simp)).world (by rw[av (by decide)];exact kQ (U.ch (6,4) (by simp)) (D 4 rfl)) (by rw[av (by decide)];exact D 8 rfl) hb,.inr (.inr hb)⟩
 refine aQ.any (λL v w=>L 6=false->L 8=false->ME w0.heap.size [aZ bY] v w) rfl ?_ ?_ ?_
 .exact Ls ME.on
 .rintro L a w ⟨hL,U,D,ao,O⟩
  have a8:=aB (O.1 rfl).2;have ad:=jc w (.cells #[.int .u8 2,.int .u8 0,.int .u32 0,.int .i64 0,.string bY,.slice none 0 0] 30);refine Oper.wp_value (v:=.slice (some ⟨w.heap.size,0,none⟩) 1 1) (w':=w.alloc (.cells #[.int .u8 2,.int .u8 0,.int .u32 0,.int .i64 0,.string bY,.slice none 0 0] 30)) ?_ ?_
  .simp[go_sem,a8]
  .exact⟨_,rfl,λe=>(by cases e),λ_ _=>⟨w.heap.size,rfl,om (enc:=ah.cells) (x:=aZ bY) (gM w _) U.kept.size⟩,(U.flag (by decide) (by simp)).world (by rw[av (by decide)];exact kQ (U.ch (6,4) (by simp)) (D 4 rfl)) (by rw[av (by decide)];exact D 8 rfl) ad,.inr (.inr ad)⟩
 refine aQ.any (λL v w=>L 6=false->L 8=false->MG w0.heap.size (dN Sp.none bP [aZ bY]) v w) rfl ?_ ?_ ?_
 .exact Ls MG.on
 .rintro L a w ⟨hL,U,D,ao,O⟩
  obtain⟨b,bh,am⟩:=(O.1 rfl).2 (D 6 rfl) (D 8 rfl);have a9:a.tmps[44]?.getD undef=.slice (some ⟨b,0,none⟩) 1 1:=aB bh;refine Oper.wp_enter (f:=32) (args:=#[.string bP,.slice (some ⟨b,0,none⟩) 1 1]) (w':=w) ?_ ?_
  .simp[go_sem,bP,a9]
  .refine(pY bP ⟨some ⟨b,0,none⟩,1⟩ [aZ bY] w).mono ?_
   rintro o w' ⟨rfl,hb⟩;exact⟨_,rfl,_,rfl,λe=>(by cases e),λ_ _=>⟨dN ⟨some ⟨b,0,none⟩,1⟩ bP [aZ bY],rfl,rP _ _ _,(tN (by decide) am (λx hx=>(by
   simp only[bE,bu,or_false]at hx;rcases hx with rfl
   .exact ql _ _ bY (by decide)))).below hb⟩,(U.flag (by decide) (by simp)).world (by rw[av (by decide)];exact D 6 rfl) (by rw[av (by decide)];exact D 8 rfl) hb,.inr (.inr hb)⟩
 refine aQ.any (λL v w=>L 6=false->L 8=false->MF w0.heap.size (QW) v w) rfl ?_ ?_ ?_
 .exact Ls MF.on
 .rintro L a w ⟨hL,U,D,ao,O⟩
  obtain⟨s,bi,an,ar⟩:=(O.1 rfl).2 (D 6 rfl) (D 8 rfl);have aE:a.tmps[45]?.getD undef=.agg s.r:=aB bi;have ad:=jc w (.cells s.r 43);refine Oper.wp_value (v:=.slice (some ⟨w.heap.size,0,none⟩) 1 1) (w':=w.alloc (.cells s.r 43)) ?_ ?_
  .simp[go_sem,aE]
  .exact⟨_,rfl,λe=>(by cases e),λ_ _=>⟨w.heap.size,s,rfl,an,ar.below ad,om (enc:=aa.cells) (x:=s) (gM w _) U.kept.size⟩,(U.flag (by decide) (by simp)).world (by rw[av (by decide)];exact D 6 rfl) (by rw[av (by decide)];exact D 8 rfl) ad,.inr (.inr ad)⟩
 refine aQ.any (λL v w=>L 8=false->OP lo w0.heap.size bb A c cur QW v w) rfl ?_ ?_ ?_
 .exact R5 OP.on
 .rintro L a w ⟨hL,U,D,ao,O⟩
  have hv:=U.a hL (D 8 rfl);obtain⟨b,s,bj,an,ar,am⟩:=(O.2.1 rfl).2 hL (D 8 rfl);have e1:a.eval (.tmp 42)=.slice A cur.length c:=(O.1 rfl).2;have bd:lo<=w.heap.size:=ai a4 U.kept.size;refine Oper.wp_append (.tmp 42) (.tmp 46) 33 rfl xQ (λ_=>rfl) mV _ cur e1 hv.own ⟨some ⟨b,0,none⟩,1⟩ [s] bj (am.cells qg) (by simp;omega) bd ?_;intro v' w' ho hg al;obtain⟨A',c',rfl⟩:=ho.form;have be:∀b,(Value.slice A cur.length c).ownBlock=some b->b<w0.heap.size:=λb hb=>hO.own.iP b hb
  have ap:some bb≠(Value.slice A cur.length c).ownBlock:=λe=>by
   obtain⟨_,a6,fr,hh⟩:=hv.own.iO e.symm;rw[hv.box]at hh;cases hh
   exact hv.ne rfl
  have a1:(Value.slice A' (cur++[s]).length c').ownBlock=(Value.slice A cur.length c).ownBlock\/∃b,(Value.slice A' (cur++[s]).length c').ownBlock=some b/\w0.heap.size<=b:=al.imp id λe=>⟨_,e,U.kept.size⟩
  have aq:∀x∈cur++[s],qF lo (Value.slice A' (cur++[s]).length c').ownBlock bb w' x:=λx hx=>by
   rcases List.mem_append.1 hx with hx|hx
   .exact(hv.el x hx).grow hg al
   .rw[List.mem_singleton.1 hx]
    exact(ar.tob (lo':=lo) be (dM hO.box).1 a4).grow hg al
  exact⟨_,rfl,λe=>(by cases e),λ_=>⟨A',c',s,rfl,an,ho,aq,a1⟩,⟨λh=>(by rw[bU]at h;cases h),U.kept.grown hg,λ_=>(hg.block _ (dM hv.box).1 ap).trans hv.box,λh=>(by rw[av (by decide),D 8 rfl]at h;cases h),uQ U.ch (by simp[(O.2.2.1 rfl).1])⟩,.inl rfl⟩
 apply aQ.exact rfl rfl;exact λ_ _ h=>h.flag (by decide) rfl;exact λw=>.inr (.inr (ag _ w));rintro _ _ _ ⟨-,_,_,b,_⟩;simp[go_sem,(b 8 rfl).trans fb];exact rfl
 refine aQ.any (λL v w=>True) rfl ?_ ?_ ?_
 .exact λ_ _ _ _ _ _ _ h=>h
 .rintro L a w ⟨hL,U,D,ao,O⟩
  have ba:=aB (O.1 rfl).2;obtain⟨A',c',s,bk,an,ho,aq,al⟩:=(O.2.1 rfl).2 hL;have aw:a.tmps[47]?.getD undef=.slice A' (cur++[s]).length c':=aB bk;have V:=U.b hL;have hc:w.cell? ⟨bb,2,none⟩=some (.slice A cur.length c):=by simp[World.cell?,V,a3]
  have bc:w.frozen? ⟨bb,2,none⟩=false:=by simp[World.frozen?,V]
  have hne:=hO.ne;have ap:(Value.slice A' (cur++[s]).length c').ownBlock≠some bb:=λe=>by
   obtain⟨_,a6,fr,hh⟩:=ho.iO e;rw[V]at hh;cases hh
   exact hne rfl
  refine Oper.wp_skip (w':=w.setCell ⟨bb,2,none⟩ (.slice A' (cur++[s]).length c')) ?_ ?_
  .simp only[ay,aF,bK]at aw ⊢
   simp[go_sem,ba,aw,hc,bc]
  .refine⟨undef,rfl,λ_=>rfl,trivial,⟨λ_ h=>(by rw[bU]at h;cases h),U.kept.set _ _,λh=>(by rw[bU]at h;cases h),λ_=>⟨A',c',s,an,⟨hne,?_,ho.kept λg _ _ _ hh=>aN _ _ _ _ ?_,λx hx=>?_⟩,al⟩,uQ U.ch (by simp)⟩,.inr (.inl rfl)⟩
   .simp[World.setCell,cK,V]
   .rintro rfl;rw[V]at hh;cases hh;exact hne rfl
   .exact(aq x hx).set _ _
 rintro L a w hL ⟨U,ab,_⟩;exact⟨rfl,ab.1.trans a5,ab.2.1,ab.2.2,U.kept,U.d (hL 8 (by decide))⟩
noncomputable def opsH13:Array Oper:=((Tryz.f15.body.bind (opsOf 13)).getD #[])
def Gz(t:Nat):Bool:=decide (t<81) || decide (88<t)
theorem Nz:jH opsH13 9 101 Gz=true:=by kernel_rfl
theorem Tz{a0:Act}{w0:World}(a5:a0.tmps.size=101)(lo bb c:Nat)(ty:TypeId)(cs:Array Value)(A:Option Addr)(cur:List aa)
  (fb:a0.tmps[5]?.getD undef=.pointer (some ⟨bb,0,none⟩)) (a3:14<cs.size) (a4:lo<=w0.heap.size) (hO:Gd lo bb 14 ty cs A c cur w0) (bl:cur.length+1<=1000000) :
  (Code.region 13 opsH13 true).wp Tryz.prog (λe' a w=>e'=.normal/\a.tmps.size=101/\a.defers=a0.defers/\(∀t:Nat,Gz t=true->a.tmps[t]?.getD undef=a0.tmps[t]?.getD undef)/\EK bb (Value.slice A cur.length c).ownBlock w0 w/\∃A' c' s,aJ s=aJ QX/\Gd lo bb 14 ty cs A' c' (cur++[s]) w/\((Value.slice A' (cur++[s]).length c').ownBlock=(Value.slice A cur.length c).ownBlock\/∃b,(Value.slice A' (cur++[s]).length c').ownBlock=some b/\w0.heap.size<=b)) a0 w0:=by
 refine fQ (n:=9) (sz:=101) (keep:=Gz) rfl Nz a5 (SB [(6,4)] 6 8 lo bb 14 ty cs A c cur QX w0) (RB 6 8) (SB.start hO) ?_;have e:opsH13.toList=opsH13.toList:=rfl
 conv at e=>rhs;arg 1;whnf
 simp only at e;rw[e];clear e
 apply aQ.exact rfl rfl;exact λ_ _ h=>h.flag (by decide) rfl;exact λw=>.inr (.inr (ag _ w));rintro _ _ _ ⟨-,_,_,b,_⟩;simp[go_sem,(b 5 rfl).trans fb];exact rfl
 apply aQ.exact rfl rfl
 .exact λ_ _ h=>h.flag (by decide) rfl
 .exact λw=>.inr (.inr (ag _ w))
 .rintro L a w ⟨-,U,D,_,O⟩
  have a7:=aB (O.1 rfl).2;have V:=U.b (D 8 rfl);have hc:w.cell? ⟨bb,14,none⟩=some (.slice A cur.length c):=by simp[World.cell?,V,a3]
  simp[go_sem,a7,hc];exact rfl
 refine aQ.any (λL v w=>v=.agg #[.int .u8 2,.int .u8 0,.int .u32 0,.int .i64 0,.string bV,.slice none 0 0]) rfl ?_ ?_ ?_
 .exact λ_ _ _ _ _ _ _ hP=>hP
 .rintro L a w ⟨hL,U,D,ao,O⟩
  refine Oper.wp_enter (f:=33) (args:=#[.string bV]) (w':=w) ?_ ?_
  .simp[go_sem,bV]
  .refine(nz bV w).mono ?_
   rintro o w' ⟨rfl,hb⟩;exact⟨_,rfl,_,rfl,λe=>(by cases e),rfl,(U.flag (by decide) (by simp)).world (by rw[av (by decide)];exact kQ (U.ch (6,4) (by simp)) (D 4 rfl)) (by rw[av (by decide)];exact D 8 rfl) hb,.inr (.inr hb)⟩
 refine aQ.any (λL v w=>L 6=false->L 8=false->ME w0.heap.size [aZ bV] v w) rfl ?_ ?_ ?_
 .exact Ls ME.on
 .rintro L a w ⟨hL,U,D,ao,O⟩
  have a8:=aB (O.1 rfl).2;have ad:=jc w (.cells #[.int .u8 2,.int .u8 0,.int .u32 0,.int .i64 0,.string bV,.slice none 0 0] 30);refine Oper.wp_value (v:=.slice (some ⟨w.heap.size,0,none⟩) 1 1) (w':=w.alloc (.cells #[.int .u8 2,.int .u8 0,.int .u32 0,.int .i64 0,.string bV,.slice none 0 0] 30)) ?_ ?_
  .simp[go_sem,a8]
  .exact⟨_,rfl,λe=>(by cases e),λ_ _=>⟨w.heap.size,rfl,om (enc:=ah.cells) (x:=aZ bV) (gM w _) U.kept.size⟩,(U.flag (by decide) (by simp)).world (by rw[av (by decide)];exact kQ (U.ch (6,4) (by simp)) (D 4 rfl)) (by rw[av (by decide)];exact D 8 rfl) ad,.inr (.inr ad)⟩
 refine aQ.any (λL v w=>L 6=false->L 8=false->MG w0.heap.size (dN Sp.none bR [aZ bV]) v w) rfl ?_ ?_ ?_
 .exact Ls MG.on
 .rintro L a w ⟨hL,U,D,ao,O⟩
  obtain⟨b,bh,am⟩:=(O.1 rfl).2 (D 6 rfl) (D 8 rfl);have a9:a.tmps[84]?.getD undef=.slice (some ⟨b,0,none⟩) 1 1:=aB bh;refine Oper.wp_enter (f:=32) (args:=#[.string bR,.slice (some ⟨b,0,none⟩) 1 1]) (w':=w) ?_ ?_
  .simp[go_sem,bR,a9]
  .refine(pY bR ⟨some ⟨b,0,none⟩,1⟩ [aZ bV] w).mono ?_
   rintro o w' ⟨rfl,hb⟩;exact⟨_,rfl,_,rfl,λe=>(by cases e),λ_ _=>⟨dN ⟨some ⟨b,0,none⟩,1⟩ bR [aZ bV],rfl,rP _ _ _,(tN (by decide) am (λx hx=>(by
   simp only[bE,bu,or_false]at hx;rcases hx with rfl
   .exact ql _ _ bV (by decide)))).below hb⟩,(U.flag (by decide) (by simp)).world (by rw[av (by decide)];exact D 6 rfl) (by rw[av (by decide)];exact D 8 rfl) hb,.inr (.inr hb)⟩
 refine aQ.any (λL v w=>L 6=false->L 8=false->MF w0.heap.size (QX) v w) rfl ?_ ?_ ?_
 .exact Ls MF.on
 .rintro L a w ⟨hL,U,D,ao,O⟩
  obtain⟨s,bi,an,ar⟩:=(O.1 rfl).2 (D 6 rfl) (D 8 rfl);have aE:a.tmps[85]?.getD undef=.agg s.r:=aB bi;have ad:=jc w (.cells s.r 43);refine Oper.wp_value (v:=.slice (some ⟨w.heap.size,0,none⟩) 1 1) (w':=w.alloc (.cells s.r 43)) ?_ ?_
  .simp[go_sem,aE]
  .exact⟨_,rfl,λe=>(by cases e),λ_ _=>⟨w.heap.size,s,rfl,an,ar.below ad,om (enc:=aa.cells) (x:=s) (gM w _) U.kept.size⟩,(U.flag (by decide) (by simp)).world (by rw[av (by decide)];exact D 6 rfl) (by rw[av (by decide)];exact D 8 rfl) ad,.inr (.inr ad)⟩
 refine aQ.any (λL v w=>L 8=false->OP lo w0.heap.size bb A c cur QX v w) rfl ?_ ?_ ?_
 .exact R5 OP.on
 .rintro L a w ⟨hL,U,D,ao,O⟩
  have hv:=U.a hL (D 8 rfl);obtain⟨b,s,bj,an,ar,am⟩:=(O.2.1 rfl).2 hL (D 8 rfl);have e1:a.eval (.tmp 82)=.slice A cur.length c:=(O.1 rfl).2;have bd:lo<=w.heap.size:=ai a4 U.kept.size;refine Oper.wp_append (.tmp 82) (.tmp 86) 33 rfl xQ (λ_=>rfl) mV _ cur e1 hv.own ⟨some ⟨b,0,none⟩,1⟩ [s] bj (am.cells qg) (by simp;omega) bd ?_;intro v' w' ho hg al;obtain⟨A',c',rfl⟩:=ho.form;have be:∀b,(Value.slice A cur.length c).ownBlock=some b->b<w0.heap.size:=λb hb=>hO.own.iP b hb
  have ap:some bb≠(Value.slice A cur.length c).ownBlock:=λe=>by
   obtain⟨_,a6,fr,hh⟩:=hv.own.iO e.symm;rw[hv.box]at hh;cases hh
   exact hv.ne rfl
  have a1:(Value.slice A' (cur++[s]).length c').ownBlock=(Value.slice A cur.length c).ownBlock\/∃b,(Value.slice A' (cur++[s]).length c').ownBlock=some b/\w0.heap.size<=b:=al.imp id λe=>⟨_,e,U.kept.size⟩
  have aq:∀x∈cur++[s],qF lo (Value.slice A' (cur++[s]).length c').ownBlock bb w' x:=λx hx=>by
   rcases List.mem_append.1 hx with hx|hx
   .exact(hv.el x hx).grow hg al
   .rw[List.mem_singleton.1 hx]
    exact(ar.tob (lo':=lo) be (dM hO.box).1 a4).grow hg al
  exact⟨_,rfl,λe=>(by cases e),λ_=>⟨A',c',s,rfl,an,ho,aq,a1⟩,⟨λh=>(by rw[bU]at h;cases h),U.kept.grown hg,λ_=>(hg.block _ (dM hv.box).1 ap).trans hv.box,λh=>(by rw[av (by decide),D 8 rfl]at h;cases h),uQ U.ch (by simp[(O.2.2.1 rfl).1])⟩,.inl rfl⟩
 apply aQ.exact rfl rfl;exact λ_ _ h=>h.flag (by decide) rfl;exact λw=>.inr (.inr (ag _ w));rintro _ _ _ ⟨-,_,_,b,_⟩;simp[go_sem,(b 5 rfl).trans fb];exact rfl
 refine aQ.any (λL v w=>True) rfl ?_ ?_ ?_
 .exact λ_ _ _ _ _ _ _ h=>h
 .rintro L a w ⟨hL,U,D,ao,O⟩
  have ba:=aB (O.1 rfl).2;obtain⟨A',c',s,bk,an,ho,aq,al⟩:=(O.2.1 rfl).2 hL;have aw:a.tmps[87]?.getD undef=.slice A' (cur++[s]).length c':=aB bk;have V:=U.b hL;have hc:w.cell? ⟨bb,14,none⟩=some (.slice A cur.length c):=by simp[World.cell?,V,a3]
  have bc:w.frozen? ⟨bb,14,none⟩=false:=by simp[World.frozen?,V]
  have hne:=hO.ne;have ap:(Value.slice A' (cur++[s]).length c').ownBlock≠some bb:=λe=>by
   obtain⟨_,a6,fr,hh⟩:=ho.iO e;rw[V]at hh;cases hh
   exact hne rfl
  refine Oper.wp_skip (w':=w.setCell ⟨bb,14,none⟩ (.slice A' (cur++[s]).length c')) ?_ ?_
  .simp only[ay,aF,bK]at aw ⊢
   simp[go_sem,ba,aw,hc,bc]
  .refine⟨undef,rfl,λ_=>rfl,trivial,⟨λ_ h=>(by rw[bU]at h;cases h),U.kept.set _ _,λh=>(by rw[bU]at h;cases h),λ_=>⟨A',c',s,an,⟨hne,?_,ho.kept λg _ _ _ hh=>aN _ _ _ _ ?_,λx hx=>?_⟩,al⟩,uQ U.ch (by simp)⟩,.inr (.inl rfl)⟩
   .simp[World.setCell,cK,V]
   .rintro rfl;rw[V]at hh;cases hh;exact hne rfl
   .exact(aq x hx).set _ _
 rintro L a w hL ⟨U,ab,_⟩;exact⟨rfl,ab.1.trans a5,ab.2.1,ab.2.2,U.kept,U.d (hL 8 (by decide))⟩
noncomputable def opsH15:Array Oper:=((Tryz.f15.body.bind (opsOf 15)).getD #[])
def GA(t:Nat):Bool:=decide (t<91) || decide (99<t)
theorem NA:jH opsH15 10 101 GA=true:=by kernel_rfl
theorem TA{a0:Act}{w0:World}(a5:a0.tmps.size=101)(lo bb c:Nat)(ty:TypeId)(cs:Array Value)(A:Option Addr)(cur:List aa)
  (fb:a0.tmps[5]?.getD undef=.pointer (some ⟨bb,0,none⟩)) (a3:14<cs.size) (a4:lo<=w0.heap.size) (hO:Gd lo bb 14 ty cs A c cur w0) (bm:cur.length+1<=1000000) :
  (Code.region 15 opsH15 true).wp Tryz.prog (λe' a w=>e'=.normal/\a.tmps.size=101/\a.defers=a0.defers/\(∀t:Nat,GA t=true->a.tmps[t]?.getD undef=a0.tmps[t]?.getD undef)/\EK bb (Value.slice A cur.length c).ownBlock w0 w/\∃A' c' s,aJ s=aJ Sd/\Gd lo bb 14 ty cs A' c' (cur++[s]) w/\((Value.slice A' (cur++[s]).length c').ownBlock=(Value.slice A cur.length c).ownBlock\/∃b,(Value.slice A' (cur++[s]).length c').ownBlock=some b/\w0.heap.size<=b)) a0 w0:=by
 refine fQ (n:=10) (sz:=101) (keep:=GA) rfl NA a5 (SB [(7,5),(5,4)] 7 9 lo bb 14 ty cs A c cur Sd w0) (RB 7 9) (SB.start hO) ?_;have e:opsH15.toList=opsH15.toList:=rfl
 conv at e=>rhs;arg 1;whnf
 simp only at e;rw[e];clear e
 apply aQ.exact rfl rfl;exact λ_ _ h=>h.flag (by decide) rfl;exact λw=>.inr (.inr (ag _ w));rintro _ _ _ ⟨-,_,_,b,_⟩;simp[go_sem,(b 5 rfl).trans fb];exact rfl
 apply aQ.exact rfl rfl
 .exact λ_ _ h=>h.flag (by decide) rfl
 .exact λw=>.inr (.inr (ag _ w))
 .rintro L a w ⟨-,U,D,_,O⟩
  have a7:=aB (O.1 rfl).2;have V:=U.b (D 9 rfl);have hc:w.cell? ⟨bb,14,none⟩=some (.slice A cur.length c):=by simp[World.cell?,V,a3]
  simp[go_sem,a7,hc];exact rfl
 refine aQ.any (λL v w=>v=.agg #[.int .u8 2,.int .u8 0,.int .u32 0,.int .i64 0,.string bV,.slice none 0 0]) rfl ?_ ?_ ?_
 .exact λ_ _ _ _ _ _ _ hP=>hP
 .rintro L a w ⟨hL,U,D,al,O⟩
  refine Oper.wp_enter (f:=33) (args:=#[.string bV]) (w':=w) ?_ ?_
  .simp[go_sem,bV]
  .refine(nz bV w).mono ?_
   rintro o w' ⟨rfl,hb⟩;exact⟨_,rfl,_,rfl,λe=>(by cases e),rfl,(U.flag (by decide) (by simp)).world (by rw[av (by decide)];exact kQ (U.ch (7,5) (by simp)) (kQ (U.ch (5,4) (by simp)) (D 4 rfl))) (by rw[av (by decide)];exact D 9 rfl) hb,.inr (.inr hb)⟩
 refine aQ.any (λL v w=>v=.agg #[.int .u8 1,.int .u8 0,.int .u32 0,.int .i64 1,.string ⟨#[]⟩,.slice none 0 0]) rfl ?_ ?_ ?_
 .exact λ_ _ _ _ _ _ _ hP=>hP
 .rintro L a w ⟨hL,U,D,al,O⟩
  refine Oper.wp_enter (f:=34) (args:=#[.int .u32 0,.int .i64 1]) (w':=w) ?_ ?_
  .simp[go_sem]
  .refine(pG 0 1 w).mono ?_
   rintro o w' ⟨rfl,hb⟩;exact⟨_,rfl,_,rfl,λe=>(by cases e),rfl,(U.flag (by decide) (by simp)).world (by rw[av (by decide)];exact kQ (U.ch (7,5) (by simp)) (D 5 rfl)) (by rw[av (by decide)];exact D 9 rfl) hb,.inr (.inr hb)⟩
 refine aQ.any (λL v w=>L 7=false->L 9=false->ME w0.heap.size [aZ bV,cO 0 1] v w) rfl ?_ ?_ ?_
 .exact Ls ME.on
 .rintro L a w ⟨hL,U,D,al,O⟩
  have a8:=aB (O.1 rfl).2;have a9:=aB (O.2.1 rfl).2;have ad:=jc w (.cells #[.int .u8 2,.int .u8 0,.int .u32 0,.int .i64 0,.string bV,.slice none 0 0,.int .u8 1,.int .u8 0,.int .u32 0,.int .i64 1,.string ⟨#[]⟩,.slice none 0 0] 30);refine Oper.wp_value (v:=.slice (some ⟨w.heap.size,0,none⟩) 2 2) (w':=w.alloc (.cells #[.int .u8 2,.int .u8 0,.int .u32 0,.int .i64 0,.string bV,.slice none 0 0,.int .u8 1,.int .u8 0,.int .u32 0,.int .i64 1,.string ⟨#[]⟩,.slice none 0 0] 30)) ?_ ?_
  .simp[go_sem,a8,a9]
  .exact⟨_,rfl,λe=>(by cases e),λ_ _=>⟨w.heap.size,rfl,sG (enc:=ah.cells) (x:=aZ bV) (y:=cO 0 1) rfl (gM w _) U.kept.size⟩,(U.flag (by decide) (by simp)).world (by rw[av (by decide)];exact kQ (U.ch (7,5) (by simp)) (D 5 rfl)) (by rw[av (by decide)];exact D 9 rfl) ad,.inr (.inr ad)⟩
 refine aQ.any (λL v w=>L 7=false->L 9=false->MG w0.heap.size (dN Sp.none bQ [aZ bV,cO 0 1]) v w) rfl ?_ ?_ ?_
 .exact Ls MG.on
 .rintro L a w ⟨hL,U,D,al,O⟩
  obtain⟨b,bi,an⟩:=(O.1 rfl).2 (D 7 rfl) (D 9 rfl);have aE:a.tmps[95]?.getD undef=.slice (some ⟨b,0,none⟩) 2 2:=aB bi;refine Oper.wp_enter (f:=32) (args:=#[.string bQ,.slice (some ⟨b,0,none⟩) 2 2]) (w':=w) ?_ ?_
  .simp[go_sem,bQ,aE]
  .refine(pY bQ ⟨some ⟨b,0,none⟩,2⟩ [aZ bV,cO 0 1] w).mono ?_
   rintro o w' ⟨rfl,hb⟩;exact⟨_,rfl,_,rfl,λe=>(by cases e),λ_ _=>⟨dN ⟨some ⟨b,0,none⟩,2⟩ bQ [aZ bV,cO 0 1],rfl,rP _ _ _,(tN (by decide) an (λx hx=>(by
   simp only[bE,bu,or_false]at hx;rcases hx with rfl|rfl
   .exact ql _ _ bV (by decide)
   .exact ui _ _ 0 1 (by decide) (by decide)))).below hb⟩,(U.flag (by decide) (by simp[(O.1 rfl).1])).world (by rw[av (by decide)];exact D 7 rfl) (by rw[av (by decide)];exact D 9 rfl) hb,.inr (.inr hb)⟩
 refine aQ.any (λL v w=>L 7=false->L 9=false->MF w0.heap.size (Sd) v w) rfl ?_ ?_ ?_
 .exact Ls MF.on
 .rintro L a w ⟨hL,U,D,al,O⟩
  obtain⟨s,bj,ao,ar⟩:=(O.1 rfl).2 (D 7 rfl) (D 9 rfl);have ba:a.tmps[96]?.getD undef=.agg s.r:=aB bj;have ad:=jc w (.cells s.r 43);refine Oper.wp_value (v:=.slice (some ⟨w.heap.size,0,none⟩) 1 1) (w':=w.alloc (.cells s.r 43)) ?_ ?_
  .simp[go_sem,ba]
  .exact⟨_,rfl,λe=>(by cases e),λ_ _=>⟨w.heap.size,s,rfl,ao,ar.below ad,om (enc:=aa.cells) (x:=s) (gM w _) U.kept.size⟩,(U.flag (by decide) (by simp)).world (by rw[av (by decide)];exact D 7 rfl) (by rw[av (by decide)];exact D 9 rfl) ad,.inr (.inr ad)⟩
 refine aQ.any (λL v w=>L 9=false->OP lo w0.heap.size bb A c cur Sd v w) rfl ?_ ?_ ?_
 .exact R5 OP.on
 .rintro L a w ⟨hL,U,D,al,O⟩
  have hv:=U.a hL (D 9 rfl);obtain⟨b,s,bk,ao,ar,an⟩:=(O.2.1 rfl).2 hL (D 9 rfl);have e1:a.eval (.tmp 92)=.slice A cur.length c:=(O.1 rfl).2;have be:lo<=w.heap.size:=ai a4 U.kept.size;refine Oper.wp_append (.tmp 92) (.tmp 97) 33 rfl xQ (λ_=>rfl) mV _ cur e1 hv.own ⟨some ⟨b,0,none⟩,1⟩ [s] bk (an.cells qg) (by simp;omega) be ?_;intro v' w' ho hg am;obtain⟨A',c',rfl⟩:=ho.form;have bh:∀b,(Value.slice A cur.length c).ownBlock=some b->b<w0.heap.size:=λb hb=>hO.own.iP b hb
  have ap:some bb≠(Value.slice A cur.length c).ownBlock:=λe=>by
   obtain⟨_,a6,fr,hh⟩:=hv.own.iO e.symm;rw[hv.box]at hh;cases hh
   exact hv.ne rfl
  have a1:(Value.slice A' (cur++[s]).length c').ownBlock=(Value.slice A cur.length c).ownBlock\/∃b,(Value.slice A' (cur++[s]).length c').ownBlock=some b/\w0.heap.size<=b:=am.imp id λe=>⟨_,e,U.kept.size⟩
  have aq:∀x∈cur++[s],qF lo (Value.slice A' (cur++[s]).length c').ownBlock bb w' x:=λx hx=>by
   rcases List.mem_append.1 hx with hx|hx
   .exact(hv.el x hx).grow hg am
   .rw[List.mem_singleton.1 hx]
    exact(ar.tob (lo':=lo) bh (dM hO.box).1 a4).grow hg am
  exact⟨_,rfl,λe=>(by cases e),λ_=>⟨A',c',s,rfl,ao,ho,aq,a1⟩,⟨λh=>(by rw[bU]at h;cases h),U.kept.grown hg,λ_=>(hg.block _ (dM hv.box).1 ap).trans hv.box,λh=>(by rw[av (by decide),D 9 rfl]at h;cases h),uQ U.ch (by simp[(O.2.2.1 rfl).1])⟩,.inl rfl⟩
 apply aQ.exact rfl rfl;exact λ_ _ h=>h.flag (by decide) rfl;exact λw=>.inr (.inr (ag _ w));rintro _ _ _ ⟨-,_,_,b,_⟩;simp[go_sem,(b 5 rfl).trans fb];exact rfl
 refine aQ.any (λL v w=>True) rfl ?_ ?_ ?_
 .exact λ_ _ _ _ _ _ _ h=>h
 .rintro L a w ⟨hL,U,D,al,O⟩
  have bc:=aB (O.1 rfl).2;obtain⟨A',c',s,bl,ao,ho,aq,am⟩:=(O.2.1 rfl).2 hL;have aw:a.tmps[98]?.getD undef=.slice A' (cur++[s]).length c':=aB bl;have V:=U.b hL;have hc:w.cell? ⟨bb,14,none⟩=some (.slice A cur.length c):=by simp[World.cell?,V,a3]
  have bd:w.frozen? ⟨bb,14,none⟩=false:=by simp[World.frozen?,V]
  have hne:=hO.ne;have ap:(Value.slice A' (cur++[s]).length c').ownBlock≠some bb:=λe=>by
   obtain⟨_,a6,fr,hh⟩:=ho.iO e;rw[V]at hh;cases hh
   exact hne rfl
  refine Oper.wp_skip (w':=w.setCell ⟨bb,14,none⟩ (.slice A' (cur++[s]).length c')) ?_ ?_
  .simp only[ay,aF,bK]at aw ⊢
   simp[go_sem,bc,aw,hc,bd]
  .refine⟨undef,rfl,λ_=>rfl,trivial,⟨λ_ h=>(by rw[bU]at h;cases h),U.kept.set _ _,λh=>(by rw[bU]at h;cases h),λ_=>⟨A',c',s,ao,⟨hne,?_,ho.kept λg _ _ _ hh=>aN _ _ _ _ ?_,λx hx=>?_⟩,am⟩,uQ U.ch (by simp)⟩,.inr (.inl rfl)⟩
   .simp[World.setCell,cK,V]
   .rintro rfl;rw[V]at hh;cases hh;exact hne rfl
   .exact(aq x hx).set _ _
 rintro L a w hL ⟨U,ab,_⟩;exact⟨rfl,ab.1.trans a5,ab.2.1,ab.2.2,U.kept,U.d (hL 9 (by decide))⟩
noncomputable def opsH7:Array Oper:=((Tryz.f15.body.bind (opsOf 7)).getD #[])
def KR(t:Nat):Bool:=decide (t<49) || decide (62<t)
theorem Qf:jH opsH7 15 101 KR=true:=by kernel_rfl
theorem Ut{a0:Act}{w0:World}(a5:a0.tmps.size=101)(lo bb c:Nat)(ty:TypeId)(cs:Array Value)(A:Option Addr)(cur:List aa)(wd:Int)(bt:(Lit.int .i64 wd).wf=true)(f6:a0.tmps[6]?.getD undef=.int .i64 wd)
  (fb:a0.tmps[8]?.getD undef=.pointer (some ⟨bb,0,none⟩)) (a3:2<cs.size) (a4:lo<=w0.heap.size) (hO:Gd lo bb 2 ty cs A c cur w0) (b8:cur.length+1<=1000000) :
  (Code.region 7 opsH7 true).wp Tryz.prog (λe' a w=>e'=.normal/\a.tmps.size=101/\a.defers=a0.defers/\(∀t:Nat,KR t=true->a.tmps[t]?.getD undef=a0.tmps[t]?.getD undef)/\EK bb (Value.slice A cur.length c).ownBlock w0 w/\∃A' c' s,aJ s=aJ (NP wd)/\Gd lo bb 2 ty cs A' c' (cur++[s]) w/\((Value.slice A' (cur++[s]).length c').ownBlock=(Value.slice A cur.length c).ownBlock\/∃b,(Value.slice A' (cur++[s]).length c').ownBlock=some b/\w0.heap.size<=b)) a0 w0:=by
 refine fQ (n:=15) (sz:=101) (keep:=KR) rfl Qf a5 (SB [(12,8),(8,7),(7,5),(12,11),(11,10)] 12 14 lo bb 2 ty cs A c cur (NP wd) w0) (RB 12 14) (SB.start hO) ?_;have e:opsH7.toList=opsH7.toList:=rfl
 conv at e=>rhs;arg 1;whnf
 simp only at e;rw[e];clear e
 apply aQ.exact rfl rfl;exact λ_ _ h=>h.flag (by decide) rfl;exact λw=>.inr (.inr (ag _ w));rintro _ _ _ ⟨-,_,_,b,_⟩;simp[go_sem,(b 8 rfl).trans fb];exact rfl
 apply aQ.exact rfl rfl
 .exact λ_ _ h=>h.flag (by decide) rfl
 .exact λw=>.inr (.inr (ag _ w))
 .rintro L a w ⟨-,U,D,_,O⟩
  have a7:=aB (O.1 rfl).2;have al:=U.b (D 14 rfl);have hc:w.cell? ⟨bb,2,none⟩=some (.slice A cur.length c):=by simp[World.cell?,al,a3]
  simp[go_sem,a7,hc];exact rfl
 refine aQ.any (λL v w=>v=.agg #[.int .u8 2,.int .u8 0,.int .u32 0,.int .i64 0,.string bY,.slice none 0 0]) rfl ?_ ?_ ?_
 .exact λ_ _ _ _ _ _ _ hP=>hP
 .rintro L a w ⟨hL,U,D,ab,O⟩
  refine Oper.wp_enter (f:=33) (args:=#[.string bY]) (w':=w) ?_ ?_
  .simp[go_sem,bY]
  .refine(nz bY w).mono ?_
   rintro o w' ⟨rfl,hb⟩;exact⟨_,rfl,_,rfl,λe=>(by cases e),rfl,(U.flag (by decide) (by simp)).world (by rw[av (by decide)];exact kQ (U.ch (12,8) (by simp)) (kQ (U.ch (8,7) (by simp)) (kQ (U.ch (7,5) (by simp)) (D 5 rfl)))) (by rw[av (by decide)];exact D 14 rfl) hb,.inr (.inr hb)⟩
 refine aQ.any (λL v w=>L 12=false->L 14=false->ME w0.heap.size [aZ bY] v w) rfl ?_ ?_ ?_
 .exact Ls ME.on
 .rintro L a w ⟨hL,U,D,ab,O⟩
  have a8:=aB (O.1 rfl).2;have V:=jc w (.cells #[.int .u8 2,.int .u8 0,.int .u32 0,.int .i64 0,.string bY,.slice none 0 0] 30);refine Oper.wp_value (v:=.slice (some ⟨w.heap.size,0,none⟩) 1 1) (w':=w.alloc (.cells #[.int .u8 2,.int .u8 0,.int .u32 0,.int .i64 0,.string bY,.slice none 0 0] 30)) ?_ ?_
  .simp[go_sem,a8]
  .exact⟨_,rfl,λe=>(by cases e),λ_ _=>⟨w.heap.size,rfl,om (enc:=ah.cells) (x:=aZ bY) (gM w _) U.kept.size⟩,(U.flag (by decide) (by simp)).world (by rw[av (by decide)];exact kQ (U.ch (12,11) (by simp)) (kQ (U.ch (11,10) (by simp)) (D 10 rfl))) (by rw[av (by decide)];exact D 14 rfl) V,.inr (.inr V)⟩
 apply aQ.exact rfl rfl;exact λ_ _ h=>h.flag (by decide) rfl;exact λw=>.inr (.inr (ag _ w));rintro _ _ _ ⟨-,_,_,b,_⟩;simp[go_sem,(b 6 rfl).trans f6];exact rfl
 refine aQ.any (λL v w=>v=.agg #[.int .u8 1,.int .u8 0,.int .u32 1,.int .i64 wd,.string ⟨#[]⟩,.slice none 0 0]) rfl ?_ ?_ ?_
 .exact λ_ _ _ _ _ _ _ hP=>hP
 .rintro L a w ⟨hL,U,D,ab,O⟩
  have aE:=aB (O.1 rfl).2;refine Oper.wp_enter (f:=34) (args:=#[.int .u32 1,.int .i64 wd]) (w':=w) ?_ ?_
  .simp[go_sem,aE]
  .refine(pG 1 wd w).mono ?_
   rintro o w' ⟨rfl,hb⟩;exact⟨_,rfl,_,rfl,λe=>(by cases e),rfl,(U.flag (by decide) (by simp)).world (by rw[av (by decide)];exact kQ (U.ch (12,8) (by simp)) (kQ (U.ch (8,7) (by simp)) (D 7 rfl))) (by rw[av (by decide)];exact D 14 rfl) hb,.inr (.inr hb)⟩
 refine aQ.any (λL v w=>v=.agg #[.int .u8 1,.int .u8 0,.int .u32 1,.int .i64 1,.string ⟨#[]⟩,.slice none 0 0]) rfl ?_ ?_ ?_
 .exact λ_ _ _ _ _ _ _ hP=>hP
 .rintro L a w ⟨hL,U,D,ab,O⟩
  refine Oper.wp_enter (f:=34) (args:=#[.int .u32 1,.int .i64 1]) (w':=w) ?_ ?_
  .simp[go_sem]
  .refine(pG 1 1 w).mono ?_
   rintro o w' ⟨rfl,hb⟩;exact⟨_,rfl,_,rfl,λe=>(by cases e),rfl,(U.flag (by decide) (by simp)).world (by rw[av (by decide)];exact kQ (U.ch (12,8) (by simp)) (D 8 rfl)) (by rw[av (by decide)];exact D 14 rfl) hb,.inr (.inr hb)⟩
 refine aQ.any (λL v w=>L 12=false->L 14=false->ME w0.heap.size [cO 1 wd,cO 1 1] v w) rfl ?_ ?_ ?_
 .exact Ls ME.on
 .rintro L a w ⟨hL,U,D,ab,O⟩
  have ba:=aB (O.1 rfl).2;have bc:=aB (O.2.1 rfl).2;have V:=jc w (.cells #[.int .u8 1,.int .u8 0,.int .u32 1,.int .i64 wd,.string ⟨#[]⟩,.slice none 0 0,.int .u8 1,.int .u8 0,.int .u32 1,.int .i64 1,.string ⟨#[]⟩,.slice none 0 0] 30);refine Oper.wp_value (v:=.slice (some ⟨w.heap.size,0,none⟩) 2 2) (w':=w.alloc (.cells #[.int .u8 1,.int .u8 0,.int .u32 1,.int .i64 wd,.string ⟨#[]⟩,.slice none 0 0,.int .u8 1,.int .u8 0,.int .u32 1,.int .i64 1,.string ⟨#[]⟩,.slice none 0 0] 30)) ?_ ?_
  .simp[go_sem,ba,bc]
  .exact⟨_,rfl,λe=>(by cases e),λ_ _=>⟨w.heap.size,rfl,sG (enc:=ah.cells) (x:=cO 1 wd) (y:=cO 1 1) rfl (gM w _) U.kept.size⟩,(U.flag (by decide) (by simp[(O.1 rfl).1])).world (by rw[av (by decide)];exact kQ (U.ch (12,8) (by simp)) (D 8 rfl)) (by rw[av (by decide)];exact D 14 rfl) V,.inr (.inr V)⟩
 refine aQ.any (λL v w=>L 12=false->L 14=false->MG w0.heap.size (dN Sp.none bQ [cO 1 wd,cO 1 1]) v w) rfl ?_ ?_ ?_
 .exact Ls MG.on
 .rintro L a w ⟨hL,U,D,ab,O⟩
  obtain⟨b,b0,ap⟩:=(O.1 rfl).2 (D 12 rfl) (D 14 rfl);have bd:a.tmps[56]?.getD undef=.slice (some ⟨b,0,none⟩) 2 2:=aB b0;refine Oper.wp_enter (f:=32) (args:=#[.string bQ,.slice (some ⟨b,0,none⟩) 2 2]) (w':=w) ?_ ?_
  .simp[go_sem,bQ,bd]
  .refine(pY bQ ⟨some ⟨b,0,none⟩,2⟩ [cO 1 wd,cO 1 1] w).mono ?_
   rintro o w' ⟨rfl,hb⟩;exact⟨_,rfl,_,rfl,λe=>(by cases e),λ_ _=>⟨dN ⟨some ⟨b,0,none⟩,2⟩ bQ [cO 1 wd,cO 1 1],rfl,rP _ _ _,(tN (by decide) ap (λx hx=>(by
   simp only[bE,bu,or_false]at hx;rcases hx with rfl|rfl
   .exact ui _ _ 1 wd (by decide) bt
   .exact ui _ _ 1 1 (by decide) (by decide)))).below hb⟩,(U.flag (by decide) (by simp[(O.1 rfl).1])).world (by rw[av (by decide)];exact D 12 rfl) (by rw[av (by decide)];exact D 14 rfl) hb,.inr (.inr hb)⟩
 refine aQ.any (λL v w=>L 12=false->L 14=false->MF w0.heap.size (dN Sp.none bQ [cO 1 wd,cO 1 1]) v w) rfl ?_ ?_ ?_
 .exact Ls MF.on
 .rintro L a w ⟨hL,U,D,ab,O⟩
  obtain⟨s,b3,ad,am⟩:=(O.1 rfl).2 (kQ (U.ch (12,11) (by simp)) (kQ (U.ch (11,10) (by simp)) (D 10 rfl))) (D 14 rfl);have be:a.tmps[57]?.getD undef=.agg s.r:=aB b3;have V:=jc w (.cells s.r 43);refine Oper.wp_value (v:=.slice (some ⟨w.heap.size,0,none⟩) 1 1) (w':=w.alloc (.cells s.r 43)) ?_ ?_
  .simp[go_sem,be]
  .exact⟨_,rfl,λe=>(by cases e),λ_ _=>⟨w.heap.size,s,rfl,ad,am.below V,om (enc:=aa.cells) (x:=s) (gM w _) U.kept.size⟩,(U.flag (by decide) (by simp)).world (by rw[av (by decide)];exact kQ (U.ch (12,11) (by simp)) (kQ (U.ch (11,10) (by simp)) (D 10 rfl))) (by rw[av (by decide)];exact D 14 rfl) V,.inr (.inr V)⟩
 refine aQ.any (λL v w=>L 12=false->L 14=false->MG w0.heap.size ((NP wd)) v w) rfl ?_ ?_ ?_
 .exact Ls MG.on
 .rintro L a w ⟨hL,U,D,ab,O⟩
  obtain⟨b1,bw,bo⟩:=(O.1 rfl).2 (kQ (U.ch (12,11) (by simp)) (D 11 rfl)) (D 14 rfl);have a9:a.tmps[52]?.getD undef=.slice (some ⟨b1,0,none⟩) 1 1:=aB bw;obtain⟨b2,s,b4,ad,am,br⟩:=(O.2.1 rfl).2 (kQ (U.ch (12,11) (by simp)) (D 11 rfl)) (D 14 rfl);have bh:a.tmps[58]?.getD undef=.slice (some ⟨b2,0,none⟩) 1 1:=aB b4;refine Oper.wp_value (v:=.agg #[.int .u8 6,.string ⟨#[]⟩,.slice (some ⟨b1,0,none⟩) 1 1,.int .i64 0,.slice (some ⟨b2,0,none⟩) 1 1,.slice none 0 0]) (w':=w) ?_ ?_
  .simp[go_sem,a9,bh]
  .exact⟨_,rfl,λe=>(by cases e),λ_ _=>⟨TV ⟨some ⟨b1,0,none⟩,1⟩ ⟨some ⟨b2,0,none⟩,1⟩ (aZ bY) [s],rfl,(by unfold NP TV;rw[dS,dS];simp only[ax,dh,ad]),Rq bo (ql _ _ bY (by decide)) ⟨br,λx hx=>(by rw[List.mem_singleton.1 hx];exact am)⟩⟩,U.flag (by decide) (by simp),.inr (.inr (ag _ _))⟩
 refine aQ.any (λL v w=>L 12=false->L 14=false->MF w0.heap.size (NP wd) v w) rfl ?_ ?_ ?_
 .exact Ls MF.on
 .rintro L a w ⟨hL,U,D,ab,O⟩
  obtain⟨s,b5,ad,am⟩:=(O.1 rfl).2 (D 12 rfl) (D 14 rfl);have bi:a.tmps[59]?.getD undef=.agg s.r:=aB b5;have V:=jc w (.cells s.r 43);refine Oper.wp_value (v:=.slice (some ⟨w.heap.size,0,none⟩) 1 1) (w':=w.alloc (.cells s.r 43)) ?_ ?_
  .simp[go_sem,bi]
  .exact⟨_,rfl,λe=>(by cases e),λ_ _=>⟨w.heap.size,s,rfl,ad,am.below V,om (enc:=aa.cells) (x:=s) (gM w _) U.kept.size⟩,(U.flag (by decide) (by simp[(O.1 rfl).1])).world (by rw[av (by decide)];exact D 12 rfl) (by rw[av (by decide)];exact D 14 rfl) V,.inr (.inr V)⟩
 refine aQ.any (λL v w=>L 14=false->OP lo w0.heap.size bb A c cur (NP wd) v w) rfl ?_ ?_ ?_
 .exact R5 OP.on
 .rintro L a w ⟨hL,U,D,ab,O⟩
  have hv:=U.a hL (D 14 rfl);obtain⟨b,s,b6,ad,am,ap⟩:=(O.2.1 rfl).2 hL (D 14 rfl);have e1:a.eval (.tmp 50)=.slice A cur.length c:=(O.1 rfl).2;have bl:lo<=w.heap.size:=ai a4 U.kept.size;refine Oper.wp_append (.tmp 50) (.tmp 60) 33 rfl xQ (λ_=>rfl) mV _ cur e1 hv.own ⟨some ⟨b,0,none⟩,1⟩ [s] b6 (ap.cells qg) (by simp;omega) bl ?_;intro v' w' ho hg ao;obtain⟨A',c',rfl⟩:=ho.form;have bm:∀b,(Value.slice A cur.length c).ownBlock=some b->b<w0.heap.size:=λb hb=>hO.own.iP b hb
  have aq:some bb≠(Value.slice A cur.length c).ownBlock:=λe=>by
   obtain⟨_,a6,fr,hh⟩:=hv.own.iO e.symm;rw[hv.box]at hh;cases hh
   exact hv.ne rfl
  have a1:(Value.slice A' (cur++[s]).length c').ownBlock=(Value.slice A cur.length c).ownBlock\/∃b,(Value.slice A' (cur++[s]).length c').ownBlock=some b/\w0.heap.size<=b:=ao.imp id λe=>⟨_,e,U.kept.size⟩
  have ar:∀x∈cur++[s],qF lo (Value.slice A' (cur++[s]).length c').ownBlock bb w' x:=λx hx=>by
   rcases List.mem_append.1 hx with hx|hx
   .exact(hv.el x hx).grow hg ao
   .rw[List.mem_singleton.1 hx]
    exact(am.tob (lo':=lo) bm (dM hO.box).1 a4).grow hg ao
  exact⟨_,rfl,λe=>(by cases e),λ_=>⟨A',c',s,rfl,ad,ho,ar,a1⟩,⟨λh=>(by rw[bU]at h;cases h),U.kept.grown hg,λ_=>(hg.block _ (dM hv.box).1 aq).trans hv.box,λh=>(by rw[av (by decide),D 14 rfl]at h;cases h),uQ U.ch (by simp[(O.2.2.1 rfl).1,(O.2.1 rfl).1])⟩,.inl rfl⟩
 apply aQ.exact rfl rfl;exact λ_ _ h=>h.flag (by decide) rfl;exact λw=>.inr (.inr (ag _ w));rintro _ _ _ ⟨-,_,_,b,_⟩;simp[go_sem,(b 8 rfl).trans fb];exact rfl
 refine aQ.any (λL v w=>True) rfl ?_ ?_ ?_
 .exact λ_ _ _ _ _ _ _ h=>h
 .rintro L a w ⟨hL,U,D,ab,O⟩
  have bj:=aB (O.1 rfl).2;obtain⟨A',c',s,b7,ad,ho,ar,ao⟩:=(O.2.1 rfl).2 hL;have aw:a.tmps[61]?.getD undef=.slice A' (cur++[s]).length c':=aB b7;have al:=U.b hL;have hc:w.cell? ⟨bb,2,none⟩=some (.slice A cur.length c):=by simp[World.cell?,al,a3]
  have bk:w.frozen? ⟨bb,2,none⟩=false:=by simp[World.frozen?,al]
  have hne:=hO.ne;have aq:(Value.slice A' (cur++[s]).length c').ownBlock≠some bb:=λe=>by
   obtain⟨_,a6,fr,hh⟩:=ho.iO e;rw[al]at hh;cases hh
   exact hne rfl
  refine Oper.wp_skip (w':=w.setCell ⟨bb,2,none⟩ (.slice A' (cur++[s]).length c')) ?_ ?_
  .simp only[ay,aF,bK]at aw ⊢
   simp[go_sem,bj,aw,hc,bk]
  .refine⟨undef,rfl,λ_=>rfl,trivial,⟨λ_ h=>(by rw[bU]at h;cases h),U.kept.set _ _,λh=>(by rw[bU]at h;cases h),λ_=>⟨A',c',s,ad,⟨hne,?_,ho.kept λg _ _ _ hh=>aN _ _ _ _ ?_,λx hx=>?_⟩,ao⟩,uQ U.ch (by simp)⟩,.inr (.inl rfl)⟩
   .simp[World.setCell,cK,al]
   .rintro rfl;rw[al]at hh;cases hh;exact hne rfl
   .exact(ar x hx).set _ _
 rintro L a w hL ⟨U,an,_⟩;exact⟨rfl,an.1.trans a5,an.2.1,an.2.2,U.kept,U.d (hL 14 (by decide))⟩
theorem LH(D O:ah)(w:World)(lo:Nat)(am:lo<=w.heap.size)(U:fV lo w D)(V:fV lo w O):Calls Tryz.prog 36 #[D.val,O.val] w λo w'=>∃sp,o=.returned (fw sp D O).val/\nk lo w' (fw sp D O)/\Below w.heap.size w w':=by
 have ab:=ae U;have ad:=ae V;clear U V;simp only[ah.val,Sp.val];go_enter Tryz.func36,Tryz.ntmps36
 go_wp2_with fail
 obtain⟨h1,h2,h3,h4,h6,h5⟩:=Al w (.cells D.r 30) (.cells O.r 30) (.cells #[.int .u8 3,.string ⟨#[]⟩,.slice (some ⟨w.heap.size+1+1+1,0,none⟩) 2 2,.int .i64 0,.slice none 0 0,.slice none 0 0] 43) (.cells (Co D O) 30);refine aW (aL rfl _ _ (w.heap.size+1+1) 43 _ (0,0) _ rfl h3 Tryz.underlying43 rfl (by kernel_rfl)) rfl ⟨⟨some ⟨w.heap.size+1+1+1,0,none⟩,2⟩,rfl,?_,h5⟩;exact .mk _ (show(0:Int)<=3/\(3:Int)<=255 by decide) (show(Lit.int .i64 0).wf=true by decide) (show(0:Nat)<=maxLen by decide) (sG (enc:=ah.cells) (x:=D) (y:=O) rfl h4 (by omega)) (λy hy=>by
  have al:y=D\/y=O:=by simpa[fw,aa.bf]using hy
  rcases al with rfl|rfl
  .exact ab.o.below h5
  .exact ad.o.below h5) RowOf.nil (λ_ h=>absurd h (by simp[fw,aa.gy])) RowOf.nil (λ_ h=>absurd h (by simp[fw,aa.iD]))
theorem Qz(s:ByteArray)(hs:s.size<=maxLen)(e:ah)(w:World)(lo:Nat)(ab:lo<=w.heap.size)(he:fV lo w e):Calls Tryz.prog 35 #[.string s,e.val] w λo w'=>∃sp,o=.returned (ji sp s e).val/\nk lo w' (ji sp s e)/\Below w.heap.size w w':=by
 have O:=ae he;clear he;simp only[ah.val,Sp.val];go_enter Tryz.func35,Tryz.ntmps35
 go_wp2_with fail
 obtain⟨_,U,V,h4,D⟩:=CR w (.cells e.r 30) (.cells #[.int .u8 1,.string s,.slice (some ⟨w.heap.size+1+1,0,none⟩) 1 1,.int .i64 0,.slice none 0 0,.slice none 0 0] 43) (.cells e.r 30);refine aW (aL rfl _ _ (w.heap.size+1) 43 _ (0,0) _ rfl U Tryz.underlying43 rfl (by kernel_rfl)) rfl ⟨⟨some ⟨w.heap.size+1+1,0,none⟩,1⟩,rfl,?_,D⟩;exact .mk _ (show(0:Int)<=1/\(1:Int)<=255 by decide) (show(Lit.int .i64 0).wf=true by decide) hs (om (enc:=ah.cells) (x:=e) V (by omega)) (λy hy=>by
  have:y=e:=by simpa[ji,aa.bf]using hy
  rw[this];exact O.o.below D) RowOf.nil (λ_ h=>absurd h (by simp[ji,aa.gy])) RowOf.nil (λ_ h=>absurd h (by simp[ji,aa.iD]))
theorem Ig(op:Int)(ho:0<=op/\op<=255)(D O:ah)(w:World)(lo:Nat)(am:lo<=w.heap.size)(U:fV lo w D)(V:fV lo w O):Calls Tryz.prog 37 #[.int .u8 op,D.val,O.val] w λo w'=>∃sp:Sp,o=.returned (rU op D O sp).val/\fV lo w' (rU op D O sp)/\Below w.heap.size w w':=by
 have ab:=ae U;have ad:=ae V;clear U V;simp only[ah.val,Sp.val];go_enter Tryz.func37,Tryz.ntmps37
 go_wp2_with fail
 obtain⟨h1,h2,h3,h4,h6,h5⟩:=Al w (.cells D.r 30) (.cells O.r 30) (.cells #[.int .u8 6,.int .u8 op,.int .u32 0,.int .i64 0,.string ⟨#[]⟩,.slice (some ⟨w.heap.size+1+1+1,0,none⟩) 2 2] 30) (.cells (Co D O) 30);refine aW (aL rfl _ _ (w.heap.size+1+1) 30 _ (0,0) _ rfl h3 Tryz.underlying30 rfl (by kernel_rfl)) rfl ⟨⟨some ⟨w.heap.size+1+1+1,0,none⟩,2⟩,rfl,?_,h5⟩;exact .mk _ (show(0:Int)<=6/\(6:Int)<=255 by decide) ho (show(0:Int)<=0/\(0:Int)<=4294967295 by decide) (show(Lit.int .i64 0).wf=true by decide) (show(0:Nat)<=maxLen by decide) (sG (enc:=ah.cells) (x:=D) (y:=O) rfl h4 (by omega)) (λy hy=>by
  have al:y=D\/y=O:=by simpa[rU,ah.cu]using hy
  rcases al with rfl|rfl
  .exact ab.o.below h5
  .exact ad.o.below h5)
theorem tH.cellsU{n:Nat}{W W':World}{q:bG}(h:tH n W q)(hc:∀(a:Addr) (u:Value),a.block<n->W.cell? a=some u->W'.cell? a=some u):tH n W' q :=
 ⟨h.aT,⟨h.bC.row.cells hc,h.bC.ok⟩,⟨h.eY.row.cells hc,λt ht=>(h.eY.ok t ht).cells hc⟩⟩
theorem tH.moreU{n m:Nat}{W:World}{q:bG}(h:tH n W q)(hm:n<=m):tH m W q:=⟨h.aT,⟨h.bC.row.more hm,h.bC.ok⟩,⟨h.eY.row.more hm,λt ht=>(h.eY.ok t ht).more hm⟩⟩
theorem oV.move{n B:Nat}{W W':World}{p:aj}(h:oV n B W p)(ob:∀b,(Value.slice p.ws.dO p.eX.length p.ws.df).ownBlock=some b->b<n)(hk:∀b,b<n->W'.heap[b]?=W.heap[b]?):oV n B W' p:=by
 have hc:∀(a:Addr) (u:Value),a.block<n->(gP B (jZ (Value.slice p.ws.dO p.eX.length p.ws.df).ownBlock W)).cell? a=some u->(gP B (jZ (Value.slice p.ws.dO p.eX.length p.ws.df).ownBlock W')).cell? a=some u:=λa u ha hc=>by
  obtain⟨h1,O,U⟩:=iJ.1 hc;exact iJ.2 ⟨h1,O,(aM (hk _ ha)).trans U⟩
 refine⟨?_,λs hs=>lV.cells (h.elems s hs) hc,jT.cells h.rest hc,h.full⟩;obtain⟨D,ho⟩:=h.own;refine⟨D,?_⟩;rcases ho with h0|⟨g,V,cur,e,h1,O,U⟩
 .exact .inl h0
 .exact .inr ⟨g,V,cur,e,h1,(hk _ (ob g (by rw[e];rfl))).trans O,U⟩
structure OU(lo9 bb:Nat)(p:aj)(w W:World)(A2:Option Addr)(c2:Nat)(l:List bG):Prop where
 low:Below w.heap.size w W
 ord:w.heap.size+1<=bb/\bb<lo9/\lo9<=W.heap.size
 z4:W.heap[w.heap.size]?=some (.cells ed.arr 35 (0,0))
 bx:Bx bb W { p with rs:=⟨A2,c2⟩,aA:=l }
 wo:oV bb (w.heap.size+1) W p
 ob:∀b,(Value.slice p.ws.dO p.eX.length p.ws.df).ownBlock=some b->b<bb
 row:dz lo9 W 54 3 bG.cells (.slice A2 l.length c2) l
 el:∀x∈l,tH lo9 (gP (w.heap.size+1) (jZ (Value.slice p.ws.dO p.eX.length p.ws.df).ownBlock (mask bb W))) x
theorem OU.rev{D bb:Nat}{p:aj}{w W W':World}{g c2:Nat}{l l':List bG}(h:OU D bb p w W (some ⟨g,0,none⟩) c2 l)(hl:l'.length=l.length)(hm:∀x∈l',x∈l)(ho:dz D W' 54 3 bG.cells (.slice (some ⟨g,0,none⟩) l'.length c2) l')(O:W.grownBy W' (some g)):OU D bb p w W' (some ⟨g,0,none⟩) c2 l':=by
 obtain⟨o1,o2,o3⟩:=h.ord;have ab:D<=g:=(h.row.iO (g:=g) rfl).1;have hk:∀b,b<W.heap.size->b≠g->W'.heap[b]?=W.heap[b]? := λb hb hn=>O.block b hb λe=>hn (iL e)
 refine⟨⟨O.os.trans h.low.os,O.tape.trans h.low.tape,O.output.trans h.low.output,ai h.low.size O.size,λb hb=>(hk b (by omega) (by omega)).trans (h.low.block b hb)⟩,⟨o1,o2,ai o3 O.size⟩,(hk _ (by omega) (by omega)).trans h.z4,?_,h.wo.move h.ob λb hb=>hk b (by omega) (by omega),h.ob,ho,λx hx=>(h.el x (hm x hx)).cellsU λa u ha hc=>?_⟩
 .have hb:W'.heap[bb]?=_:=(hk _ (by omega) (by omega)).trans h.bx
  unfold Bx;rw[hb];simp only[aj.arr,aj.cells,hl]
 .obtain⟨h1,U,V,h4⟩:=qW.1 hc
  exact qW.2 ⟨h1,U,V,(aM (hk _ (by omega) (by omega))).trans h4⟩
theorem OU.eX{D bb:Nat}{p:aj}{w W:World}{A2:Option Addr}{c2:Nat}{l:List bG}(h:OU D bb p w W A2 c2 l):Gd (w.heap.size+1) bb 14 35 ({ p with rs:=⟨A2,c2⟩,aA:=l }:aj).arr p.ws.dO p.ws.df p.eX W:=by
 obtain⟨_,o2,o3⟩:=h.ord;refine⟨by decide,?_,h.wo.own,λs V=>(lV.cells (h.wo.elems s V) λa u ha hc=>?_).more (by omega)⟩
 .have hb:W.heap[bb]?=_:=h.bx
  rw[hb];simp[aj.arr,aj.cells,Sp.val]
 .obtain⟨h1,O,U⟩:=iJ.1 hc
  exact qW.2 ⟨h1,O,by omega,U⟩
theorem OU.fin{ad bb:Nat}{p:aj}{w Wx W':World}{A2:Option Addr}{c2:Nat}{l:List bG}(h:OU ad bb p w Wx A2 c2 l){A':Option Addr}{c':Nat}{D:List aa}(hk:EK bb (Value.slice p.ws.dO p.eX.length p.ws.df).ownBlock Wx W')(hO:Gd (w.heap.size+1) bb 14 35 ({ p with rs:=⟨A2,c2⟩,aA:=l }:aj).arr A' c' D W')(hl:l.length<=1000000)(ar:D.length<=1000000) :
  ∃q:aj,q={ ({ p with rs:=⟨A2,c2⟩,aA:=l }:aj)with ws:=⟨A',c'⟩,eX:=D }/\Bx bb W' q/\W'.heap[w.heap.size]?=some (.cells ed.arr 35 (0,0))/\Below w.heap.size w W'/\jT (W'.setRow w.heap.size q.arr).heap.size (W'.setRow w.heap.size q.arr) q:=by
 obtain⟨o1,o2,o3⟩:=h.ord;have aq:=h.ob;refine⟨_,rfl,?_,(hk.block _ (by omega) (by omega) λe=>?_).trans h.z4,h.low.trans (hk.below (by omega) (λb hb=>by have:=(h.wo.own.iO hb).1;omega) (by omega)),?_⟩
 .have hb:=hO.box
  unfold Bx;rw[hb];simp[aj.arr,aj.cells,Sp.val]
 .have:=(h.wo.own.iO e).1
  omega
 .obtain⟨q,hq⟩:∃q:aj,q={ ({ p with rs:=⟨A2,c2⟩,aA:=l }:aj)with ws:=⟨A',c'⟩,eX:=D }:=⟨_,rfl⟩
  rw[<-hq];have V:(W'.setRow w.heap.size q.arr).heap.size=W'.heap.size:=eP _ _ _;have aw:=hk.size;have h2:∀b,w.heap.size+1<=b->(W'.setRow w.heap.size q.arr).heap[b]?=W'.heap[b]? := λb hb=>dQ _ _ _ _ (by omega)
  have O:∀(n:Nat),n<=Wx.heap.size->∀(a:Addr) (u:Value),a.block<n->(gP (w.heap.size+1) (jZ (Value.slice p.ws.dO p.eX.length p.ws.df).ownBlock (mask bb Wx))).cell? a=some u->(W'.setRow w.heap.size q.arr).cell? a=some u:=λn hn a u ha hc=>by
   obtain⟨k1,k2,k3,k4⟩:=qW.1 hc;exact(aM ((h2 _ k1).trans (hk.block _ (by omega) k3 k2))).trans k4
  have U:=(jT.cells h.wo.rest λa u ha hc=>O bb (by omega) a u ha (by
   obtain⟨k1,k2,k3⟩:=iJ.1 hc;exact qW.2 ⟨k1,k2,by omega,k3⟩)).more (n₁:=(W'.setRow w.heap.size q.arr).heap.size) (by rw[V];omega)
  have an:RowOf (W'.setRow w.heap.size q.arr).heap.size (W'.setRow w.heap.size q.arr) ⟨A2,c2⟩ 3 bG.cells l:=by
   have ho:dz ad (W'.setRow w.heap.size q.arr) 54 3 bG.cells (.slice A2 l.length c2) l:=h.row.kept λg cs fr hg hh=>by
    have ap:=(dM hh).1;refine(h2 g (by omega)).trans (hk.block g ap (by omega) λe=>?_);have:=aq _ e;omega
   exact RowOf.cells (ho.low (B2:=0) (λ_=>rfl) (by omega) (aH _)) qg
  have ab:RowOf (W'.setRow w.heap.size q.arr).heap.size (W'.setRow w.heap.size q.arr) ⟨A',c'⟩ 6 aa.cells D:=by
   have ho:dz (w.heap.size+1) (W'.setRow w.heap.size q.arr) 43 6 aa.cells (.slice A' D.length c') D:=hO.own.kept λg cs fr hg _=>h2 g hg
   exact RowOf.cells (ho.low (B2:=0) (λ_=>rfl) (by omega) (aH _)) qg
  have al:∀s∈D,lV (W'.setRow w.heap.size q.arr).heap.size (W'.setRow w.heap.size q.arr) s:=λs hs=>by
   rw[V];refine lV.cells (hO.el s hs) λa u _ hc=>?_
   obtain⟨k1,_,_,k4⟩:=qW.1 hc;exact(aM (h2 _ k1)).trans k4
  have am:∀x∈l,tH (W'.setRow w.heap.size q.arr).heap.size (W'.setRow w.heap.size q.arr) x:=λx hx=>((h.el x hx).cellsU (O ad o3)).moreU (by rw[V];omega)
  generalize W'.setRow w.heap.size q.arr=Wf at *;subst hq;obtain⟨b1,b2,b3,b4,b5,b6,b7,b8,b9,_,_,_,b13,ao⟩:=U;exact⟨b1,b2,b3,b4,b5,b6,b7,b8,b9,an,am,⟨ab,al⟩,b13,ao⟩
noncomputable def opsH16:Array Oper:=((Tryz.f15.body.bind (opsOf 16)).getD #[])
theorem NB:(Code.region 16 opsH16 false)=.region 16 #[{ dst:=some 100,op:=.load 35 (.tmp 5),type:=35,pos := "outright.go:36",after:=#[],guard:=none },{ dst:=none,op:=.store 35 (.tmp 4) (.tmp 100),type:=0,pos := "outright.go:36",after:=#[{ on:=0,ground:=.data },{ on:=0,ground:=.phase }],guard:=none }] false:=by kernel_rfl
theorem Lc{Q:Exit->Act->World->Prop}{a0:Act}{w0:World}(O:a0.tmps.size=101)(n0 bb:Nat)(q:aj)(U:a0.tmps[4]?.getD undef=.pointer (some ⟨n0,0,none⟩))(V:a0.tmps[5]?.getD undef=.pointer (some ⟨bb,0,none⟩))(D:Bx bb w0 q)(hz:w0.heap[n0]?=some (.cells ed.arr 35 (0,0)))
  (h:∀a,a.defers=a0.defers->a.tmps[4]?.getD undef=.pointer (some ⟨n0,0,none⟩)->Q .normal a (w0.setRow n0 q.arr)):(Code.region 16 opsH16 false).wp Tryz.prog Q a0 w0:=by
 rw[NB];refine wp_region_list ?_;refine bH rfl 35 _ rfl bb (bz V) 35 _ (0,0) _ D Tryz.underlying35 rfl (dZ _) ?_;refine aK rfl 35 _ _ rfl n0 q.arr ?_ ?_ 35 ed.arr hz (dZ _) (by kernel_rfl) (lX _) ?_
 .exact(cB (show(100:Nat)≠4 by decide)).trans (bz U)
 .exact eval_put_same (by rw[O];decide)
 .refine wpList_nil (h _ rfl ?_)
  exact aB ((cB (show(100:Nat)≠4 by decide)).trans (bz U))
theorem Jk{B:Nat}{W:World}{g c:Nat}{l:List bG}{j:Nat}(h:dz B W 54 3 bG.cells (.slice (some ⟨g,0,none⟩) l.length c) l)(D:j<l.length)(x:bG) :
  dz B (((W.setCell ⟨g,j*3+0,none⟩ (.string x.aT)).setCell ⟨g,j*3+1,none⟩ (.slice x.ps.dO x.bC.length x.ps.df)).setCell ⟨g,j*3+2,none⟩ (.slice x.bs.dO x.eY.length x.bs.df)) 54 3 bG.cells (.slice (some ⟨g,0,none⟩) l.length c) (l.set j x):=by
 have hk:∀x:bG,(bG.cells x).length=3:=λ_=>rfl
 obtain⟨y,hy⟩:∃y,l[j]=y:=⟨_,rfl⟩;obtain⟨n1,p1,q1,b1,t1⟩:=y;obtain⟨n2,O,V,U,t2⟩:=x;have h0:=h.oneB D hy;have h1:=h0.putB (r:=0) (v:=.string n2) (x:=⟨n2,p1,q1,b1,t1⟩) hk D (by decide) rfl;have h2:=h1.putB (r:=1) (v:=.slice O.dO V.length O.df) (x:=⟨n2,O,V,b1,t1⟩) hk D (by decide) rfl;exact h2.putB (r:=2) (v:=.slice U.dO t2.length U.df) (x:=⟨n2,O,V,U,t2⟩) hk D (by decide) rfl
theorem rE{w W:World}{g:Nat}(h:w.grownBy W (some g))(i:Nat)(v:Value):w.grownBy (W.setCell ⟨g,i,none⟩ v) (some g):=
 ⟨by rw[<-h.os];rfl,by rw[<-h.tape];rfl,by rw[<-h.output];rfl,by simpa using h.size,λb hb D=>(aN _ _ _ _ (by rintro rfl;exact D rfl)).trans (h.block b hb D)⟩
structure Q8(B g c i j:Nat)(l:List bG)(x y:bG)(w0:World)(L:Nat->Bool)(w:World):Prop where
 kept:w0.grownBy w (some g)
 a:L 13=false->dz B w 54 3 bG.cells (.slice (some ⟨g,0,none⟩) l.length c) l
 b:L 13=true->L 15=false->dz B w 54 3 bG.cells (.slice (some ⟨g,0,none⟩) (l.set i y).length c) (l.set i y)
 e:L 15=true->dz B w 54 3 bG.cells (.slice (some ⟨g,0,none⟩) ((l.set i y).set j x).length c) ((l.set i y).set j x)
theorem Q8.flag{B g c i j:Nat}{l:List bG}{x y:bG}{w0 w:World}{L:Nat->Bool}{k:Nat}(hk:k≠13/\k≠15)(h:Q8 B g c i j l x y w0 L w):Q8 B g c i j l x y w0 (pI L k) w:=by
 have D:pI L k 13=L 13:=av (Ne.symm hk.1);have O:pI L k 15=L 15:=av (Ne.symm hk.2);exact⟨h.kept,by rw[D];exact h.a,by rw[D,O];exact h.b,by rw[O];exact h.e⟩
noncomputable def opsRv:Array Oper:=((Tryz.f79.body.bind (opsOf 3)).getD #[])
def KT(t:Nat):Bool:=decide (t<=13)
theorem Qk:jH opsRv 16 28 KT=true:=by kernel_rfl
theorem SG{a0:Act}{w0:World}(am:a0.tmps.size=28)(B g c i j:Nat)(l:List bG)(hi:i<l.length)(hj:j<l.length)
  (f0:a0.tmps[0]?.getD undef=(.slice (some ⟨g,0,none⟩) l.length c)) (f2:a0.tmps[2]?.getD undef=.int .i64 (i:Nat)) (f3:a0.tmps[3]?.getD undef=.int .i64 (j:Nat)) (ho:dz B w0 54 3 bG.cells (.slice (some ⟨g,0,none⟩) l.length c) l) :
  (Code.region 3 opsRv true).wp Tryz.prog (λe' a w=>e'=.normal/\a.tmps.size=28/\a.defers=a0.defers/\(∀t:Nat,KT t=true->a.tmps[t]?.getD undef=a0.tmps[t]?.getD undef)/\w0.grownBy w (some g)/\dz B w 54 3 bG.cells (.slice (some ⟨g,0,none⟩) l.length c) ((l.set i l[j]).set j l[i])) a0 w0:=by
 obtain⟨x,hx⟩:∃x,l[i]=x:=⟨_,rfl⟩;obtain⟨y,hy⟩:∃y,l[j]=y:=⟨_,rfl⟩;rw[hx,hy];refine fQ (n:=16) (sz:=28) (keep:=KT) rfl Qk am (Q8 B g c i j l x y w0) (λ_ _ _=>True) ⟨⟨rfl,rfl,rfl,af _,λ_ _ _=>rfl⟩,λ_=>ho.on (ag _ _).drew,λh=>(by cases h),λh=>(by cases h)⟩ ?_;have e:opsRv.toList=opsRv.toList:=rfl
 conv at e=>rhs;arg 1;whnf
 simp only at e;rw[e];clear e
 apply aQ.exact rfl rfl;exact λ_ _ h=>h.flag (by decide);exact λw=>trivial;rintro _ _ _ ⟨-,_,_,b,_⟩;simp[go_sem,(b 0 rfl).trans f0];exact rfl
 apply aQ.exact rfl rfl;exact λ_ _ h=>h.flag (by decide);exact λw=>trivial;rintro _ _ _ ⟨-,_,_,b,_⟩;simp[go_sem,(b 2 rfl).trans f2];exact rfl
 apply aQ.exact rfl rfl;exact λ_ _ h=>h.flag (by decide);exact λw=>trivial;rintro _ _ _ ⟨-,_,_,b,_⟩;simp[go_sem,(b 0 rfl).trans f0];exact rfl
 apply aQ.exact rfl rfl;exact λ_ _ h=>h.flag (by decide);exact λw=>trivial;rintro _ _ _ ⟨-,_,_,b,_⟩;simp[go_sem,(b 3 rfl).trans f3];exact rfl
 apply aQ.exact rfl rfl;exact λ_ _ h=>h.flag (by decide);exact λw=>trivial;rintro _ _ _ ⟨-,_,_,b,_⟩;simp[go_sem,(b 0 rfl).trans f0];exact rfl
 apply aQ.exact rfl rfl;exact λ_ _ h=>h.flag (by decide);exact λw=>trivial;rintro _ _ _ ⟨-,_,_,b,_⟩;simp[go_sem,(b 3 rfl).trans f3];exact rfl
 apply aQ.exact rfl rfl;exact λ_ _ h=>h.flag (by decide);exact λw=>trivial;rintro _ _ _ ⟨-,_,_,_,b⟩;have ap:=aB (b.1 rfl).2;have aq:=aB (b.2.1 rfl).2;simp[go_sem,ap,aq,hj];exact rfl
 apply aQ.exact rfl rfl
 .exact λ_ _ h=>h.flag (by decide)
 .exact λw=>trivial
 .rintro L a w ⟨-,hS,U,_,D⟩
  have ar:=aB (D.1 rfl).2;obtain⟨g',hA,-,-,hc⟩:=(hS.a (U 13 rfl)).cell (λ_=>rfl) (j:=j) hj;cases hA
  rw[hy]at hc;have c0:=hc 0 _ rfl;have c1:=hc 1 _ rfl;have c2:=hc 2 _ rfl;rw[bS]at c0;have ab:w.cell? ⟨g,j*3+1,none⟩=some (.slice y.ps.dO y.bC.length y.ps.df):=c1;have ad:w.cell? ⟨g,j*3+2,none⟩=some (.slice y.bs.dO y.eY.length y.bs.df):=c2;simp[go_sem,ar,c0,ab,ad];exact rfl
 apply aQ.exact rfl rfl;exact λ_ _ h=>h.flag (by decide);exact λw=>trivial;rintro _ _ _ ⟨-,_,_,b,_⟩;simp[go_sem,(b 0 rfl).trans f0];exact rfl
 apply aQ.exact rfl rfl;exact λ_ _ h=>h.flag (by decide);exact λw=>trivial;rintro _ _ _ ⟨-,_,_,b,_⟩;simp[go_sem,(b 2 rfl).trans f2];exact rfl
 apply aQ.exact rfl rfl;exact λ_ _ h=>h.flag (by decide);exact λw=>trivial;rintro _ _ _ ⟨-,_,_,_,b⟩;have a1:=aB (b.1 rfl).2;have a3:=aB (b.2.1 rfl).2;simp[go_sem,a1,a3,hi];exact rfl
 apply aQ.exact rfl rfl
 .exact λ_ _ h=>h.flag (by decide)
 .exact λw=>trivial
 .rintro L a w ⟨-,hS,U,_,D⟩
  have a4:=aB (D.1 rfl).2;obtain⟨g',hA,-,-,hc⟩:=(hS.a (U 13 rfl)).cell (λ_=>rfl) (j:=i) hi;cases hA
  rw[hx]at hc;have c0:=hc 0 _ rfl;have c1:=hc 1 _ rfl;have c2:=hc 2 _ rfl;rw[bS]at c0;have ab:w.cell? ⟨g,i*3+1,none⟩=some (.slice x.ps.dO x.bC.length x.ps.df):=c1;have ad:w.cell? ⟨g,i*3+2,none⟩=some (.slice x.bs.dO x.eY.length x.bs.df):=c2;simp[go_sem,a4,c0,ab,ad];exact rfl
 apply aQ.exact rfl rfl;exact λ_ _ h=>h.flag (by decide);exact λw=>trivial;rintro _ _ _ ⟨-,_,_,_,b⟩;have f14:=aB (b.1 rfl).2;have f15:=aB (b.2.1 rfl).2;simp[go_sem,f14,f15,hi];exact rfl
 refine aQ.any (λL v w=>True) rfl ?_ ?_ ?_
 .exact λ_ _ _ _ _ _ _ h=>h
 .rintro L a w ⟨hL,hS,U,a8,D⟩
  have a6:=aB (D.1 rfl).2;have aw:=aB (D.2.1 rfl).2;have O:=hS.a hL;obtain⟨g',hA,-,-,hc⟩:=O.cell (λ_=>rfl) (j:=i) (by simpa using hi);cases hA
  have c0:=hc 0 _ rfl;have c1:=hc 1 _ rfl;have c2:=hc 2 _ rfl;rw[bS]at c0;have z0:=O.frozen (i*3);have z1:=O.frozen (i*3+1);have z2:=O.frozen (i*3+2);refine Oper.wp_skip (w':=((w.setCell ⟨g,i*3+0,none⟩ (.string y.aT)).setCell ⟨g,i*3+1,none⟩ (.slice y.ps.dO y.bC.length y.ps.df)).setCell ⟨g,i*3+2,none⟩ (.slice y.bs.dO y.eY.length y.bs.df)) ?_ ?_
  .simp[go_sem,a6,aw,c0,c1,c2,z0,z1,z2]
  .exact⟨undef,rfl,λ_=>rfl,trivial,⟨rE (rE (rE hS.kept _ _) _ _) _ _,λh=>(by rw[bU]at h;cases h),λ_ _=>(by rw[fe];exact Jk O hi y),λh=>(by rw[av (by decide),U 15 rfl]at h;cases h)⟩,trivial⟩
 apply aQ.exact rfl rfl;exact λ_ _ h=>h.flag (by decide);exact λw=>trivial;rintro _ _ _ ⟨-,_,_,_,b⟩;have an:=aB (b.1 rfl).2;have ao:=aB (b.2.1 rfl).2;simp[go_sem,an,ao,hj];exact rfl
 refine aQ.any (λL v w=>True) rfl ?_ ?_ ?_
 .exact λ_ _ _ _ _ _ _ h=>h
 .rintro L a w ⟨hL,hS,U,a8,D⟩
  have a7:=aB (D.1 rfl).2;have a5:=aB (D.2.1 rfl).2;have al:=(D.2.2.1 rfl).1;have O:=hS.b al hL;obtain⟨g',hA,-,-,hc⟩:=O.cell (λ_=>rfl) (j:=j) (by simpa using hj);cases hA
  have c0:=hc 0 _ rfl;have c1:=hc 1 _ rfl;have c2:=hc 2 _ rfl;rw[bS]at c0;have z0:=O.frozen (j*3);have z1:=O.frozen (j*3+1);have z2:=O.frozen (j*3+2);refine Oper.wp_skip (w':=((w.setCell ⟨g,j*3+0,none⟩ (.string x.aT)).setCell ⟨g,j*3+1,none⟩ (.slice x.ps.dO x.bC.length x.ps.df)).setCell ⟨g,j*3+2,none⟩ (.slice x.bs.dO x.eY.length x.bs.df)) ?_ ?_
  .simp[go_sem,a7,a5,c0,c1,c2,z0,z1,z2]
  .exact⟨undef,rfl,λ_=>rfl,trivial,⟨rE (rE (rE hS.kept _ _) _ _) _ _,λh=>(by rw[av (by decide),al]at h;cases h),λ_ h=>(by rw[bU]at h;cases h),λ_=>(by have hp:=Jk O (by simpa using hj) x;rw[fe];exact hp)⟩,trivial⟩
 rintro L a w hL ⟨hS,V,_⟩;have he:=hS.e (hL 15 (by decide));rw[fe,fe]at he;exact⟨rfl,V.1.trans am,V.2.1,V.2.2,hS.kept,he⟩
theorem Qw(w:World)(B g c:Nat)(x y:bG)(ho:dz B w 54 3 bG.cells (.slice (some ⟨g,0,none⟩) 2 c) [x,y]) :
  Calls Tryz.prog 79 #[.slice (some ⟨g,0,none⟩) 2 c] w λo w'=>o=.returned (.tuple #[])/\dz B w' 54 3 bG.cells (.slice (some ⟨g,0,none⟩) 2 c) [y,x]/\w.grownBy w' (some g):=by
 have HO:=ae ho;clear ho;go_enter Tryz.func79,Tryz.ntmps79
 go_upto_region 1 with fail
 refine wp_loop_rounds 2 ?_;rw[rounds_succ];go_upto_region 3 with fail
 refine dK ?_ (kD (C':=.region 3 opsRv true) (by kernel_rfl) (SG (B:=B) (g:=g) (c:=c) (i:=0) (j:=1) (l:=[x,y]) rfl (by simp) (by simp) rfl rfl rfl HO.o));rintro ex a9 w9 ⟨rfl,D,O,ab,V,ad⟩;obtain⟨F,hF,U⟩:=nu D O ab rfl [14,15,16,17,18,19,20,21,22,23,24,25,26,27] rfl;rw[U];simp only[Oz,OA,OB,Oy,OC];have am:=ae ad;have al:=ae V;clear hF U ab D O ad V;go_wp2_with fail
 rw[rounds_succ];go_wp2_with fail
 go_returns
 exact⟨rfl,am.o,al.o⟩
theorem Qx(w:World)(B g c:Nat)(x m y:bG)(ho:dz B w 54 3 bG.cells (.slice (some ⟨g,0,none⟩) 3 c) [x,m,y]) :
  Calls Tryz.prog 79 #[.slice (some ⟨g,0,none⟩) 3 c] w λo w'=>o=.returned (.tuple #[])/\dz B w' 54 3 bG.cells (.slice (some ⟨g,0,none⟩) 3 c) [y,m,x]/\w.grownBy w' (some g):=by
 have HO:=ae ho;clear ho;go_enter Tryz.func79,Tryz.ntmps79
 go_upto_region 1 with fail
 refine wp_loop_rounds 2 ?_;rw[rounds_succ];go_upto_region 3 with fail
 refine dK ?_ (kD (C':=.region 3 opsRv true) (by kernel_rfl) (SG (B:=B) (g:=g) (c:=c) (i:=0) (j:=2) (l:=[x,m,y]) rfl (by simp) (by simp) rfl rfl rfl HO.o));rintro ex a9 w9 ⟨rfl,D,O,ab,V,ad⟩;obtain⟨F,hF,U⟩:=nu D O ab rfl [14,15,16,17,18,19,20,21,22,23,24,25,26,27] rfl;rw[U];simp only[Oz,OA,OB,Oy,OC];have am:=ae ad;have al:=ae V;clear hF U ab D O ad V;go_wp2_with fail
 rw[rounds_succ];go_wp2_with fail
 go_returns
 exact⟨rfl,am.o,al.o⟩
end Go.Proofs.YtepacjkacjabbaaGreatDoor
