import Derived.Test.YtepacjkacjabbaaGreatDoorPAA
import Derived.Test.YtepacjkacjabbaaGreatDoorPAJ
import Derived.Test.YtepacjkacjabbaaGreatDoorPAG
namespace Go.Proofs.YtepacjkacjabbaaGreatDoor
section
open Go Go.RowKit Go.Maps
structure gV (lo:Nat) (g:Option Nat) (W:World) (A:Option Addr) (c:Nat) (m l:List aa):Prop where
 rd:nU W.heap.size (dK lo (gK g W)) ⟨A,c⟩ m
 eq:m.map ah=l.map ah
theorem gV.move {lo:Nat} {g g':Option Nat} {W W':World} {A:Option Addr} {c:Nat} {m l:List aa} (h:gV lo g W A c m l) (hs:W.heap.size≤W'.heap.size) (hm:∀b:Nat,lo≤b→g≠some b→b<W.heap.size→g'≠some b∧W'.heap[b]? = W.heap[b]?):gV lo g' W' A c m l :=
 ⟨h.rd.cells hs (jc fun b h1 h2 h3=>⟨h1,hm b h1 h2 h3⟩),h.eq⟩
theorem gV.on {lo:Nat} {g:Option Nat} {W W':World} {A:Option Addr} {c:Nat} {m l:List aa} (h:gV lo g W A c m l) (hb:Below W.heap.size W W'):gV lo g W' A c m l:=h.move hb.size fun b _ h2 h3=>⟨h2,hb.block b h3⟩
theorem gV.of {lo:Nat} {g:Option Nat} {W:World} {A:Option Addr} {c:Nat} {m l:List aa} {lo':Nat} (hg:∀b,g=some b→b<lo) (h:gX Kk 63 aa.cellsR lo W A c m) (he:m.map ah=l.map ah) (hl:m.length≤1000000) (hlo:lo'≤lo):gV lo' g W A c m l:=by
 obtain ⟨h1,h2⟩:=h.row Jz (fun _=>rfl) hl;have hm:∀b:Nat,lo≤b→(none:Option Nat)≠some b→b<W.heap.size→lo'≤b∧g≠some b∧W.heap[b]? = W.heap[b]? := fun b h3 _ _=>⟨by omega,fun e=>by have:=hg b e;omega,rfl⟩
 exact ⟨⟨h1.cells fun p u hp hc=>jc hm p u hp hc,fun x hx=>Jz.move (h2 x hx) (Nat.le_refl _) hm⟩,he⟩
theorem F4:(Tryz.prog.info? 63).map (fun i=>(i.zero,i.size,i.bytes))=some (some (.agg #[.int .i64 0,.string ⟨#[]⟩,.slice none 0 0,.int .i64 0,.slice none 0 0,.slice none 0 0]),6,104):=by kernel_rfl
theorem lM:(Tryz.prog.info? 63).map (·.size)=some 6:=by kernel_rfl
noncomputable def opsRT:Array Oper:=((Tryz.f29.body.bind (opsOf 5)).getD #[])
def zt (t:Nat):Bool:=decide (t≤5) || (decide (7≤t) && decide (t≤14)) || decide (29≤t)
theorem Io:dR opsRT 16 50 zt=true:=by kernel_rfl
def bq:Bool→Value→Option Nat
 | true,.pointer (some p)=>some p.block
 | _,_=>none
structure wR (w0:World) (s:aa) (f9 f12 f13 f14 f15:Bool) (v6 v24 v27 v28:Value) (w:World):Prop where
 low:Below w0.heap.size w0 w
 p6:f14=true→∃b:Nat,v6=.pointer (some ⟨b,0,none⟩)∧w0.heap.size≤b∧b<w.heap.size∧(f15=false→w.heap[b]? = some (.cells #[.int .i64 0,.string ⟨#[]⟩,.slice none 0 0,.int .i64 0,.slice none 0 0,.slice none 0 0] 63 (0,0)))
 c9:f9=true→∃(A:Option Addr) (c:Nat) (m:List aa),v24=.slice A m.length c∧gV w0.heap.size (bq f14 v6) w A c m s.thn
 c12:f12=true→∃(A:Option Addr) (c:Nat) (m:List aa),v27=.slice A m.length c∧gV w0.heap.size (bq f14 v6) w A c m s.els
 b13:f13=true→∃(A1 A2:Option Addr) (c1 c2:Nat) (m1 m2:List aa),v28=.agg #[.int .i64 s.kind,.string s.name,.slice none 0 0,.int .i64 s.bound,.slice A1 m1.length c1,.slice A2 m2.length c2]∧gV w0.heap.size (bq f14 v6) w A1 c1 m1 s.thn∧gV w0.heap.size (bq f14 v6) w A2 c2 m2 s.els
 d15:f15=true→∃(b:Nat) (A1 A2:Option Addr) (c1 c2:Nat) (m1 m2:List aa),v6=.pointer (some ⟨b,0,none⟩)∧w0.heap.size≤b∧w.heap[b]? = some (.cells #[.int .i64 s.kind,.string s.name,.slice none 0 0,.int .i64 s.bound,.slice A1 m1.length c1,.slice A2 m2.length c2] 63 (0,0))∧gV w0.heap.size (some b) w A1 c1 m1 s.thn∧gV w0.heap.size (some b) w A2 c2 m2 s.els
section
variable {w0:World} {s:aa} {f9 f12 f13 f14 f15:Bool} {v6 v24 v27 v28:Value} {w w':World}
theorem wR.on (h:wR w0 s f9 f12 f13 f14 f15 v6 v24 v27 v28 w) (hb:Below w.heap.size w w'):wR w0 s f9 f12 f13 f14 f15 v6 v24 v27 v28 w' where
 low:=h.low.trans (hb.mono h.low.size)
 p6:=fun e=>by
  obtain ⟨b,h1,h2,h3,h4⟩:=h.p6 e;exact ⟨b,h1,h2,Nat.lt_of_lt_of_le h3 hb.size,fun e=>(hb.block b h3).trans (h4 e)⟩
 c9:=fun e=>by
  obtain ⟨A,c,m,h1,h2⟩:=h.c9 e;exact ⟨A,c,m,h1,h2.on hb⟩
 c12:=fun e=>by
  obtain ⟨A,c,m,h1,h2⟩:=h.c12 e;exact ⟨A,c,m,h1,h2.on hb⟩
 b13:=fun e=>by
  obtain ⟨A1,A2,c1,c2,m1,m2,h1,h2,h3⟩:=h.b13 e;exact ⟨A1,A2,c1,c2,m1,m2,h1,h2.on hb,h3.on hb⟩
 d15:=fun e=>by
  obtain ⟨b,A1,A2,c1,c2,m1,m2,h1,h2,h3,h4,h5⟩:=h.d15 e;exact ⟨b,A1,A2,c1,c2,m1,m2,h1,h2,(hb.block b (zgs h3).1).trans h3,h4.on hb,h5.on hb⟩
theorem wR.box (h:wR w0 s f9 f12 f13 false false v6 v24 v27 v28 w):wR w0 s f9 f12 f13 true false (.pointer (some ⟨w.heap.size,0,none⟩)) v24 v27 v28 (w.alloc (.cells #[.int .i64 0,.string ⟨#[]⟩,.slice none 0 0,.int .i64 0,.slice none 0 0,.slice none 0 0] 63)):=by
 have hb:=zba w (.cells #[.int .i64 0,.string ⟨#[]⟩,.slice none 0 0,.int .i64 0,.slice none 0 0,.slice none 0 0] 63);have hm:∀{A:Option Addr} {c:Nat} {m l:List aa},gV w0.heap.size (bq false v6) w A c m l→gV w0.heap.size (some w.heap.size) (w.alloc (.cells #[.int .i64 0,.string ⟨#[]⟩,.slice none 0 0,.int .i64 0,.slice none 0 0,.slice none 0 0] 63)) A c m l:=fun h2=>h2.move hb.size fun b _ _ h3=>⟨fun e=>by have:=Option.some.inj e;omega,hb.block b h3⟩
 exact ⟨h.low.trans (hb.mono h.low.size),fun _=>⟨_,rfl,h.low.size,by rw [World.size_alloc];exact Nat.lt_succ_self _,fun _=>zan _ _⟩,fun e=>by
  obtain ⟨A,c,m,h1,h2⟩:=h.c9 e;exact ⟨A,c,m,h1,hm h2⟩,fun e=>by
  obtain ⟨A,c,m,h1,h2⟩:=h.c12 e;exact ⟨A,c,m,h1,hm h2⟩,fun e=>by
  obtain ⟨A1,A2,c1,c2,m1,m2,h1,h2,h3⟩:=h.b13 e;exact ⟨A1,A2,c1,c2,m1,m2,h1,hm h2,hm h3⟩,fun e=>by cases e⟩
theorem wR.far (h:wR w0 s f9 f12 f13 f14 f15 v6 v24 v27 v28 w):∀b,bq f14 v6=some b→b<w.heap.size:=fun b e=>by
 cases f14 with
 | false=>cases e
 | true =>
  obtain ⟨b2,rfl,_,h3,_⟩:=h.p6 rfl;obtain rfl:=Option.some.inj e;exact h3
end
def Cf (w0:World) (s:aa) (L:Nat→Bool) (a:Act) (w:World):Prop:=a.tmps.size=50∧wR w0 s (L 9) (L 12) (L 13) (L 14) (L 15) (a.eval (.tmp 6)) (a.eval (.tmp 24)) (a.eval (.tmp 27)) (a.eval (.tmp 28)) w
theorem Cf.flag {w0:World} {s:aa} {L:Nat→Bool} {a:Act} {w:World} (k d:Nat) {v:Value} (hk:k≠9∧k≠12∧k≠13∧k≠14∧k≠15) (hd:d≠6∧d≠24∧d≠27∧d≠28) (h:Cf w0 s L a w):Cf w0 s (jr L k) (a.put (some d) v) w:=by
 unfold Cf at h ⊢;rw [ai (Ne.symm hk.1),ai (Ne.symm hk.2.1),ai (Ne.symm hk.2.2.1),ai (Ne.symm hk.2.2.2.1),ai (Ne.symm hk.2.2.2.2),aA hd.1,aA hd.2.1,aA hd.2.2.1,aA hd.2.2.2];exact ⟨by rw [size_put];exact h.1,h.2⟩
theorem Ai (k b:Int) (n:ByteArray) (A1 A2:Option Addr) (n1 c1 n2 c2:Nat):Tryz.prog.built 63 [(0,.int .i64 k),(1,.string n),(3,.int .i64 b),(4,.slice A1 n1 c1),(5,.slice A2 n2 c2)]=some #[.int .i64 k,.string n,.slice none 0 0,.int .i64 b,.slice A1 n1 c1,.slice A2 n2 c2]:=by kernel_rfl
set_option maxRecDepth 10000000 in
set_option maxHeartbeats 64000000 in
theorem K9 {a0:Act} {w0:World} (hsz:a0.tmps.size=50) (bx:Nat) (s:aa) (f5:a0.tmps[5]?.getD undef=.pointer (some ⟨bx,0,none⟩)) (hX:w0.heap[bx]? = some (.cells #[.int .u8 s.kind,.string s.name,.slice s.es.at_ s.exprs.length s.es.cap,.int .i64 s.bound,.slice s.ts.at_ s.thn.length s.ts.cap,.slice s.os.at_ s.els.length s.os.cap] 43 (0,0))) (hwk:IntKind.i64.wrap s.kind=s.kind)
  (hc1:∀W,Below w0.heap.size w0 W→Calls Tryz.prog 29 #[.slice s.ts.at_ s.thn.length s.ts.cap] W fun o w'=>∃(A:Option Addr) (c:Nat) (m:List aa),o=.returned (.slice A m.length c)∧m.map ah=s.thn.map ah∧gX Kk 63 aa.cellsR W.heap.size w' A c m∧Below W.heap.size W w')
  (hc2:∀W,Below w0.heap.size w0 W→Calls Tryz.prog 29 #[.slice s.os.at_ s.els.length s.os.cap] W fun o w'=>∃(A:Option Addr) (c:Nat) (m:List aa),o=.returned (.slice A m.length c)∧m.map ah=s.els.map ah∧gX Kk 63 aa.cellsR W.heap.size w' A c m∧Below W.heap.size W w') (hl1:s.thn.length≤900000) (hl2:s.els.length≤900000) :
  (Code.region 5 opsRT true).wp Tryz.prog (fun e a w=>e=.normal∧a.tmps.size=50∧a.defers=a0.defers∧(∀t:Nat,zt t=true→a.tmps[t]?.getD undef=a0.tmps[t]?.getD undef)∧Below w0.heap.size w0 w∧∃(b:Nat) (A1 A2:Option Addr) (c1 c2:Nat) (m1 m2:List aa),a.tmps[6]?.getD undef=.pointer (some ⟨b,0,none⟩)∧w0.heap.size≤b∧w.heap[b]? = some (.cells #[.int .i64 s.kind,.string s.name,.slice none 0 0,.int .i64 s.bound,.slice A1 m1.length c1,.slice A2 m2.length c2] 63 (0,0))∧gV w0.heap.size (some b) w A1 c1 m1 s.thn∧gV w0.heap.size (some b) w A2 c2 m2 s.els) a0 w0:=by
 have hbx:bx<w0.heap.size:=(zgs hX).1;refine kS (n:=16) (sz:=50) (keep:=zt) rfl Io hsz (Cf w0 s) (fun _ _ _=>True) ⟨hsz,(Below.refl _ _).drew,fun h=>(by cases h),fun h=>(by cases h),fun h=>(by cases h),fun h=>(by cases h),fun h=>(by cases h)⟩ ?_;have e:opsRT.toList=opsRT.toList:=rfl
 conv at e=>rhs;arg 1;whnf
 simp only at e;rw [e];clear e;refine aU.exact (c:=.pointer (some ⟨bx,0,none⟩)) rfl rfl ?_ ?_ ?_ ?_
 ·exact fun _ _ _ h=>Cf.flag 0 15 (by decide) (by decide) h
 ·exact fun _=>trivial
 ·rintro L a w ⟨-,hS,hbeh,hsm,haft⟩
  have f5:a.tmps[5]?.getD undef=_:=(hsm 5 rfl).trans f5;simp [go_sem,f5]
 refine aU.exact (c:=.int .u8 s.kind) rfl rfl ?_ ?_ ?_ ?_
 ·exact fun _ _ _ h=>Cf.flag 1 16 (by decide) (by decide) h
 ·exact fun _=>trivial
 ·rintro L a w ⟨-,hS,hbeh,hsm,haft⟩
  have f15:a.tmps[15]?.getD undef=_:=aj (haft.1 rfl).2;obtain ⟨x0,x1,x2,x3,x4,x5⟩:=ag ((hS.2.low.block bx hbx).trans hX);simp [go_sem,f15,x0]
 refine aU.exact (c:=.int .i64 s.kind) rfl rfl ?_ ?_ ?_ ?_
 ·exact fun _ _ _ h=>Cf.flag 2 17 (by decide) (by decide) h
 ·exact fun _=>trivial
 ·rintro L a w ⟨-,hS,hbeh,hsm,haft⟩
  have f16:a.tmps[16]?.getD undef=_:=aj (haft.1 rfl).2;simp [go_sem,f16];exact hwk
 refine aU.exact (c:=.pointer (some ⟨bx,1,none⟩)) rfl rfl ?_ ?_ ?_ ?_
 ·exact fun _ _ _ h=>Cf.flag 3 18 (by decide) (by decide) h
 ·exact fun _=>trivial
 ·rintro L a w ⟨-,hS,hbeh,hsm,haft⟩
  have f5:a.tmps[5]?.getD undef=_:=(hsm 5 rfl).trans f5;simp [go_sem,f5]
 refine aU.exact (c:=.string s.name) rfl rfl ?_ ?_ ?_ ?_
 ·exact fun _ _ _ h=>Cf.flag 4 19 (by decide) (by decide) h
 ·exact fun _=>trivial
 ·rintro L a w ⟨-,hS,hbeh,hsm,haft⟩
  have f18:a.tmps[18]?.getD undef=_:=aj (haft.1 rfl).2;obtain ⟨x0,x1,x2,x3,x4,x5⟩:=ag ((hS.2.low.block bx hbx).trans hX);simp [go_sem,f18,x1]
 refine aU.exact (c:=.pointer (some ⟨bx,3,none⟩)) rfl rfl ?_ ?_ ?_ ?_
 ·exact fun _ _ _ h=>Cf.flag 5 20 (by decide) (by decide) h
 ·exact fun _=>trivial
 ·rintro L a w ⟨-,hS,hbeh,hsm,haft⟩
  have f5:a.tmps[5]?.getD undef=_:=(hsm 5 rfl).trans f5;simp [go_sem,f5]
 refine aU.exact (c:=.int .i64 s.bound) rfl rfl ?_ ?_ ?_ ?_
 ·exact fun _ _ _ h=>Cf.flag 6 21 (by decide) (by decide) h
 ·exact fun _=>trivial
 ·rintro L a w ⟨-,hS,hbeh,hsm,haft⟩
  have f20:a.tmps[20]?.getD undef=_:=aj (haft.1 rfl).2;obtain ⟨x0,x1,x2,x3,x4,x5⟩:=ag ((hS.2.low.block bx hbx).trans hX);simp [go_sem,f20,x3]
 refine aU.exact (c:=.pointer (some ⟨bx,4,none⟩)) rfl rfl ?_ ?_ ?_ ?_
 ·exact fun _ _ _ h=>Cf.flag 7 22 (by decide) (by decide) h
 ·exact fun _=>trivial
 ·rintro L a w ⟨-,hS,hbeh,hsm,haft⟩
  have f5:a.tmps[5]?.getD undef=_:=(hsm 5 rfl).trans f5;simp [go_sem,f5]
 refine aU.exact (c:=.slice s.ts.at_ s.thn.length s.ts.cap) rfl rfl ?_ ?_ ?_ ?_
 ·exact fun _ _ _ h=>Cf.flag 8 23 (by decide) (by decide) h
 ·exact fun _=>trivial
 ·rintro L a w ⟨-,hS,hbeh,hsm,haft⟩
  have f22:a.tmps[22]?.getD undef=_:=aj (haft.1 rfl).2;obtain ⟨x0,x1,x2,x3,x4,x5⟩:=ag ((hS.2.low.block bx hbx).trans hX);simp [go_sem,f22,x4]
 refine aU.any (fun L v w=>True) rfl ?_ ?_ ?_
 ·exact fun _ _ _ _ _ _ _ h=>h
 ·rintro L a w ⟨hL,hS,hbeh,hsm,haft⟩
  have f23:a.tmps[23]?.getD undef=_:=aj (haft.1 rfl).2;refine Oper.wp_enter (f:=29) (args:=#[.slice s.ts.at_ s.thn.length s.ts.cap]) (w':=w) ?_ ?_
  ·simp [go_sem,f23]
  ·refine (hc1 w hS.2.low).mono ?_
   rintro o w' ⟨A,c,m,rfl,hba,hac,hb2⟩;have hml:m.length=s.thn.length:=by simpa using congrArg List.length hba
   have hS2:=hS.2.on hb2;have hnew:=gV.of hS.2.far hac hba (by omega) hS.2.low.size;refine ⟨_,rfl,_,rfl,fun e=>(by cases e),trivial,⟨by rw [size_put];exact hS.1,?_⟩,trivial⟩;rw [aC,ai (show 12≠9 by decide),ai (show 13≠9 by decide),ai (show 14≠9 by decide),ai (show 15≠9 by decide),aA (show 24≠6 by decide),eval_put_same (by rw [hS.1];decide),aA (show 24≠27 by decide),aA (show 24≠28 by decide)];exact { hS2 with c9:=fun _=>⟨A,c,m,rfl,hnew⟩ }
 refine aU.exact (c:=.pointer (some ⟨bx,5,none⟩)) rfl rfl ?_ ?_ ?_ ?_
 ·exact fun _ _ _ h=>Cf.flag 10 25 (by decide) (by decide) h
 ·exact fun _=>trivial
 ·rintro L a w ⟨-,hS,hbeh,hsm,haft⟩
  have f5:a.tmps[5]?.getD undef=_:=(hsm 5 rfl).trans f5;simp [go_sem,f5]
 refine aU.exact (c:=.slice s.os.at_ s.els.length s.os.cap) rfl rfl ?_ ?_ ?_ ?_
 ·exact fun _ _ _ h=>Cf.flag 11 26 (by decide) (by decide) h
 ·exact fun _=>trivial
 ·rintro L a w ⟨-,hS,hbeh,hsm,haft⟩
  have f25:a.tmps[25]?.getD undef=_:=aj (haft.1 rfl).2;obtain ⟨x0,x1,x2,x3,x4,x5⟩:=ag ((hS.2.low.block bx hbx).trans hX);simp [go_sem,f25,x5]
 refine aU.any (fun L v w=>True) rfl ?_ ?_ ?_
 ·exact fun _ _ _ _ _ _ _ h=>h
 ·rintro L a w ⟨hL,hS,hbeh,hsm,haft⟩
  have f26:a.tmps[26]?.getD undef=_:=aj (haft.1 rfl).2;refine Oper.wp_enter (f:=29) (args:=#[.slice s.os.at_ s.els.length s.os.cap]) (w':=w) ?_ ?_
  ·simp [go_sem,f26]
  ·refine (hc2 w hS.2.low).mono ?_
   rintro o w' ⟨A,c,m,rfl,hba,hac,hb2⟩;have hml:m.length=s.els.length:=by simpa using congrArg List.length hba
   have hS2:=hS.2.on hb2;have hnew:=gV.of hS.2.far hac hba (by omega) hS.2.low.size;refine ⟨_,rfl,_,rfl,fun e=>(by cases e),trivial,⟨by rw [size_put];exact hS.1,?_⟩,trivial⟩;rw [aC,ai (show 9≠12 by decide),ai (show 13≠12 by decide),ai (show 14≠12 by decide),ai (show 15≠12 by decide),aA (show 27≠6 by decide),eval_put_same (by rw [hS.1];decide),aA (show 27≠24 by decide),aA (show 27≠28 by decide)];exact { hS2 with c12:=fun _=>⟨A,c,m,rfl,hnew⟩ }
 refine aU.any (fun L v w=>True) rfl ?_ ?_ ?_
 ·exact fun _ _ _ _ _ _ _ h=>h
 ·rintro L a w ⟨hL,hS,hbeh,hsm,haft⟩
  have f17:a.eval (.tmp 17)=_:=(haft.1 rfl).2;have f19:a.eval (.tmp 19)=_:=(haft.2.1 rfl).2;have f21:a.eval (.tmp 21)=_:=(haft.2.2.1 rfl).2;obtain ⟨A1,c1,m1,f24,h1⟩:=hS.2.c9 (haft.2.2.2.1 rfl).1;obtain ⟨A2,c2,m2,f27,h2⟩:=hS.2.c12 (haft.2.2.2.2.1 rfl).1;have hbt:Tryz.prog.built 63 ((#[(0,.tmp 17),(1,.tmp 19),(3,.tmp 21),(4,.tmp 24),(5,.tmp 27)]:Array (Nat × Operand)).map fun (i,x)=>(i,a.eval x)).toList=some #[.int .i64 s.kind,.string s.name,.slice none 0 0,.int .i64 s.bound,.slice A1 m1.length c1,.slice A2 m2.length c2]:=by
   simp only [List.map_toArray,List.map_cons,List.map_nil,f17,f19,f21,f24,f27];exact Ai ..
  refine wp_build 63 #[(0,.tmp 17),(1,.tmp 19),(3,.tmp 21),(4,.tmp 24),(5,.tmp 27)] rfl (by rw [hbt];rfl) ?_;refine ⟨.agg #[.int .i64 s.kind,.string s.name,.slice none 0 0,.int .i64 s.bound,.slice A1 m1.length c1,.slice A2 m2.length c2],congrArg (fun x:Option (Array Value)=>a.put (some 28) (.agg (x.getD #[]))) hbt,fun e=>(by cases e),trivial,⟨by rw [size_put];exact hS.1,?_⟩,trivial⟩;rw [aC,ai (show 9≠13 by decide),ai (show 12≠13 by decide),ai (show 14≠13 by decide),ai (show 15≠13 by decide),aA (show 28≠6 by decide),aA (show 28≠24 by decide),aA (show 28≠27 by decide),eval_put_same (by rw [hS.1];decide)];exact { hS.2 with b13:=fun _=>⟨A1,A2,c1,c2,m1,m2,congrArg (fun x:Option (Array Value)=>Value.agg (x.getD #[])) hbt,h1,h2⟩ }
 refine aU.any (fun L v w=>True) rfl ?_ ?_ ?_
 ·exact fun _ _ _ _ _ _ _ h=>h
 ·rintro L a w ⟨hL,hS,hbeh,hsm,haft⟩
  have h15:L 15=false:=hbeh 15 rfl;have hS2:=hS.2;rw [hL,h15] at hS2;refine Oper.wp_value (v:=.pointer (some ⟨w.heap.size,0,none⟩)) (w':=w.alloc (.cells #[.int .i64 0,.string ⟨#[]⟩,.slice none 0 0,.int .i64 0,.slice none 0 0,.slice none 0 0] 63)) ?_ ?_
  ·simp [go_sem]
  ·refine ⟨_,rfl,fun e=>(by cases e),trivial,⟨by rw [size_put];exact hS.1,?_⟩,trivial⟩
   rw [aC,ai (show 9≠14 by decide),ai (show 12≠14 by decide),ai (show 13≠14 by decide),ai (show 15≠14 by decide),h15,eval_put_same (by rw [hS.1];decide),aA (show 6≠24 by decide),aA (show 6≠27 by decide),aA (show 6≠28 by decide)];exact hS2.box
 refine aU.any (fun L v w=>True) rfl ?_ ?_ ?_
 ·exact fun _ _ _ _ _ _ _ h=>h
 ·rintro L a w ⟨hL,hS,hbeh,hsm,haft⟩
  have h14:L 14=true:=(haft.1 rfl).1;have h13:L 13=true:=(haft.2.1 rfl).1;obtain ⟨b,e6,hlb,hbs,hbz⟩:=hS.2.p6 h14;obtain ⟨A1,A2,c1,c2,m1,m2,e28,h1,h2⟩:=hS.2.b13 h13;have hz:=hbz hL;rw [h14,e6] at h1 h2;have hmv:∀{A:Option Addr} {c:Nat} {m l:List aa},gV w0.heap.size (some b) w A c m l→gV w0.heap.size (some b) (w.setRow b #[.int .i64 s.kind,.string s.name,.slice none 0 0,.int .i64 s.bound,.slice A1 m1.length c1,.slice A2 m2.length c2]) A c m l:=fun h=>h.move (by rw [setRow_size];exact Nat.le_refl _) fun k _ h4 _=>⟨h4,setRow_other _ _ _ _ (fun e=>h4 (by rw [e]))⟩
  refine wp_store_row 63 (.tmp 6) (.tmp 28) rfl b _ e6 e28 63 _ hz lM rfl (by simp [Value.oneCell']) ?_;refine ⟨undef,rfl,fun _=>rfl,trivial,⟨hS.1,?_⟩,trivial⟩;rw [aC,ai (show 9≠15 by decide),ai (show 12≠15 by decide),ai (show 13≠15 by decide),ai (show 14≠15 by decide)];show wR w0 s (L 9) (L 12) (L 13) (L 14) true (a.eval (.tmp 6)) (a.eval (.tmp 24)) (a.eval (.tmp 27)) (a.eval (.tmp 28)) _;rw [h14,e6];have hS3:=hS.2;rw [h14,e6] at hS3;exact ⟨below_setRow hS.2.low hlb,fun _=>⟨b,rfl,hlb,by rw [setRow_size];exact hbs,fun h=>(by cases h)⟩,fun e=>by
   obtain ⟨A,c,m,t1,t2⟩:=hS3.c9 e;exact ⟨A,c,m,t1,hmv t2⟩,fun e=>by
   obtain ⟨A,c,m,t1,t2⟩:=hS3.c12 e;exact ⟨A,c,m,t1,hmv t2⟩,fun _=>⟨A1,A2,c1,c2,m1,m2,e28,hmv h1,hmv h2⟩,fun _=>⟨b,A1,A2,c1,c2,m1,m2,rfl,hlb,setRow_heap _ _ _ _ _ _ hz,hmv h1,hmv h2⟩⟩
 rintro L a w hL ⟨hS,hsame,hv⟩;obtain ⟨b,A1,A2,c1,c2,m1,m2,h1,h2,h3,h4,h5⟩:=hS.2.d15 (hL 15 (by decide));exact ⟨rfl,hsame.1.trans hsz,hsame.2.1,hsame.2.2,hS.2.low,b,A1,A2,c1,c2,m1,m2,aj h1,h2,h3,h4,h5⟩
end
section
open Go Go.RowKit Go.Maps
noncomputable def opsSS:Array Oper:=((Tryz.f77.body.bind (opsOf 6)).getD #[])
def zw (t:Nat):Bool:=decide (t≤5) || (decide (8≤t) && decide (t≤19)) || decide (28≤t)
theorem Iq:dR opsSS 12 91 zw=true:=by kernel_rfl
structure Ji (w0:World) (X Y:Array Value) (f8 f9 f10 f11:Bool) (v6 v7:Value) (w:World):Prop where
 low:Below w0.heap.size w0 w
 p6:f8=true→∃b:Nat,v6=.pointer (some ⟨b,0,none⟩)∧w0.heap.size≤b∧w.heap[b]? = some (.cells (if f10=true then X else #[.int .i64 0,.string ⟨#[]⟩,.slice none 0 0,.int .i64 0,.slice none 0 0,.slice none 0 0]) 63 (0,0))
 p7:f9=true→∃b:Nat,v7=.pointer (some ⟨b,0,none⟩)∧w0.heap.size≤b∧w.heap[b]? = some (.cells (if f11=true then Y else #[.int .i64 0,.string ⟨#[]⟩,.slice none 0 0,.int .i64 0,.slice none 0 0,.slice none 0 0]) 63 (0,0))
 ne:f8=true→f9=true→v6≠v7
section
variable {w0:World} {X Y:Array Value} {f8 f9 f10 f11:Bool} {v6 v7:Value} {w w':World}
theorem Ji.on (h:Ji w0 X Y f8 f9 f10 f11 v6 v7 w) (hb:Below w.heap.size w w'):Ji w0 X Y f8 f9 f10 f11 v6 v7 w' where
 low:=h.low.trans (hb.mono h.low.size)
 p6:=fun e=>by
  obtain ⟨b,h1,h2,h3⟩:=h.p6 e;exact ⟨b,h1,h2,(hb.block b (zgs h3).1).trans h3⟩
 p7:=fun e=>by
  obtain ⟨b,h1,h2,h3⟩:=h.p7 e;exact ⟨b,h1,h2,(hb.block b (zgs h3).1).trans h3⟩
 ne:=h.ne
theorem Ji.box6 (h:Ji w0 X Y false f9 false f11 v6 v7 w):Ji w0 X Y true f9 false f11 (.pointer (some ⟨w.heap.size,0,none⟩)) v7 (w.alloc (.cells #[.int .i64 0,.string ⟨#[]⟩,.slice none 0 0,.int .i64 0,.slice none 0 0,.slice none 0 0] 63)):=by
 have hb:=zba w (.cells #[.int .i64 0,.string ⟨#[]⟩,.slice none 0 0,.int .i64 0,.slice none 0 0,.slice none 0 0] 63);refine ⟨h.low.trans (hb.mono h.low.size),fun _=>⟨_,rfl,h.low.size,zan _ _⟩,(h.on hb).p7,fun _ e=>?_⟩;obtain ⟨b,rfl,_,h3⟩:=h.p7 e;have:=(zgs h3).1;intro e2;simp at e2
theorem Ji.box7 (h:Ji w0 X Y f8 false f10 false v6 v7 w):Ji w0 X Y f8 true f10 false v6 (.pointer (some ⟨w.heap.size,0,none⟩)) (w.alloc (.cells #[.int .i64 0,.string ⟨#[]⟩,.slice none 0 0,.int .i64 0,.slice none 0 0,.slice none 0 0] 63)):=by
 have hb:=zba w (.cells #[.int .i64 0,.string ⟨#[]⟩,.slice none 0 0,.int .i64 0,.slice none 0 0,.slice none 0 0] 63);refine ⟨h.low.trans (hb.mono h.low.size),(h.on hb).p6,fun _=>⟨_,rfl,h.low.size,zan _ _⟩,fun e _=>?_⟩;obtain ⟨b,rfl,_,h3⟩:=h.p6 e;have:=(zgs h3).1;intro e2;simp at e2
end
def Ev (w0:World) (X Y:Array Value) (L:Nat→Bool) (a:Act) (w:World):Prop:=a.tmps.size=91∧Ji w0 X Y (L 8) (L 9) (L 10) (L 11) (a.eval (.tmp 6)) (a.eval (.tmp 7)) w
theorem Ev.flag {w0:World} {X Y:Array Value} {L:Nat→Bool} {a:Act} {w:World} (k d:Nat) {v:Value} (hk:k≠8∧k≠9∧k≠10∧k≠11) (hd:d≠6∧d≠7) (h:Ev w0 X Y L a w):Ev w0 X Y (jr L k) (a.put (some d) v) w:=by
 unfold Ev at h ⊢;rw [ai (Ne.symm hk.1),ai (Ne.symm hk.2.1),ai (Ne.symm hk.2.2.1),ai (Ne.symm hk.2.2.2),aA hd.1,aA hd.2];exact ⟨by rw [size_put];exact h.1,h.2⟩
set_option maxRecDepth 10000000 in
set_option maxHeartbeats 64000000 in
theorem Lb {a0:Act} {w0:World} (hsz:a0.tmps.size=91) (x y:aa) (ga oa na ca gb ob nb cb i:Nat) (f0:a0.tmps[0]?.getD undef=.slice (some ⟨ga,oa,none⟩) na ca) (f1:a0.tmps[1]?.getD undef=.slice (some ⟨gb,ob,none⟩) nb cb) (f5:a0.tmps[5]?.getD undef=.int .i64 i) (hia:(i:Int)<(na:Int)) (hib:(i:Int)<(nb:Int)) (hi0:(0:Int)≤(i:Int))
  (hga:ga<w0.heap.size) (hgb:gb<w0.heap.size) (ha:∀(r:Nat) (u:Value),x.cellsR[r]? = some u→w0.cell? ⟨ga,oa+i*6+r,none⟩=some u) (hb:∀(r:Nat) (u:Value),y.cellsR[r]? = some u→w0.cell? ⟨gb,ob+i*6+r,none⟩=some u) :
  (Code.region 6 opsSS true).wp Tryz.prog (fun e a w=>e=.normal∧a.tmps.size=91∧a.defers=a0.defers∧(∀t:Nat,zw t=true→a.tmps[t]?.getD undef=a0.tmps[t]?.getD undef)∧Below w0.heap.size w0 w∧∃b6 b7:Nat,a.tmps[6]?.getD undef=.pointer (some ⟨b6,0,none⟩)∧a.tmps[7]?.getD undef=.pointer (some ⟨b7,0,none⟩)∧w.heap[b6]? = some (.cells #[.int .i64 x.kind,.string x.name,.slice x.es.at_ x.exprs.length x.es.cap,.int .i64 x.bound,.slice x.ts.at_ x.thn.length x.ts.cap,.slice x.os.at_ x.els.length x.os.cap] 63 (0,0))∧w.heap[b7]? = some (.cells #[.int .i64 y.kind,.string y.name,.slice y.es.at_ y.exprs.length y.es.cap,.int .i64 y.bound,.slice y.ts.at_ y.thn.length y.ts.cap,.slice y.os.at_ y.els.length y.os.cap] 63 (0,0))) a0 w0:=by
 refine kS (n:=12) (sz:=91) (keep:=zw) rfl Iq hsz (Ev w0 #[.int .i64 x.kind,.string x.name,.slice x.es.at_ x.exprs.length x.es.cap,.int .i64 x.bound,.slice x.ts.at_ x.thn.length x.ts.cap,.slice x.os.at_ x.els.length x.os.cap] #[.int .i64 y.kind,.string y.name,.slice y.es.at_ y.exprs.length y.es.cap,.int .i64 y.bound,.slice y.ts.at_ y.thn.length y.ts.cap,.slice y.os.at_ y.els.length y.os.cap]) (fun _ _ _=>True) ⟨hsz,(Below.refl _ _).drew,fun h=>(by cases h),fun h=>(by cases h),fun h=>(by cases h)⟩ ?_;have e:opsSS.toList=opsSS.toList:=rfl
 conv at e=>rhs;arg 1;whnf
 simp only at e;rw [e];clear e;refine aU.exact (c:=.slice (some ⟨ga,oa,none⟩) na ca) rfl rfl ?_ ?_ ?_ ?_
 ·exact fun _ _ _ h=>Ev.flag 0 20 (by decide) (by decide) h
 ·exact fun _=>trivial
 ·rintro L a w ⟨-,hS,hbeh,hsm,haft⟩
  have f0:a.tmps[0]?.getD undef=_:=(hsm 0 rfl).trans f0;simp [go_sem,f0]
 refine aU.exact (c:=.int .i64 i) rfl rfl ?_ ?_ ?_ ?_
 ·exact fun _ _ _ h=>Ev.flag 1 21 (by decide) (by decide) h
 ·exact fun _=>trivial
 ·rintro L a w ⟨-,hS,hbeh,hsm,haft⟩
  have f5:a.tmps[5]?.getD undef=_:=(hsm 5 rfl).trans f5;simp [go_sem,f5]
 refine aU.exact (c:=.pointer (some ⟨ga,oa+i*6,none⟩)) rfl rfl ?_ ?_ ?_ ?_
 ·exact fun _ _ _ h=>Ev.flag 2 22 (by decide) (by decide) h
 ·exact fun _=>trivial
 ·rintro L a w ⟨-,hS,hbeh,hsm,haft⟩
  have e1:a.tmps[20]?.getD undef=_:=aj (haft.1 rfl).2;have e2:a.tmps[21]?.getD undef=_:=aj (haft.2.1 rfl).2;simp [go_sem,e1,e2,hia,hi0]
 refine aU.exact (c:=.agg #[.int .i64 x.kind,.string x.name,.slice x.es.at_ x.exprs.length x.es.cap,.int .i64 x.bound,.slice x.ts.at_ x.thn.length x.ts.cap,.slice x.os.at_ x.els.length x.os.cap]) rfl rfl ?_ ?_ ?_ ?_
 ·exact fun _ _ _ h=>Ev.flag 3 23 (by decide) (by decide) h
 ·exact fun _=>trivial
 ·rintro L a w ⟨-,hS,hbeh,hsm,haft⟩
  have e1:a.tmps[22]?.getD undef=_:=aj (haft.1 rfl).2;have c0:=(hS.2.low.cell (p:=⟨ga,oa+i*6+0,none⟩) hga).trans (ha 0 _ rfl);have c1:=(hS.2.low.cell (p:=⟨ga,oa+i*6+1,none⟩) hga).trans (ha 1 _ rfl);have c2:=(hS.2.low.cell (p:=⟨ga,oa+i*6+2,none⟩) hga).trans (ha 2 _ rfl);have c3:=(hS.2.low.cell (p:=⟨ga,oa+i*6+3,none⟩) hga).trans (ha 3 _ rfl);have c4:=(hS.2.low.cell (p:=⟨ga,oa+i*6+4,none⟩) hga).trans (ha 4 _ rfl);have c5:=(hS.2.low.cell (p:=⟨ga,oa+i*6+5,none⟩) hga).trans (ha 5 _ rfl);rw [Nat.add_zero] at c0;simp [go_sem,e1,c0,c1,c2,c3,c4,c5,Sp.val]
 refine aU.exact (c:=.slice (some ⟨gb,ob,none⟩) nb cb) rfl rfl ?_ ?_ ?_ ?_
 ·exact fun _ _ _ h=>Ev.flag 4 24 (by decide) (by decide) h
 ·exact fun _=>trivial
 ·rintro L a w ⟨-,hS,hbeh,hsm,haft⟩
  have f1:a.tmps[1]?.getD undef=_:=(hsm 1 rfl).trans f1;simp [go_sem,f1]
 refine aU.exact (c:=.int .i64 i) rfl rfl ?_ ?_ ?_ ?_
 ·exact fun _ _ _ h=>Ev.flag 5 25 (by decide) (by decide) h
 ·exact fun _=>trivial
 ·rintro L a w ⟨-,hS,hbeh,hsm,haft⟩
  have f5:a.tmps[5]?.getD undef=_:=(hsm 5 rfl).trans f5;simp [go_sem,f5]
 refine aU.exact (c:=.pointer (some ⟨gb,ob+i*6,none⟩)) rfl rfl ?_ ?_ ?_ ?_
 ·exact fun _ _ _ h=>Ev.flag 6 26 (by decide) (by decide) h
 ·exact fun _=>trivial
 ·rintro L a w ⟨-,hS,hbeh,hsm,haft⟩
  have e1:a.tmps[24]?.getD undef=_:=aj (haft.1 rfl).2;have e2:a.tmps[25]?.getD undef=_:=aj (haft.2.1 rfl).2;simp [go_sem,e1,e2,hib,hi0]
 refine aU.exact (c:=.agg #[.int .i64 y.kind,.string y.name,.slice y.es.at_ y.exprs.length y.es.cap,.int .i64 y.bound,.slice y.ts.at_ y.thn.length y.ts.cap,.slice y.os.at_ y.els.length y.os.cap]) rfl rfl ?_ ?_ ?_ ?_
 ·exact fun _ _ _ h=>Ev.flag 7 27 (by decide) (by decide) h
 ·exact fun _=>trivial
 ·rintro L a w ⟨-,hS,hbeh,hsm,haft⟩
  have e1:a.tmps[26]?.getD undef=_:=aj (haft.1 rfl).2;have c0:=(hS.2.low.cell (p:=⟨gb,ob+i*6+0,none⟩) hgb).trans (hb 0 _ rfl);have c1:=(hS.2.low.cell (p:=⟨gb,ob+i*6+1,none⟩) hgb).trans (hb 1 _ rfl);have c2:=(hS.2.low.cell (p:=⟨gb,ob+i*6+2,none⟩) hgb).trans (hb 2 _ rfl);have c3:=(hS.2.low.cell (p:=⟨gb,ob+i*6+3,none⟩) hgb).trans (hb 3 _ rfl);have c4:=(hS.2.low.cell (p:=⟨gb,ob+i*6+4,none⟩) hgb).trans (hb 4 _ rfl);have c5:=(hS.2.low.cell (p:=⟨gb,ob+i*6+5,none⟩) hgb).trans (hb 5 _ rfl);rw [Nat.add_zero] at c0;simp [go_sem,e1,c0,c1,c2,c3,c4,c5,Sp.val]
 refine aU.any (fun L v w=>True) rfl ?_ ?_ ?_
 ·exact fun _ _ _ _ _ _ _ h=>h
 ·rintro L a w ⟨hL,hS,hbeh,hsm,haft⟩
  have hst:L 10=false:=hbeh 10 rfl;have hS2:=hS.2;rw [hL,hst] at hS2;refine Oper.wp_value (v:=.pointer (some ⟨w.heap.size,0,none⟩)) (w':=w.alloc (.cells #[.int .i64 0,.string ⟨#[]⟩,.slice none 0 0,.int .i64 0,.slice none 0 0,.slice none 0 0] 63)) ?_ ?_
  ·simp [go_sem]
  ·refine ⟨_,rfl,fun e=>(by cases e),trivial,⟨by rw [size_put];exact hS.1,?_⟩,trivial⟩
   rw [aC,ai (show 9≠8 by decide),ai (show 10≠8 by decide),ai (show 11≠8 by decide),hst,eval_put_same (by rw [hS.1];decide),aA (show 6≠7 by decide)];exact hS2.box6
 refine aU.any (fun L v w=>True) rfl ?_ ?_ ?_
 ·exact fun _ _ _ _ _ _ _ h=>h
 ·rintro L a w ⟨hL,hS,hbeh,hsm,haft⟩
  have hst:L 11=false:=hbeh 11 rfl;have hS2:=hS.2;rw [hL,hst] at hS2;refine Oper.wp_value (v:=.pointer (some ⟨w.heap.size,0,none⟩)) (w':=w.alloc (.cells #[.int .i64 0,.string ⟨#[]⟩,.slice none 0 0,.int .i64 0,.slice none 0 0,.slice none 0 0] 63)) ?_ ?_
  ·simp [go_sem]
  ·refine ⟨_,rfl,fun e=>(by cases e),trivial,⟨by rw [size_put];exact hS.1,?_⟩,trivial⟩
   rw [aC,ai (show 8≠9 by decide),ai (show 10≠9 by decide),ai (show 11≠9 by decide),hst,eval_put_same (by rw [hS.1];decide),aA (show 7≠6 by decide)];exact hS2.box7
 refine aU.any (fun L v w=>True) rfl ?_ ?_ ?_
 ·exact fun _ _ _ _ _ _ _ h=>h
 ·rintro L a w ⟨hL,hS,hbeh,hsm,haft⟩
  have hal:L 8=true:=(haft.1 rfl).1;have ev:a.eval (.tmp 23)=.agg #[.int .i64 x.kind,.string x.name,.slice x.es.at_ x.exprs.length x.es.cap,.int .i64 x.bound,.slice x.ts.at_ x.thn.length x.ts.cap,.slice x.os.at_ x.els.length x.os.cap]:=(haft.2.1 rfl).2;obtain ⟨b,e6,hlb,hz⟩:=hS.2.p6 hal;rw [hL] at hz;refine wp_store_row 63 (.tmp 6) (.tmp 23) rfl b _ e6 ev 63 _ hz lM rfl (by simp [Value.oneCell']) ?_;refine ⟨undef,rfl,fun _=>rfl,trivial,⟨hS.1,?_⟩,trivial⟩;rw [aC,ai (show 8≠10 by decide),ai (show 9≠10 by decide),ai (show 11≠10 by decide)];have hoth:L 9=true→∃b2:Nat,a.eval (.tmp 7)=.pointer (some ⟨b2,0,none⟩)∧w0.heap.size≤b2∧(w.setRow b #[.int .i64 x.kind,.string x.name,.slice x.es.at_ x.exprs.length x.es.cap,.int .i64 x.bound,.slice x.ts.at_ x.thn.length x.ts.cap,.slice x.os.at_ x.els.length x.os.cap]).heap[b2]? = some (.cells (if L 11=true then #[.int .i64 y.kind,.string y.name,.slice y.es.at_ y.exprs.length y.es.cap,.int .i64 y.bound,.slice y.ts.at_ y.thn.length y.ts.cap,.slice y.os.at_ y.els.length y.os.cap] else #[.int .i64 0,.string ⟨#[]⟩,.slice none 0 0,.int .i64 0,.slice none 0 0,.slice none 0 0]) 63 (0,0)):=fun e=>by
   obtain ⟨b2,h1,h2,h3⟩:=hS.2.p7 e;refine ⟨b2,h1,h2,(setRow_other _ _ _ _ fun e2=>?_).trans h3⟩;have hne:=hS.2.ne hal e;rw [e6,h1] at hne;exact hne (by rw [e2])
  exact ⟨below_setRow hS.2.low hlb,fun _=>⟨b,e6,hlb,setRow_heap _ _ _ _ _ _ hz⟩,hoth,hS.2.ne⟩
 refine aU.any (fun L v w=>True) rfl ?_ ?_ ?_
 ·exact fun _ _ _ _ _ _ _ h=>h
 ·rintro L a w ⟨hL,hS,hbeh,hsm,haft⟩
  have hal:L 9=true:=(haft.1 rfl).1;have ev:a.eval (.tmp 27)=.agg #[.int .i64 y.kind,.string y.name,.slice y.es.at_ y.exprs.length y.es.cap,.int .i64 y.bound,.slice y.ts.at_ y.thn.length y.ts.cap,.slice y.os.at_ y.els.length y.os.cap]:=(haft.2.1 rfl).2;obtain ⟨b,e6,hlb,hz⟩:=hS.2.p7 hal;rw [hL] at hz;refine wp_store_row 63 (.tmp 7) (.tmp 27) rfl b _ e6 ev 63 _ hz lM rfl (by simp [Value.oneCell']) ?_;refine ⟨undef,rfl,fun _=>rfl,trivial,⟨hS.1,?_⟩,trivial⟩;rw [aC,ai (show 8≠11 by decide),ai (show 9≠11 by decide),ai (show 10≠11 by decide)];have hoth:L 8=true→∃b2:Nat,a.eval (.tmp 6)=.pointer (some ⟨b2,0,none⟩)∧w0.heap.size≤b2∧(w.setRow b #[.int .i64 y.kind,.string y.name,.slice y.es.at_ y.exprs.length y.es.cap,.int .i64 y.bound,.slice y.ts.at_ y.thn.length y.ts.cap,.slice y.os.at_ y.els.length y.os.cap]).heap[b2]? = some (.cells (if L 10=true then #[.int .i64 x.kind,.string x.name,.slice x.es.at_ x.exprs.length x.es.cap,.int .i64 x.bound,.slice x.ts.at_ x.thn.length x.ts.cap,.slice x.os.at_ x.els.length x.os.cap] else #[.int .i64 0,.string ⟨#[]⟩,.slice none 0 0,.int .i64 0,.slice none 0 0,.slice none 0 0]) 63 (0,0)):=fun e=>by
   obtain ⟨b2,h1,h2,h3⟩:=hS.2.p6 e;refine ⟨b2,h1,h2,(setRow_other _ _ _ _ fun e2=>?_).trans h3⟩;have hne:=hS.2.ne e hal;rw [h1,e6] at hne;exact hne (by rw [e2])
  exact ⟨below_setRow hS.2.low hlb,hoth,fun _=>⟨b,e6,hlb,setRow_heap _ _ _ _ _ _ hz⟩,hS.2.ne⟩
 rintro L a w hL ⟨hS,hsame,hv⟩;obtain ⟨b6,h1,_,h2⟩:=hS.2.p6 (hL 8 (by decide));obtain ⟨b7,h3,_,h4⟩:=hS.2.p7 (hL 9 (by decide));rw [hL 10 (by decide)] at h2;rw [hL 11 (by decide)] at h4;exact ⟨rfl,hsame.1.trans hsz,hsame.2.1,hsame.2.2,hS.2.low,b6,b7,aj h1,aj h3,h2,h4⟩
end
section
open Go
mutual
def CL:ae→ae→Bool
 | .mk k o v w n _ l,b=>decide (k=b.kind∧o=b.op∧v=b.value∧w=b.width∧n=b.name) && dG l b.subs
def dG:List ae→List ae→Bool
 | [],l=>l.isEmpty
 | a::l,m=>match m with
  | b::m=>CL a b && dG l m
  | []=>false
end
mutual
def Gi:aa→aa→Bool
 | .mk k n _ ex bd _ th _ el,b=>decide (k=b.kind∧n=b.name∧bd=b.bound) && (dG ex b.exprs && (dw th b.thn && dw el b.els))
def dw:List aa→List aa→Bool
 | [],l=>l.isEmpty
 | a::l,m=>match m with
  | b::m=>Gi a b && dw l m
  | []=>false
end
theorem Ed {l:List ae} (ih:∀a∈l,∀b,CL a b=true↔av a=av b):∀m,dG l m=true↔l.map av=m.map av:=by
 induction l with
 | nil=>intro m;rw [dG];cases m <;> simp
 | cons a l ihl =>
  intro m;cases m with
  | nil=>simp [dG]
  | cons b m =>
   rw [dG,Bool.and_eq_true,ih a (List.mem_cons_self ..),ihl fun x hx=>ih x (List.mem_cons_of_mem _ hx),List.map_cons,List.map_cons,List.cons.injEq]
theorem JA (a:ae):∀b,CL a b=true↔av a=av b:=by
 induction a using ae.ind with
 | h k o v w n sp l ih =>
  intro b;rw [CL,Bool.and_eq_true,decide_eq_true_eq,Ed ih];obtain ⟨k',o',v',w',n',sp',l'⟩:=b;rw [dA,dA];show (k=k'∧o=o'∧v=v'∧w=w'∧n=n')∧l.map av=l'.map av↔_;rw [ae.mk.injEq]
  constructor
  ·rintro ⟨⟨rfl,rfl,rfl,rfl,rfl⟩,h⟩;exact ⟨rfl,rfl,rfl,rfl,rfl,rfl,h⟩
  ·rintro ⟨rfl,rfl,rfl,rfl,rfl,_,h⟩;exact ⟨⟨rfl,rfl,rfl,rfl,rfl⟩,h⟩
theorem AJ (l m:List ae):dG l m=true↔l.map av=m.map av:=Ed (fun a _=>JA a) m
theorem y9 {l:List aa} (ih:∀a∈l,∀b,Gi a b=true↔ah a=ah b):∀m,dw l m=true↔l.map ah=m.map ah:=by
 induction l with
 | nil=>intro m;rw [dw];cases m <;> simp
 | cons a l ihl =>
  intro m;cases m with
  | nil=>simp [dw]
  | cons b m =>
   rw [dw,Bool.and_eq_true,ih a (List.mem_cons_self ..),ihl fun x hx=>ih x (List.mem_cons_of_mem _ hx),List.map_cons,List.map_cons,List.cons.injEq]
theorem pX (a:aa):∀b,Gi a b=true↔ah a=ah b:=by
 induction a using aa.ind with
 | h k n es ex bd ts th os el i1 i2 =>
  intro b;rw [Gi,Bool.and_eq_true,Bool.and_eq_true,Bool.and_eq_true,decide_eq_true_eq,AJ,y9 i1,y9 i2];obtain ⟨k',n',es',ex',bd',ts',th',os',el'⟩:=b;rw [bC,bC];show (k=k'∧n=n'∧bd=bd')∧ex.map av=ex'.map av∧th.map ah=th'.map ah∧el.map ah=el'.map ah↔_;rw [aa.mk.injEq]
  constructor
  ·rintro ⟨⟨rfl,rfl,rfl⟩,h1,h2,h3⟩;exact ⟨rfl,rfl,rfl,h1,rfl,rfl,h2,rfl,h3⟩
  ·rintro ⟨rfl,rfl,_,h1,rfl,_,h2,_,h3⟩;exact ⟨⟨rfl,rfl,rfl⟩,h1,h2,h3⟩
theorem AB (l m:List aa):dw l m=true↔l.map ah=m.map ah:=y9 (fun a _=>pX a) m
def Mm (x y:bn):Bool:=decide (x.block=y.block) && CL x.value y.value
def LV {α:Type} (f:α→α→Bool):List α→List α→Bool
 | [],[]=>true
 | a::l,b::m=>f a b && LV f l m
 | _,_=>false
def Mf (x y:aG):Bool:=decide (x.name=y.name∧x.width=y.width∧x.size=y.size)
def Mo (x y:aK):Bool:=decide (x.name=y.name) && (LV Mf x.params y.params && dw x.body y.body)
end
end Go.Proofs.YtepacjkacjabbaaGreatDoor
