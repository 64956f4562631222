import Derived.Test.YtepacjkacjabbaaGreatDoorYAJ
import Derived.Test.YtepacjkacjabbaaGreatDoorYAK
import Derived.Lib.SliceRun
import Derived.Deep.DeepCutAuto
import Derived.Deep.RegionHeld3
set_option linter.all false
set_option maxRecDepth 10000000
set_option maxHeartbeats 64000000
namespace Go.Proofs.YtepacjkacjabbaaGreatDoor
open Go Go.Maps Go.RowKit
section
attribute [local go_sem] Oper.semAt_some
def stepT(s:aa)(b:Int):Int:=s.bf.foldl (λb e=>kX e.pre.length b) (b+1)
def jU:List aa->Int->Int
 |[],b=>b
 |s::r,b=>if stepT s b>20000 then stepT s b else jU r (stepT s b)
theorem uG(n:Nat)(D:0<n)(b:Int)(hb:0<=b):b<kX n b/\(kX n b<=20001\/kX n b=b+1):=by
 unfold kX
 split<;>omega
theorem Cx(l:List ah):∀(b:Int),0<=b->b<=l.foldl (λb e=>kX e.pre.length b) b/\l.foldl (λb e=>kX e.pre.length b) b<=max b 20001+l.length:=by
 induction l with
 |nil=>intro b hb;simp;omega
 |cons e l D =>
  intro b hb;have h1:=uG e.pre.length (mH e) b hb;have O:=D (kX e.pre.length b) (by omega);simp only[il,aF];omega
def tK(l:List aa)(b:Int):Int:=l.foldl (λb s=>stepT s b) b
theorem Ak(l:List aa)(s:aa)(b:Int):tK (l++[s]) b=stepT s (tK l b):=by simp[tK]
def vC(l:List aa)(b:Int):Prop:=∀p,p <+: l->p≠[]->tK p b<=20000
theorem vC.nil(b:Int):vC [] b:=λ_ hp D=>absurd (List.prefix_nil.1 hp) D
theorem vC.snoc{l:List aa}{b:Int}{s:aa}(h:vC l b)(O:tK (l++[s]) b<=20000):vC (l++[s]) b:=by
 intro p hp D;rcases List.prefix_concat_iff.1 hp with e|e
 .rw[e];exact O
 .exact h p e D
theorem Da:∀(l r:List aa) (b:Int),vC l b->jU (l++r) b=jU r (tK l b)
 |[],r,b,_=>rfl
 |s::l,r,b,h=>by
  have h1:stepT s b<=20000:=h [s] ⟨l,rfl⟩ (by simp);have D:vC l (stepT s b):=λp hp _=>h (s::p) (by obtain⟨q,hq⟩:=hp;exact⟨q,by simp[hq]⟩) (by simp)
  rw[dC,jU,if_neg (by omega),Da l r _ D]
  rfl
theorem Bi(s:aa)(b:Int)(hb:0<=b):b<stepT s b/\stepT s b<=max (b+1) 20001+s.bf.length:=by
 have:=Cx s.bf (b+1) (by omega);unfold stepT;omega
theorem OW(l:List aa):∀b:Int,0<=b->b<=tK l b:=by
 induction l with
 |nil=>intro b _;exact Int.le_refl _
 |cons s l D =>
  intro b hb;have h1:=Bi s b hb;have O:=D (stepT s b) (by omega);have e:tK (s::l) b=tK l (stepT s b):=rfl;omega
theorem CK{n₀:Nat}{W:World}{s:aa}(h:lV n₀ W s):∀y∈s.pre,lV n₀ W y:=by
 induction h with
 |mk s k b n er ex tr th O el U V =>
  intro y D;rw[aa.pre_eq]at D;rcases List.mem_cons.1 D with e|D
  .rw[e];exact .mk s k b n er ex tr th O el
  .rcases List.mem_append.1 D with D|D
   .obtain⟨t,ht,D⟩:=List.mem_flatMap.1 D;exact U t ht y D
   .obtain⟨t,ht,D⟩:=List.mem_flatMap.1 D;exact V t ht y D
theorem kN(w:World)(sp:Sp)(ll:List aa)(b:Int)(h:gq w.heap.size w sp ll)(hb:0<=b/\b<=2305843009213693952) :
  Calls Tryz.prog 94 #[sp.val ll.length,.int .i64 b] w λo w'=>o=.returned (.int .i64 (jU (ll.flatMap aa.pre) b))/\Below w.heap.size w w':=by
 refine(callsIn_wide (n:=5)).1 ?_;have hE:=λw'=>Bj sp ll.length w'
 simp only[Sp.val]at hE ⊢;have HE:=ae hE;clear hE;refine callsIn_of_wp_marks Tryz.func94 rfl trivial ?_ rfl;simp only[Tryz.ntmps94,List.size_toArray,aF,bK,Nat.reduceAdd,Nat.reduceSub,Array.replicate_succ,Array.replicate_zero,List.push_toArray,List.append_toArray,gJ,dC]
 gi_wp2
 refine wpIn_wide.2 (wp_scope_straight (wpIn_wide (n:=5).1 ?_));refine wpIn_seq (wpIn_label ?_)
 gi_wp2_with (refine⟨trivial,?_⟩;gi_at_call 109;refine(callsIn_wide.2 (HE.o _)).mono ?_;rintro o4 w4 ⟨rfl,rfl⟩)
 have br:Below w.heap.size w ((w.alloc (.cells #[.int .i64 b] 3)).alloc (.cells #[.slice sp.dO ll.length sp.df] 33)):=((ag _ w).alloc (af _) _).alloc (by simp) _;have bl:=gM (w.alloc (.cells #[.int .i64 b] 3)) (.cells #[.slice sp.dO ll.length sp.df] 33);rw[di]at bl;have bC:Boxed ((w.alloc (.cells #[.int .i64 b] 3)).alloc (.cells #[.slice sp.dO ll.length sp.df] 33)) w.heap.size 3 (.int .i64 b):=(Boxed.new w 3 (.int .i64 b)).alloc _;have co:w.heap.size+2<=((w.alloc (.cells #[.int .i64 b] 3)).alloc (.cells #[.slice sp.dO ll.length sp.df] 33)).heap.size:=by simp
 generalize (w.alloc (.cells #[.int .i64 b] 3)).alloc (.cells #[.slice sp.dO ll.length sp.df] 33)=w3 at *;have a3:∀y∈ll.flatMap aa.pre,lV w.heap.size w y:=by
  intro y hy;obtain⟨s,hs,hy⟩:=List.mem_flatMap.1 hy;exact CK (h.ok s hs) y hy
 refine jS (T:=TT) rfl (λh=>by cases h) (gf:=169) (lb:=#[.pointer (some ⟨w.heap.size+1,0,none⟩)]) rfl trivial (enters_of Tryz.func169 (by kernel_rfl) rfl)
  (F4 h _ w3 (w.heap.size+1) br (by omega) bl) (by omega) (ag _ _) (λ_=>rfl)
  (λpre W'=>(Boxed W' w.heap.size 3 (.int .i64 (tK pre b))/\Hid (vC pre b))/\Below w.heap.size w W'/\w3.heap.size<=W'.heap.size)
  (λc pre W'=>c=.exit 0/\Hid (∃p y,pre=p++[y]/\vC p b/\20000<tK pre b)/\Boxed W' w.heap.size 3 (.int .i64 (tK pre b))/\Below w.heap.size w W'/\w3.heap.size<=W'.heap.size)
  ?hI ?hIx ⟨⟨bC,ae (vC.nil b)⟩,br,af _⟩
  (λy a' W'=>∃al v10,W'.heap[al]?=some (.cells y.cells.toArray 43 (0,0))/\a'={ tmps:=#[.slice sp.dO ll.length sp.df,.int .i64 b,undef,.pointer (some ⟨w.heap.size,0,none⟩),.int .i64 0,.pointer (some ⟨al,0,none⟩),undef,undef,.slice sp.dO ll.length sp.df,.func (.func 169) #[] #[.pointer (some ⟨w.heap.size+1,0,none⟩)],v10,undef,undef,undef,undef,undef,undef,undef,undef,undef,undef,undef,undef,undef,undef,undef,undef],defers:=[] })
  ?hAx ?assign ?eY ?done ?stop
 case hI =>
  rintro s X' Y rw⟨⟨h1,h2⟩,h4,h5⟩ hg hr;exact⟨⟨h1.kept hg (λe'=>by have:=(hr _ e'.symm).1;omega),h2⟩,h4.grown hg (by omega) (λq hq=>by have:=(hr q hq).1;omega),ai h5 hg.size⟩
 case hIx =>
  rintro c s X' Y rw⟨hc,h2,h1,h4,h5⟩ hg hr;exact⟨hc,h2,h1.kept hg (λe'=>by have:=(hr _ e'.symm).1;omega),h4.grown hg (by omega) (λq hq=>by have:=(hr q hq).1;omega),ai h5 hg.size⟩
 case hAx =>
  rintro y a' _ X' Y rw⟨al,v10,h1,h2⟩ hg hr;refine⟨al,v10,(hg.block al (dM h1).1 (λe'=>?_)).trans h1,h2⟩;obtain⟨_,o',ho,hc⟩:=hr al e'.symm;rw[h1]at ho;cases ho
  cases hc
 case assign =>
  rintro l2 pre y Wc K ⟨⟨h1,h2⟩,h4,h5⟩ hK;simp only[aa.val,Sp.val]at hK ⊢
  gi_wp2
  have U:=jc Wc (.cells #[.int .u8 y.bI,.string y.aT,.slice y.es.dO y.bf.length y.es.df,.int .i64 y.gT,.slice y.ts.dO y.gy.length y.ts.df,.slice y.os.dO y.iD.length y.os.df] 43);exact hK _ _ (dD.of_below U) (U.mono (by omega)) ⟨⟨h1.alloc _,h2⟩,h4.trans (U.mono (by omega)),by have:=U.size;omega⟩ ⟨_,_,gM _ _,rfl⟩
 case eY =>
  rintro l2 pre y a' Wc _ ⟨⟨h1,hF⟩,h4,h5⟩ ⟨al,v10,hby,rfl⟩ _ hsp;simp only[aa.cells,Sp.val]at hby
  obtain⟨q0,q1,q2,q3,q4,q5⟩:=aR hby
  have b9:=a3 y (hsp.mem (by simp));have b2:=Ak pre y b;have cf:=OW pre b hb.1;have cg:tK pre b<=2305843009213693952:=by
   by_cases e:pre=[]
   .rw[e];exact hb.2
   .have:=hF.o pre (List.prefix_refl _) e;omega
  have a5:tK (pre++[y]) b=y.bf.foldl (λb e=>kX e.pre.length b) (tK pre b+1):=b2;generalize bm:tK pre b=O at *;have b7:=ae a5;have bc:=b9.xs;have cc:=bc.row.few;clear bm b2 a5 hby a3 q0 q1 q3 q4 q5;have hc:=h1.cell;have hf:=h1.frozen;have bt:dD TT w3.heap.size Wc (Wc.setCell ⟨w.heap.size,0,none⟩ (.int .i64 (O+1))):=dD.set (a:=⟨w.heap.size,0,none⟩) h1 rfl _;have ar:Below w.heap.size Wc (Wc.setCell ⟨w.heap.size,0,none⟩ (.int .i64 (O+1))):=(ag _ Wc).setCell (p:=⟨w.heap.size,0,none⟩) (af _) _;have a6:Boxed (Wc.setCell ⟨w.heap.size,0,none⟩ (.int .i64 (O+1))) w.heap.size 3 (.int .i64 (O+1)):=h1.set _;have bi:=ae bt;have am:=ae ar;have bj:=ae a6;clear bt ar a6
  gi_wp2
  generalize Wc.setCell ⟨w.heap.size,0,none⟩ (.int .i64 (O+1))=Wd at *;have cq:=bi.o.size
  gi_loopw [16] (λi wr=>∃k:Nat,k<=y.bf.length/\i=.int .i64 k/\Boxed wr w.heap.size 3 (.int .i64 ((y.bf.take k).foldl (λb e=>kX e.pre.length b) (O+1)))/\Below w.heap.size Wd wr/\dD TT w3.heap.size Wd wr) (λi _=>y.bf.length - (intOf i).toNat)
  case atStart=>exact⟨0,aH _,rfl,by simpa using bj.o,ag _ _,dD.refl _ _ _⟩
  case round =>
   obtain⟨k,hk,rfl,V,ap,ba⟩:=hrel;have ce:=ba.size;by_cases ad:k<y.bf.length
   .obtain⟨b0,off,eA,_,D⟩:=((bc.row.below h4).below (am.o.trans ap)).row (by omega)
    have b3:y.bf.take (k+1)=y.bf.take k++[y.bf[k]]:=aG ad;have k0:wr.cell? ⟨b0,off+k*6,none⟩=some (.int .u8 y.bf[k].bI):=D k ad 0 _ rfl;have k1:wr.cell? ⟨b0,off+k*6+1,none⟩=some (.int .u8 y.bf[k].op):=D k ad 1 _ rfl;have k2:wr.cell? ⟨b0,off+k*6+2,none⟩=some (.int .u32 y.bf[k].bv):=D k ad 2 _ rfl;have k3:wr.cell? ⟨b0,off+k*6+3,none⟩=some (.int .i64 y.bf[k].aS):=D k ad 3 _ rfl;have k4:wr.cell? ⟨b0,off+k*6+4,none⟩=some (.string y.bf[k].aT):=D k ad 4 _ rfl;have k5:wr.cell? ⟨b0,off+k*6+5,none⟩=some (.slice y.bf[k].sp.dO y.bf[k].cu.length y.bf[k].sp.df):=D k ad 5 _ rfl;have b1:=((bc.ok _ (ak ad)).stays h4).stays (am.o.trans ap);have b8:=ae b3;generalize y.bf[k]=x at *;have cj:=Cx (y.bf.take k) (O+1) (by omega);have cd:(y.bf.take k).length<=k:=List.length_take_le _ _;generalize a1:(y.bf.take k).foldl (λb e=>kX e.pre.length b) (O+1)=cur at *;have bh:=ae a1;have hc:=V.cell;have hf:=V.frozen;have aw:=V.alloc (.cells x.r 30);have U:=jc wr (.cells x.r 30);have cp:=U.size;have a4:=(b1.stays (U.mono (by omega))).more (n₁:=(wr.alloc (.cells x.r 30)).heap.size) (by omega);have a9:=nX _ x cur a4 (by omega);simp only[ah.val,Sp.val]at a9;have b5:=ae a9;have bd:=ae U;have an:=ae aw;have ck:(0:Int)<=(k:Int):=by omega
    have cl:(k:Int)<(y.bf.length:Int):=by omega
    have cm:(k:Int)+1<=9223372036854775807:=by omega
    have cn:(1:Nat)<=5 - 1 - 1:=by omega
    clear D b3 a1 b1 a4 a9 U aw;rw[eA];clear eA;have ca:=an.o.cell;have cb:=an.o.frozen;clear hc hf
    gi_wp2
    refine⟨trivial,?_⟩;refine(CallsIn.inRound l2 (callsIn_wide.2 b5.o)).mono ?_;rintro o4 W4 ⟨rfl,aE⟩;clear ca cb;have ab:Boxed W4 w.heap.size 3 (.int .i64 cur):=(aE.block w.heap.size (by omega)).trans an.o;have ch:=ab.cell;have ci:=ab.frozen;have bw:dD TT w3.heap.size Wd (W4.setCell ⟨w.heap.size,0,none⟩ (.int .i64 (kX x.pre.length cur))):=((ba.trans (dD.of_below bd.o)).trans (dD.of_below aE)).trans (dD.set (a:=⟨w.heap.size,0,none⟩) ab rfl _);have bo:Below w.heap.size Wd (W4.setCell ⟨w.heap.size,0,none⟩ (.int .i64 (kX x.pre.length cur))):=((ap.trans (bd.o.mono (by omega))).trans (aE.mono (by omega))).setCell (p:=⟨w.heap.size,0,none⟩) (af _) _;have a7:Boxed (W4.setCell ⟨w.heap.size,0,none⟩ (.int .i64 (kX x.pre.length cur))) w.heap.size 3 (.int .i64 ((y.bf.take (k+1)).foldl (λb e=>kX e.pre.length b) (O+1))):=by
     rw[b8.o,List.foldl_append,bh.o];exact ab.set _
    have b6:=ae bw;have b4:=ae bo;have bk:=ae a7;clear bw bo a7 ab
    gi_wp2
    go_roundw
    case rel=>exact⟨k+1,by omega,by go_num,bk.o,b4.o,b6.o⟩
    case measure=>simp[intOf];omega
   .obtain rfl:k=y.bf.length:=by omega
    rw[bW,<-b7.o]at V;have hc:=V.cell;have be:=ae V;have ao:=bi.o.trans ba;have a8:=am.o.trans ap;by_cases aq:20000<tK (pre++[y]) b
    .have HX:Hid (∃p y',pre++[y]=p++[y']/\vC p b/\20000<tK (pre++[y]) b):=ae ⟨pre,y,rfl,hF.o,aq⟩
     clear V
     gi_wp2
     exact⟨ao,rfl,HX,be.o,h4.trans a8,ai h5 ao.size⟩
    .have HX:Hid (vC (pre++[y]) b):=ae (hF.o.snoc (by omega))
     clear V
     gi_wp2
     exact⟨ao,a8,⟨be.o,HX⟩,h4.trans a8,ai h5 ao.size⟩
 case done =>
  rintro Dq ys Wd hD rfl ⟨⟨h1,h2⟩,h4,_⟩ hK;have hc:=h1.cell
  gi_wp2
  refine⟨by simp,.inl ⟨_,_,rfl,run_takeDeferred hK,?_⟩⟩;have e1:jU (ll.flatMap aa.pre) b=tK (ll.flatMap aa.pre) b:=by
   have:=Da (ll.flatMap aa.pre) [] b h2.o;rw[aP]at this;exact this
  exact⟨_,results_tmp rfl _ _ _,by rw[e1];rfl,h4.trans (jk _ _ (by omega))⟩
 case stop =>
  rintro Dq c pre Wd hD hp ⟨rfl,h2,h1,h4,_⟩ hK;have hc:=h1.cell
  gi_wp2
  refine⟨by simp,.inl ⟨_,_,rfl,run_takeDeferred hK,?_⟩⟩;have e1:jU (ll.flatMap aa.pre) b=tK pre b:=by
   obtain⟨p,y,e,hf,aq⟩:=h2.o;obtain⟨r,hr⟩:=hp;rw[<-hr,e,aY,Da p _ b hf,List.singleton_append,jU];rw[e,Ak]at aq;rw[if_pos aq,Ak]
  exact⟨_,results_tmp rfl _ _ _,by rw[e1];rfl,h4.trans (jk _ _ (by omega))⟩
end
theorem qi(n:Int)(w:World):Calls Tryz.prog 85 #[.int .i64 n] w λo w'=>o=.returned (.bool (decide (n<=20000)))/\w=w':=by
 go_enter Tryz.func85,Tryz.ntmps85
 go_wp2
 go_ret
 exact⟨rfl,rfl⟩
def mD(n:Int):Int:=if n<=20000 then n else 0
theorem F3(n:Int)(w:World):Calls Tryz.prog 110 #[.int .i64 n] w λo w'=>o=.returned (.int .i64 (mD n))/\w=w':=by
 by_cases h:n<=20000
 .have O:decide (n<=20000)=true:=aC h
  have hL:=qi n w;rw[O]at hL;have e:mD n=n:=if_pos h;have D:=ae hL;clear hL;go_enter Tryz.func110,Tryz.ntmps110
  go_wp2_with fail
  refine D.o.mono ?_;rintro o U ⟨rfl,rfl⟩;go_wp2_with fail
  go_ret
  exact⟨by rw[e];rfl,rfl⟩
 .have O:decide (n<=20000)=false:=az h
  have hL:=qi n w;rw[O]at hL;have e:mD n=0:=if_neg h;have D:=ae hL;clear hL;go_enter Tryz.func110,Tryz.ntmps110
  go_wp2_with fail
  refine D.o.mono ?_;rintro o U ⟨rfl,rfl⟩;go_wp2_with fail
  go_ret
  exact⟨by rw[e];rfl,rfl⟩
theorem He(w:World)(e:ah)(h:mM w.heap.size w e) :
  Calls Tryz.prog 163 #[e.val] w λo w'=>o=.returned (.int .i64 (mD (kX e.pre.length 0)))/\Below w.heap.size w w':=by
 have hb:=λv=>(ag _ w).alloc (af _) (.cells v 30)
 have D:=nX (w.alloc (.cells e.r 30)) e 0 ((h.stays (hb _)).more (by simp)) (by omega);simp only[ah.val,Sp.val]at D ⊢;have V:=ae D;have U:=ae (hb e.r);clear D hb;go_enter Tryz.func163,Tryz.ntmps163
 go_wp2_with fail
 refine V.o.mono ?_;rintro o w1 ⟨rfl,O⟩;go_wp2_with fail
 refine(F3 _ _).mono ?_;rintro o w2 ⟨rfl,rfl⟩;go_wp2_with fail
 go_ret
 exact⟨rfl,U.o.trans (O.mono U.o.size)⟩
section
attribute [local go_sem] Oper.semAt_some
theorem toList_inj{s t:ByteArray}(h:s.toList=t.toList):s=t:=by
 rw[ByteArray.toList_eq,ByteArray.toList_eq]at h;have D:s.data=t.data:=Array.toList_inj.1 h;cases s;cases t;simp at D;rw[D]
def UN(W:World)(v:Value)(l:List ByteArray):Prop :=
 ∃A c,v=.slice A l.length c/\(0<l.length->∃b off,A=some ⟨b,off,.none⟩/\∀j (h:j<l.length),W.cell? ⟨b,off+j,.none⟩=some (.string l[j]))
theorem yF{W:World}{B:Nat}{v:Value}{l:List ByteArray}(h:W.ownsRow B 9 1 v l.length (l.map .string)):UN W v l:=by
 rcases h.2 with ⟨rfl,O⟩|⟨g,D,cur,rfl,_⟩
 .exact⟨none,0,by rw[O],λh=>by omega⟩
 .refine⟨_,D,rfl,λ_=>⟨g,0,rfl,λj U=>?_⟩⟩
  have:=h.cells (g:=g) rfl j (.string l[j]) (by simp[U]);rw[Addr.add_lit]at this;exact this
theorem KA(w:World)(v:Value)(l:List ByteArray)(s:ByteArray)(hl:l.length<=1000000)(h:UN w v l) :
  Calls Tryz.prog 143 #[v,.string s] w λo w'=>(∃k:Int,-1<=k/\o=.returned (.int .i64 k)/\(0<=k↔lK l s=true))/\w=w':=by
 obtain⟨A,c,rfl,hc⟩:=h;go_enter Tryz.func143,Tryz.ntmps143
 go_wp2_with fail
 go_loopw[8] (λi wr=>∃k:Nat,k<=l.length/\i=.int .i64 k/\Hid (∀j (h:j<l.length),j<k->l[j]≠s)/\w=wr) (λi _=>l.length - (intOf i).toNat)
 case atStart=>exact⟨0,aH _,rfl,ae λj _ h=>absurd h (dX _),rfl⟩
 case round =>
  obtain⟨k,hk,rfl,U,rfl⟩:=hrel;by_cases V:k<l.length
  .obtain⟨b,off,rfl,O⟩:=hc (by omega)
   have ab:=O k V;have hx:∃x,l[k]=x:=⟨_,rfl⟩;obtain⟨x,hx⟩:=hx;rw[hx]at ab;have HX:=ae hx;have ad:(0:Int)<=(k:Int):=by omega
   have al:(k:Int)<(l.length:Int):=by omega
   clear hc O hx;by_cases he:s=x
   .subst he
    have D:lK l s=true:=by
     unfold lK;rw[iy];exact⟨l[k],ak V,by simp[HX.o]⟩
    have HF:=ae D;clear D;go_wp2_with fail
    go_ret
    exact⟨⟨k,by omega,rfl,by simp[HF.o]⟩,rfl⟩
   .have an:(s.toList == x.toList)=false:=beq_eq_false_iff_ne.2 λe=>he (toList_inj e)
    have HE:=ae he;clear he;go_wp2_with fail
    go_roundw
    case rel=>exact⟨k+1,by omega,by go_num,ae λj hj am=>by
     by_cases e:j=k
     .subst e;rw[HX.o];exact λe=>HE.o e.symm
     .exact U.o j hj (by omega),trivial⟩
    case measure=>simp[intOf];omega
  .obtain rfl:k=l.length:=by omega
   have D:lK l s=false:=by
    unfold lK;rw[List.any_eq_false];intro x hx;obtain⟨j,hj,rfl⟩:=gm hx
    simpa using U.o j hj hj
   have HF:=ae D;clear D;go_wp2_with fail
   go_ret
   exact⟨⟨-1,by omega,rfl,by rw[HF.o];simp⟩,rfl⟩
theorem Er(w:World)(v:Value)(l:List ByteArray)(s:ByteArray)(hl:l.length<=1000000)(h:UN w v l) :
  Calls Tryz.prog 75 #[v,.string s] w λo w'=>o=.returned (.bool (lK l s))/\w=w':=by
 have H:=ae (KA w v l s hl h);obtain⟨A,c,rfl,-⟩:=h;go_enter Tryz.func75,Tryz.ntmps75
 go_wp2_with(first|(go_at_call 143;refine H.o.mono ?_;rintro O w2 ⟨⟨k,_,rfl,hk⟩,rfl⟩;have D:=ae hk;clear hk)|fail)
 go_ret
 exact⟨by rw[show decide (0<=k)=lK l s by rw[ky,decide_eq_true_iff];exact D.o];rfl,rfl⟩
theorem QJ:(Tryz.prog.info? 9).map (λi=>(i.zero,i.size,i.bytes))=some (some (.string ⟨#[]⟩),1,16):=by kernel_rfl
theorem qD{P:Program}{e:TypeId}{z:Value}{s b:Nat}(h:(P.info? e).map (λi=>(i.zero,i.size,i.bytes))=some (some z,s,b)):∃i,P.info? e=some i/\i.zero=some z/\i.size=s/\i.bytes=b:=by
 cases hi:P.info? e with
 |none=>rw[hi]at h;cases h
 |some i=>rw[hi]at h;simp at h;exact⟨i,rfl,h.1,h.2.1,h.2.2⟩
theorem oN{w:World}{base n:Nat}{e:TypeId}{v:Value}{O:List Value}(h:w.ownsRow base e 1 v n O):∃A c,v=.slice A n c:=by
 rcases h.2 with ⟨rfl,D⟩|⟨g,U,cur,rfl,_⟩
 .exact⟨none,0,by rw[D]⟩
 .exact⟨_,_,rfl⟩
theorem QT(w:World)(B:Nat)(v:Value)(l:List ByteArray)(s:ByteArray)(hl:l.length<=1000000)(hB:B<=w.heap.size)(h:w.ownsRow B 9 1 v l.length (l.map .string)) :
  Calls Tryz.prog 88 #[v,.string s] w λo w'=>∃v',o=.returned v'/\w'.ownsRow B 9 1 v' (qP l s).length ((qP l s).map .string)/\w.grownBy w' v.ownBlock:=by
 have V:=ae (Er w v l s hl (yF h));obtain⟨A,c,rfl⟩:=oN h;have HO:=ae h;clear h;cases hh:lK l s with
 |true =>
  have U:qP l s=l:=by unfold qP;rw[if_pos hh]
  rw[hh]at V;rw[U];clear hh U;go_enter Tryz.func88,Tryz.ntmps88
  go_wp2_with(first|(go_at_call 75;refine V.o.mono ?_;rintro o2 w2 ⟨rfl,rfl⟩)|fail)
  go_ret
  exact⟨_,rfl,HO.o,⟨rfl,rfl,rfl,af _,λ_ _ _=>rfl⟩⟩
 |false =>
  have U:qP l s=l++[s]:=by unfold qP;rw[if_neg (by rw[hh];simp)]
  rw[hh]at V;rw[U];clear hh U;obtain⟨i0,hi,ad,al,am⟩:=qD QJ;have D:=cell_one_new w (.string s) 9;go_enter Tryz.func88,Tryz.ntmps88
  go_wp2_with(first|(go_at_call 75;refine V.o.mono ?_;rintro o2 w2 ⟨rfl,rfl⟩)|(at_builtin;refine wpList_append_own_at _ rfl _ _ 40 rfl B 9 i0 (.string ⟨#[]⟩) 1 16 Tryz.underlying40 hi ad al am rfl (by decide) _ _ _ rfl (HO.o.alloc _) ⟨w.heap.size,0,none⟩ 1 1 [.string s] rfl rfl D (by simp[Value.oneCell']) (by simp only[maxLen];omega) (by omega) (by simp;omega) ?_;intro v' w2 O ab _ _)|fail)
  go_ret
  exact⟨_,rfl,by simpa using O,(World.grownBy_alloc w _ _).trans ab⟩
def sO(l:List aa):List ByteArray:=l.foldl (λout s=>if s.bI=8 then qP out s.aT else out) []
theorem Gi(l:List aa)(s:aa):sO (l++[s])=if s.bI=8 then qP (sO l) s.aT else sO l:=by simp[sO]
theorem vT(l:List aa):(sO l).length<=l.length:=by
 have:=ES l []
 simpa[sO]using this
theorem IP{T:TypeId->Bool}{B:Nat}{W W':World}{row:Option Nat}(h:W.grownBy W' row)(hr:∀r,row=some r->∃cs t fr,W.heap[r]?=some (.cells cs t fr)/\T t=false):dD T B W W':=by
 refine⟨h.size,λk o _ D hc=>?_,λk cs t fr hk ht=>?_⟩
 .refine(h.block k (dM D).1 (λe=>?_)).trans D
  obtain⟨cs,t,fr,h1,_⟩:=hr k e.symm;rw[h1]at D;cases D;cases hc
 .refine(h.block k (dM hk).1 (λe=>?_)).trans hk
  obtain⟨U,t',V,h1,O⟩:=hr k e.symm;rw[h1]at hk;cases hk;rw[ht]at O;cases O
theorem kM{w:World}{base n:Nat}{e:TypeId}{v:Value}{U:List Value}(h:w.ownsRow base e 1 v n U):∀r,v.ownBlock=some r->base<=r/\∃cs,w.heap[r]?=some (.cells cs e (0,0)):=by
 intro r hr;rcases h.2 with ⟨rfl,_⟩|⟨g,V,cur,rfl,D,O,_⟩
 .cases hr
 .cases hr;exact⟨D,cur,O⟩
theorem uT{w w':World}{base n:Nat}{e:TypeId}{v:Value}{O:List Value}(h:w.ownsRow base e 1 v n O)(hk:∀g,v.ownBlock=some g->w'.heap[g]?=w.heap[g]?):w'.ownsRow base e 1 v n O:=by
 refine⟨h.1,?_⟩;rcases h.2 with V|⟨g,U,cur,rfl,hb,D,rest⟩
 .exact .inl V
 .exact .inr ⟨g,U,cur,rfl,hb,(hk g rfl).trans D,rest⟩
theorem below_grown{B:Nat}{W W':World}{row:Option Nat}(h:W.grownBy W' row)(D:B<=W.heap.size)(hr:∀r,row=some r->B<=r):Below B W W' :=
 ⟨h.os,h.tape,h.output,h.size,λk hk=>h.block k (by omega) (λe=>by have:=hr k e.symm;omega)⟩
theorem G7{w:World}{base D:Nat}{e:TypeId}{n:Nat}{v:Value}{O:List Value}(hb:D<=base)(h:w.ownsRow base e 1 v n O):w.ownsRow D e 1 v n O:=by
 refine⟨h.1,?_⟩;rcases h.2 with hn|⟨g,U,cur,rfl,V,rest⟩
 .exact .inl hn
 .exact .inr ⟨g,U,cur,rfl,ai hb V,rest⟩
theorem lV.kk{n₀:Nat}{W:World}{s:aa}(h:lV n₀ W s):0<=s.bI/\s.bI<=255:=by cases h;assumption
def oQ(W:World)(q:Nat)(l:List ByteArray):Prop:=∃v,Boxed W q 40 v/\W.ownsRow (q+1) 9 1 v l.length (l.map .string)
theorem oQ.alloc{W:World}{q:Nat}{l:List ByteArray}(h:oQ W q l)(o:Obj):oQ (W.alloc o) q l:=by
 obtain⟨v,h1,D⟩:=h;exact⟨v,h1.alloc o,D.alloc o⟩
theorem oQ.kept{W W':World}{q:Nat}{l:List ByteArray}{row:Option Nat}(h:oQ W q l)(hg:W.grownBy W' row)(hr:∀r,row=some r->∃o:Obj,W.heap[r]?=some o/\o.isCells=false):oQ W' q l:=by
 obtain⟨v,h1,U⟩:=h;refine⟨v,h1.kept hg (λe=>?_),uT U λg D=>hg.block g ?_ (λe=>?_)⟩
 .obtain⟨o,O,hc⟩:=hr q e.symm
  rw[show W.heap[q]?=_ from h1]at O;cases O;cases hc
 .obtain⟨_,cs,V⟩:=kM U g D
  exact(dM V).1
 .obtain⟨_,cs,V⟩:=kM U g D
  obtain⟨o,O,hc⟩:=hr g e.symm;rw[V]at O;cases O;cases hc
theorem oQ.put{W D:World}{q:Nat}{l l':List ByteArray}{v U:Value}(hq:Boxed W q 40 v)(h:W.ownsRow (q+1) 9 1 v l.length (l.map .string))(V:W.grownBy D v.ownBlock)(h':D.ownsRow (q+1) 9 1 U l'.length (l'.map .string)) :
  Boxed D q 40 v/\oQ (D.setCell ⟨q,0,none⟩ U) q l'/\dD TT q W (D.setCell ⟨q,0,none⟩ U)/\Below q W (D.setCell ⟨q,0,none⟩ U):=by
 have O:Boxed D q 40 v:=hq.kept V (λe=>by have:=(kM h q e.symm).1;omega);refine⟨O,⟨U,O.set U,uT h' λg ab=>aN _ _ _ _ (λe=>by have:=(kM h' g ab).1;simp at e;omega)⟩,?_,?_⟩
 .exact(IP V λr hr=>by obtain⟨_,cs,hh⟩:=kM h r hr;exact⟨cs,_,_,hh,rfl⟩).trans (dD.set (a:=⟨q,0,none⟩) O rfl _)
 .exact(below_grown V (dI hq.lt) λr hr=>by have:=(kM h r hr).1;omega).setCell (p:=⟨q,0,none⟩) (af _) _
theorem ER(w:World)(sp:Sp)(O:List aa)(h:gq w.heap.size w sp O)(hL:jU (O.flatMap aa.pre) 0<=20000)(hn:(O.flatMap aa.pre).length<=20000) :
  Calls Tryz.prog 52 #[sp.val O.length] w λo w'=>∃v,o=.returned v/\w'.ownsRow w.heap.size 9 1 v (jG O).length ((jG O).map .string)/\Below w.heap.size w w':=by
 refine(callsIn_wide (n:=5)).1 ?_;have hE:=λw'=>Bj sp O.length w'
 have U:=jc w (.cells #[.slice none 0 0] 40);have a1:=kN _ sp O 0 ((h.below U).more (dI (by simp:w.heap.size<(w.alloc (.cells #[.slice none 0 0] 40)).heap.size))) (by omega);simp only[Sp.val]at hE a1 ⊢;have HE:=ae hE;have bc:=ae a1;have a3:=qi (jU (O.flatMap aa.pre) 0);rw[aC hL]at a3;have bd:=ae a3;generalize jU (O.flatMap aa.pre) 0=bh at *;clear hE a1 a3 hL;refine callsIn_of_wp_marks Tryz.func52 rfl trivial ?_ rfl;simp only[Tryz.ntmps52,List.size_toArray,aF,bK,Nat.reduceAdd,Nat.reduceSub,Array.replicate_succ,Array.replicate_zero,List.push_toArray,List.append_toArray,gJ,dC]
 gi_wp2_with (refine⟨trivial,?_⟩;first|(gi_at_call 94;refine(callsIn_wide.2 bc.o).mono ?_;rintro o3 w3 ⟨rfl,an⟩)|(gi_at_call 85;refine(callsIn_wide.2 (bd.o _)).mono ?_;rintro o5 w5 ⟨rfl,rfl⟩)|(gi_at_call 109;refine(callsIn_wide.2 (HE.o _)).mono ?_;rintro o4 w4 ⟨rfl,rfl⟩)|fail)
 have aE:Below w.heap.size w (w3.alloc (.cells #[.slice sp.dO O.length sp.df] 33)):=(U.trans (an.mono U.size)).alloc (ai U.size an.size) _;have bi:=gM w3 (.cells #[.slice sp.dO O.length sp.df] 33);have ar:Boxed w3 w.heap.size 40 (.slice none 0 0):=(an.block w.heap.size (by simp)).trans (Boxed.new w 40 _);have al:oQ (w3.alloc (.cells #[.slice sp.dO O.length sp.df] 33)) w.heap.size []:=⟨_,ar.alloc _,World.ownsRow_nil _ _ _ _⟩;have bt:w.heap.size+2<=(w3.alloc (.cells #[.slice sp.dO O.length sp.df] 33)).heap.size:=by have:=an.size;simp at this ⊢;omega
 clear an U ar;generalize w3.heap.size=b3 at *;generalize w3.alloc (.cells #[.slice sp.dO O.length sp.df] 33)=wa at *;have aw:∀y∈O.flatMap aa.pre,lV w.heap.size w y:=by
  intro y hy;obtain⟨s,hs,hy⟩:=List.mem_flatMap.1 hy;exact CK (h.ok s hs) y hy
 refine jS (T:=TT) rfl (λh=>by cases h) (gf:=169) (lb:=#[.pointer (some ⟨b3,0,none⟩)]) rfl trivial (enters_of Tryz.func169 (by kernel_rfl) rfl)
  (F4 h _ wa b3 aE (by omega) bi) (by omega) (ag _ _) (λ_=>rfl)
  (λpre W'=>oQ W' w.heap.size (sO pre)/\Below w.heap.size w W'/\wa.heap.size<=W'.heap.size)
  (λ_ _ _=>False)
  ?hI ?hIx ⟨al,aE,af _⟩
  (λy a' W'=>∃ab v10,W'.heap[ab]?=some (.cells y.cells.toArray 43 (0,0))/\a'={ tmps:=#[.slice sp.dO O.length sp.df,undef,.slice none 0 0,.pointer (some ⟨w.heap.size,0,none⟩),.pointer (some ⟨ab,0,none⟩),.slice sp.dO O.length sp.df,.int .i64 bh,.bool true,.slice sp.dO O.length sp.df,.func (.func 169) #[] #[.pointer (some ⟨b3,0,none⟩)],v10,undef,undef,undef,undef,undef,undef,undef,undef],defers:=[] })
  ?hAx ?assign ?eY ?done ?stop
 case hI =>
  rintro s X' Y rw⟨h1,h4,h5⟩ hg hr;exact⟨h1.kept hg (λr bj=>(hr r bj).2),h4.grown hg (by omega) (λq hq=>by have:=(hr q hq).1;omega),ai h5 hg.size⟩
 case hIx=>rintro c s X' Y rw h;exact h.elim
 case hAx =>
  rintro y a' _ X' Y rw⟨ab,v10,h1,h2⟩ hg hr;refine⟨ab,v10,(hg.block ab (dM h1).1 (λe'=>?_)).trans h1,h2⟩;obtain⟨_,o',ho,hc⟩:=hr ab e'.symm;rw[h1]at ho;cases ho
  cases hc
 case assign =>
  rintro l2 pre y Wc K ⟨h1,h4,h5⟩ hK;simp only[aa.val,Sp.val]at hK ⊢
  gi_wp2
  have ap:=jc Wc (.cells #[.int .u8 y.bI,.string y.aT,.slice y.es.dO y.bf.length y.es.df,.int .i64 y.gT,.slice y.ts.dO y.gy.length y.ts.df,.slice y.os.dO y.iD.length y.os.df] 43);exact hK _ _ (dD.of_below ap) (ap.mono (by omega)) ⟨h1.alloc _,h4.trans (ap.mono (by omega)),by have:=ap.size;omega⟩ ⟨_,_,gM _ _,rfl⟩
 case eY =>
  rintro l2 pre y a' Wc _ ⟨h1,h4,h5⟩ ⟨ab,v10,hby,rfl⟩ bl hsp;simp only[aa.cells,Sp.val]at hby
  obtain⟨q0,q1,q2,q3,q4,q5⟩:=aR hby
  have D:=Gi pre y;have bo:=vT pre;obtain⟨_,_⟩:=(aw y (hsp.mem (by simp))).kk;generalize a9:sO pre=be at *;have ao:=ae D;clear a9 D hby aw q2 q3 q4 q5;by_cases aq:y.bI=8
  .have D:=ao.o
   rw[if_pos aq]at D;have am:=ae D;obtain⟨v,al,V⟩:=h1;have hc:=al.cell;have HW:=ae (QT Wc (w.heap.size+1) v be y.aT (by omega) (by omega) V);have HX:=ae al;have HO:=ae V;clear D ao
   gi_wp2_with (refine⟨trivial,?_⟩;first|(gi_at_call 88;refine(CallsIn.inRound l2 (callsIn_wide.2 HW.o)).mono ?_;rintro o4 w4 ⟨v',rfl,ad,ba⟩;obtain⟨A8,c8,rfl⟩:=oN ad;obtain⟨a4,hN,a8,a7⟩:=oQ.put HX.o HO.o ba ad;have br:=a4.frozen;have bm:=a4.cell;have HN:=ae hN;have a6:=ae a8;have a5:=ae a7;clear ad ba a4 hN a8 a7)|fail)
   exact⟨a6.o.up (by omega),a5.o,by rw[am.o];exact HN.o,h4.trans a5.o,ai h5 a6.o.size⟩
  .have D:=ao.o
   rw[if_neg aq]at D;have am:=ae D;have bk:(y.bI == 8)=false:=by simpa using aq
   clear D ao aq
   gi_wp2
   exact⟨dD.refl _ _ _,ag _ _,by rw[am.o];exact h1,h4,h5⟩
 case done =>
  rintro Dq ys Wd hD rfl ⟨⟨v,al,V⟩,h4,_⟩ hK;have hc:=al.cell
  gi_wp2
  refine⟨by simp,.inl ⟨_,_,rfl,run_takeDeferred hK,?_⟩⟩;exact⟨_,results_tmp rfl _ _ _,v,rfl,uT (G7 (ma _) V) λg hg=>dE (λe=>by obtain⟨_,cs,hh⟩:=kM V g hg;subst e;rw[hh]at hK;cases hK),h4.trans (jk _ _ (by omega))⟩
 case stop =>
  rintro Dq c pre Wd _ _ h;exact h.elim
end
theorem Ir:(Tryz.prog.info? 50).map (λi=>(i.zero,i.size,i.bytes))=some (some (.agg #[.string ⟨#[]⟩,.int .i64 0,.int .i64 0]),3,32):=by kernel_rfl
theorem p9(w:World)(sp:Sp)(l:List bO)(B:Nat)(h:RowOf B w sp 3 bO.cells l)(hl:l.length<=1000000) :
  Calls Tryz.prog 81 #[.slice sp.dO l.length sp.df] w λo w'=>(∃v,o=.returned v/\dz w.heap.size w' 50 3 bO.cells v l)/\Below w.heap.size w w':=by
 obtain⟨i0,hi,aw,a1,a3⟩:=qD Ir;have a5:∀(w:World) (a:Option Addr) (n c n' c':Nat),(binOp .eql 24 (.slice a n c) (.slice none n' c')).run Tryz.prog w=.ok (.bool a.isNone) w:=λw a n c n' c'=>Lib.run_eql_slice_nil w _ _ a n c n' c' Tryz.underlying24
 cases hat:sp.dO with
 |none =>
  have h0:l=[]:=by
   cases l with
   |nil=>rfl
   |cons x l=>obtain⟨b,off,e,_⟩:=h.row (by simp);rw[hat]at e;cases e
  subst h0;clear h;go_enter Tryz.func81,Tryz.ntmps81
  go_wp2_with fail
  go_ret
  exact⟨⟨_,rfl,dz.nil⟩,ag _ _⟩
 |some a =>
  have HN:∃ad:Addr,some a=some ad/\∀j u,(l.flatMap bO.cells)[j]?=some u->(w.alloc (.cells #[] 50)).cell? (ad.add j)=some u:=by
   refine⟨a,rfl,λj u hj=>?_⟩;have h0:0<l.length:=by
    cases l with
    |nil=>simp at hj
    |cons x l=>simp
   obtain⟨b,off,e,a4,hc⟩:=h.news (λ_=>rfl) h0;rw[hat]at e;cases e
   have an:=hc j u hj;have am:=World.block_lt_of_cell? w _ an;exact(aM (w:=w) (eZ _ _ _ am)).trans an
  obtain⟨ad,e1,D⟩:=HN;cases e1
  have O:=ae D;clear D h hat;have ao:l.length<=maxLen:=by simp only[maxLen];omega
  have ab:=kL (enc:=bO.cells) (k:=3) (λ_=>rfl) l;have al:=sD wG l;have V:=ae ab;have ar:=ae al;clear ab al;obtain⟨n,hn⟩:∃n,l.length=n:=⟨_,rfl⟩;have aq:=ae hn;rw[hn]at V hl ao ⊢;clear hn;go_enter Tryz.func81,Tryz.ntmps81
  go_wp2_with(first|(at_builtin;refine wpList_append_own _ rfl _ _ 24 rfl w.heap.size 50 i0 _ 3 32 Tryz.underlying24 hi aw a1 a3 rfl (by decide) _ _ _ rfl (World.ownsRow_made w #[] 0 (af _) (aH _) (by simp)) a n sp.df (l.flatMap bO.cells) rfl V.o O.o ar.o (by omega) (by omega) (by simp) ?_)|fail)
  intro v' w1 ap U _;go_wp2_with fail
  go_ret
  refine⟨⟨v',rfl,by simpa[dz,aq.o]using ap⟩,?_⟩;exact((ag _ w).alloc (af _) _).grown U (by simp) (by intro k hk;simp[Value.ownBlock]at hk;omega)
theorem Jz:(Tryz.prog.info? 43).map (λi=>(i.zero,i.size,i.bytes))=some (some (.agg #[.int .u8 0,.string ⟨#[]⟩,.slice none 0 0,.int .i64 0,.slice none 0 0,.slice none 0 0]),6,104):=by kernel_rfl
theorem J6(w:World)(sp:Sp)(l:List aa)(B:Nat)(h:RowOf B w sp 6 aa.cells l)(hl:l.length<=1000000) :
  Calls Tryz.prog 70 #[.slice sp.dO l.length sp.df] w λo w'=>(∃v,o=.returned v/\dz w.heap.size w' 43 6 aa.cells v l)/\Below w.heap.size w w':=by
 obtain⟨i0,hi,aw,a1,a3⟩:=qD Jz;have a5:∀(w:World) (a:Option Addr) (n c n' c':Nat),(binOp .eql 33 (.slice a n c) (.slice none n' c')).run Tryz.prog w=.ok (.bool a.isNone) w:=λw a n c n' c'=>Lib.run_eql_slice_nil w _ _ a n c n' c' Tryz.underlying33
 cases hat:sp.dO with
 |none =>
  have h0:l=[]:=by
   cases l with
   |nil=>rfl
   |cons x l=>obtain⟨b,off,e,_⟩:=h.row (by simp);rw[hat]at e;cases e
  subst h0;clear h;go_enter Tryz.func70,Tryz.ntmps70
  go_wp2_with fail
  go_ret
  exact⟨⟨_,rfl,dz.nil⟩,ag _ _⟩
 |some a =>
  have HN:∃ad:Addr,some a=some ad/\∀j u,(l.flatMap aa.cells)[j]?=some u->(w.alloc (.cells #[] 43)).cell? (ad.add j)=some u:=by
   refine⟨a,rfl,λj u hj=>?_⟩;have h0:0<l.length:=by
    cases l with
    |nil=>simp at hj
    |cons x l=>simp
   obtain⟨b,off,e,a4,hc⟩:=h.news (λ_=>rfl) h0;rw[hat]at e;cases e
   have an:=hc j u hj;have am:=World.block_lt_of_cell? w _ an;exact(aM (w:=w) (eZ _ _ _ am)).trans an
  obtain⟨ad,e1,D⟩:=HN;cases e1
  have O:=ae D;clear D h hat;have ao:l.length<=maxLen:=by simp only[maxLen];omega
  have ab:=kL (enc:=aa.cells) (k:=6) (λ_=>rfl) l;have al:=sD mV l;have V:=ae ab;have ar:=ae al;clear ab al;obtain⟨n,hn⟩:∃n,l.length=n:=⟨_,rfl⟩;have aq:=ae hn;rw[hn]at V hl ao ⊢;clear hn;go_enter Tryz.func70,Tryz.ntmps70
  go_wp2_with(first|(at_builtin;refine wpList_append_own _ rfl _ _ 33 rfl w.heap.size 43 i0 _ 6 104 Tryz.underlying33 hi aw a1 a3 rfl (by decide) _ _ _ rfl (World.ownsRow_made w #[] 0 (af _) (aH _) (by simp)) a n sp.df (l.flatMap aa.cells) rfl V.o O.o ar.o (by omega) (by omega) (by simp) ?_)|fail)
  intro v' w1 ap U _;go_wp2_with fail
  go_ret
  refine⟨⟨v',rfl,by simpa[dz,aq.o]using ap⟩,?_⟩;exact((ag _ w).alloc (af _) _).grown U (by simp) (by intro k hk;simp[Value.ownBlock]at hk;omega)
theorem Jh:(Tryz.prog.info? 54).map (λi=>(i.zero,i.size,i.bytes))=some (some (.agg #[.string ⟨#[]⟩,.slice none 0 0,.slice none 0 0]),3,64):=by kernel_rfl
theorem J5(w:World)(sp:Sp)(l:List bG)(B:Nat)(h:RowOf B w sp 3 bG.cells l)(hl:l.length<=1000000) :
  Calls Tryz.prog 148 #[.slice sp.dO l.length sp.df] w λo w'=>(∃v,o=.returned v/\dz w.heap.size w' 54 3 bG.cells v l)/\Below w.heap.size w w':=by
 obtain⟨i0,hi,aw,a1,a3⟩:=qD Jh;have a5:∀(w:World) (a:Option Addr) (n c n' c':Nat),(binOp .eql 32 (.slice a n c) (.slice none n' c')).run Tryz.prog w=.ok (.bool a.isNone) w:=λw a n c n' c'=>Lib.run_eql_slice_nil w _ _ a n c n' c' Tryz.underlying32
 cases hat:sp.dO with
 |none =>
  have h0:l=[]:=by
   cases l with
   |nil=>rfl
   |cons x l=>obtain⟨b,off,e,_⟩:=h.row (by simp);rw[hat]at e;cases e
  subst h0;clear h;go_enter Tryz.func148,Tryz.ntmps148
  go_wp2_with fail
  go_ret
  exact⟨⟨_,rfl,dz.nil⟩,ag _ _⟩
 |some a =>
  have HN:∃ad:Addr,some a=some ad/\∀j u,(l.flatMap bG.cells)[j]?=some u->(w.alloc (.cells #[] 54)).cell? (ad.add j)=some u:=by
   refine⟨a,rfl,λj u hj=>?_⟩;have h0:0<l.length:=by
    cases l with
    |nil=>simp at hj
    |cons x l=>simp
   obtain⟨b,off,e,a4,hc⟩:=h.news (λ_=>rfl) h0;rw[hat]at e;cases e
   have an:=hc j u hj;have am:=World.block_lt_of_cell? w _ an;exact(aM (w:=w) (eZ _ _ _ am)).trans an
  obtain⟨ad,e1,D⟩:=HN;cases e1
  have O:=ae D;clear D h hat;have ao:l.length<=maxLen:=by simp only[maxLen];omega
  have ab:=kL (enc:=bG.cells) (k:=3) (λ_=>rfl) l;have al:=sD I9 l;have V:=ae ab;have ar:=ae al;clear ab al;obtain⟨n,hn⟩:∃n,l.length=n:=⟨_,rfl⟩;have aq:=ae hn;rw[hn]at V hl ao ⊢;clear hn;go_enter Tryz.func148,Tryz.ntmps148
  go_wp2_with(first|(at_builtin;refine wpList_append_own _ rfl _ _ 32 rfl w.heap.size 54 i0 _ 3 64 Tryz.underlying32 hi aw a1 a3 rfl (by decide) _ _ _ rfl (World.ownsRow_made w #[] 0 (af _) (aH _) (by simp)) a n sp.df (l.flatMap bG.cells) rfl V.o O.o ar.o (by omega) (by omega) (by simp) ?_)|fail)
  intro v' w1 ap U _;go_wp2_with fail
  go_ret
  refine⟨⟨v',rfl,by simpa[dz,aq.o]using ap⟩,?_⟩;exact((ag _ w).alloc (af _) _).grown U (by simp) (by intro k hk;simp[Value.ownBlock]at hk;omega)
theorem IL:(Tryz.prog.info? 149).map (λi=>(i.zero,i.size,i.bytes))=some (some (.agg #[.int .i64 0,.int .u8 0,.int .u8 0,.int .u32 0,.int .i64 0,.string ⟨#[]⟩,.slice none 0 0]),7,64):=by kernel_rfl
theorem J4(w:World)(sp:Sp)(l:List dH)(B:Nat)(h:RowOf B w sp 7 dH.cells l)(hl:l.length<=1000000) :
  Calls Tryz.prog 147 #[.slice sp.dO l.length sp.df] w λo w'=>(∃v,o=.returned v/\dz w.heap.size w' 149 7 dH.cells v l)/\Below w.heap.size w w':=by
 obtain⟨i0,hi,aw,a1,a3⟩:=qD IL;have a5:∀(w:World) (a:Option Addr) (n c n' c':Nat),(binOp .eql 31 (.slice a n c) (.slice none n' c')).run Tryz.prog w=.ok (.bool a.isNone) w:=λw a n c n' c'=>Lib.run_eql_slice_nil w _ _ a n c n' c' Tryz.underlying31
 cases hat:sp.dO with
 |none =>
  have h0:l=[]:=by
   cases l with
   |nil=>rfl
   |cons x l=>obtain⟨b,off,e,_⟩:=h.row (by simp);rw[hat]at e;cases e
  subst h0;clear h;go_enter Tryz.func147,Tryz.ntmps147
  go_wp2_with fail
  go_ret
  exact⟨⟨_,rfl,dz.nil⟩,ag _ _⟩
 |some a =>
  have HN:∃ad:Addr,some a=some ad/\∀j u,(l.flatMap dH.cells)[j]?=some u->(w.alloc (.cells #[] 149)).cell? (ad.add j)=some u:=by
   refine⟨a,rfl,λj u hj=>?_⟩;have h0:0<l.length:=by
    cases l with
    |nil=>simp at hj
    |cons x l=>simp
   obtain⟨b,off,e,a4,hc⟩:=h.news (λ_=>rfl) h0;rw[hat]at e;cases e
   have an:=hc j u hj;have am:=World.block_lt_of_cell? w _ an;exact(aM (w:=w) (eZ _ _ _ am)).trans an
  obtain⟨ad,e1,D⟩:=HN;cases e1
  have O:=ae D;clear D h hat;have ao:l.length<=maxLen:=by simp only[maxLen];omega
  have ab:=kL (enc:=dH.cells) (k:=7) (λ_=>rfl) l;have al:=sD I8 l;have V:=ae ab;have ar:=ae al;clear ab al;obtain⟨n,hn⟩:∃n,l.length=n:=⟨_,rfl⟩;have aq:=ae hn;rw[hn]at V hl ao ⊢;clear hn;go_enter Tryz.func147,Tryz.ntmps147
  go_wp2_with(first|(at_builtin;refine wpList_append_own _ rfl _ _ 31 rfl w.heap.size 149 i0 _ 7 64 Tryz.underlying31 hi aw a1 a3 rfl (by decide) _ _ _ rfl (World.ownsRow_made w #[] 0 (af _) (aH _) (by simp)) a n sp.df (l.flatMap dH.cells) rfl V.o O.o ar.o (by omega) (by omega) (by simp) ?_)|fail)
  intro v' w1 ap U _;go_wp2_with fail
  go_ret
  refine⟨⟨v',rfl,by simpa[dz,aq.o]using ap⟩,?_⟩;exact((ag _ w).alloc (af _) _).grown U (by simp) (by intro k hk;simp[Value.ownBlock]at hk;omega)
theorem Pe:(Tryz.prog.info? 30).map (λi=>(i.zero,i.size,i.bytes))=some (some (.agg #[.int .u8 0,.int .u8 0,.int .u32 0,.int .i64 0,.string ⟨#[]⟩,.slice none 0 0]),6,56):=by kernel_rfl
theorem J3(w:World)(sp:Sp)(l:List ah)(B:Nat)(h:RowOf B w sp 6 ah.cells l)(hl:l.length<=1000000) :
  Calls Tryz.prog 196 #[.slice sp.dO l.length sp.df] w λo w'=>(∃v,o=.returned v/\dz w.heap.size w' 30 6 ah.cells v l)/\Below w.heap.size w w':=by
 obtain⟨i0,hi,aw,a1,a3⟩:=qD Pe;have a5:∀(w:World) (a:Option Addr) (n c n' c':Nat),(binOp .eql 28 (.slice a n c) (.slice none n' c')).run Tryz.prog w=.ok (.bool a.isNone) w:=λw a n c n' c'=>Lib.run_eql_slice_nil w _ _ a n c n' c' Tryz.underlying28
 cases hat:sp.dO with
 |none =>
  have h0:l=[]:=by
   cases l with
   |nil=>rfl
   |cons x l=>obtain⟨b,off,e,_⟩:=h.row (by simp);rw[hat]at e;cases e
  subst h0;clear h;go_enter Tryz.func196,Tryz.ntmps196
  go_wp2_with fail
  go_ret
  exact⟨⟨_,rfl,dz.nil⟩,ag _ _⟩
 |some a =>
  have HN:∃ad:Addr,some a=some ad/\∀j u,(l.flatMap ah.cells)[j]?=some u->(w.alloc (.cells #[] 30)).cell? (ad.add j)=some u:=by
   refine⟨a,rfl,λj u hj=>?_⟩;have h0:0<l.length:=by
    cases l with
    |nil=>simp at hj
    |cons x l=>simp
   obtain⟨b,off,e,a4,hc⟩:=h.news (λ_=>rfl) h0;rw[hat]at e;cases e
   have an:=hc j u hj;have am:=World.block_lt_of_cell? w _ an;exact(aM (w:=w) (eZ _ _ _ am)).trans an
  obtain⟨ad,e1,D⟩:=HN;cases e1
  have O:=ae D;clear D h hat;have ao:l.length<=maxLen:=by simp only[maxLen];omega
  have ab:=kL (enc:=ah.cells) (k:=6) (λ_=>rfl) l;have al:=sD I7 l;have V:=ae ab;have ar:=ae al;clear ab al;obtain⟨n,hn⟩:∃n,l.length=n:=⟨_,rfl⟩;have aq:=ae hn;rw[hn]at V hl ao ⊢;clear hn;go_enter Tryz.func196,Tryz.ntmps196
  go_wp2_with(first|(at_builtin;refine wpList_append_own _ rfl _ _ 28 rfl w.heap.size 30 i0 _ 6 56 Tryz.underlying28 hi aw a1 a3 rfl (by decide) _ _ _ rfl (World.ownsRow_made w #[] 0 (af _) (aH _) (by simp)) a n sp.df (l.flatMap ah.cells) rfl V.o O.o ar.o (by omega) (by omega) (by simp) ?_)|fail)
  intro v' w1 ap U _;go_wp2_with fail
  go_ret
  refine⟨⟨v',rfl,by simpa[dz,aq.o]using ap⟩,?_⟩;exact((ag _ w).alloc (af _) _).grown U (by simp) (by intro k hk;simp[Value.ownBlock]at hk;omega)
section
def sN(P:Program)(t e:TypeId)(k:Nat):Prop:=∃i z bytes,P.underlying t=some (.slice e)/\P.info? e=some i/\i.zero=some z/\i.size=k/\i.bytes=bytes/\bytes<=1000/\z.cells.size=k/\0<k
theorem rY{P:Program}{t e:TypeId}{k b:Nat}{z:Value}(h:(P.info? e).map (λi=>(i.zero,i.size,i.bytes))=some (some z,k,b))(ht:P.underlying t=some (.slice e))(hb:b<=1000)(hz:z.cells.size=k)(hk:0<k):sN P t e k:=by
 obtain⟨i,h1,D,O,U⟩:=qD h;exact⟨i,z,b,ht,h1,D,O,U,hb,hz,hk⟩
section
variable {P:Program}{α:Type}{k:Nat}{enc:α->List Value}{w:World}
theorem sH{B:Nat}{t ty e:TypeId}(hE:sN P t e k)(hk:∀x,(enc x).length=k)(h1:∀x:α,∀u∈enc x,u.oneCell'=true){v:Value}{l:List α}(O:dz B w e k enc v l)
  {n:Nat}{sp:Sp}{D:List α}(hr:RowOf n w sp k enc D) (ab:l.length+D.length<=1000000) (hB:B<=w.heap.size) :
  ∃V w',(Builtin.append_ #[t,t] ty #[v,.slice sp.dO D.length sp.df]).run P w=.ok V w'/\dz B w' e k enc V (l++D)/\w.grownBy w' v.ownBlock/\(V.ownBlock=v.ownBlock\/V.ownBlock=some w.heap.size):=by
 obtain⟨i,z,bytes,ht,hi,hz,ao,hby,al,ap,am⟩:=hE;cases hat:sp.dO with
 |none =>
  have h0:D=[]:=by
   cases D with
   |nil=>rfl
   |cons x D=>obtain⟨b,off,e,_⟩:=hr.row (by simp);rw[hat]at e;cases e
  subst h0;refine⟨v,w,?_,by simpa using O,World.grownBy.refl w _,.inl rfl⟩;rcases O.2 with ⟨rfl,_⟩|⟨g,df,cur,rfl,_,_,an,_⟩
  .simp[Builtin.append_,run_underlying ht,sizeOf,typeInfo,hi,Builtin.lenOf,Builtin.firstCells]
  .simp[Builtin.append_,run_underlying ht,sizeOf,typeInfo,hi,Builtin.lenOf,Builtin.firstCells,an,storeCells]
 |some a =>
  have U:∀j u,(D.flatMap enc)[j]?=some u->w.cell? (a.add j)=some u:=λj u hj=>by
   have h0:0<D.length:=by
    cases D with
    |nil=>simp at hj
    |cons x l=>simp
   obtain⟨b,off,e,_,hc⟩:=hr.news hk h0;rw[hat]at e;cases e
   exact hc j u hj
  obtain⟨V,w',ad,h2,h3,_,h5⟩:=run_append_own_at (P:=P) w B t ty e i z k bytes ht hi hz ao hby ap am v l.length (l.flatMap enc) O a D.length sp.df (D.flatMap enc) (kL hk D) U (sD h1 D) (by simp only[maxLen];omega) (by
   have:=Nat.mul_le_mul ab al;omega) hB
  refine⟨V,w',ad,?_,h3,h5⟩;unfold dz;rw[ay,bT];exact h2
theorem gQ{ops:Array Oper}{rest:List Oper}{o:Oper}{a:Act}{Q:Exit->Act->World->Prop}(ab:o.guard=none)(s x:Operand)(t:TypeId)
  (ho:o.op=.call { callee:=.builtin .append,args:=#[s,x],argTypes:=#[t,t] }) {B:Nat}{e:TypeId}(hE:sN P t e k) (hk:∀x,(enc x).length=k) (h1:∀x:α,∀u∈enc x,u.oneCell'=true) (v:Value) (l:List α) (hs:a.eval s=v) (U:dz B w e k enc v l)
  {n:Nat}(sp:Sp) (l2:List α) (hx:a.eval x=.slice sp.dO l2.length sp.df) (hr:RowOf n w sp k enc l2) (O:l.length+l2.length<=1000000) (hB:B<=w.heap.size)
  (h:∀D w',dz B w' e k enc D (l++l2)->w.grownBy w' v.ownBlock->(D.ownBlock=v.ownBlock\/D.ownBlock=some w.heap.size)->wpList P ops Q rest (a.put o.dst D) w'):wpList P ops Q (o::rest) a w :=
 wpList_plain ab λ_ hK=>by
  obtain⟨D,w',V,h2,h3,h4⟩:=sH (P:=P) (ty:=o.type) hE hk h1 U hr O hB;unfold Oper.wp execOp;simp only[ho,resolve,invoke,builtin,Sem.run_bind,Sem.run_pure,Result.andThen_ok,List.map_toArray,ax,dh,hs,hx,V];exact hK _ _ (h D w' h2 h3 h4)
theorem dz.below{B C:Nat}{e:TypeId}{v:Value}{l:List α}(h:dz B w e k enc v l){W':World}(D:w.grownBy W' v.ownBlock)(V:C<=B){W0:World}(hb:Below C W0 w)(hs:B<=w.heap.size):Below C W0 W' :=
 hb.grown D (by omega) λq hq=>by
  rcases h.2 with ⟨rfl,_⟩|⟨g,U,cur,rfl,O,_⟩
  .simp[Value.ownBlock]at hq
  .simp[Value.ownBlock]at hq;omega
theorem dz.iO{B:Nat}{e:TypeId}{v:Value}{l:List α}(h:dz B w e k enc v l){g:Nat}(D:v.ownBlock=some g):B<=g/\∃cs fr,w.heap[g]?=some (.cells cs e fr):=by
 rcases h.2 with ⟨rfl,_⟩|⟨g',V,cur,rfl,O,U,_⟩
 .simp[Value.ownBlock]at D
 .simp[Value.ownBlock]at D;subst D;exact⟨O,_,_,U⟩
theorem dz.other{β:Type}{k2:Nat}{D:β->List Value}{B B2:Nat}{e U:TypeId}{v v2:Value}{l:List α}{l2:List β}(h:dz B w e k enc v l)(h2:dz B2 w U k2 D v2 l2){W':World}(hg:w.grownBy W' v2.ownBlock)(hne:e≠U):dz B W' e k enc v l :=
 h.kept λg cs fr _ V=>hg.block g (dM V).1 (λeq=>by
  obtain⟨_,ab,ad,O⟩:=h2.iO eq.symm;rw[V]at O;cases O;exact hne rfl)
theorem dz.cell{B:Nat}{e:TypeId}{A:Option Addr}{n c:Nat}{l:List α}(h:dz B w e k enc (.slice A n c) l)(hk:∀x,(enc x).length=k){j:Nat}(hj:j<l.length):∃g,A=some ⟨g,0,none⟩/\B<=g/\g<w.heap.size/\∀r u,(enc (l[j]))[r]?=some u->w.cell? ⟨g,j*k+r,none⟩=some u:=by
 rcases h.2 with ⟨_,h0⟩|⟨g,df,cur,hv,V,hh,_,_,ad,ab⟩
 .omega
 .cases hv
  refine⟨g,rfl,V,(dM hh).1,λr u hu=>?_⟩;have U:=Cw hk l j r u hj hu;have D:=(List.getElem?_eq_some_iff.1 U).1;rw[<-ab]at U;have O:j*k+r<l.length*k:=by rw[<-kL hk l];exact D
  rw[List.getElem?_take_of_lt O,Array.getElem?_toList]at U;simp only[World.cell?,hh];exact U
theorem dz.len{B:Nat}{e:TypeId}{A:Option Addr}{n c:Nat}{l:List α}(h:dz B w e k enc (.slice A n c) l):n=l.length:=by
 rcases h.2 with ⟨D,O⟩|⟨g,U,cur,D,_⟩
 .cases D;exact O.symm
 .cases D;rfl
theorem dz.form{B:Nat}{e:TypeId}{v:Value}{l:List α}(h:dz B w e k enc v l):∃A c,v=.slice A l.length c:=by
 rcases h.2 with ⟨D,O⟩|⟨g,U,cur,D,_⟩
 .exact⟨none,0,by rw[D,O]⟩
 .exact⟨_,_,D⟩
end
theorem LX:sN Tryz.prog 24 50 3:=rY Ir Tryz.underlying24 (by decide) rfl (by decide)
theorem xQ:sN Tryz.prog 33 43 6:=rY Jz Tryz.underlying33 (by decide) rfl (by decide)
theorem Un:sN Tryz.prog 32 54 3:=rY Jh Tryz.underlying32 (by decide) rfl (by decide)
theorem Um:sN Tryz.prog 31 149 7:=rY IL Tryz.underlying31 (by decide) rfl (by decide)
theorem R7:(Tryz.prog.info? 9).map (λi=>(i.zero,i.size,i.bytes))=some (some (.string ⟨#[]⟩),1,16):=by kernel_rfl
theorem UX:sN Tryz.prog 40 9 1:=rY R7 Tryz.underlying40 (by decide) rfl (by decide)
end
section
def gP(lo:Nat)(W:World):World:={ W with heap:=W.heap.mapIdx λk o=>if k<lo then .cells #[] 0 else o }
theorem Fy(lo:Nat)(W:World)(k:Nat):(gP lo W).heap[k]?=(W.heap[k]?).map λo=>if k<lo then .cells #[] 0 else o:=by simp[gP]
theorem bJ{lo:Nat}{W:World}{p:Addr}{u:Value}:(gP lo W).cell? p=some u↔lo<=p.block/\W.cell? p=some u:=by
 by_cases h:p.block<lo
 .constructor
  .intro hc
   exfalso
   simp only[World.cell?,Fy]at hc;cases hh:W.heap[p.block]? with
   |none=>rw[hh]at hc;simp at hc
   |some o=>rw[hh]at hc;simp[h]at hc
  .intro hc;omega
 .have e:(gP lo W).cell? p=W.cell? p:=aM (by
   rw[Fy];cases W.heap[p.block]? <;>simp[h])
  rw[e];exact⟨λhc=>⟨by omega,hc⟩,λhc=>hc.2⟩
section
variable {n:Nat}{W W':World}
theorem RowOf.cells{α:Type}{s:Sp}{k:Nat}{enc:α->List Value}{l:List α}(h:RowOf n W s k enc l)(hc:∀p u,p.block<n->W.cell? p=some u->W'.cell? p=some u):RowOf n W' s k enc l :=
 ⟨h.df,h.big,h.few,λO=>by
  obtain⟨b,off,e,D,hx⟩:=h.row O;exact⟨b,off,e,D,λj U r u V=>hc _ _ D (hx j U r u V)⟩⟩
theorem mM.cells{e:ah}(h:mM n W e)(hc:∀p u,p.block<n->W.cell? p=some u->W'.cell? p=some u):mM n W' e:=by
 induction h with
 |mk e k o v w n row _ D=>exact .mk e k o v w n (row.cells hc) D
theorem lV.cells{s:aa}(h:lV n W s)(hc:∀p u,p.block<n->W.cell? p=some u->W'.cell? p=some u):lV n W' s:=by
 induction h with
 |mk s k b n U ex V _ or _ D O=>exact .mk s k b n (U.cells hc) (λe he=>(ex e he).cells hc) (V.cells hc) D (or.cells hc) O
end
def fV(lo:Nat)(W:World)(e:ah):Prop:=mM W.heap.size (gP lo W) e
def nk(lo:Nat)(W:World)(s:aa):Prop:=lV W.heap.size (gP lo W) s
def j4(lo:Nat)(W:World)(sp:Sp)(l:List aa):Prop:=RowOf W.heap.size (gP lo W) sp 6 aa.cells l/\∀s,s∈l->nk lo W s
section
variable {lo q:Nat}{W W':World}
theorem lg(hb:Below W.heap.size (mask q W) (mask q W'))(hq:q<lo):∀p u,p.block<W.heap.size->(gP lo W).cell? p=some u->(gP lo W').cell? p=some u:=λp u hp hc=>by
 obtain⟨h1,O⟩:=bJ.1 hc;refine bJ.2 ⟨h1,?_⟩;have D:=hb.block p.block hp;rw[gz (by omega),gz (by omega)]at D;exact(aM D).trans O
theorem r9{lo':Nat}(h:lo'<=lo):∀(p:Addr) u,p.block<W.heap.size->(gP lo W).cell? p=some u->(gP lo' W).cell? p=some u:=λp u _ hc=>by
 obtain⟨h1,D⟩:=bJ.1 hc;exact bJ.2 ⟨by omega,D⟩
theorem xm{g:Nat}{cs:Array Value}(h:g<lo):∀(p:Addr) u,p.block<W.heap.size->(gP lo W).cell? p=some u->(gP lo (W.setRow g cs)).cell? p=some u:=λp u _ hc=>by
 obtain⟨h1,D⟩:=bJ.1 hc;exact bJ.2 ⟨h1,(cell_setRow_other W g cs p (by omega)).trans D⟩
theorem qg:∀(p:Addr) (u:Value),p.block<W.heap.size->(gP lo W).cell? p=some u->W.cell? p=some u:=λ_ _ _ hc=>(bJ.1 hc).2
theorem ja(hb:Below W.heap.size (mask q W) (mask q W')):W.heap.size<=W'.heap.size:=by have:=hb.size;rw[gI,gI]at this;exact this
theorem fV.on{e:ah}(h:fV lo W e)(hb:Below W.heap.size (mask q W) (mask q W'))(hq:q<lo):fV lo W' e:=(mM.cells h (lg hb hq)).more (ja hb)
theorem fV.less{e:ah}{lo':Nat}(h:fV lo W e)(hl:lo'<=lo):fV lo' W e:=mM.cells h (r9 hl)
theorem fV.set{e:ah}{g:Nat}{cs:Array Value}(h:fV lo W e)(D:g<lo):fV lo (W.setRow g cs) e:=by
 unfold fV;rw[eP];exact mM.cells h (xm D)
theorem nk.on{e:aa}(h:nk lo W e)(hb:Below W.heap.size (mask q W) (mask q W'))(hq:q<lo):nk lo W' e:=(lV.cells h (lg hb hq)).more (ja hb)
theorem nk.less{e:aa}{lo':Nat}(h:nk lo W e)(hl:lo'<=lo):nk lo' W e:=lV.cells h (r9 hl)
theorem j4.on{sp:Sp}{l:List aa}(h:j4 lo W sp l)(hb:Below W.heap.size (mask q W) (mask q W'))(hq:q<lo):j4 lo W' sp l:=⟨(h.1.cells (lg hb hq)).more (ja hb),λs D=>(h.2 s D).on hb hq⟩
theorem j4.less{sp:Sp}{l:List aa}{lo':Nat}(h:j4 lo W sp l)(hl:lo'<=lo):j4 lo' W sp l:=⟨h.1.cells (r9 hl),λs D=>(h.2 s D).less hl⟩
theorem RowOf.low{α:Type}{n k b off c:Nat}{enc:α->List Value}{l:List α}(h:RowOf n W ⟨some ⟨b,off,none⟩,c⟩ k enc l)(hb:lo<=b):RowOf n (gP lo W) ⟨some ⟨b,off,none⟩,c⟩ k enc l :=
 ⟨h.df,h.big,h.few,λU=>by
  obtain⟨b',D,e,O,hc⟩:=h.row U;have e2:b=b':=by have:=iL e;exact(Addr.mk.inj this).1
  exact⟨b',D,e,O,λj V r u hu=>bJ.2 ⟨by show lo<=b';omega,hc j V r u hu⟩⟩⟩
end
end
section
section
variable {α:Type}{k:Nat}{enc:α->List Value}
theorem E9(hk:∀x,(enc x).length=k):∀(l:List α) (j r:Nat) (v:Value) (x:α) (D:j<l.length),r<k->(enc (l[j])).set r v=enc x->(l.flatMap enc).set (j*k+r) v=(l.set j x).flatMap enc
 |y::l,0,r,v,x,_,hr,h=>by
  rw[bA,List.set_cons_zero,bA,Nat.zero_mul,fI,List.set_append_left _ _ (by rw[hk];exact hr)];rw[show(y::l)[0]=y from rfl]at h;rw[h]
 |y::l,j+1,r,v,x,D,hr,h=>by
  rw[bA,List.set_cons_succ,bA];have e:(j+1)*k+r=(enc y).length+(j*k+r):=by rw[hk,Nat.add_mul];omega
  rw[e,List.set_append_right _ _ (gU _ _),Nat.add_sub_cancel_left,E9 hk l j r v x (by simpa using D) hr (by simpa using h)]
theorem Fa(hk:∀x,(enc x).length=6)(D O U V v4 v5:Value):∀(l:List α) (j:Nat) (x:α),j<l.length->enc x=[D,O,U,V,v4,v5] ->
  ((((((l.flatMap enc).set (j*6) D).set (j*6+1) O).set (j*6+2) U).set (j*6+3) V).set (j*6+4) v4).set (j*6+5) v5=(l.set j x).flatMap enc
 |y::l,0,x,_,h=>by
  rw[bA,List.set_cons_zero,bA,h];have hy:=hk y
  match enc y,hy with
  |[a,b,c,d,e,g],_=>simp
 |y::l,j+1,x,hj,h=>by
  rw[bA,List.set_cons_succ,bA,<-Fa hk D O U V v4 v5 l j x (by simpa using hj) h];have e:(j+1)*6=(enc y).length+j*6:=by rw[hk,Nat.add_mul];omega
  rw[e];simp only[List.set_append_right _ _ (gU _ _),Nat.add_assoc,Nat.add_sub_cancel_left]
variable {B:Nat}{W:World}{t:TypeId}{g n c:Nat}{l:List α}
theorem dz.frozen(h:dz B W t k enc (.slice (some ⟨g,0,none⟩) n c) l)(j:Nat):W.frozen? ⟨g,j,none⟩=false:=by
 have D:=h.len;subst D;exact World.ownsRow.frozenAt h j
theorem dz.put1(h:dz B W t k enc (.slice (some ⟨g,0,none⟩) n c) l)(hk:∀x,(enc x).length=k){j r:Nat}{v:Value}{x:α}(D:j<l.length)(hr:r<k)(hx:(enc (l[j])).set r v=enc x) :
  dz B (W.setCell ⟨g,j*k+r,none⟩ v) t k enc (.slice (some ⟨g,0,none⟩) n c) (l.set j x):=by
 have O:=h.len;subst O;have h1:=(World.ownsRow.stored h (j*k+r) v).1;unfold dz;rw[fe,<-E9 hk l j r v x D hr hx];exact h1
theorem dz.put6{enc:α->List Value}(h:dz B W t 6 enc (.slice (some ⟨g,0,none⟩) n c) l)(hk:∀x,(enc x).length=6){j:Nat}{x:α}{D O U V v4 v5:Value}(hj:j<l.length)(hx:enc x=[D,O,U,V,v4,v5]) :
  dz B ((((((W.setCell ⟨g,j*6,none⟩ D).setCell ⟨g,j*6+1,none⟩ O).setCell ⟨g,j*6+2,none⟩ U).setCell ⟨g,j*6+3,none⟩ V).setCell ⟨g,j*6+4,none⟩ v4).setCell ⟨g,j*6+5,none⟩ v5) t 6 enc (.slice (some ⟨g,0,none⟩) n c) (l.set j x):=by
 have hn:=h.len;subst hn;unfold dz;rw[fe,<-Fa hk D O U V v4 v5 l j x hj hx];exact(World.ownsRow.stored (World.ownsRow.stored (World.ownsRow.stored (World.ownsRow.stored (World.ownsRow.stored (World.ownsRow.stored h _ D).1 _ O).1 _ U).1 _ V).1 _ v4).1 _ v5).1
end
theorem C8(w:World)(c:Nat):Calls Tryz.prog 196 #[.slice none 0 c] w λo w'=>o=.returned (.slice none 0 0)/\w'=w:=by
 have O:∀(w:World) (a:Option Addr) (n c n' D:Nat),(binOp .eql 28 (.slice a n c) (.slice none n' D)).run Tryz.prog w=.ok (.bool a.isNone) w:=λw a n c n' D=>Lib.run_eql_slice_nil w _ _ a n c n' D Tryz.underlying28
 go_enter Tryz.func196,Tryz.ntmps196
 go_wp2_with fail
 go_ret
 exact⟨rfl,rfl⟩
theorem C9(w:World)(c:Nat):Calls Tryz.prog 70 #[.slice none 0 c] w λo w'=>o=.returned (.slice none 0 0)/\w'=w:=by
 have O:∀(w:World) (a:Option Addr) (n c n' D:Nat),(binOp .eql 33 (.slice a n c) (.slice none n' D)).run Tryz.prog w=.ok (.bool a.isNone) w:=λw a n c n' D=>Lib.run_eql_slice_nil w _ _ a n c n' D Tryz.underlying33
 go_enter Tryz.func70,Tryz.ntmps70
 go_wp2_with fail
 go_ret
 exact⟨rfl,rfl⟩
theorem Jq{α:Type}{B k:Nat}{W:World}{sp:Sp}{enc:α->List Value}{l:List α}(h:RowOf B W sp k enc l)(D:sp.dO=none):l=[]:=by
 cases l with
 |nil=>rfl
 |cons x l=>obtain⟨b,off,e,_⟩:=h.row (by simp);rw[D]at e;cases e
theorem BC(w:World)(sp:Sp)(l:List ah)(B:Nat)(h:RowOf B w sp 6 ah.cells l)(hl:l.length<=1000000) :
  Calls Tryz.prog 196 #[.slice sp.dO l.length sp.df] w λo w'=>(∃D:Sp,o=.returned (.slice D.dO l.length D.df)/\dz w.heap.size w' 30 6 ah.cells (.slice D.dO l.length D.df) l/\(sp.dO=none->D=Sp.none))/\Below w.heap.size w w':=by
 cases hat:sp.dO with
 |none =>
  have U:=Jq h hat;subst U;refine(C8 w sp.df).mono ?_;rintro o w' ⟨rfl,rfl⟩;exact⟨⟨Sp.none,rfl,dz.nil,λ_=>rfl⟩,ag _ _⟩
 |some a =>
  have h1:=J3 w sp l B h hl;rw[hat]at h1;refine h1.mono ?_;rintro o w' ⟨⟨v,rfl,O⟩,hb⟩;obtain⟨A,c,rfl⟩:=O.form;exact⟨⟨⟨A,c⟩,rfl,O,λh=>by cases h⟩,hb⟩
theorem Il(w:World)(sp:Sp)(l:List aa)(B:Nat)(h:RowOf B w sp 6 aa.cells l)(hl:l.length<=1000000) :
  Calls Tryz.prog 70 #[.slice sp.dO l.length sp.df] w λo w'=>(∃D:Sp,o=.returned (.slice D.dO l.length D.df)/\dz w.heap.size w' 43 6 aa.cells (.slice D.dO l.length D.df) l/\(sp.dO=none->D=Sp.none))/\Below w.heap.size w w':=by
 cases hat:sp.dO with
 |none =>
  have U:=Jq h hat;subst U;refine(C9 w sp.df).mono ?_;rintro o w' ⟨rfl,rfl⟩;exact⟨⟨Sp.none,rfl,dz.nil,λ_=>rfl⟩,ag _ _⟩
 |some a =>
  have h1:=J6 w sp l B h hl;rw[hat]at h1;refine h1.mono ?_;rintro o w' ⟨⟨v,rfl,O⟩,hb⟩;obtain⟨A,c,rfl⟩:=O.form;exact⟨⟨⟨A,c⟩,rfl,O,λh=>by cases h⟩,hb⟩
end
section
structure OJ(γ:uz)(w W:World)(e:ah)(sa:Option Addr)(sc lo k:Nat)(cur:List ah):Prop where
 low:Below w.heap.size w W
 hlo:w.heap.size+2<=lo
 loW:lo<=W.heap.size
 dO:∀a,sa=some a->a.block<lo
 box:W.heap[w.heap.size]?=some (.cells #[.int .u8 e.bI,.int .u8 e.op,.int .u32 e.bv,.int .i64 e.aS,.string (γ e.bI e.aT),.slice sa e.cu.length sc] 30 (0,0))
 res:W.heap[w.heap.size+1]?=some (.cells #[.int .u8 0,.int .u8 0,.int .u32 0,.int .i64 0,.string ⟨#[]⟩,.slice none 0 0] 30 (0,0))
 own:dz (w.heap.size+2) W 30 6 ah.cells (.slice sa e.cu.length sc) cur
 len:cur.length=e.cu.length
 done:∀i (h:i<e.cu.length) (h':i<cur.length),i<k->En γ e.cu[i] cur[i]/\fV lo W cur[i]
 todo:∀i (h:i<e.cu.length) (h':i<cur.length),k<=i->cur[i]=e.cu[i]
section
variable {γ:uz}{w W W':World}{e:ah}{sa:Option Addr}{sc lo k:Nat}{cur:List ah}
theorem fV.lowerC{lo:Nat}{e:ah}(h:fV lo W e)(hb:Below W.heap.size W W'):fV lo W' e :=
 (mM.cells h λ_ _ hp hc=>bJ.2 ⟨(bJ.1 hc).1,(hb.cell hp).trans (bJ.1 hc).2⟩).more hb.size
theorem OJ.on(h:OJ γ w W e sa sc lo k cur)(hb:Below W.heap.size W W'):OJ γ w W' e sa sc lo k cur :=
 ⟨h.low.trans (hb.mono h.low.size),h.hlo,ai h.loW hb.size,h.dO,(hb.block _ (dM h.box).1).trans h.box,(hb.block _ (dM h.res).1).trans h.res,h.own.on hb,h.len,λi h1 D O=>⟨(h.done i h1 D O).1,(h.done i h1 D O).2.lowerC hb⟩,h.todo⟩
def six(W:World)(g o:Nat)(D O U V v4 v5:Value):World:=(((((W.setCell ⟨g,o,none⟩ D).setCell ⟨g,o+1,none⟩ O).setCell ⟨g,o+2,none⟩ U).setCell ⟨g,o+3,none⟩ V).setCell ⟨g,o+4,none⟩ v4).setCell ⟨g,o+5,none⟩ v5
theorem wL(W:World)(g o:Nat)(D O U V v4 v5:Value):(six W g o D O U V v4 v5).heap.size=W.heap.size:=by simp[six]
theorem wK(W:World)(g o:Nat)(D O U V v4 v5:Value){b:Nat}(h:b≠g):(six W g o D O U V v4 v5).heap[b]?=W.heap[b]? := by
 unfold six;rw[aN _ _ _ _ h,aN _ _ _ _ h,aN _ _ _ _ h,aN _ _ _ _ h,aN _ _ _ _ h,aN _ _ _ _ h]
theorem RZ{W:World}{g:Nat}{ty:TypeId}{a0 a1 a2 a3 a4 a5:Value}(h:W.heap[g]?=some (.cells #[a0,a1,a2,a3,a4,a5] ty (0,0)))(D O U V v4 v5:Value):(six W g 0 D O U V v4 v5).heap[g]?=some (.cells #[D,O,U,V,v4,v5] ty (0,0)):=by
 simp[six,World.setCell,cK,h]
theorem xz{B:Nat}{w W:World}(h:Below B w W){g:Nat}(D:B<=g)(o:Nat)(O U V v3 v4 v5:Value):Below B w (six W g o O U V v3 v4 v5):=
 (((((h.setCell (p:=⟨g,o,none⟩) D _).setCell (p:=⟨g,o+1,none⟩) D _).setCell (p:=⟨g,o+2,none⟩) D _).setCell (p:=⟨g,o+3,none⟩) D _).setCell (p:=⟨g,o+4,none⟩) D _).setCell (p:=⟨g,o+5,none⟩) D _
theorem xA{lo g:Nat}{e:ah}(h:fV lo W e)(hg:g<lo)(o:Nat)(D O U V v4 v5:Value):fV lo (six W g o D O U V v4 v5) e:=by
 unfold fV;rw[wL];refine mM.cells h λp u _ hc=>?_
 obtain⟨h1,h2⟩:=bJ.1 hc;exact bJ.2 ⟨h1,(aM (wK W g o D O U V v4 v5 (by omega))).trans h2⟩
theorem OJ.put{g:Nat}(h:OJ γ w W e (some ⟨g,0,none⟩) sc lo k cur)(hk:k<e.cu.length){x:ah}(hr:En γ e.cu[k] x)(hx:fV lo W x)(V:w.heap.size+2<=g) :
  OJ γ w (six W g (k*6) (.int .u8 x.bI) (.int .u8 x.op) (.int .u32 x.bv) (.int .i64 x.aS) (.string x.aT) (.slice x.sp.dO x.cu.length x.sp.df)) e (some ⟨g,0,none⟩) sc lo (k+1) (cur.set k x):=by
 have D:=h.dO _ rfl;refine⟨xz h.low (by omega) _ _ _ _ _ _ _,h.hlo,by rw[wL];exact h.loW,h.dO,(wK _ _ _ _ _ _ _ _ _ (by omega)).trans h.box,(wK _ _ _ _ _ _ _ _ _ (by omega)).trans h.res,h.own.put6 (λ_=>rfl) (by rw[h.len];exact hk) rfl,by rw[fe];exact h.len,λi h1 O U=>?_,λi h1 O U=>?_⟩
 .by_cases hi:i=k
  .subst hi
   rw[fM];exact⟨hr,xA hx D _ _ _ _ _ _ _⟩
  .rw[iC (Ne.symm hi)]
   have:=h.done i h1 (by rw[h.len];exact h1) (by omega);exact⟨this.1,xA this.2 D _ _ _ _ _ _ _⟩
 .rw[iC (by omega)]
  exact h.todo i h1 (by rw[h.len];exact h1) (by omega)
def UJ(γ:uz)(e:ah)(sa:Option Addr)(sc:Nat)(cur:List ah):ah:=.mk e.bI e.op e.bv e.aS (γ e.bI e.aT) ⟨sa,sc⟩ cur
theorem dz.low{α:Type}{enc:α->List Value}{B B2 kk n c:Nat}{W:World}{ty:TypeId}{A:Option Addr}{l:List α}(h:dz B W ty kk enc (.slice A n c) l)(hk:∀x,(enc x).length=kk)(hl:l.length<=4398046511104)(hB:B2<=B):RowOf W.heap.size (gP B2 W) ⟨A,c⟩ kk enc l:=by
 obtain⟨sp,e,hr,ha⟩:=h.row hk hl;obtain⟨A2,c2⟩:=sp;have U:=Value.slice.inj e;obtain⟨rfl,_,rfl⟩:=U;cases A with
 |none=>exact⟨hr.df,hr.big,hr.few,λV=>by obtain⟨b,off,e,_⟩:=hr.row V;cases e⟩
 |some a =>
  obtain⟨h1,D,O⟩:=ha a rfl;obtain⟨b,off,sp⟩:=a
  dsimp only at h1 D O
  subst D;subst O;exact hr.low (by omega)
theorem OJ.fin(h:OJ γ w W e sa sc lo e.cu.length cur)(V:mM w.heap.size w e)(hγ:∀k s,s.size<=maxLen->(γ k s).size<=maxLen) :
  En γ e (UJ γ e sa sc cur)/\fV w.heap.size (six W (w.heap.size+1) 0 (.int .u8 e.bI) (.int .u8 e.op) (.int .u32 e.bv) (.int .i64 e.aS) (.string (γ e.bI e.aT)) (.slice sa e.cu.length sc)) (UJ γ e sa sc cur) /\
  Below w.heap.size w (six W (w.heap.size+1) 0 (.int .u8 e.bI) (.int .u8 e.op) (.int .u32 e.bv) (.int .i64 e.aS) (.string (γ e.bI e.aT)) (.slice sa e.cu.length sc)):=by
 have hn:∀s∈cur,mM W.heap.size (gP lo W) s:=λs hs=>by
  obtain⟨i,hi,rfl⟩:=gm hs;have U:i<e.cu.length:=by rw[<-h.len];exact hi
  exact(h.done i U hi U).2
 refine⟨?_,?_,xz h.low (by omega) _ _ _ _ _ _ _⟩
 .obtain⟨k0,o0,v0,w0,am,an,l0⟩:=e
  exact En.mk h.len λi h1 h2=>(h.done i h1 h2 h1).1
 .have al:=h.own
  have ab:=h.hlo;unfold fV;rw[wL];obtain⟨k0,o0,v0,w0,n0⟩:=(match V with|.mk _ a b c d e _ _=>⟨a,b,c,d,e⟩:_/\_/\_/\_/\_);have O:cur.length<=4398046511104:=by rw[h.len];exact V.row.few
  have D:∀(lo':Nat),w.heap.size+2<=lo'->∀p u,p.block<W.heap.size->(gP lo' W).cell? p=some u->(gP w.heap.size (six W (w.heap.size+1) 0 (.int .u8 e.bI) (.int .u8 e.op) (.int .u32 e.bv) (.int .i64 e.aS) (.string (γ e.bI e.aT)) (.slice sa e.cu.length sc))).cell? p=some u:=λlo' ad p u _ hc=>by
   obtain⟨h1,h2⟩:=bJ.1 hc;exact bJ.2 ⟨by omega,(aM (wK _ _ _ _ _ _ _ _ _ (by omega))).trans h2⟩
  refine .mk _ k0 o0 v0 w0 ?_ ((h.own.low (B2:=w.heap.size+2) (λ_=>rfl) O (af _)).cells (D _ (af _))) λs hs=>(hn s hs).cells (D _ ab)
  show(γ e.bI e.aT).size<=maxLen;exact hγ _ _ n0
end
end
section
theorem iB{q B b:Nat}{W W':World}(h:Below B (mask q W) (mask q W'))(hb:b<B)(hq:b≠q):W'.heap[b]?=W.heap[b]? := by
 have:=h.block b hb
 rwa [gz hq,gz hq]at this
theorem RowOf.low'{α:Type}{n k lo:Nat}{W:World}{sp:Sp}{enc:α->List Value}{l:List α}(h:RowOf n W sp k enc l)(hb:∀a,sp.dO=some a->lo<=a.block):RowOf n (gP lo W) sp k enc l :=
 ⟨h.df,h.big,h.few,λO=>by
  obtain⟨b,off,e,D,hc⟩:=h.row O;exact⟨b,off,e,D,λj U r u V=>bJ.2 ⟨(by have:=hb _ e;exact this),hc j U r u V⟩⟩⟩
theorem qw{lo:Nat}{W:World}{A:Option Addr}{n c:Nat}{l:List aa}(h:dz lo W 43 6 aa.cells (.slice A n c) l)(O:∀s,s∈l->nk lo W s)(hl:l.length<=1000):j4 lo W ⟨A,c⟩ l:=by
 obtain⟨sp,e,hr,hb⟩:=h.row (λ_=>rfl) (by omega);have:sp=⟨A,c⟩:=by
  unfold Sp.val at e;injection e with e1 e2 e3;rw[e1,e3]
 subst this;exact⟨hr.low' λa D=>(hb a D).1,O⟩
theorem jP{lo:Nat}{W:World}{k D:Int}{U:ByteArray}{es ts os:Sp}{ex:List ah}{th el:List aa}(he:RowOf W.heap.size (gP lo W) es 6 ah.cells ex)(hx:∀e,e∈ex->fV lo W e)(ht:j4 lo W ts th)(O:j4 lo W os el)(hk:0<=k/\k<=255)(hb:(Lit.int .i64 D).wf=true)(V:U.size<=maxLen):nk lo W (.mk k U es ex D ts th os el):=
 .mk _ hk hb V he hx ht.1 ht.2 O.1 O.2
theorem gG{lo:Nat}{W:World}:j4 lo W Sp.none []:=⟨RowOf.nil,λ_ h=>absurd h (by simp)⟩
theorem nk.set{lo g:Nat}{W:World}{s:aa}{cs:Array Value}(h:nk lo W s)(D:g<lo):nk lo (W.setRow g cs) s:=by
 unfold nk;rw[eP];exact lV.cells h (xm D)
theorem nk.below{lo:Nat}{W W':World}{s:aa}(h:nk lo W s)(hb:Below W.heap.size W W'):nk lo W' s :=
 (lV.cells h λ_ _ hp hc=>bJ.2 ⟨(bJ.1 hc).1,(hb.cell hp).trans (bJ.1 hc).2⟩).more hb.size
theorem fV.below{lo:Nat}{W W':World}{s:ah}(h:fV lo W s)(hb:Below W.heap.size W W'):fV lo W' s :=
 (mM.cells h λ_ _ hp hc=>bJ.2 ⟨(bJ.1 hc).1,(hb.cell hp).trans (bJ.1 hc).2⟩).more hb.size
def jZ(g:Option Nat)(W:World):World:=match g with|some b=>mask b W|none=>W
theorem Dw{g:Option Nat}{W:World}{p:Addr}{u:Value}:(jZ g W).cell? p=some u↔g≠some p.block/\W.cell? p=some u:=by
 cases g with
 |none=>simp[jZ]
 |some b =>
  by_cases h:p.block=b
  .constructor
   .intro hc
    exfalso
    simp only[jZ,World.cell?,h,mE]at hc
    split at hc
    .next D =>
     split at D
     .cases D
      split at hc
      .cases hc
      .simp at hc
     .cases D
    .cases hc
   .rintro⟨h1,_⟩
    exact absurd (by rw[h]) h1
  .have e:(jZ (some b) W).cell? p=W.cell? p:=aM (gz h)
   rw[e];exact⟨λhc=>⟨λe=>h (iL e).symm,hc⟩,λhc=>hc.2⟩
def nV(lo:Nat)(g:Option Nat)(W:World)(s:aa):Prop:=lV W.heap.size (gP lo (jZ g W)) s
theorem iJ{lo:Nat}{g:Option Nat}{W:World}{p:Addr}{u:Value}:(gP lo (jZ g W)).cell? p=some u↔lo<=p.block/\g≠some p.block/\W.cell? p=some u:=by rw[bJ,Dw]
section
variable {lo q:Nat}{g:Option Nat}{W W':World}{s:aa}
theorem nV.newT(h:nV lo g W s):nk lo W s:=lV.cells h λ_ _ _ hc=>bJ.2 ⟨(iJ.1 hc).1,(iJ.1 hc).2.2⟩
theorem nV.on(h:nV lo g W s)(hb:Below W.heap.size (mask q W) (mask q W'))(hq:q<lo):nV lo g W' s :=
 (lV.cells h λp u hp hc=>by
  obtain⟨h1,D,O⟩:=iJ.1 hc;exact iJ.2 ⟨h1,D,(aM (iB hb hp (by omega))).trans O⟩).more (ja hb)
theorem nV.below(h:nV lo g W s)(hb:Below W.heap.size W W'):nV lo g W' s :=
 (lV.cells h λ_ _ hp hc=>iJ.2 ⟨(iJ.1 hc).1,(iJ.1 hc).2.1,(hb.cell hp).trans (iJ.1 hc).2.2⟩).more hb.size
theorem nV.less{lo':Nat}(h:nV lo g W s)(hl:lo'<=lo):nV lo' g W s :=
 lV.cells h λ_ _ _ hc=>iJ.2 ⟨by have:=(iJ.1 hc).1;omega,(iJ.1 hc).2⟩
theorem nV.grow{g':Option Nat}(h:nV lo g W s)(U:W.grownBy W' g)(D:g'=g\/g'=some W.heap.size):nV lo g' W' s :=
 (lV.cells h λp u hp hc=>by
  obtain⟨h1,O,V⟩:=iJ.1 hc;refine iJ.2 ⟨h1,?_,(aM (U.block _ hp (λe=>O e.symm))).trans V⟩;rcases D with rfl|rfl
  .exact O
  .intro e
   have:=iL e;omega).more U.size
theorem nk.tox{lo':Nat}(h:nk lo W s)(O:∀b,g=some b->b<lo)(hl:lo'<=lo):nV lo' g W s :=
 lV.cells h λp u _ hc=>by
  obtain⟨h1,D⟩:=bJ.1 hc;exact iJ.2 ⟨by omega,λe=>by have:=O _ e;omega,D⟩
end
theorem dz.iP{α:Type}{k B:Nat}{enc:α->List Value}{e:TypeId}{v:Value}{l:List α}{W:World}(h:dz B W e k enc v l):∀b,v.ownBlock=some b->b<W.heap.size:=λb hb=>by
 obtain⟨_,cs,fr,D⟩:=h.iO hb;exact(dM D).1
end
section
section
variable {P:Program}{α:Type}{k:Nat}{enc:α->List Value}{w:World}
theorem Oper.wp_append{o:Oper}{a:Act}{K:Act->World->Prop}{Q:Exit->Act->World->Prop}(s x:Operand)(t:TypeId)
  (ho:o.op=.call { callee:=.builtin .append,args:=#[s,x],argTypes:=#[t,t] }) {B:Nat}{e:TypeId}(hE:sN P t e k) (hk:∀x,(enc x).length=k) (h1:∀x:α,∀u∈enc x,u.oneCell'=true) (v:Value) (l:List α) (hs:a.eval s=v) (U:dz B w e k enc v l)
  {n:Nat}(sp:Sp) (l2:List α) (hx:a.eval x=.slice sp.dO l2.length sp.df) (hr:RowOf n w sp k enc l2) (O:l.length+l2.length<=1000000) (hB:B<=w.heap.size)
  (h:∀D w',dz B w' e k enc D (l++l2)->w.grownBy w' v.ownBlock->(D.ownBlock=v.ownBlock\/D.ownBlock=some w.heap.size)->K (a.put o.dst D) w'):o.wp P a w K Q:=by
 obtain⟨D,w',V,h2,h3,h4⟩:=sH (P:=P) (ty:=o.type) hE hk h1 U hr O hB;unfold Oper.wp execOp;simp only[ho,resolve,invoke,builtin,Sem.run_bind,Sem.run_pure,Result.andThen_ok,List.map_toArray,ax,dh,hs,hx,V];exact h D w' h2 h3 h4
theorem below_setRow{n:Nat}{w0 w:World}(h:Below n w0 w){g:Nat}{cs:Array Value}(D:n<=g):Below n w0 (w.setRow g cs):=by
 refine h.trans ⟨rfl,rfl,rfl,by simp,λk hk=>?_⟩;exact dQ w g k cs (by omega)
theorem Oper.wp_skip{o:Oper}{a:Act}{w w':World}{K:Act->World->Prop}{Q:Exit->Act->World->Prop}(h:(execOp a.eval o).run P w=.ok .skip w')(hk:K (a.put o.dst undef) w'):o.wp P a w K Q:=by
 unfold Oper.wp;rw[h];exact hk
end
end
def nS(l:List aa):Nat:=(l.map λs=>1+s.bf.length).sum
theorem uI:∀(l:List aa) (b:Int),0<=b->b<=jU l b/\jU l b<=max b 20001+nS l
 |[],b,hb=>by simp[jU,nS];omega
 |s::l,b,hb=>by
  have h1:=Bi s b hb;have e:nS (s::l)=1+s.bf.length+nS l:=by simp[nS]
  rw[jU,e];by_cases h:stepT s b>20000
  .rw[if_pos h];omega
  .rw[if_neg h]
   have D:=uI l (stepT s b) (by omega);omega
def nO(p:aj):Int:=(p.fB.length:Int)+p.ek.length+p.gp.length+p.fP.length+1
def iQ(l:List dH)(b:Int):Int:=l.foldl (λn i=>kX i.bv.pre.length (n+1)) b
def kT(l:List bG)(b:Int):Int:=l.foldl (λn q=>jU (q.eY.flatMap aa.pre) (n+1+q.bC.length)) b
def countP(p:aj):Int :=
 kX p.d9.pre.length (jU (p.eB.flatMap aa.pre) (jU (p.eX.flatMap aa.pre) (kT p.aA (iQ p.eQ (kX p.eD.pre.length (nO p))))))
def l9(p:aj):Nat:=(p.aA.map λq=>1+q.bC.length+nS (q.eY.flatMap aa.pre)).sum+nS (p.eX.flatMap aa.pre)+nS (p.eB.flatMap aa.pre)
theorem AR(l:List dH):∀b:Int,0<=b->b<=iQ l b/\iQ l b<=max b 20001+2*l.length:=by
 induction l with
 |nil=>intro b hb;simp[iQ];omega
 |cons i l D =>
  intro b hb;have h1:=uG i.bv.pre.length (mH i.bv) (b+1) (by omega);have O:=D (kX i.bv.pre.length (b+1)) (by omega);have e:iQ (i::l) b=iQ l (kX i.bv.pre.length (b+1)):=rfl;simp only[aF];omega
theorem Ba(l:List bG):∀b:Int,0<=b->b<=kT l b/\kT l b<=max b 20001+(l.map λq=>1+q.bC.length+nS (q.eY.flatMap aa.pre)).sum:=by
 induction l with
 |nil=>intro b hb;simp[kT];omega
 |cons q l D =>
  intro b hb;have h1:=uI (q.eY.flatMap aa.pre) (b+1+q.bC.length) (by omega);have O:=D (jU (q.eY.flatMap aa.pre) (b+1+q.bC.length)) (by omega);have e:kT (q::l) b=kT l (jU (q.eY.flatMap aa.pre) (b+1+q.bC.length)):=rfl;simp only[ax,bL];omega
structure H5(W:World)(q:Nat)(p:aj):Prop where
 heap:W.heap[q]?=some (.cells p.r 35)
theorem H5.at{W:World}{q:Nat}{p:aj}(h:H5 W q p):W.cell? ⟨q,12,none⟩=some (.slice p.ns.dO p.eQ.length p.ns.df)/\W.cell? ⟨q,13,none⟩=some (.slice p.rs.dO p.aA.length p.rs.df)/\W.cell? ⟨q,14,none⟩=some (.slice p.ws.dO p.eX.length p.ws.df)/\W.cell? ⟨q,15,none⟩=some (.slice p.cs.dO p.eB.length p.cs.df) /\
  W.cell? ⟨q,16,none⟩=some (.int .u8 p.d9.bI)/\W.cell? ⟨q,17,none⟩=some (.int .u8 p.d9.op)/\W.cell? ⟨q,18,none⟩=some (.int .u32 p.d9.bv)/\W.cell? ⟨q,19,none⟩=some (.int .i64 p.d9.aS)/\W.cell? ⟨q,20,none⟩=some (.string p.d9.aT)/\W.cell? ⟨q,21,none⟩=some (.slice p.d9.sp.dO p.d9.cu.length p.d9.sp.df):=by
 simp[World.cell?,h.heap]
theorem QK{α:Type}(f:α->Nat)(l:List α)(k:Nat):((l.take k).map f).sum<=(l.map f).sum:=by
 have h:((l.take k++l.drop k).map f).sum=(l.map f).sum:=by rw[fA]
 rw[aO,fo]at h;omega
theorem EU(w:World)(p:aj)(h:jT w.heap.size w p)(hwt:l9 p<=1125899906842624) :
  Calls Tryz.prog 111 #[p.val] w λo w'=>o=.returned (.int .i64 (countP p))/\Below w.heap.size w w':=by
 have c3:=h.fB.row.few;have c4:=h.ek.row.few;have c5:=h.gp.row.few;have c6:=h.fP.row.few;have c7:=h.irow.few;have c8:=h.prow.few;have HP:=ae h;have bl:=ae hwt;clear h hwt;simp only[aj.val,Sp.val];go_enter Tryz.func111,Tryz.ntmps111
 go_wp2_with fail
 have a5:=(ag _ w).alloc (af _) (.cells p.r 35);have a6:H5 (w.alloc (.cells p.r 35)) w.heap.size p:=⟨gM _ _⟩;have be:w.heap.size<(w.alloc (.cells p.r 35)).heap.size:=by simp
 have al:=ae ((HP.o.below a5).more a5.size);generalize w.alloc (.cells p.r 35)=wB at *;have ap:=ae a6;have bi:=ae a5;clear a6 a5 HP;have hC:=nX wB p.eD ((p.fB.length:Int)+p.ek.length+p.gp.length+p.fP.length+1) al.o.eD (by omega);simp only[ah.val,Sp.val]at hC;have cC:=uG p.eD.pre.length (mH p.eD) ((p.fB.length:Int)+p.ek.length+p.gp.length+p.fP.length+1) (by omega);generalize bt:kX p.eD.pre.length ((p.fB.length:Int)+p.ek.length+p.gp.length+p.fP.length+1)=n0 at *;have cc:=ae bt;clear bt;refine hC.mono ?_;clear hC;rintro o w1 ⟨rfl,bc⟩;have a7:H5 w1 w.heap.size p:=⟨(bc.block w.heap.size be).trans ap.o.heap⟩;obtain⟨c12,-⟩:=a7.at;go_wp2_with fail
 go_loopw[3,30] (λv i wr=>∃k:Nat,k<=p.eQ.length/\i=.int .i64 k/\v=.int .i64 (iQ (p.eQ.take k) n0)/\Below wB.heap.size wB wr) (λ_ i _=>p.eQ.length - (intOf i).toNat)
 case atStart=>exact⟨0,aH _,rfl,by simp[iQ],bc⟩
 case round =>
  obtain⟨k,hk,rfl,rfl,U⟩:=hrel;have an:=U.size;have ci:=AR (p.eQ.take k) n0 (by omega);have ch:(p.eQ.take k).length<=k:=List.length_take_le _ _;by_cases O:k<p.eQ.length
  .obtain⟨b0,off,eA,_,D⟩:=(al.o.irow.below U).row (by omega)
   have a3:p.eQ.take (k+1)=p.eQ.take k++[p.eQ[k]]:=aG O;have k0:wr.cell? ⟨b0,off+k*7,none⟩=some (.int .i64 p.eQ[k].block):=D k O 0 _ rfl;have k1:wr.cell? ⟨b0,off+k*7+1,none⟩=some (.int .u8 p.eQ[k].bv.bI):=D k O 1 _ rfl;have k2:wr.cell? ⟨b0,off+k*7+2,none⟩=some (.int .u8 p.eQ[k].bv.op):=D k O 2 _ rfl;have k3:wr.cell? ⟨b0,off+k*7+3,none⟩=some (.int .u32 p.eQ[k].bv.bv):=D k O 3 _ rfl;have k4:wr.cell? ⟨b0,off+k*7+4,none⟩=some (.int .i64 p.eQ[k].bv.aS):=D k O 4 _ rfl;have k5:wr.cell? ⟨b0,off+k*7+5,none⟩=some (.string p.eQ[k].bv.aT):=D k O 5 _ rfl;have k6:wr.cell? ⟨b0,off+k*7+6,none⟩=some (.slice p.eQ[k].bv.sp.dO p.eQ[k].bv.cu.length p.eQ[k].bv.sp.df):=D k O 6 _ rfl;have a1:=(al.o.eQ _ (ak O)).bv.stays U;have ba:=ae a3;generalize p.eQ[k]=x at *;have V:iQ (p.eQ.take (k+1)) n0=kX x.bv.pre.length (iQ (p.eQ.take k) n0+1):=by rw[ba.o];simp[iQ]
   generalize iQ (p.eQ.take k) n0=cur at *;have aE:=ae V;have ad:=jc wr (.cells x.r 149);have cm:=ad.size;have am:=nX _ x.bv (cur+1) ((a1.stays (ad.mono (by omega))).more (n₁:=(wr.alloc (.cells x.r 149)).heap.size) (by omega)) (by omega);simp only[ah.val,Sp.val]at am;have a9:=ae am;have ao:=ae ad;have cj:(0:Int)<=(k:Int):=by omega
   have ck:(k:Int)<(p.eQ.length:Int):=by omega
   clear D a3 V am ad a1 c12;rw[eA];clear eA;go_wp2_with fail
   refine a9.o.mono ?_;rintro o w2 ⟨rfl,aq⟩;have bd:=U.trans ((ao.o.trans (aq.mono ao.o.size)).mono (by omega));clear aq k0 k1 k2 k3 k4 k5 k6;go_wp2_with fail
   go_roundw
   case rel=>exact⟨k+1,by omega,by go_num,by rw[aE.o],bd⟩
   case measure=>simp[intOf];omega
  .obtain rfl:k=p.eQ.length:=by omega
   rw[bW]at ci;rw[bW];generalize bo:iQ p.eQ n0=i0 at *;have cb:=ae bo;have a8:H5 wr w.heap.size p:=⟨(U.block w.heap.size be).trans ap.o.heap⟩;obtain⟨-,bm,-⟩:=a8.at;have ce:=U;clear bo a8 c12 ch hk O a7 bc;obtain⟨wo,rfl⟩:∃y:World,y=wr:=⟨_,rfl⟩;have cA:(p.aA.map λq=>1+q.bC.length+nS (q.eY.flatMap aa.pre)).sum<=1125899906842624:=by
    have:=bl.o;unfold l9 at this;omega
   go_wp2_with fail
   go_loopw[3,43] (λv i wr=>∃k:Nat,k<=p.aA.length/\i=.int .i64 k/\v=.int .i64 (kT (p.aA.take k) i0)/\Below wB.heap.size wB wr) (λ_ i _=>p.aA.length - (intOf i).toNat)
   case atStart=>exact⟨0,aH _,rfl,by simp[kT],ce⟩
   case round =>
    obtain⟨k,hk,rfl,rfl,U⟩:=hrel;have an:=U.size;have b1:=Ba (p.aA.take k) i0 (by omega);have cl:=QK (λq:bG=>1+q.bC.length+nS (q.eY.flatMap aa.pre)) p.aA k;by_cases O:k<p.aA.length
    .obtain⟨b0,off,eA,_,D⟩:=(al.o.prow.below U).row (by omega)
     have a3:p.aA.take (k+1)=p.aA.take k++[p.aA[k]]:=aG O;have k0:wr.cell? ⟨b0,off+k*3,none⟩=some (.string p.aA[k].aT):=D k O 0 _ rfl;have k1:wr.cell? ⟨b0,off+k*3+1,none⟩=some (.slice p.aA[k].ps.dO p.aA[k].bC.length p.aA[k].ps.df):=D k O 1 _ rfl;have k2:wr.cell? ⟨b0,off+k*3+2,none⟩=some (.slice p.aA[k].bs.dO p.aA[k].eY.length p.aA[k].bs.df):=D k O 2 _ rfl;have bh:=al.o.aA _ (ak O);have a1:=bh.eY.below U;have cD:=bh.bC.row.few;have ba:=ae a3;generalize p.aA[k]=x at *;have V:kT (p.aA.take (k+1)) i0=jU (x.eY.flatMap aa.pre) (kT (p.aA.take k) i0+1+x.bC.length):=by rw[ba.o];simp[kT]
     generalize kT (p.aA.take k) i0=cur at *;have aE:=ae V;have ad:=jc wr (.cells x.r 54);have cm:=ad.size;have am:=kN _ x.bs x.eY (cur+1+x.bC.length) ((a1.below (ad.mono (by omega))).more (n₁:=(wr.alloc (.cells x.r 54)).heap.size) (by omega)) (by omega);simp only[Sp.val]at am;have a9:=ae am;have ao:=ae ad;have cj:(0:Int)<=(k:Int):=by omega
     have ck:(k:Int)<(p.aA.length:Int):=by omega
     clear D a3 V am ad a1 bh bm;rw[eA];clear eA;go_wp2_with fail
     refine a9.o.mono ?_;rintro o w2 ⟨rfl,aq⟩;have bd:=U.trans ((ao.o.trans (aq.mono ao.o.size)).mono (by omega));clear aq k0 k1 k2;go_wp2_with fail
     go_roundw
     case rel=>exact⟨k+1,by omega,by go_num,by rw[aE.o],bd⟩
     case measure=>simp[intOf];omega
    .obtain rfl:k=p.aA.length:=by omega
     rw[bW]at b1;rw[bW];generalize br:kT p.aA i0=i1 at *;have cn:nS (p.eX.flatMap aa.pre)+nS (p.eB.flatMap aa.pre)<=1125899906842624:=by
      have:=bl.o;unfold l9 at this;omega
     have cf:=uI (p.eX.flatMap aa.pre) i1 (by omega);have cg:=uI (p.eB.flatMap aa.pre) (jU (p.eX.flatMap aa.pre) i1) (by omega);have aw:countP p=kX p.d9.pre.length (jU (p.eB.flatMap aa.pre) (jU (p.eX.flatMap aa.pre) i1)):=by
      rw[<-br,<-cb.o,<-cc.o];rfl
     have co:=ae aw;have bj:Hid (∀W,Below wr.heap.size wr W->Calls Tryz.prog 94 #[.slice p.ws.dO p.eX.length p.ws.df,.int .i64 i1] W λo w'=>o=.returned (.int .i64 (jU (p.eX.flatMap aa.pre) i1))/\Below W.heap.size W w'):=
      ae λW hW=>kN W p.ws p.eX i1 (((al.o.eX.below U).below (hW.mono an)).more (by have:=hW.size;omega)) (by omega)
     have bk:Hid (∀W,Below wr.heap.size wr W->Calls Tryz.prog 94 #[.slice p.cs.dO p.eB.length p.cs.df,.int .i64 (jU (p.eX.flatMap aa.pre) i1)] W λo w'=>o=.returned (.int .i64 (jU (p.eB.flatMap aa.pre) (jU (p.eX.flatMap aa.pre) i1)))/\Below W.heap.size W w'):=
      ae λW hW=>kN W p.cs p.eB _ (((al.o.eB.below U).below (hW.mono an)).more (by have:=hW.size;omega)) (by omega)
     have cd:Hid (∀W,Below wr.heap.size wr W->Calls Tryz.prog 86 #[.agg p.d9.r,.int .i64 (jU (p.eB.flatMap aa.pre) (jU (p.eX.flatMap aa.pre) i1))] W λo w'=>o=.returned (.int .i64 (countP p))/\Below W.heap.size W w'):=
      ae λW hW=>by rw[aw];exact nX W p.d9 _ (((al.o.d9.stays U).stays (hW.mono an)).more (by have:=hW.size;omega)) (by omega)
     have a4:Hid (∀W,Below wr.heap.size wr W->H5 W w.heap.size p):=ae λW hW=>⟨(hW.block w.heap.size (by omega)).trans ((U.block w.heap.size be).trans ap.o.heap)⟩
     obtain⟨-,-,cp,cq,cr,ct,cv,cw,cx,cy⟩:=(a4.o wr (ag _ _)).at;generalize jU (p.eB.flatMap aa.pre) (jU (p.eX.flatMap aa.pre) i1)=i3 at *;generalize jU (p.eX.flatMap aa.pre) i1=i2 at *;have c0:Below wr.heap.size wr wr.drew:=(ag _ _).drew;have bw:=bi.o.trans (U.mono bi.o.size);have ca:=ae bw;clear aw br cf cg cn cl b1 hk O bm bw;go_wp2_with fail
     go_region_held3(λw'=>w'.cell? ⟨w.heap.size,14,none⟩=some (.slice p.ws.dO p.eX.length p.ws.df)/\w'.cell? ⟨w.heap.size,15,none⟩=some (.slice p.cs.dO p.eB.length p.cs.df)/\w'.cell? ⟨w.heap.size,16,none⟩=some (.int .u8 p.d9.bI)/\w'.cell? ⟨w.heap.size,17,none⟩=some (.int .u8 p.d9.op)/\w'.cell? ⟨w.heap.size,18,none⟩=some (.int .u32 p.d9.bv)/\w'.cell? ⟨w.heap.size,19,none⟩=some (.int .i64 p.d9.aS)/\w'.cell? ⟨w.heap.size,20,none⟩=some (.string p.d9.aT)/\w'.cell? ⟨w.heap.size,21,none⟩=some (.slice p.d9.sp.dO p.d9.cu.length p.d9.sp.df)/\Below wr.heap.size wr w')
      (simp[*])
      (first
       |(go_at_call 86;refine(cd.o _ (by assumption)).mono ?_;rintro e w9 ⟨rfl,ar⟩;have ab:=Below.trans (by assumption:Below wr.heap.size wr _) (ar.mono (Below.size (by assumption)));obtain⟨-,-,b2,b3,b4,b5,b6,b7,b8,b9⟩:=(a4.o _ ab).at)
       |(go_at_call 94;refine(bj.o _ (by assumption)).mono ?_;clear bj;rintro e w9 ⟨rfl,ar⟩;have ab:=Below.trans (by assumption:Below wr.heap.size wr _) (ar.mono (Below.size (by assumption)));obtain⟨-,-,b2,b3,b4,b5,b6,b7,b8,b9⟩:=(a4.o _ ab).at)
       |(go_at_call 94;refine(bk.o _ (by assumption)).mono ?_;clear bk;rintro e w9 ⟨rfl,ar⟩;have ab:=Below.trans (by assumption:Below wr.heap.size wr _) (ar.mono (Below.size (by assumption)));obtain⟨-,-,b2,b3,b4,b5,b6,b7,b8,b9⟩:=(a4.o _ ab).at)
       |fail)
     go_wp2_with fail
     go_ret
     exact⟨rfl,ca.o.trans (ab.mono (by omega))⟩
theorem uH{n:Nat}{b:Int}(D:0<n)(h:kX n b<=20000):kX n b=b+n:=by
 unfold kX at h ⊢
 split<;>omega
theorem zb{n:Nat}{b:Int}(h:b+n<=20000):kX n b=b+n:=by
 unfold kX;rw[if_pos h]
def dU(l:List ah):Nat:=(l.map λe=>e.pre.length).sum
def lW(l:List aa):Nat:=(l.map λs=>1+dU s.bf).sum
theorem BG:∀(l:List ah) (b:Int),0<=b->b<=20000->l.foldl (λb e=>kX e.pre.length b) b<=20000->l.foldl (λb e=>kX e.pre.length b) b=b+dU l
 |[],b,_,_,_=>by simp[dU]
 |e::l,b,D,hb,h=>by
  rw[il]at h ⊢;have h1:=uG e.pre.length (mH e) b D;have V:=Cx l (kX e.pre.length b) (by omega);have O:=uH (mH e) (b:=b) (by omega);have U:=BG l (kX e.pre.length b) (by omega) (by omega) h;rw[U,O];simp[dU];omega
theorem IG:∀(l:List ah) (b:Int),b+dU l<=20000->l.foldl (λb e=>kX e.pre.length b) b=b+dU l
 |[],b,_=>by simp[dU]
 |e::l,b,h=>by
  have D:dU (e::l)=e.pre.length+dU l:=by simp[dU]
  rw[D]at h ⊢;rw[il,zb (by omega),IG l _ (by omega)];omega
theorem Ju{s:aa}{b:Int}(D:0<=b)(h:stepT s b<=20000):stepT s b=b+(1+dU s.bf:Nat):=by
 unfold stepT at h ⊢;have:=Cx s.bf (b+1) (by omega);rw[BG s.bf (b+1) (by omega) (by omega) h];omega
theorem QG{s:aa}{b:Int}(h:b+(1+dU s.bf:Nat)<=20000):stepT s b=b+(1+dU s.bf:Nat):=by
 unfold stepT;rw[IG _ _ (by omega)];omega
theorem rX:∀(l:List aa) (b:Int),0<=b->jU l b<=20000->jU l b=b+lW l
 |[],b,_,_=>by simp[jU,lW]
 |s::l,b,D,h=>by
  have U:lW (s::l)=1+dU s.bf+lW l:=by simp[lW]
  have h1:=Bi s b D;rw[jU]at h ⊢;by_cases O:stepT s b>20000
  .rw[if_pos O]at h;omega
  .rw[if_neg O]at h ⊢
   have V:=Ju (s:=s) (b:=b) D (by omega);rw[rX l _ (by omega) h,U];omega
theorem rf:∀(l:List aa) (b:Int),b+lW l<=20000->jU l b=b+lW l
 |[],b,_=>by simp[jU,lW]
 |s::l,b,h=>by
  have D:lW (s::l)=1+dU s.bf+lW l:=by simp[lW]
  rw[D]at h ⊢;have U:=QG (s:=s) (b:=b) (by omega);have O:¬stepT s b>20000:=by omega
  rw[jU,if_neg O,rf l _ (by omega)];omega
def aV(l:List aa):Nat:=lW (l.flatMap aa.pre)
def jy(q:bG):Nat:=1+q.bC.length+aV q.eY
def eF(p:aj):Nat :=
 (p.fB.length+p.ek.length+p.gp.length+p.fP.length+1)+p.eD.pre.length+(p.eQ.map λi=>1+i.bv.pre.length).sum+(p.aA.map jy).sum+aV p.eX+aV p.eB+p.d9.pre.length
theorem zm:∀(l:List dH) (b:Int),0<=b->iQ l b<=20000->iQ l b=b+((l.map λi=>1+i.bv.pre.length).sum:Nat)
 |[],b,_,_=>by simp[iQ]
 |i::l,b,O,h=>by
  have e:iQ (i::l) b=iQ l (kX i.bv.pre.length (b+1)):=rfl;rw[e]at h ⊢;have h1:=uG i.bv.pre.length (mH i.bv) (b+1) (by omega);have U:=AR l (kX i.bv.pre.length (b+1)) (by omega);have D:=uH (mH i.bv) (b:=b+1) (by omega);rw[zm l _ (by omega) h,D];simp;omega
theorem zO:∀(l:List bG) (b:Int),0<=b->kT l b<=20000->kT l b=b+((l.map jy).sum:Nat)
 |[],b,_,_=>by simp[kT]
 |q::l,b,O,h=>by
  have e:kT (q::l) b=kT l (jU (q.eY.flatMap aa.pre) (b+1+q.bC.length)):=rfl;rw[e]at h ⊢;have h1:=uI (q.eY.flatMap aa.pre) (b+1+q.bC.length) (by omega);have U:=Ba l (jU (q.eY.flatMap aa.pre) (b+1+q.bC.length)) (by omega);have D:=rX (q.eY.flatMap aa.pre) (b+1+q.bC.length) (by omega) (by omega);rw[zO l _ (by omega) h,D];simp only[ax,bL,jy,aV];omega
theorem Gm{p:aj}(h:countP p<=20000):countP p=eF p:=by
 unfold countP at h ⊢;have d0:(0:Int)<=nO p:=by unfold nO;omega
 have U:=uG p.eD.pre.length (mH _) (nO p) d0;generalize hA:kX p.eD.pre.length (nO p)=A at *;have a2:=AR p.eQ A (by omega);generalize hB:iQ p.eQ A=B at *;have V:=Ba p.aA B (by omega);generalize hC:kT p.aA B=C at *;have a4:=uI (p.eX.flatMap aa.pre) C (by omega);generalize hD:jU (p.eX.flatMap aa.pre) C=D at *;have a5:=uI (p.eB.flatMap aa.pre) D (by omega);generalize hE:jU (p.eB.flatMap aa.pre) D=E at *;have a6:=uG p.d9.pre.length (mH _) E (by omega);have b1:=uH (mH p.eD) (b:=nO p) (by omega);have b2:=zm p.eQ A (by omega) (by omega);have b3:=zO p.aA B (by omega) (by omega);have b4:=rX (p.eX.flatMap aa.pre) C (by omega) (by omega);have b5:=rX (p.eB.flatMap aa.pre) D (by omega) (by omega);have O:=uH (mH p.d9) (b:=E) h;rw[O];unfold eF aV;have e:nO p=(p.fB.length+p.ek.length+p.gp.length+p.fP.length+1:Nat):=by unfold nO;omega
 omega
theorem qN(e:ah):e.pre.length=1+dU e.cu:=by
 rw[ah.pre_eq,aF,List.length_flatMap];unfold dU;omega
theorem oD(s:aa)(l:List aa):aV (s::l)=(1+dU s.bf)+aV s.gy+aV s.iD+aV l:=by
 unfold aV lW;rw[bA,aa.pre_eq];simp[aO,fo];omega
mutual
theorem AC(p:aj)(E:Env)(wh:Int):∀(e:ah) (d:Nat),(jv p E wh e d).length=e.pre.length
 |.mk k op v wd D sp cu,d=>by
  rw[jv,aF,yh p E wh cu (d+1),qN];exact Nat.add_comm _ _
theorem yh(p:aj)(E:Env)(wh:Int):∀(l:List ah) (d:Nat),(iU p E wh l d).length=dU l
 |[],_=>by rw[iU];rfl
 |e::l,d=>by
  rw[iU,ay,AC p E wh e d,yh p E wh l d];simp[dU]
end
mutual
theorem Og(p:aj)(E:Env):∀(s:aa) (d:Nat),(lF p E s d).length=1+dU s.bf+aV s.gy+aV s.iD
 |.mk k D es ex b ts th os el,d=>by
  rw[lF,aF,ay,ay,yh,sI p E th (d+1),sI p E el (d+1)];show _=1+dU ex+aV th+aV el;omega
theorem sI(p:aj)(E:Env):∀(l:List aa) (d:Nat),(eH p E l d).length=aV l
 |[],_=>by rw[eH];rfl
 |s::l,d=>by
  rw[eH,ay,Og p E s d,sI p E l d,oD]
end
theorem lZ(p:aj)(a:Bool):∀(l:List bO) (b:List ByteArray),(gH p a l b).length=l.length
 |[],_=>by rw[gH];rfl
 |d::l,b=>by rw[gH,aF,lZ p a l _];rfl
theorem uX(p:aj):∀(l:List bG) (i:Nat) (b:List ByteArray),(fO p l i b).length=(l.map jy).sum
 |[],_,_=>by rw[fO];rfl
 |q::l,i,b=>by
  rw[fO,ay,uX p l _ _,nM,aF,ay,lZ,sI];simp[jy];omega
theorem uL(p:aj):∀(l:List dH) (b:List Int),(jA p l b).length=(l.map λi=>1+i.bv.pre.length).sum
 |[],_=>by rw[jA];rfl
 |x::l,b=>by
  rw[jA,ay,aF,uL p l _,AC];simp;omega
theorem mO(p:aj)(n:Int):(jf p n).length=eF p:=by
 unfold jf;simp only[aF,ay,lZ,AC,uL,uX,sI];unfold eF;omega
theorem Sa{α:Type}(f:α->Nat)(l:List α)(x:α)(h:x∈l):f x<=(l.map f).sum:=by
 induction l with
 |nil=>cases h
 |cons y l D =>
  simp only[ax,bL];rcases List.mem_cons.1 h with e|h
  .rw[e];omega
  .have:=D h;omega
theorem M9{p:aj}(h:eF p<=20000){q:bG}(hq:q∈p.aA):jU (q.eY.flatMap aa.pre) 0<=20000:=by
 have h1:=Sa jy p.aA q hq;have D:lW (q.eY.flatMap aa.pre)<=jy q:=by unfold jy aV;omega
 unfold eF at h;rw[rf _ _ (by omega)];omega
theorem uO{α:Type}(f:α->Nat)(hf:∀x,1<=f x)(l:List α):l.length<=(l.map f).sum:=by
 induction l with
 |nil=>simp
 |cons y l D=>simp only[ax,bL,aF];have:=hf y;omega
theorem yu{p:aj}(h:eF p<=20000):p.aA.length<=20000:=by
 have:=uO jy (λq=>by unfold jy;omega) p.aA;unfold eF at h;omega
theorem Fe(l:List aa):l.length<=lW l:=uO _ (λs=>by omega) l
theorem xR{α:Type}(f:α->Nat):∀l:List α,((List.range l.length).map λi=>(l[i]?.map f).getD 0).sum=(l.map f).sum
 |[]=>rfl
 |x::l=>by
  rw[aF,List.range_succ_eq_map,ax,dw,bL,ax,bL,<-xR f l]
  rfl
theorem yL{α:Type}(f g:α->Nat)(l:List α)(h:∀x∈l,f x<=g x):(l.map f).sum<=(l.map g).sum:=by
 induction l with
 |nil=>simp
 |cons y l D =>
  simp only[ax,bL];have:=h y (aD ..);have:=D λx hx=>h x (au _ hx)
  omega
theorem Kl{p:aj}(h:eF p<=20000):vE p<=20002:=by
 have h1:((List.range p.aA.length).map λi=>(lC p i).length).sum<=((List.range p.aA.length).map λi=>(p.aA[i]?.map jy).getD 0).sum:=by
  refine yL _ _ _ λi hi=>?_
  have hi:=List.mem_range.1 hi;rw[aX hi];refine ai (FI p i hi) ?_;have:=Fe (p.aA[i].eY.flatMap aa.pre);simp only[Option.map_some,iq,jy,aV];omega
 rw[xR]at h1;unfold vE;unfold eF at h;omega
theorem CE{α:Type}(f:α->Nat):∀(l:List α) (x:α),x∈l->f x<=(l.map f).sum
 |y::l,x,h=>by
  rw[ax,bL];rcases List.mem_cons.1 h with rfl|h
  .omega
  .have:=CE f l x h;omega
theorem Mm{e s:ah}(h:s∈e.cu):s.pre.length<=e.pre.length:=by
 rw[qN e];have:=CE (λx:ah=>x.pre.length) e.cu s h;unfold dU;omega
theorem Df{l:List ah}{e:ah}(h:e∈l):e.pre.length<=dU l:=CE (λx:ah=>x.pre.length) l e h
theorem zz(l:List ah):l.length<=dU l:=uO _ (λe=>mH e) _
theorem pz(s:aa):aV [s]=1+dU s.bf+aV s.gy+aV s.iD:=by
 rw[oD];have:aV []=0:=rfl;omega
theorem pE:∀(l:List aa) (s:aa),s∈l->aV [s]<=aV l
 |y::l,s,h=>by
  rw[pz,oD];rcases List.mem_cons.1 h with rfl|h
  .omega
  .have:=pE l s h
   rw[pz]at this;omega
theorem lM:∀l:List aa,l.length<=aV l
 |[]=>by simp
 |s::l=>by
  rw[oD,aF];have:=lM l;omega
def kC(q:bG)(d:bO):ByteArray:=q.aT++⟨#[46]⟩++d.aT
def wP(q:bG)(d:bO):bO:=⟨kC q d,d.aS,0⟩
def dG(p:aj)(s:ByteArray):Nat:=((look (eG p).reverse s).getD 0).toNat
def yH(s:ByteArray)(e:ah):aa:=.mk 1 s Sp.none [e] 0 Sp.none [] Sp.none []
def qO(q:bG)(ex:List ah):List aa:=(q.bC.zip ex).map λx=>yH (kC q x.1) x.2
def fU(p:aj)(i:Nat):bG:=(p.aA[i]?).getD ⟨⟨#[]⟩,Sp.none,[],Sp.none,[]⟩
mutual
def inT(p:aj)(B:Nat->List aa):aa->List aa
 |.mk k n es ex b _ th _ el=>if k=8 then qO (fU p (dG p n)) ex++B (dG p n) else[.mk k n es ex b Sp.none (fG p B th) Sp.none (fG p B el)]
def fG(p:aj)(B:Nat->List aa):List aa->List aa
 |[]=>[]
 |s::l=>inT p B s++fG p B l
end
theorem qC(p:aj)(B:Nat->List aa):∀l:List aa,fG p B l=l.flatMap (inT p B)
 |[]=>by rw[fG];rfl
 |e::l=>by rw[fG,qC p B l];rfl
theorem wm(p:aj)(B:Nat->List aa)(a b:List aa):fG p B (a++b)=fG p B a++fG p B b:=by
 rw[qC,qC,qC,bT]
def Ld(q:bG)(l:List aa):List aa:=q.bC.foldl (λl d=>l.map (tF (Sz d.aT (kC q d)) (Sy d.aT (kC q d)))) l
def j5(p:aj):Nat->Nat->List aa
 |0,_=>[]
 |n+1,i=>Ld (fU p i) (fG p (j5 p n) (fU p i).eY)
def eU(p:aj)(i:Nat):List aa:=j5 p (p.aA.length+1) i
def pR(p:aj):aj :=
 { p with rs:=Sp.none,aA:=[],vs:=Sp.none,gp:=p.gp++p.aA.flatMap λq=>q.bC.map (wP q),ws:=Sp.none,eX:=fG p (eU p) p.eX,cs:=Sp.none,eB:=fG p (eU p) p.eB }
def Sn(p:aj)(r:Nat->Nat):Prop:=∀i,i<p.aA.length->∀s∈(fU p i).eY.flatMap aa.pre,s.bI=8->r (dG p s.aT)<r i/\dG p s.aT<p.aA.length
mutual
def jX:aa->List ByteArray
 |.mk k n _ _ _ _ th _ el=>(if k=8 then[n] else[])++(eT th++eT el)
def eT:List aa->List ByteArray
 |[]=>[]
 |s::l=>jX s++eT l
end
theorem gZ:∀l:List aa,eT l=l.flatMap jX
 |[]=>by rw[eT];rfl
 |e::l=>by rw[eT,gZ l];rfl
theorem CW(s:aa):jX s=(s.pre.filter λx=>decide (x.bI=8)).map aa.aT:=by
 induction s using aa.ind with
 |h k n es ex b ts th os el U V =>
  rw[jX,gZ,gZ,aa.pre_eq,List.filter_cons,List.filter_append,List.filter_flatMap,List.filter_flatMap];have D:th.flatMap jX=(th.flatMap λx=>x.pre.filter λx=>decide (x.bI=8)).map aa.aT:=by rw[List.map_flatMap];exact ic U
  have O:el.flatMap jX=(el.flatMap λx=>x.pre.filter λx=>decide (x.bI=8)).map aa.aT:=by rw[List.map_flatMap];exact ic V
  rw[D,O];show _=List.map aa.aT (if decide (k=8)=true then _ else _);by_cases hk:k=8
  .simp[hk,aa.gy,aa.iD,aa.aT]
  .simp[hk,aa.gy,aa.iD]
theorem Nb(p:aj){B U:Nat->List aa}(s:aa)(h:∀n∈jX s,B (dG p n)=U (dG p n)):inT p B s=inT p U s:=by
 induction s using aa.ind with
 |h k n es ex b ts th os el V i2 =>
  rw[jX,gZ,gZ]at h;rw[inT,inT];by_cases hk:k=8
  .rw[if_pos hk,if_pos hk,h n (by simp[hk])]
  .rw[if_neg hk,if_neg hk,qC,qC,qC,qC]
   rw[ic λs D=>V s D λn O=>h n (bF _ (cz _ (List.mem_flatMap.2 ⟨s,D,O⟩)))];rw[ic λs D=>i2 s D λn O=>h n (bF _ (bF _ (List.mem_flatMap.2 ⟨s,D,O⟩)))]
theorem yw(p:aj){B D:Nat->List aa}(l:List aa)(h:∀s∈l,∀n∈jX s,B (dG p n)=D (dG p n)):fG p B l=fG p D l:=by
 rw[qC,qC];exact ic λs O=>Nb p s (h s O)
theorem xZ{p:aj}{r:Nat->Nat}(hr:Sn p r):∀(n m i:Nat),i<p.aA.length->r i<n->r i<m->j5 p n i=j5 p m i
 |0,_,_,_,h,_=>by omega
 |_,0,_,_,_,h=>by omega
 |n+1,m+1,i,hi,h1,h2=>by
  rw[j5,j5]
  congr 1
  refine yw p _ λs V c hc=>?_
  rw[CW]at hc;obtain⟨x,hx,rfl⟩:=List.mem_map.1 hc;obtain⟨D,O⟩:=List.mem_filter.1 hx;obtain⟨h3,U⟩:=hr i hi x (List.mem_flatMap.2 ⟨s,V,D⟩) (by simpa using O);exact xZ hr n m _ U (by omega) (by omega)
structure qY(q:Nat)(W:World)(v:Value)(l:List Nat):Prop where
 ex:∃ao df,v=.slice ao l.length df/\l.length<=df/\df<=maxLen/\(ao=none->df=0) /\
  (0<df->∃g off cur,ao=some ⟨g,off,none⟩/\q<=g/\W.heap[g]?=some (.cells cur 3 (0,0))/\cur.size=off+df/\∀j (h:j<l.length),cur[off+j]?=some (.int .i64 (l[j]:Nat)))
def rJ(q:Nat)(W W':World):Prop:=∀k o,q<=k->W.heap[k]?=some o->(∀cs fr,o≠.cells cs 3 fr)->W'.heap[k]?=some o
theorem rJ.trans{q:Nat}{A B C:World}(h:rJ q A B)(k:rJ q B C):rJ q A C:=λi o hi D hc=>k i o hi (h i o hi D hc) hc
theorem rJ.of_new{q:Nat}{A B:World}(h:Below A.heap.size A B):rJ q A B:=λi _ _ D _=>(h.block i (dM D).1).trans D
theorem qY.kept{q:Nat}{W W':World}{v:Value}{l:List Nat}(h:qY q W v l)(hk:∀k cs fr,q<=k->W.heap[k]?=some (.cells cs 3 fr)->W'.heap[k]?=W.heap[k]?):qY q W' v l:=by
 obtain⟨V,df,h1,h2,h3,D,h4⟩:=h.ex;refine⟨V,df,h1,h2,h3,D,λhc=>?_⟩;obtain⟨g,off,cur,e1,O,U,e4,e5⟩:=h4 hc;exact⟨g,off,cur,e1,O,(hk g _ _ O U).trans U,e4,e5⟩
theorem qY.new{q:Nat}{W W':World}{v:Value}{l:List Nat}(h:qY q W v l)(hb:Below W.heap.size W W'):qY q W' v l :=
 h.kept λk _ _ _ hk=>hb.block k (dM hk).1
theorem qY.first{q:Nat}{W:World}(i:Nat)(hq:q<=W.heap.size):qY q (W.alloc (.cells #[.int .i64 i] 3)) (.slice (some ⟨W.heap.size,0,none⟩) 1 1) [i] :=
 ⟨_,1,rfl,af _,by simp[maxLen],by simp,λ_=>⟨W.heap.size,0,_,rfl,hq,gM _ _,rfl,λj D=>by
  have:j=0:=by simp at D;omega
  subst this;rfl⟩⟩
theorem qY.front{q:Nat}{W:World}{v:Value}{i:Nat}{l:List Nat}(h:qY q W v (i::l)):∃g off D,v=.slice (some ⟨g,off,none⟩) (l.length+1) (D+1)/\l.length<=D/\D+1<=maxLen/\W.cell? ⟨g,off,none⟩=some (.int .i64 i)/\qY q W (.slice (if D=0 then some ⟨g,off,none⟩ else some ⟨g,off+1,none⟩) l.length D) l:=by
 obtain⟨ao,D,rfl,h2,h3,ab,h4⟩:=h.ex;have hc:0<D:=by simp at h2;omega
 obtain⟨g,off,cur,rfl,e2,U,e4,O⟩:=h4 hc;simp only[aF]at h2 O;refine⟨g,off,D - 1,by rw[Nat.sub_add_cancel hc];rfl,by omega,by omega,?_,?_⟩
 .have:=O 0 (by omega)
  simp only[bS,List.getElem_cons_zero]at this;simp[World.cell?,U,this]
 .by_cases V:D - 1=0
  .rw[if_pos V]
   exact⟨_,D - 1,rfl,by omega,by omega,by simp,λh=>by omega⟩
  .rw[if_neg V]
   refine⟨_,D - 1,rfl,by omega,by omega,by simp,λ_=>⟨g,off+1,cur,rfl,e2,U,by omega,λj hj=>?_⟩⟩;have:=O (j+1) (by omega);simp only[List.getElem_cons_succ]at this;rw[<-this]
   congr 1;omega
theorem Du:(Tryz.prog.info? 3).map (λi=>(i.zero,i.size,i.bytes))=some (some (.int .i64 0),1,8):=by kernel_rfl
theorem O0(q:Nat)(w:World)(ty:TypeId)(v:Value)(l:List Nat)(k:Nat)(h:qY q w v l)(hl:l.length<=1000000)(hq:q<=w.heap.size)(ad:Addr)(c:Nat)(hc:w.cell? (ad.add 0)=some (.int .i64 k)) :
  ∃v' w',(Builtin.append_ #[87,87] ty #[v,.slice (some ad) 1 c]).run Tryz.prog w=.ok v' w'/\qY q w' v' (l++[k])/\Below q w w'/\rJ q w w':=by
 obtain⟨i0,hi,aw,ab,a4⟩:=qD Du;obtain⟨ao,df,rfl,h2,h3,a5,h4⟩:=h.ex;have V:∀j u,[Value.int .i64 k][j]?=some u->w.cell? (ad.add j)=some u:=by
  intro j u U
  match j,U with
  |0,U=>simp at U;subst U;exact hc
 have O:∀v' w' n,w'.ownsRow w.heap.size 3 1 v' n ((l++[k]).map λx=>Value.int .i64 (x:Nat))->n=l.length+1->w.grownBy w' none->qY q w' v' (l++[k])/\Below q w w'/\rJ q w w':=by
  intro v' w' n ho hn hg;refine⟨?_,⟨hg.os,hg.tape,hg.output,hg.size,λk hk=>hg.block k (by omega) (by simp)⟩,λk o _ hk _=>(hg.block k (dM hk).1 (by simp)).trans hk⟩;obtain⟨a7,ho⟩:=ho;rcases ho with ⟨_,h0⟩|⟨g,cp,cur,rfl,g1,g2,g3,g4,g5,g6⟩
  .omega
  .refine⟨_,cp,by rw[hn];simp,by simp;omega,g4,by simp,λ_=>⟨g,0,cur,rfl,by omega,g2,by omega,λj U=>?_⟩⟩
   have e:(cur.toList.take (n*1))[j]?=((l++[k]).map λx=>Value.int .i64 (x:Nat))[j]? := by rw[g6]
   rw[List.getElem?_take_of_lt (by simp at U;omega),iK,aX U]at e;rw[fI,<-Array.getElem?_toList,e];rfl
 by_cases hr:l.length+1<=df
 .obtain⟨g,off,cur,rfl,e2,e3,e4,e5⟩:=h4 (by omega)
  have am:off+l.length<cur.size:=by omega
  have D:=run_append_room_cells (P:=Tryz.prog) w 87 ty 3 i0 Tryz.underlying87 hi g off l.length df ad 1 c [.int .i64 k] (by simp[ab]) V (by simp[Value.oneCell']) hr
   (λj U=>by
    have:j=0:=by simp at U;omega
    subst this;simp[World.cell?,e3,ab,am])
   (λj _=>by simp[World.frozen?,e3])
  rw[ab,Nat.mul_one]at D;refine⟨_,_,D,?_,?_,?_⟩
  .refine⟨_,df,by simp,by simp;omega,h3,by simp,λ_=>⟨g,off,cur.set! (off+l.length) (.int .i64 k),rfl,e2,?_,by simp;omega,λj U=>?_⟩⟩
   .simp[World.setCells,World.setCell,cK,e3,Array.set!_eq_setIfInBounds]
   .by_cases al:j=l.length
    .subst al
     simp[am]
    .have ar:j<l.length:=by simp at U;omega
     rw[Array.set!_eq_setIfInBounds,Array.getElem?_setIfInBounds_ne (by omega),e5 j ar,List.getElem_append_left ar]
  .exact(ag _ _).setCell (p:=⟨g,_,none⟩) e2 _
  .intro k' o _ ho an
   refine(aN _ _ _ k' (λe=>?_)).trans ho;simp only at e;rw[e,e3]at ho;cases ho
   exact absurd rfl (an _ _)
 .cases ao with
  |some b =>
   have ap:∀j u,(l.map λx=>Value.int .i64 (x:Nat))[j]?=some u->w.cell? (b.add j)=some u:=by
    intro j u U;have al:j<l.length:=by have:=(List.getElem?_eq_some_iff.1 U).1;simpa using this
    obtain⟨g,off,cur,e1,e2,e3,e4,e5⟩:=h4 (by omega);cases e1
    have:=e5 j al;rw[iK,aX al]at U;simp at U;rw[<-U,Addr.add_lit];simp[World.cell?,e3,this]
   obtain⟨v',w',D,r1,r2⟩:=run_append_arg_grows (P:=Tryz.prog) w 87 ty 3 i0 (.int .i64 0) 1 8 Tryz.underlying87 hi aw ab a4 rfl (by decide) b l.length df (l.map λx=>Value.int .i64 (x:Nat)) (by simp) ap ad 1 c [.int .i64 k] (by simp) V (by omega) (by simp only[maxLen];omega) (by omega);obtain⟨a1,a2,a3⟩:=O v' w' _ (by simpa using r1) rfl r2;exact⟨v',w',D,a1,a2,a3⟩
  |none =>
   have aq:=a5 rfl;subst aq;have a6:l=[]:=gX (by omega);subst a6;obtain⟨v',w',D,r1,r2,_⟩:=run_append_own (P:=Tryz.prog) w w.heap.size 87 ty 3 i0 (.int .i64 0) 1 8 Tryz.underlying87 hi aw ab a4 rfl (by decide) (.slice none 0 0) 0 [] (World.ownsRow_nil w _ _ 1) ad 1 c [.int .i64 k] (by simp) V (by simp[Value.oneCell']) (by simp[maxLen]) (by omega) (af _);obtain⟨a1,a2,a3⟩:=O v' w' _ (by simpa using r1) rfl r2;exact⟨v',w',D,a1,a2,a3⟩
theorem Ck{ops:Array Oper}{rest:List Oper}{o:Oper}{a:Act}{w:World}{Q:Exit->Act->World->Prop}(V:o.guard=none)(s x:Operand)
  (ho:o.op=.call { callee:=.builtin .append,args:=#[s,x],argTypes:=#[87,87] }) (q:Nat) (v:Value) (l:List Nat) (k:Nat) (hs:a.eval s=v) (h:qY q w v l) (hl:l.length<=1000000) (hq:q<=w.heap.size)
  (O:Addr) (c:Nat) (hx:a.eval x=.slice (some O) 1 c) (hc:w.cell? (O.add 0)=some (.int .i64 k))
  (hK:∀D w',qY q w' D (l++[k])->Below q w w'->rJ q w w'->wpList Tryz.prog ops Q rest (a.put o.dst D) w'):wpList Tryz.prog ops Q (o::rest) a w:=by
 refine wpList_plain V λK U=>?_
 obtain⟨D,w',hr,h2,h3,h4⟩:=O0 q w o.type v l k h hl hq O c hc;unfold Oper.wp execOp;simp only[ho,resolve,invoke,builtin,Sem.run_bind,Sem.run_pure,Result.andThen_ok,List.map_toArray,ax,dh,hs,hx,hr];exact U _ _ (hK D w' h2 h3 h4)
theorem qY.turned{q b:Nat}{W W':World}{v:Value}{l:List Nat}(h:qY q W v l)(ht:W.mapTurned W' b):qY q W' v l:=by
 obtain⟨es,V,U,D,hb,e⟩:=id ht;exact h.kept λk cs fr _ hk=>ht.grown.block k (dM hk).1 (λO=>by cases O;rw[hb]at hk;cases hk)
theorem Dv(w:World)(p:aj)(h:jT w.heap.size w p)(hwt:l9 p<=1125899906842624) :
  Calls Tryz.prog 112 #[p.val] w λo w'=>o=.returned (.bool (decide (countP p<=20000)))/\Below w.heap.size w w':=by
 have hb:=(ag _ w).alloc (af _) (.cells p.r 35);have U:=EU (w.alloc (.cells p.r 35)) p ((h.below hb).more hb.size) hwt;simp only[aj.val,Sp.val]at U ⊢;have HC:=ae U;have HB:=ae hb;have D:H5 (w.alloc (.cells p.r 35)) w.heap.size p:=⟨gM _ _⟩;have O:=ae D;clear U hb h hwt D;go_enter Tryz.func112,Tryz.ntmps112
 go_upto_region 1 with (fail)
 generalize w.alloc (.cells p.r 35)=wB at *;go_wp2_with(refine bH rfl 35 _ rfl w.heap.size rfl 35 _ (0,0) _ O.o.heap Tryz.underlying35 rfl (by kernel_rfl) ?_)
 refine HC.o.mono ?_;rintro o w1 ⟨rfl,V⟩;go_wp2_with fail
 refine(qi _ _).mono ?_;rintro o w2 ⟨rfl,rfl⟩;go_wp2_with fail
 go_ret
 exact⟨rfl,HB.o.trans (V.mono HB.o.size)⟩
theorem FZ(w:World)(p:aj)(h:jT w.heap.size w p)(hwt:l9 p<=1125899906842624) :
  Calls Tryz.prog 53 #[p.val] w λo w'=>o=.returned (.int .i64 (mD (countP p)))/\Below w.heap.size w w':=by
 have hb:=(ag _ w).alloc (af _) (.cells p.r 35);have U:=EU (w.alloc (.cells p.r 35)) p ((h.below hb).more hb.size) hwt;simp only[aj.val,Sp.val]at U ⊢;have HC:=ae U;have HB:=ae hb;have D:H5 (w.alloc (.cells p.r 35)) w.heap.size p:=⟨gM _ _⟩;have O:=ae D;clear U hb h hwt D;go_enter Tryz.func53,Tryz.ntmps53
 go_upto_region 1 with (fail)
 generalize w.alloc (.cells p.r 35)=wB at *;go_wp2_with(refine bH rfl 35 _ rfl w.heap.size rfl 35 _ (0,0) _ O.o.heap Tryz.underlying35 rfl (by kernel_rfl) ?_)
 refine HC.o.mono ?_;rintro o w1 ⟨rfl,V⟩;go_wp2_with fail
 refine(F3 _ _).mono ?_;rintro o w2 ⟨rfl,rfl⟩;go_wp2_with fail
 go_ret
 exact⟨rfl,HB.o.trans (V.mono HB.o.size)⟩
def zeroE:ah:=.mk 0 0 0 0 ⟨#[]⟩ Sp.none []
def ed:aj:=⟨0,0,Sp.none,[],Sp.none,[],Sp.none,[],Sp.none,[],zeroE,Sp.none,[],Sp.none,[],Sp.none,[],Sp.none,[],zeroE⟩
theorem jQ(w:World):(zeroValue 35).run Tryz.prog w=.ok (.agg ed.arr) w:=(zero_of_info (n:=22) (by kernel_rfl)).1 w
theorem lX(p:aj):p.arr.all (·.oneCell')=true:=by kernel_rfl
theorem Ae{P:Program}{ops:Array Oper}{rest:List Oper}{o:Oper}{a:Act}{w:World}{Q:Exit->Act->World->Prop}(hw:Region.wanted o (yielded ops a.tmps)=true)(ty:TypeId)(x:Operand)(V:o.op=.load ty x)
  (g:Nat) (hx:a.eval x=.pointer (some ⟨g,0,none⟩)) (t:TypeId) (cs:Array Value) (fr:Nat × Nat) (d:TypeDesc) (U:w.heap[g]?=some (.cells cs t fr))
  (hu:P.underlying ty=some d) (O:(match d with|.struct _|.array _ _=>true|_=>false)=true) (hi:(P.info? ty).map (·.size)=some cs.size)
  (h:wpList P ops Q rest (a.put o.dst (.agg cs)) w):wpList P ops Q (o::rest) a w :=
 wpList_step λ_ D=>by rw[if_pos hw];exact wp_load_row ty x V g hx t cs fr d U hu O hi (D _ _ h)
theorem Jj{K:mq}{J Jx:List (Int × Int)->World->Prop}(hJ:jK 246 K.B J)(b2:jK 246 K.B Jx)(hT:sV K J Jx){pm:Option Nat}{E:Env}{cs:List Int}(w:World)(a9:pW K J Jx pm E cs w)(b6:cs.length<1000000)(hwt:l9 K.p<=1125899906842624) :
  Calls Tryz.prog 223 #[.pointer (some ⟨K.q,0,none⟩)] w λo w'=>o=.returned (.tuple #[])/\Told K J Jx pm E (cs++[kZ K.p (mD (countP K.p))]) w w':=by
 obtain⟨over,hk,hs⟩:=a9.ex;have ao:=λ(W:World) (hW:Below w.heap.size w W)=>(hk.new hW).prog_part
 have ab:=ae ao;have be:=jc w (.cells K.p.arr 35);have bm:=jc w (.cells ed.arr 35);have hB:=gM w (.cells K.p.arr 35);have ad:=ae be;have bw:=ae bm;have V:=ae hB;have HK:=ae hk;have b0:=ae a9;clear ao be bm hB hk a9 hs;obtain⟨sz,aE⟩:∃sz,mD (countP K.p)=sz:=⟨_,rfl⟩;obtain⟨l1,a6⟩:∃x,jd K.p 16 256=x:=⟨_,rfl⟩;obtain⟨l2,a7⟩:∃x,jd K.p 2000 20000=x:=⟨_,rfl⟩;have a8:kZ K.p sz=if(decide (K.p.iF<1) || decide (8<K.p.iF) || !ik K.p.aS)=true then 320 else if(decide (16<K.p.fB.length) || decide (16<K.p.ek.length) || decide (l1<(K.p.gp.length:Int)) || decide (16<K.p.fP.length) || decide (16<K.p.aA.length) || decide (l2<sz))=true then 5 else 0:=by
  unfold kZ;rw[a6,a7];have e1:(K.p.iF<1\/K.p.iF>8\/ik K.p.aS=false)↔((decide (K.p.iF<1) || decide (8<K.p.iF) || !ik K.p.aS)=true):=by simp[or_assoc]
  have e2:(K.p.fB.length>16\/K.p.ek.length>16\/(K.p.gp.length:Int)>l1\/K.p.fP.length>16\/K.p.aA.length>16\/sz>l2)↔((decide (16<K.p.fB.length) || decide (16<K.p.ek.length) || decide (l1<(K.p.gp.length:Int)) || decide (16<K.p.fP.length) || decide (16<K.p.aA.length) || decide (l2<sz))=true):=by simp[or_assoc]
  simp only[e1,e2]
 rw[aE];obtain⟨pe,aw⟩:∃pe,kZ K.p sz=pe:=⟨_,rfl⟩;rw[aw]at a8 ⊢;have al:=ae a8;have ar:=ae aE;have ap:=ae a6;have aq:=ae a7;clear a8 aw aE a6 a7;go_enter Tryz.func223,Tryz.ntmps223
 go_upto_region 1 with (first
  |(refine uu rfl 35 _ rfl K.q 0 rfl K.p.arr _ (ab.o _ (by first|exact ag _ _|exact bw.o)) Tryz.underlying35 rfl (dZ K.p) ?_)
  |(refine dY (t:=35) rfl rfl (jQ _) ?_)
  |(refine mi (t:=35) rfl _ _ rfl rfl rfl (dZ K.p) rfl (lX K.p) ?_)
  |fail)
 generalize b4:w.alloc (.cells K.p.arr 35)=W1 at *;generalize b7:Value.agg K.p.arr=v8;have c0:W1.cell? ⟨w.heap.size,0,none⟩=some (.int .i64 K.p.iF):=by simp[World.cell?,V.o,aj.arr,aj.cells]
 have c1:W1.cell? ⟨w.heap.size,1,none⟩=some (.int .i64 K.p.aS):=by simp[World.cell?,V.o,aj.arr,aj.cells]
 have c2:W1.cell? ⟨w.heap.size,2,none⟩=some (.slice K.p.is.dO K.p.fB.length K.p.is.df):=by simp[World.cell?,V.o,aj.arr,aj.cells,Sp.val]
 have c3:W1.cell? ⟨w.heap.size,3,none⟩=some (.slice K.p.gs.dO K.p.ek.length K.p.gs.df):=by simp[World.cell?,V.o,aj.arr,aj.cells,Sp.val]
 have c4:W1.cell? ⟨w.heap.size,4,none⟩=some (.slice K.p.vs.dO K.p.gp.length K.p.vs.df):=by simp[World.cell?,V.o,aj.arr,aj.cells,Sp.val]
 have c5:W1.cell? ⟨w.heap.size,5,none⟩=some (.slice K.p.as.dO K.p.fP.length K.p.as.df):=by simp[World.cell?,V.o,aj.arr,aj.cells,Sp.val]
 have b1:W1.cell? ⟨w.heap.size,13,none⟩=some (.slice K.p.rs.dO K.p.aA.length K.p.rs.df):=by simp[World.cell?,V.o,aj.arr,aj.cells,Sp.val]
 have am:=ae (λ(a b:Int)=>AU W1 (HK.o.new ad.o) a b);have bo:K.n₀<=w.heap.size:=by have:=HK.o.lt;have:=HK.o.q;have:=HK.o.n0;omega
 have U:Hid (∀(W:World) (c:Int),Below w.heap.size w W->Calls Tryz.prog 228 #[.pointer (some ⟨K.q,0,none⟩),.int .i64 c] W λo W'=>o=.returned (.tuple #[])/\Told K J Jx pm E (cs++[c]) w W'):=ae λW c hW =>
  (hT pm E cs W c (b0.o.new hJ b2 hW) b6).mono λo W' ⟨h1,h2⟩=>⟨h1,⟨h2.st,(gY.of_below hW bo).trans h2.fE⟩⟩
 have D:=ae (FZ W1 K.p ((HK.o.prog.below (ad.o.mono bo)).more (by have:=ad.o.size;omega)) hwt);rw[Ct,b7]at D;rw[ar.o]at D;have cb:=HK.o.prog.fB.row.few;have ca:=HK.o.prog.ek.row.few;have bC:=HK.o.prog.fP.row.few;have cc:=HK.o.prog.prow.few;have a5:=ae (am.o 16 256);have bc:=ae (am.o 2000 20000);rw[ap.o]at a5;rw[aq.o]at bc;clear am hwt b4 ar ap aq;go_upto_region 3 with (first|(go_at_call 253;refine a5.o.mono ?_;clear a5;rintro o7 w7 ⟨rfl,rfl⟩)|(go_at_call 253;refine bc.o.mono ?_;rintro o7 w7 ⟨rfl,rfl⟩)|fail)
 generalize K.p.iF=bk at *;generalize K.p.aS=wd at *;have bd:=ae (jJ wd W1);generalize ik wd=wi at *
 go_cut[15] (λb8 wx=>b8=.bool (decide (bk<1) || decide (8<bk) || !wi)/\W1=wx)
 case first =>
  clear U D ab al;by_cases a1:bk<1
  .go_wp2_with fail
   go_meet
   case rel=>exact⟨congrArg Value.bool (by simp[a1]),rfl⟩
  .by_cases a2:8<bk
   .go_wp2_with fail
    go_meet
    case rel=>exact⟨congrArg Value.bool (by simp[a2]),rfl⟩
   .have d1:decide (bk<1)=false:=az a1
    have d2:decide (8<bk)=false:=az a2;have D1:=ae d1;have D2:=ae d2;go_wp2_with(first|(go_at_call 254;refine bd.o.mono ?_;rintro o7 w7 ⟨rfl,rfl⟩)|fail)
    go_meet
    case rel=>exact⟨congrArg Value.bool (by rw[D1.o,D2.o];rfl),rfl⟩
 case rest =>
  obtain⟨rfl,rfl⟩:=hcut;obtain⟨b3,bh⟩:∃b,(decide (bk<1) || decide (8<bk) || !wi)=b:=⟨_,rfl⟩;rw[bh]at al ⊢;clear bh bd;cases b3 with
  |true =>
   have O:pe=320:=by rw[al.o];rfl
   have an:=ae O;clear O D;go_wp2_with(first|(go_at_call 228;refine(U.o _ _ ad.o).mono ?_;rintro o9 w9 ⟨rfl,ba⟩)|fail)
   go_returns
   exact⟨rfl,by rw[an.o];exact ba⟩
  |false =>
   go_upto_region 5 with fail
   go_cut[32] (λb9 wx=>b9=.bool (decide (16<K.p.fB.length) || decide (16<K.p.ek.length) || decide (l1<(K.p.gp.length:Int)) || decide (16<K.p.fP.length) || decide (16<K.p.aA.length) || decide (l2<sz))/\Below W1.heap.size W1 wx)
   case first =>
    clear U ab al;by_cases a0:16<K.p.fB.length
    .have d0:decide (16<K.p.fB.length)=true:=aC a0
     have e0:decide ((16:Int)<(K.p.fB.length:Int))=true:=aC (by omega);have D0:=ae d0;clear a0;clear D;go_wp2_with fail
     go_meet
     case rel=>exact⟨congrArg Value.bool (by rw[D0.o];rfl),ag _ _⟩
    .have d0:decide (16<K.p.fB.length)=false:=az a0
     have e0:decide ((16:Int)<(K.p.fB.length:Int))=false:=az (by omega);have D0:=ae d0;clear a0;by_cases a1:16<K.p.ek.length
     .have d1:decide (16<K.p.ek.length)=true:=aC a1
      have e1:decide ((16:Int)<(K.p.ek.length:Int))=true:=aC (by omega);have D1:=ae d1;clear a1;clear D;go_wp2_with fail
      go_meet
      case rel=>exact⟨congrArg Value.bool (by rw[D0.o,D1.o];rfl),ag _ _⟩
     .have d1:decide (16<K.p.ek.length)=false:=az a1
      have e1:decide ((16:Int)<(K.p.ek.length:Int))=false:=az (by omega);have D1:=ae d1;clear a1;by_cases a2:l1<(K.p.gp.length:Int)
      .have d2:decide (l1<(K.p.gp.length:Int))=true:=aC a2
       have D2:=ae d2;clear a2;clear D;go_wp2_with fail
       go_meet
       case rel=>exact⟨congrArg Value.bool (by rw[D0.o,D1.o,D2.o];rfl),ag _ _⟩
      .have d2:decide (l1<(K.p.gp.length:Int))=false:=az a2
       have D2:=ae d2;clear a2;by_cases a3:16<K.p.fP.length
       .have d3:decide (16<K.p.fP.length)=true:=aC a3
        have e3:decide ((16:Int)<(K.p.fP.length:Int))=true:=aC (by omega);have D3:=ae d3;clear a3;clear D;go_wp2_with fail
        go_meet
        case rel=>exact⟨congrArg Value.bool (by rw[D0.o,D1.o,D2.o,D3.o];rfl),ag _ _⟩
       .have d3:decide (16<K.p.fP.length)=false:=az a3
        have e3:decide ((16:Int)<(K.p.fP.length:Int))=false:=az (by omega);have D3:=ae d3;clear a3;by_cases a4:16<K.p.aA.length
        .have d4:decide (16<K.p.aA.length)=true:=aC a4
         have e4:decide ((16:Int)<(K.p.aA.length:Int))=true:=aC (by omega);have D4:=ae d4;clear a4;clear D;go_wp2_with fail
         go_meet
         case rel=>exact⟨congrArg Value.bool (by rw[D0.o,D1.o,D2.o,D3.o,D4.o];rfl),ag _ _⟩
        .have d4:decide (16<K.p.aA.length)=false:=az a4
         have e4:decide ((16:Int)<(K.p.aA.length:Int))=false:=az (by omega);have D4:=ae d4;clear a4;go_wp2_with(first|(refine Ae (by rfl) 35 _ rfl w.heap.size rfl 35 _ (0,0) _ V.o Tryz.underlying35 rfl (dZ K.p) ?_)|(go_at_call 53;refine D.o.mono ?_;rintro o7 w7 ⟨rfl,bj⟩;have br:=ae bj;clear bj)|fail)
         go_meet
         case rel=>exact⟨congrArg Value.bool (by rw[D0.o,D1.o,D2.o,D3.o,D4.o];rfl),br.o⟩
   case rest =>
    obtain⟨rfl,bl⟩:=hcut;obtain⟨b5,bi⟩:∃b,(decide (16<K.p.fB.length) || decide (16<K.p.ek.length) || decide (l1<(K.p.gp.length:Int)) || decide (16<K.p.fP.length) || decide (16<K.p.aA.length) || decide (l2<sz))=b:=⟨_,rfl⟩;rw[bi]at al ⊢;have bt:=ae (ad.o.trans (bl.mono ad.o.size));clear bi bl D c0 c1 c2 c3 c4 c5 b1;cases b5
    all_goals
     have O:=al.o;simp only[Bool.false_eq_true,if_false,if_true]at O;have an:=ae O;clear O;go_wp2_with(first|(go_at_call 228;refine(U.o _ _ bt.o).mono ?_;rintro o9 w9 ⟨rfl,ba⟩)|fail)
     go_returns
     exact⟨rfl,by rw[an.o];exact ba⟩

structure Nm where
 i:ByteArray
 j:ByteArray
 g:ByteArray
 h:ByteArray
 v:ByteArray
 c:ByteArray
 a:ByteArray
def std:Nm:=⟨⟨#[105]⟩,⟨#[106]⟩,⟨#[103]⟩,⟨#[104]⟩,⟨#[118]⟩,⟨#[99]⟩,⟨#[97]⟩⟩
def pB:ByteArray:=⟨#[112]⟩
structure jr where
 N:Nm
 w:Int
 ni:Nat
 iR:Bool
def jr.ok(M:jr):Prop:=1<=M.w/\M.w<=3/\M.ni<=2
def kV(M:jr):List (ByteArray × gV):=[(M.N.i,⟨1,M.w⟩),(M.N.j,⟨1,1⟩)].take M.ni
def jo(M:jr):List (ByteArray × gV):=[(M.N.g,⟨2,M.w⟩),(M.N.h,⟨2,1⟩)]
def mh(M:jr):List (ByteArray × gV):=[(M.N.v,⟨3,M.w⟩),(M.N.c,⟨3,2⟩)]
def yD(M:jr):List (ByteArray × gV):=if M.iR=true then[(xB,⟨5,M.w⟩)] else[]
def nL(M:jr)(wh:Int):List (ByteArray × gV):=kV M++((if wh=1 then[] else jo M)++(if wh=0 then mh M++yD M else[]))
inductive WX(M:jr)(wh:Int):Nat->Int->ah->Prop
 |num {d:Nat}{x wd:Int}:0<=x->x<2 ^ wd.toNat->1<=wd->wd<=16->WX M wh d wd (cO x wd)
 |var {d:Nat}{s:ByteArray}{t:gV}:(s,t)∈nL M wh->WX M wh d t.aS (aZ s)
 |cmp {d:Nat}{op wd:Int}{sp:Sp}{a b:ah}:13<=op->op<=16->WX M wh d wd a->WX M wh d wd b->WX M wh (d+1) 1 (.mk 6 op 0 0 ⟨#[]⟩ sp [a,b])
 |bin {d:Nat}{op wd:Int}{sp:Sp}{a b:ah}:3<=op->op<=12->WX M wh d wd a->WX M wh d wd b->WX M wh (d+1) wd (.mk 6 op 0 0 ⟨#[]⟩ sp [a,b])
 |mux {d:Nat}{wd:Int}{sp:Sp}{a b c:ah}:WX M wh d 1 a->WX M wh d wd b->WX M wh d wd c->WX M wh (d+1) wd (.mk 7 0 0 0 ⟨#[]⟩ sp [a,b,c])
 |un {d:Nat}{op wd:Int}{sp:Sp}{a:ah}:1<=op->op<=2->WX M wh d wd a->WX M wh (d+1) wd (.mk 5 op 0 0 ⟨#[]⟩ sp [a])
 |cast {d:Nat}{wd w2:Int}{sp:Sp}{a:ah}:1<=wd->wd<=16->WX M wh d w2 a->WX M wh (d+1) wd (.mk 8 0 0 wd ⟨#[]⟩ sp [a])
 |disk {d:Nat}{sp:Sp}{a:ah}:wh≠1->WX M wh d 2 a->WX M wh (d+1) M.w (.mk 4 0 0 0 ⟨#[]⟩ sp [a])
 |elem {d:Nat}{sp:Sp}{a:ah}:wh=0->WX M wh d 2 a->WX M wh (d+1) M.w (.mk 3 0 0 0 M.N.a sp [a])
structure EH(p:aj)(E:Env)(M:jr):Prop where
 aS:p.aS=M.w
 find:∀x∈nL M 0,dJ p E x.1=x.2
 arr:dJ p E M.N.a=⟨4,M.w⟩
theorem zy{M:jr}{wh:Int}{x:ByteArray × gV}(h:x∈nL M wh):x∈nL M 0:=by
 unfold nL at *;simp only[dF]at *;rcases h with h|h|h
 .exact .inl h
 .refine .inr (.inl ?_)
  split at h
  .cases h
  .simpa using h
 .refine .inr (.inr ?_)
  split at h
  .simpa using h
  .cases h
theorem Fu{M:jr}{wh:Int}{x:ByteArray × gV}(h:x∈nL M wh):(x.2.bI=1\/x.2.bI=2\/x.2.bI=3\/x.2.bI=5)/\(wh=1->x.2.bI=1)/\(wh=2->x.2.bI=1\/x.2.bI=2):=by
 unfold nL at h;simp only[dF]at h;rcases h with h|h|h
 .have O:=jm h
  simp at O;rcases O with rfl|rfl<;>simp
 .split at h
  .cases h
  .next D =>
   simp[jo]at h;rcases h with rfl|rfl<;>simp[D]
 .split at h
  .next D =>
   simp only[mh,yD,bE,dF,bu,or_false]at h;rcases h with (rfl|rfl)|h
   .simp[D]
   .simp[D]
   .split at h
    .simp at h;subst h;simp[D]
    .cases h
  .cases h
theorem KX{M:jr}(U:M.ok){wh:Int}{x:ByteArray × gV}(h:x∈nL M wh):1<=x.2.aS/\x.2.aS<=3:=by
 obtain⟨h1,V,_⟩:=U;have D:=zy h;unfold nL at D;simp only[dF]at D;rcases D with h|h|h
 .have O:=jm h
  simp at O;rcases O with rfl|rfl<;>simp<;>omega
 .simp[jo]at h
  rcases h with rfl|rfl<;>simp<;>omega
 .simp only[if_true,mh,yD,bE,dF,bu,or_false]at h
  rcases h with (rfl|rfl)|h
  .simp;omega
  .simp
  .split at h
   .simp at h;subst h;simp;omega
   .cases h
theorem pg{n:Int}(h:1<=n/\n<=16):Db n=n:=by
 unfold Db ik;rw[if_pos (by simpa using h)]
theorem mY{n:Int}(h:1<=n/\n<=16):ik n=true:=by
 unfold ik;simpa using h
theorem WX.aS{M:jr}(hM:M.ok){p:aj}{E:Env}(hE:EH p E M){wh:Int}{d:Nat}{wd:Int}{e:ah}(h:WX M wh d wd e):fZ p E e=wd/\1<=wd/\wd<=16:=by
 obtain⟨O,ab,ad⟩:=hM;induction h with
 |num _ _ h1 V =>
  refine⟨?_,h1,V⟩;rw[jR];exact pg ⟨h1,V⟩
 |@var _ s t hm =>
  have hw:=KX ⟨O,ab,ad⟩ hm;have hk:=(Fu hm).1;have hf:=hE.find _ (zy hm);simp only at hw hk hf;refine⟨?_,hw.1,by omega⟩;rw[jR];simp only[aZ,ah.bI,ah.op,ah.aS,ah.aT,iW,hf];have h4:t.bI≠0/\(t.bI=4↔(2:Int)=3):=⟨by omega,by constructor<;>intro h<;>omega⟩;simp only[show ¬((2:Int)=1\/(2:Int)=8) by decide,if_false,true_or,if_true];rw[if_pos h4,pg ⟨hw.1,by omega⟩]
 |@cmp _ op _ _ _ _ o1 o2 _ _ D U =>
  refine⟨?_,by decide,by decide⟩;rw[jR];have ho:uR op=true:=aC (show 1<=op/\op<=16 from⟨by omega,o2⟩);have ht:mF op=true:=aC (show 13<=op/\op<=16 from⟨o1,o2⟩);simp only[ah.bI,ah.op,ah.aS,ah.aT,ah.cu,iW,gB,bD,D.1,l8,ho,ht,mY D.2]
  rfl
 |@bin _ op _ _ _ _ o1 o2 _ _ D U =>
  refine⟨?_,D.2⟩;rw[jR];have ho:uR op=true:=aC (show 1<=op/\op<=16 from⟨by omega,by omega⟩);have ht:mF op=false:=az (show ¬(13<=op/\op<=16)from λh=>by omega);simp only[ah.bI,ah.op,ah.aS,ah.aT,ah.cu,iW,gB,bD,D.1,l8,ho,ht,mY D.2];exact pg D.2
 |mux _ _ _ _ U _ =>
  refine⟨?_,U.2⟩;rw[jR];simp only[ah.bI,ah.op,ah.aS,ah.aT,ah.cu,iW,gB,bD,dm,U.1];exact pg U.2
 |@un _ op _ _ _ o1 o2 _ ih =>
  refine⟨?_,ih.2⟩;rw[jR];have ho:uR op=true:=aC (show 1<=op/\op<=16 from⟨by omega,by omega⟩);have ht:mF op=false:=az (show ¬(13<=op/\op<=16)from λh=>by omega);simp only[ah.bI,ah.op,ah.aS,ah.aT,ah.cu,iW,gB,bD,ih.1,l8,ho,ht,mY ih.2];exact pg ih.2
 |cast h1 V _ _ =>
  refine⟨?_,h1,V⟩;rw[jR];exact pg ⟨h1,V⟩
 |disk _ _ _ =>
  refine⟨?_,O,by omega⟩;rw[jR];show Db p.aS=M.w;rw[hE.aS];exact pg ⟨O,by omega⟩
 |elem _ _ _ =>
  refine⟨?_,O,by omega⟩;rw[jR];simp only[ah.bI,ah.op,ah.aS,ah.aT,iW,hE.arr];exact pg ⟨O,by omega⟩
def jF(l:List Int):Prop:=∀c∈l,c=0
theorem jF.append{a b:List Int}(h1:jF a)(D:jF b):jF (a++b):=λc hc=>by
 rcases List.mem_append.1 hc with h|h
 .exact h1 c h
 .exact D c h
theorem jF.cons{c:Int}{b:List Int}(h1:c=0)(D:jF b):jF (c::b):=λx hx=>by
 rcases List.mem_cons.1 hx with rfl|h
 .exact h1
 .exact D x h
theorem jF.nil:jF []:=λc hc=>by cases hc
theorem LY(p:aj){k:Nat}(h:k<=32):¬(k:Int)>jd p 32 1000:=by unfold jd;split<;>omega
theorem gK(n:Int):iT n n=false:=by unfold iT;simp
theorem kr{p:aj}{E:Env}{wh:Int}{e:ah}{k:Nat}(h1:pO e=true)(D:¬(iM e=true/\((dJ p E e.aT).bI=0\/¬((dJ p E e.aT).bI=4↔e.bI=3))))
  (O:¬((wh=1/\(e.bI=4\/iM e=true/\(dJ p E e.aT).bI≠1))\/(wh=2/\iM e=true/\((dJ p E e.aT).bI=3\/(dJ p E e.aT).bI=4)))) (U:iI p E e=false) (V:k<=32):pU p E wh e k=0:=by
 unfold pU;rw[if_neg (by rw[h1];decide),if_neg D,if_neg O,if_neg (by rw[U];decide),if_neg (LY p V)]
theorem WX.codes{M:jr}(hM:M.ok){p:aj}{E:Env}(hE:EH p E M){wh:Int}{d:Nat}{wd:Int}{e:ah}(h:WX M wh d wd e):∀k:Nat,k+d<=32->jF (jv p E wh e k):=by
 induction h with
 |@num _ x wd h0 hx h1 h2 =>
  intro k hk;rw[jY];refine .cons (kr rfl (λh=>absurd h.1 (by simp[iM,cO,ah.bI])) ?_ ?_ (by omega)) (by rw[fJ];exact jF.nil)
  .simp[iM,cO,ah.bI]
  .unfold iI
   rw[if_pos (show(cO x wd).bI=1 from rfl)];have:ug wd=2 ^ wd.toNat - 1:=by unfold ug;rw[if_pos (mY ⟨h1,h2⟩)]
   simp only[cO,ah.aS,ah.bv,mY ⟨h1,h2⟩,this,Bool.not_true,Bool.false_or,decide_eq_false_iff_not];omega
 |var hm =>
  intro k hk;have V:=Fu hm;have hf:=hE.find _ (zy hm);simp only at V hf;rw[jY];refine .cons (kr rfl ?_ ?_ rfl (by omega)) (by rw[fJ];exact jF.nil)
  .simp only[aZ,ah.aT,ah.bI,hf]
   intro h;rcases h.2 with h|h
   .omega
   .exact h (by constructor<;>intro h<;>omega)
  .simp only[aZ,ah.aT,ah.bI,hf]
   rintro(⟨h1,h|⟨_,h⟩⟩|⟨h1,_,h⟩)
   .omega
   .exact h (V.2.1 h1)
   .have:=V.2.2 h1;omega
 |@cmp _ op _ _ _ _ o1 o2 U hb D O =>
  intro k hk;have ho:sS op=true:=aC (show 3<=op/\op<=16 from⟨by omega,o2⟩);rw[jY];refine .cons (kr ?_ (λh=>absurd h.1 (by simp[iM,ah.bI])) (by simp[iM,ah.bI]) ?_ (by omega)) ?_
  .simp only[pO,ah.bI,ah.op,ah.bv,ah.aS,ah.aT,ah.cu,ho];rfl
  .simp only[iI,ah.bI,ah.cu,gB,bD,dm,(WX.aS hM hE U).1,(WX.aS hM hE hb).1,gK];rfl
  .rw[fJ]
   simp only[ah.cu,bA,dV,aP];exact(D _ (by omega)).append (O _ (by omega))
 |@bin _ op _ _ _ _ o1 o2 U hb D O =>
  intro k hk;have ho:sS op=true:=aC (show 3<=op/\op<=16 from⟨o1,by omega⟩);rw[jY];refine .cons (kr ?_ (λh=>absurd h.1 (by simp[iM,ah.bI])) (by simp[iM,ah.bI]) ?_ (by omega)) ?_
  .simp only[pO,ah.bI,ah.op,ah.bv,ah.aS,ah.aT,ah.cu,ho];rfl
  .simp only[iI,ah.bI,ah.cu,gB,bD,dm,(WX.aS hM hE U).1,(WX.aS hM hE hb).1,gK];rfl
  .rw[fJ]
   simp only[ah.cu,bA,dV,aP];exact(D _ (by omega)).append (O _ (by omega))
 |mux U hb hc D O ab =>
  intro k hk;rw[jY];refine .cons (kr rfl (λh=>absurd h.1 (by simp[iM,ah.bI])) (by simp[iM,ah.bI]) ?_ (by omega)) ?_
  .simp only[iI,ah.bI,ah.cu,gB,bD,dm,(WX.aS hM hE hb).1,(WX.aS hM hE hc).1,gK];rfl
  .rw[fJ]
   simp only[ah.cu,bA,dV,aP];exact(D _ (by omega)).append ((O _ (by omega)).append (ab _ (by omega)))
 |@un _ op _ _ _ o1 o2 U ih =>
  intro k hk;have ho:uR op=true:=aC (show 1<=op/\op<=16 from⟨by omega,by omega⟩);have ht:sS op=false:=az (show ¬(3<=op/\op<=16)from λh=>by omega);rw[jY];refine .cons (kr ?_ (λh=>absurd h.1 (by simp[iM,ah.bI])) (by simp[iM,ah.bI]) rfl (by omega)) ?_
  .simp only[pO,ah.bI,ah.op,ah.bv,ah.aS,ah.aT,ah.cu,ho,ht];rfl
  .rw[fJ]
   simp only[ah.cu,bA,dV,aP];exact ih _ (by omega)
 |cast h1 h2 U ih =>
  intro k hk;rw[jY];refine .cons (kr rfl (λh=>absurd h.1 (by simp[iM,ah.bI])) (by simp[iM,ah.bI]) ?_ (by omega)) ?_
  .simp only[iI,ah.bI,ah.aS,mY ⟨h1,h2⟩];rfl
  .rw[fJ]
   simp only[ah.cu,bA,dV,aP];exact ih _ (by omega)
 |disk hw U ih =>
  intro k hk;rw[jY];refine .cons (kr rfl (λh=>absurd h.1 (by simp[iM,ah.bI])) (by simp[iM,ah.bI,hw]) rfl (by omega)) ?_;rw[fJ];simp only[ah.cu,bA,dV,aP];exact ih _ (by omega)
 |elem hw U ih =>
  intro k hk;rw[jY];refine .cons (kr rfl ?_ ?_ rfl (by omega)) ?_
  .simp[ah.aT,ah.bI,hE.arr]
  .simp[hw]
  rw[fJ];simp only[ah.cu,bA,dV,aP];exact ih _ (by omega)
def Hz:Nat->Nat
 |0=>1
 |d+1=>1+3*Hz d
theorem Mw:∀d,1<=Hz d
 |0=>af _
 |d+1=>by rw[Hz];omega
theorem pK(e:ah):e.pre.length=1+(e.cu.map λx=>x.pre.length).sum:=qN e
theorem WX.few{M:jr}{wh:Int}{d:Nat}{wd:Int}{e:ah}(h:WX M wh d wd e):e.pre.length<=Hz d:=by
 induction h with
 |num=>rw[pK];exact Mw _
 |var=>rw[pK];exact Mw _
 |cmp _ _ _ _ D O=>rw[pK,Hz];simp only[ah.cu,ax,dh,bL,fH];omega
 |bin _ _ _ _ D O=>rw[pK,Hz];simp only[ah.cu,ax,dh,bL,fH];omega
 |mux _ _ _ D O U=>rw[pK,Hz];simp only[ah.cu,ax,dh,bL,fH];omega
 |un _ _ _ D=>rw[pK,Hz];simp only[ah.cu,ax,dh,bL,fH];omega
 |cast _ _ _ D=>rw[pK,Hz];simp only[ah.cu,ax,dh,bL,fH];omega
 |disk _ _ D=>rw[pK,Hz];simp only[ah.cu,ax,dh,bL,fH];omega
 |elem _ _ D=>rw[pK,Hz];simp only[ah.cu,ax,dh,bL,fH];omega
def JV(n0:Nat)(W0:World)(a b:ah):Prop:=∀W,Below n0 W0 W->n0<=W.heap.size ->
 Calls Tryz.prog 114 #[.agg #[.int .u8 a.bI,.int .u8 a.op,.int .u32 a.bv,.int .i64 a.aS,.string a.aT,.slice a.sp.dO a.cu.length a.sp.df],.agg #[.int .u8 b.bI,.int .u8 b.op,.int .u32 b.bv,.int .i64 b.aS,.string b.aT,.slice b.sp.dO b.cu.length b.sp.df]] W λo w'=>o=.returned (.bool (LZ a b))/\Below W.heap.size W w'
def Gf(n0:Nat)(W0:World)(sa O:Sp)(D lb:List ah):Prop:=∀W,Below n0 W0 W->n0<=W.heap.size ->
 Calls Tryz.prog 155 #[.slice sa.dO D.length sa.df,.slice O.dO lb.length O.df,.func (.func 114) #[] #[]] W λo w'=>o=.returned (.bool (kK D lb))/\Below W.heap.size W w'
theorem Az(D lb:List ah)(h:D.length=lb.length)(k:Nat)(hk:k<D.length):kK (D.drop k) (lb.drop k)=(LZ D[k] (lb[k]'(by omega)) && kK (D.drop (k+1)) (lb.drop (k+1))):=by
 rw[dR hk,dR (by omega:k<lb.length),kK]
theorem De{D lb:List ah}(h:D.length≠lb.length):kK D lb=false:=by
 cases e:kK D lb with
 |false=>rfl
 |true=>exact absurd (by simpa using congrArg List.length ((Iw D lb).1 e)) h
theorem FY{n0:Nat}{W0:World}{sa sb:Sp}{la lb:List ah}(ra:RowOf n0 W0 sa 6 ah.cells la)(rb:RowOf n0 W0 sb 6 ah.cells lb)(ih:∀a∈la,∀b∈lb,JV n0 W0 a b):Gf n0 W0 sa sb la lb:=by
 intro w hw hn;have br:=ae ((ra.below hw).more hn);have bt:=ae ((rb.below hw).more hn);have bo:=ae λ(i:Nat) (hi:i<la.length) (hj:i<lb.length) (W:World) (hW:Below w.heap.size w W)=>ih _ (ak hi) _ (ak hj) W (hw.trans (hW.mono hn)) (ai hn hW.size)
 have fa:=ra.few;have fb:=rb.few;clear ra rb ih hw;go_enter Tryz.func155,Tryz.ntmps155
 by_cases hl:la.length=lb.length
 .have hd:((la.length:Int) == (lb.length:Int))=true:=by simp[hl]
  have bw:((la.length:Int) != (lb.length:Int))=false:=by simp[hl]
  have HL:=ae hl;clear hl;go_wp2_with fail
  go_loopw[17] (λv wr=>∃k:Nat,k<=la.length/\v=.int .i64 k/\kK la lb=kK (la.drop k) (lb.drop k)/\Below w.heap.size w wr) (λv _=>la.length - (intOf v).toNat)
  case atStart=>exact⟨0,aH _,rfl,rfl,ag _ _⟩
  case round =>
   obtain⟨k,hk,rfl,bd,hb⟩:=hrel;have a8:=ae bd;have al:=ae hb;clear bd hb;by_cases an:k<la.length
   .have bi:k<lb.length:=by have:=HL.o;omega
    obtain⟨ga,oa,eA,_,be⟩:=(br.o.below al.o).row (by omega);obtain⟨gb,ob,eB,b7,bh⟩:=(bt.o.below al.o).row (by omega);have D:=be k an;have O:=bh k bi;have bc:=ae (a8.o.trans (Az la lb HL.o k an));have ad:=ae (bo.o k an bi);clear be bh;generalize la[k]=x at *;generalize lb[k]=y at *;have a0:=D 0 _ rfl;rw[bS]at a0;have a1:=D 1 _ rfl;have a2:=D 2 _ rfl;have a3:=D 3 _ rfl;have a4:=D 4 _ rfl;have a5:wr.cell? ⟨ga,oa+k*6+5,none⟩=some (.slice x.sp.dO x.cu.length x.sp.df):=D 5 _ rfl;have b0:=O 0 _ rfl;rw[bS]at b0;have b1:=O 1 _ rfl;have b2:=O 2 _ rfl;have b3:=O 3 _ rfl;have b4:=O 4 _ rfl;have b5:wr.cell? ⟨gb,ob+k*6+5,none⟩=some (.slice y.sp.dO y.cu.length y.sp.df):=O 5 _ rfl;have b8:(0:Int)<=(k:Int):=by omega
    have b9:(k:Int)<(la.length:Int):=by omega
    have bC:(k:Int)<(lb.length:Int):=by omega
    clear D O;rw[eA,eB];clear eA eB;go_upto_region 6 with fail
    have V:=jc wr (.cells x.r 30);have a7:=gM wr (.cells x.r 30);have bk:=al.o.size;have U:gb<wr.heap.size:=by omega
    replace b0:=(V.cell (p:=⟨gb,ob+k*6,none⟩) U).trans b0
    replace b1:=(V.cell (p:=⟨gb,ob+k*6+1,none⟩) U).trans b1
    replace b2:=(V.cell (p:=⟨gb,ob+k*6+2,none⟩) U).trans b2
    replace b3:=(V.cell (p:=⟨gb,ob+k*6+3,none⟩) U).trans b3
    replace b4:=(V.cell (p:=⟨gb,ob+k*6+4,none⟩) U).trans b4
    replace b5:=(V.cell (p:=⟨gb,ob+k*6+5,none⟩) U).trans b5
    generalize wr.alloc (.cells x.r 30)=W5 at *;have bj:=V.size;generalize wr.heap.size=bx at *;obtain⟨x0,x1,x2,x3,x4,x5⟩:=aR a7;have ar:=ae a7;have a9:=ae V;clear a0 a1 a2 a3 a4 a5 a7 V;go_upto_region 7 with fail
    have aw:=jc W5 (.cells y.r 30);have bm:=gM W5 (.cells y.r 30);have bl:=(aw.block bx (dM ar.o).1).trans ar.o;have ba:=al;have ap:=ba.o.trans ((a9.o.trans (aw.mono bj)).mono bk);clear x0 x1 x2 x3 x4 x5 b0 b1 b2 b3 b4 b5 ar a9;generalize W5.alloc (.cells y.r 30)=W7 at *;generalize W5.heap.size=b6 at *;obtain⟨x0,x1,x2,x3,x4,x5⟩:=aR bl;obtain⟨y0,y1,y2,y3,y4,y5⟩:=aR bm;have ab:=ae ap;have ao:=ab.o.size;clear bl bm aw ap;obtain⟨bv,a6⟩:∃b,LZ x y=b:=⟨_,rfl⟩;have aE:=ae a6;rw[a6]at ad;clear a6;cases bv with
    |false =>
     go_wp2_with(go_at_call 114;refine(ad.o W7 ab.o).mono ?_;rintro o W8 ⟨rfl,am⟩;have aq:=ae am;clear am)
     go_ret
     exact⟨by rw[bc.o,aE.o];rfl,ab.o.trans (aq.o.mono ao)⟩
    |true =>
     go_wp2_with(go_at_call 114;refine(ad.o W7 ab.o).mono ?_;rintro o W8 ⟨rfl,am⟩;have aq:=ae am;clear am)
     exact⟨⟨k+1,an,rfl,by rw[bc.o,aE.o];rfl,ab.o.trans (aq.o.mono ao)⟩,by simp only[intOf];omega⟩
   .obtain rfl:k=la.length:=by omega
    have e0:kK la lb=true:=by
     rw[a8.o,fD,HL.o,fD]
     rfl
    have E0:=ae e0;clear an e0;go_wp2_with fail
    go_ret
    exact⟨by rw[E0.o];rfl,al.o⟩
 .have hd:((la.length:Int) == (lb.length:Int))=false:=by simp;omega
  have bw:((la.length:Int) != (lb.length:Int))=true:=by simp;omega
  rw[De hl];clear hl;go_wp2_with fail
  go_ret
  exact⟨rfl,ag _ _⟩
theorem D5{n0:Nat}{W0:World}{a b:ah}(ih:Gf n0 W0 a.sp b.sp a.cu b.cu):JV n0 W0 a b:=by
 intro w hw hn;have al:=ae λ(W:World) (hW:Below w.heap.size w W)=>ih W (hw.trans (hW.mono hn)) (ai hn hW.size)
 have O:Hid (∀x y,Below w.heap.size w ((w.alloc x).alloc y)):=ae λx y=>((ag _ _).alloc (af _) _).alloc (by simp) _
 clear ih hw;obtain⟨k,o,v,wd,n,sp,l⟩:=a;obtain⟨V,o',v',D,n',am,l'⟩:=b;have e0:LZ (.mk k o v wd n sp l) (.mk V o' v' D n' am l')=(decide (k=V/\o=o'/\v=v'/\wd=D/\n=n') && kK l l'):=by rw[LZ];rfl
 rw[e0];simp only[ah.bI,ah.op,ah.bv,ah.aS,ah.aT,ah.sp,ah.cu]at *;go_enter Tryz.func114,Tryz.ntmps114
 by_cases h1:k=V
 .by_cases h2:o=o'
  .by_cases h3:v=v'
   .by_cases h4:wd=D
    .by_cases h5:n=n'
     .subst h1 h2 h3 h4 h5
      go_wp2_with(go_at_call 155;refine(al.o _ (O.o _ _)).mono ?_;rintro o W8 ⟨rfl,ab⟩;have ad:=ae ((O.o _ _).trans (ab.mono (O.o _ _).size));clear ab)
      go_ret
      exact⟨by simp,ad.o⟩
     .have hd:(n.toList == n'.toList)=false:=beq_eq_false_iff_ne.2 λe=>h5 (toList_inj e)
      have U:(decide (k=V/\o=o'/\v=v'/\wd=D/\n=n') && kK l l')=false:=by simp[h5]
      rw[U];subst h1 h2 h3 h4;clear h5 U e0;go_wp2_with fail
      go_ret
      exact⟨rfl,O.o _ _⟩
    .have hd:(wd == D)=false:=by simp[h4]
     have U:(decide (k=V/\o=o'/\v=v'/\wd=D/\n=n') && kK l l')=false:=by simp[h4]
     rw[U];subst h1 h2 h3;clear h4 U e0;go_wp2_with fail
     go_ret
     exact⟨rfl,O.o _ _⟩
   .have hd:(v == v')=false:=by simp[h3]
    have U:(decide (k=V/\o=o'/\v=v'/\wd=D/\n=n') && kK l l')=false:=by simp[h3]
    rw[U];subst h1 h2;clear h3 U e0;go_wp2_with fail
    go_ret
    exact⟨rfl,O.o _ _⟩
  .have hd:(o == o')=false:=by simp[h2]
   have U:(decide (k=V/\o=o'/\v=v'/\wd=D/\n=n') && kK l l')=false:=by simp[h2]
   rw[U];subst h1;clear h2 U e0;go_wp2_with fail
   go_ret
   exact⟨rfl,O.o _ _⟩
 .have hd:(k == V)=false:=by simp[h1]
  have U:(decide (k=V/\o=o'/\v=v'/\wd=D/\n=n') && kK l l')=false:=by simp[h1]
  rw[U];clear h1 U e0;go_wp2_with fail
  go_ret
  exact⟨rfl,O.o _ _⟩
theorem NU{n0:Nat}{W0:World}(a:ah):∀b,mM n0 W0 a->mM n0 W0 b->JV n0 W0 a b:=by
 induction a using ah.ind with
 |h k o v w n sp l U =>
  intro b D hb;exact D5 (FY D.row hb.row λx hx y O=>U x hx y (D.sub x hx) (hb.sub y O))
theorem Js{W:World}{b i:Nat}{t:TypeId}{cs:Array Value}{v:Value}(h:W.heap[b]?=some (.cells cs t (0,0))):W.setCell ⟨b,i,none⟩ v=W.setRow b (cs.setIfInBounds i v):=by
 refine tZ rfl rfl rfl rfl λk=>?_
 by_cases hk:k=b
 .subst hk
  rw[bM _ _ _ _ _ _ h];simp[World.setCell,cK,h]
 .rw[dQ _ _ _ _ hk]
  exact aN _ _ _ _ hk
def rU(op:Int)(D O:ah)(sp:Sp):ah:=.mk 6 op 0 0 ⟨#[]⟩ sp [D,O]
theorem pG(x wd:Int)(w:World):Calls Tryz.prog 34 #[.int .u32 x,.int .i64 wd] w λo w'=>o=.returned (cO x wd).val/\Below w.heap.size w w':=by
 go_enter Tryz.func34,Tryz.ntmps34
 go_wp2_with fail
 exact aW (aL rfl _ _ w.heap.size 30 _ (0,0) _ rfl (gM _ _) Tryz.underlying30 rfl (by kernel_rfl)) rfl ⟨rfl,(ag _ _).alloc (af _) _⟩
theorem nz(s:ByteArray)(w:World):Calls Tryz.prog 33 #[.string s] w λo w'=>o=.returned (aZ s).val/\Below w.heap.size w w':=by
 go_enter Tryz.func33,Tryz.ntmps33
 go_wp2_with fail
 exact aW (aL rfl _ _ w.heap.size 30 _ (0,0) _ rfl (gM _ _) Tryz.underlying30 rfl (by kernel_rfl)) rfl ⟨rfl,(ag _ _).alloc (af _) _⟩
theorem Eg(D O:ah)(w:World)(U:sU w D)(V:sU w O):Calls Tryz.prog 36 #[D.val,O.val] w λo w'=>∃sp,o=.returned (fw sp D O).val/\kW w' (fw sp D O)/\Below w.heap.size w w':=by
 have ab:=ae U;have ad:=ae V;clear U V;simp only[ah.val,Sp.val];go_enter Tryz.func36,Tryz.ntmps36
 go_wp2_with fail
 obtain⟨h1,h2,h3,h4,h6,h5⟩:=Al w (.cells D.r 30) (.cells O.r 30) (.cells #[.int .u8 3,.string ⟨#[]⟩,.slice (some ⟨w.heap.size+1+1+1,0,none⟩) 2 2,.int .i64 0,.slice none 0 0,.slice none 0 0] 43) (.cells (Co D O) 30);refine aW (aL rfl _ _ (w.heap.size+1+1) 43 _ (0,0) _ rfl h3 Tryz.underlying43 rfl (by kernel_rfl)) rfl ⟨⟨some ⟨w.heap.size+1+1+1,0,none⟩,2⟩,rfl,?_,h5⟩;exact .mk _ (show(0:Int)<=3/\(3:Int)<=255 by decide) (show(Lit.int .i64 0).wf=true by decide) (show(0:Nat)<=maxLen by decide) (pM (enc:=ah.cells) (x:=D) (y:=O) rfl h4) (λy hy=>by
  have al:y=D\/y=O:=by simpa[fw,aa.bf]using hy
  rcases al with rfl|rfl
  .exact ab.o.on h5
  .exact ad.o.on h5) RowOf.nil (λ_ h=>absurd h (by simp[fw,aa.gy])) RowOf.nil (λ_ h=>absurd h (by simp[fw,aa.iD]))
theorem pY(s:ByteArray)(sp:Sp)(l:List ah)(w:World):Calls Tryz.prog 32 #[.string s,sp.val l.length] w λo w'=>o=.returned (dN sp s l).val/\Below w.heap.size w w':=by
 simp only[Sp.val];go_enter Tryz.func32,Tryz.ntmps32
 go_wp2_with fail
 exact aW (aL rfl _ _ w.heap.size 43 _ (0,0) _ rfl (gM _ _) Tryz.underlying43 rfl (by kernel_rfl)) rfl ⟨rfl,(ag _ _).alloc (af _) _⟩
theorem zQ(s:ByteArray)(hs:s.size<=maxLen)(e:ah)(w:World)(he:sU w e):Calls Tryz.prog 35 #[.string s,e.val] w λo w'=>∃sp,o=.returned (ji sp s e).val/\kW w' (ji sp s e)/\Below w.heap.size w w':=by
 have O:=ae he;clear he;simp only[ah.val,Sp.val];go_enter Tryz.func35,Tryz.ntmps35
 go_wp2_with fail
 obtain⟨h1,U,V,h4,D⟩:=CR w (.cells e.r 30) (.cells #[.int .u8 1,.string s,.slice (some ⟨w.heap.size+1+1,0,none⟩) 1 1,.int .i64 0,.slice none 0 0,.slice none 0 0] 43) (.cells e.r 30);refine aW (aL rfl _ _ (w.heap.size+1) 43 _ (0,0) _ rfl U Tryz.underlying43 rfl (by kernel_rfl)) rfl ⟨⟨some ⟨w.heap.size+1+1,0,none⟩,1⟩,rfl,?_,D⟩;exact .mk _ (show(0:Int)<=1/\(1:Int)<=255 by decide) (show(Lit.int .i64 0).wf=true by decide) hs (row_one (enc:=ah.cells) (x:=e) V) (λy hy=>by
  have:y=e:=by simpa[ji,aa.bf]using hy
  rw[this];exact O.o.on D) RowOf.nil (λ_ h=>absurd h (by simp[ji,aa.gy])) RowOf.nil (λ_ h=>absurd h (by simp[ji,aa.iD]))
theorem Bz(op:Int)(ho:0<=op/\op<=255)(D O:ah)(w:World)(U:sU w D)(V:sU w O):Calls Tryz.prog 37 #[.int .u8 op,D.val,O.val] w λo w'=>∃sp:Sp,o=.returned (rU op D O sp).val/\sU w' (rU op D O sp)/\Below w.heap.size w w':=by
 have ab:=ae U;have ad:=ae V;clear U V;simp only[ah.val,Sp.val];go_enter Tryz.func37,Tryz.ntmps37
 go_wp2_with fail
 obtain⟨h1,h2,h3,h4,h6,h5⟩:=Al w (.cells D.r 30) (.cells O.r 30) (.cells #[.int .u8 6,.int .u8 op,.int .u32 0,.int .i64 0,.string ⟨#[]⟩,.slice (some ⟨w.heap.size+1+1+1,0,none⟩) 2 2] 30) (.cells (Co D O) 30);refine aW (aL rfl _ _ (w.heap.size+1+1) 30 _ (0,0) _ rfl h3 Tryz.underlying30 rfl (by kernel_rfl)) rfl ⟨⟨some ⟨w.heap.size+1+1+1,0,none⟩,2⟩,rfl,?_,h5⟩;exact .mk _ (show(0:Int)<=6/\(6:Int)<=255 by decide) ho (show(0:Int)<=0/\(0:Int)<=4294967295 by decide) (show(Lit.int .i64 0).wf=true by decide) (show(0:Nat)<=maxLen by decide) (pM (enc:=ah.cells) (x:=D) (y:=O) rfl h4) (λy hy=>by
  have al:y=D\/y=O:=by simpa[rU,ah.cu]using hy
  rcases al with rfl|rfl
  .exact ab.o.on h5
  .exact ad.o.on h5)
def Hw(W:World)(v:Value)(l:List Int):Prop :=
 ∃A c,v=.slice A l.length c/\(0<l.length->∃b off,A=some ⟨b,off,.none⟩/\∀j (h:j<l.length),W.cell? ⟨b,off+j,.none⟩=some (.int .i64 l[j]))
theorem vk{W:World}{B:Nat}{v:Value}{l:List Int}(h:W.ownsRow B 3 1 v l.length (l.map (.int .i64))):Hw W v l:=by
 rcases h.2 with ⟨rfl,O⟩|⟨g,D,cur,rfl,_⟩
 .exact⟨none,0,by rw[O],λh=>by omega⟩
 .refine⟨_,D,rfl,λ_=>⟨g,0,rfl,λj U=>?_⟩⟩
  have:=h.cells (g:=g) rfl j (.int .i64 l[j]) (by simp[U]);rw[Addr.add_lit]at this;exact this
theorem Hw.cells{W W':World}{v:Value}{l:List Int}(h:Hw W v l)(hc:∀a u,W.cell? a=some u->W'.cell? a=some u):Hw W' v l:=by
 obtain⟨A,c,e,hr⟩:=h;refine⟨A,c,e,λO=>?_⟩;obtain⟨b,off,D,hx⟩:=hr O;exact⟨b,off,D,λj U=>hc _ _ (hx j U)⟩
theorem Hw.on{W W':World}{v:Value}{l:List Int}(h:Hw W v l)(hb:Below W.heap.size W W'):Hw W' v l:=h.cells λa u D=>by
 have O:a.block<W.heap.size:=by
  unfold World.cell? at D;cases hh:W.heap[a.block]? with
  |none=>rw[hh]at D;cases D
  |some o=>exact(dM hh).1
 exact(hb.cell O).trans D
theorem KD(w:World)(v:Value)(l:List Int)(s:Int)(hl:l.length<=1000000)(h:Hw w v l) :
  Calls Tryz.prog 144 #[v,.int .i64 s] w λo w'=>(∃k:Int,-1<=k/\o=.returned (.int .i64 k)/\(0<=k↔s∈l))/\w=w':=by
 obtain⟨A,c,rfl,hc⟩:=h;go_enter Tryz.func144,Tryz.ntmps144
 go_wp2_with fail
 go_loopw[8] (λi wr=>∃k:Nat,k<=l.length/\i=.int .i64 k/\Hid (∀j (h:j<l.length),j<k->l[j]≠s)/\w=wr) (λi _=>l.length - (intOf i).toNat)
 case atStart=>exact⟨0,aH _,rfl,ae λj _ h=>absurd h (dX _),rfl⟩
 case round =>
  obtain⟨k,hk,rfl,U,rfl⟩:=hrel;by_cases V:k<l.length
  .obtain⟨b,off,rfl,D⟩:=hc (by omega)
   have ab:=D k V;obtain⟨x,hx⟩:∃x,l[k]=x:=⟨_,rfl⟩;rw[hx]at ab;have HX:=ae hx;have ad:(0:Int)<=(k:Int):=by omega
   have al:(k:Int)<(l.length:Int):=by omega
   clear hc D hx;by_cases he:s=x
   .subst he
    have HF:Hid (s∈l):=ae (HX.o ▸ ak V);go_wp2_with fail
    go_ret
    exact⟨⟨k,by omega,rfl,by simp[HF.o]⟩,rfl⟩
   .have an:(s == x)=false:=beq_eq_false_iff_ne.2 he
    have HE:=ae he;clear he;go_wp2_with fail
    go_roundw
    case rel=>exact⟨k+1,by omega,by go_num,ae λj hj am=>by
     by_cases e:j=k
     .subst e;rw[HX.o];exact λe=>HE.o e.symm
     .exact U.o j hj (by omega),trivial⟩
    case measure=>simp[intOf];omega
  .obtain rfl:k=l.length:=by omega
   have O:s∉l:=by
    intro hs;obtain⟨j,hj,e⟩:=gm hs;exact U.o j hj hj e
   have HF:=ae O;clear O;go_wp2_with fail
   go_ret
   exact⟨⟨-1,by omega,rfl,by have:=HF.o;constructor<;>intro h;omega;exact absurd h this⟩,rfl⟩
theorem Et(w:World)(v:Value)(l:List Int)(s:Int)(hl:l.length<=1000000)(h:Hw w v l) :
  Calls Tryz.prog 76 #[v,.int .i64 s] w λo w'=>o=.returned (.bool (decide (s∈l)))/\w=w':=by
 have H:=ae (KD w v l s hl h);obtain⟨O,D⟩:∃O,decide (s∈l)=O:=⟨_,rfl⟩;rw[D];have V:=ae D;obtain⟨A,c,rfl,-⟩:=h;clear D;go_enter Tryz.func76,Tryz.ntmps76
 go_wp2_with(first|(go_at_call 144;refine H.o.mono ?_;rintro o2 w2 ⟨⟨k,ab,rfl,hk⟩,rfl⟩;have U:=ae hk;clear hk)|fail)
 go_ret
 exact⟨by rw[show decide (0<=k)=O by rw[<-V.o,ky,decide_eq_true_iff,decide_eq_true_iff];exact U.o];rfl,rfl⟩
theorem Ka(w:World)(u v:Value)(l:List Int)(h1:Hw w u l)(h2:Hw w v l)(hl:l.length<=1000000) :
  Calls Tryz.prog 78 #[u,v] w λo w'=>o=.returned (.bool true)/\∃q,w'=w.drewN q:=by
 obtain⟨A,c,rfl,V⟩:=h1;obtain⟨A',c',rfl,ab⟩:=h2;go_enter Tryz.func78,Tryz.ntmps78
 go_wp2_with fail
 go_loopw[13] (λi wr=>∃(k q:Nat),k<=l.length/\i=.int .i64 k/\wr=w.drewN q) (λi _=>l.length - (intOf i).toNat)
 case atStart=>exact⟨0,0,aH _,rfl,rfl⟩
 case round =>
  obtain⟨k,q,hk,rfl,rfl⟩:=hrel;by_cases U:k<l.length
  .obtain⟨b,off,rfl,D⟩:=V (by omega)
   obtain⟨b',ad,rfl,O⟩:=ab (by omega);have g1:=D k U;have g2:=O k U;generalize l[k]=x at *;clear D O V ab;have am:(0:Int)<=(k:Int):=Int.natCast_nonneg _;have an:(k:Int)<(l.length:Int):=by omega
   have al:∀p,(w.drewN q).cell? p=w.cell? p:=λ_=>rfl
   go_wp2_with fail
   go_quiet (fail)
   go_wp2_with fail
   go_roundw
   case rel=>exact⟨k+1,_,by omega,by go_num,rfl⟩
   case measure=>simp[intOf];omega
  .obtain rfl:k=l.length:=by omega
   go_wp2_with fail
   go_ret
   exact⟨rfl,q,rfl⟩
theorem Ja(w:World)(D:Nat)(v:Value)(l:List Int)(s:Int)(hl:l.length<=1000000)(hb:w.cell? ⟨D,0,none⟩=some v)(h:Hw w v l) :
  Calls Tryz.prog 138 #[.int .i64 s,.pointer (some ⟨D,0,none⟩)] w λo w'=>o=.returned (.bool (!decide (s∈l)))/\w=w':=by
 have H:=ae (Et w v l s hl h);obtain⟨A,c,rfl,-⟩:=h;go_enter Tryz.func138,Tryz.ntmps138
 go_wp2_with(first|(go_at_call 76;refine H.o.mono ?_;rintro O w2 ⟨rfl,rfl⟩)|fail)
 go_ret
 exact⟨rfl,rfl⟩
theorem KC(w:World)(b5:Nat)(v u:Value)(l m:List Int)(hl:l.length<=1000000)(hm:m.length<=1000000)(hb:w.cell? ⟨b5,0,none⟩=some v)(h:Hw w v l)(hu:Hw w u m) :
  Calls Tryz.prog 191 #[u,.func (.func 138) #[] #[.pointer (some ⟨b5,0,none⟩)]] w λo w'=>(∃z:Int,-1<=z/\o=.returned (.int .i64 z)/\(0<=z↔∃x∈m,x∉l))/\w=w':=by
 have HO:=ae λs=>Ja w b5 v l s hl hb h
 obtain⟨A,c,rfl,hc⟩:=hu;clear hb h hl;go_enter Tryz.func191,Tryz.ntmps191
 go_wp2_with fail
 go_loopw[8] (λi wr=>∃k:Nat,k<=m.length/\i=.int .i64 k/\Hid (∀j (h:j<m.length),j<k->m[j]∈l)/\w=wr) (λi _=>m.length - (intOf i).toNat)
 case atStart=>exact⟨0,aH _,rfl,ae λj _ h=>absurd h (dX _),rfl⟩
 case round =>
  obtain⟨k,hk,rfl,V,rfl⟩:=hrel;by_cases ab:k<m.length
  .obtain⟨b,off,rfl,D⟩:=hc (by omega)
   have al:=D k ab;obtain⟨x,hx⟩:∃x,m[k]=x:=⟨_,rfl⟩;rw[hx]at al;have HX:=ae hx;have ad:Hid (x∈m):=ae (hx ▸ ak ab);have am:(0:Int)<=(k:Int):=by omega
   have an:(k:Int)<(m.length:Int):=by omega
   have O:=ae (HO.o x);clear hc D hx;by_cases he:x∈l
   .rw[aC he]at O
    have HE:=ae he;clear he;go_wp2_with fail
    refine O.o.mono ?_;rintro o2 w2 ⟨rfl,rfl⟩;go_wp2_with fail
    go_roundw
    case rel=>exact⟨k+1,by omega,by go_num,ae λj hj ao=>by
     by_cases e:j=k
     .subst e;rw[HX.o];exact HE.o
     .exact V.o j hj (by omega),trivial⟩
    case measure=>simp[intOf];omega
   .rw[az he]at O
    have HE:=ae he;clear he;go_wp2_with fail
    refine O.o.mono ?_;rintro o2 w2 ⟨rfl,rfl⟩;go_wp2_with fail
    go_ret
    exact⟨⟨k,by omega,rfl,iff_of_true (by omega) ⟨x,ad.o,HE.o⟩⟩,rfl⟩
  .obtain rfl:k=m.length:=by omega
   have U:¬∃x∈m,x∉l:=by
    rintro⟨x,hx,hn⟩;obtain⟨j,hj,rfl⟩:=gm hx;exact hn (V.o j hj hj)
   have HF:=ae U;clear U;go_wp2_with fail
   go_ret
   exact⟨⟨-1,by omega,rfl,by have:=HF.o;constructor<;>intro h;omega;exact absurd h this⟩,rfl⟩
theorem Es(w:World)(U:Nat)(v u:Value)(l m:List Int)(hl:l.length<=1000000)(hm:m.length<=1000000)(hb:w.cell? ⟨U,0,none⟩=some v)(h:Hw w v l)(V:Hw w u m) :
  Calls Tryz.prog 139 #[u,.func (.func 138) #[] #[.pointer (some ⟨U,0,none⟩)]] w λo w'=>o=.returned (.bool (m.any λx=>!decide (x∈l)))/\w=w':=by
 have H:=ae (KC w U v u l m hl hm hb h V);obtain⟨O,D⟩:∃O,(m.any λx=>!decide (x∈l))=O:=⟨_,rfl⟩;rw[D];have HR:Hid (O=true↔∃x∈m,x∉l):=ae (by rw[<-D,iy];simp);obtain⟨A,c,rfl,-⟩:=V;clear D hb h;go_enter Tryz.func139,Tryz.ntmps139
 go_wp2_with(first|(go_at_call 191;refine H.o.mono ?_;rintro o2 w2 ⟨⟨z,ab,rfl,hz⟩,rfl⟩;have HZ:=ae hz;clear hz)|fail)
 go_ret
 exact⟨by rw[show decide (0<=z)=O by rw[ky,decide_eq_true_iff,HR.o];exact HZ.o];rfl,rfl⟩
mutual
def mr:ah->Int->Int
 |.mk _ _ _ _ n _ l,m=>pu l m (1+(n.size:Int))
def pu:List ah->Int->Int->Int
 |[],_,n=>n
 |e::l,m,n=>if n>m then n else pu l m (n+mr e (m - n))
end
def lu:List ah->Int->Int->Int × Bool
 |[],_,n=>(n,false)
 |e::l,m,n=>if n>m then(n,true) else lu l m (n+mr e (m - n))
mutual
def qI:aa->Int->Int->Int × Bool
 |.mk _ s _ ex _ _ th _ el,m,n0 =>
  let a:=lu ex m (n0+1+(s.size:Int))
  if a.2=true then(a.1,true)
  else if a.1>m then(a.1,true)
  else
   let n:=a.1+eu th (m - a.1) 0
   if n>m then(n,true) else(n+eu el (m - n) 0,false)
def eu:List aa->Int->Int->Int
 |[],_,n=>n
 |s::l,m,n=>if(qI s m n).2=true then(qI s m n).1 else eu l m (qI s m n).1
end
theorem IE:∀(l:List ah),(∀e∈l,∀m,1<=mr e m)->∀m n,n<=pu l m n
 |[],_,m,n=>by rw[pu];omega
 |e::l,h,m,n=>by
  rw[pu]
  split
  .omega
  .have h1:=h e (aD ..) (m - n)
   have D:=IE l (λx hx=>h x (au _ hx)) m (n+mr e (m - n));omega
theorem Di(e:ah):∀m,1<=mr e m:=by
 induction e using ah.ind with
 |h k o v w n sp l D =>
  intro m;rw[mr];have:=IE l D m (1+(n.size:Int));omega
theorem AJ:∀(l:List ah) (m n:Int),n<=(lu l m n).1
 |[],m,n=>by rw[lu];exact Int.le_refl _
 |e::l,m,n=>by
  rw[lu]
  split
  .exact Int.le_refl _
  .have h1:=Di e (m - n)
   have D:=AJ l m (n+mr e (m - n));omega
theorem Rm(s:aa)(h1:∀m n,n<=eu s.gy m n)(O:∀m n,n<=eu s.iD m n)(m n:Int):n+1<=(qI s m n).1:=by
 obtain⟨k,V,es,ex,b,ts,th,os,el⟩:=s;have h3:=AJ ex m (n+1+(V.size:Int));change ∀m n,n<=eu th m n at h1;change ∀m n,n<=eu el m n at O;rw[qI];obtain⟨a,U⟩:∃a,lu ex m (n+1+(V.size:Int))=a:=⟨_,rfl⟩;rw[U]at h3;simp only[U];by_cases c1:a.2=true
 .simp only[c1,if_true]
  omega
 .simp only[c1]
  by_cases c2:a.1>m
  .simp only[c2,if_true]
   show n+1<=a.1;omega
  .simp only[c2,if_false]
   have h4:=h1 (m - a.1) 0;by_cases D:a.1+eu th (m - a.1) 0>m
   .simp only[D,if_true]
    show n+1<=a.1+eu th (m - a.1) 0;omega
   .simp only[D,if_false]
    have h5:=O (m - (a.1+eu th (m - a.1) 0)) 0;show n+1<=a.1+eu th (m - a.1) 0+eu el _ 0;omega
theorem zi:∀(l:List aa),(∀s∈l,∀m n,n+1<=(qI s m n).1)->∀m n,n<=eu l m n
 |[],_,m,n=>by rw[eu];omega
 |s::l,h,m,n=>by
  rw[eu];have h1:=h s (aD ..) m n
  split
  .omega
  .have D:=zi l (λx hx=>h x (au _ hx)) m (qI s m n).1
   omega
theorem Dh(s:aa):∀m n,n+1<=(qI s m n).1:=by
 induction s using aa.ind with
 |h k U es ex b ts th os el D O=>exact Rm _ (zi th D) (zi el O)
theorem AO(l:List aa)(m n:Int):n<=eu l m n:=zi l (λs _=>Dh s) m n
def sK(e:ah):Prop:=∀y∈e.pre,y.aT.size<=140737488355328
def uA(s:aa):Prop:=∀x∈s.pre,x.aT.size<=140737488355328/\∀e∈x.bf,sK e
theorem sK.sub{e:ah}(h:sK e):∀s∈e.cu,sK s:=λs D y O=>h y (by rw[ah.pre_eq];exact au _ (List.mem_flatMap.2 ⟨s,D,O⟩))
theorem sK.own{e:ah}(h:sK e):e.aT.size<=140737488355328:=h e (by rw[ah.pre_eq];exact aD ..)
theorem uA.gy{s:aa}(h:uA s):∀t∈s.gy,uA t:=λt ht x hx=>h x (by
 rw[aa.pre_eq];exact au _ (cz _ (List.mem_flatMap.2 ⟨t,ht,hx⟩)))
theorem uA.iD{s:aa}(h:uA s):∀t∈s.iD,uA t:=λt ht x hx=>h x (by
 rw[aa.pre_eq];exact au _ (bF _ (List.mem_flatMap.2 ⟨t,ht,hx⟩)))
theorem uA.own{s:aa}(h:uA s):s.aT.size<=140737488355328/\∀e∈s.bf,sK e:=h s (by rw[aa.pre_eq];exact aD ..)
theorem IC:∀(l:List ah),(∀e∈l,∀m:Int,0<=m->mr e m<=m+140737488355329)->∀m n:Int,n<=m+140737488355329->pu l m n<=m+140737488355329
 |[],_,m,n,D=>by rw[pu];exact D
 |e::l,h,m,n,D=>by
  rw[pu]
  split
  .exact D
  .have h1:=h e (aD ..) (m - n) (by omega)
   exact IC l (λx hx=>h x (au _ hx)) m _ (by omega)
theorem Gs(e:ah):sK e->∀m:Int,0<=m->mr e m<=m+140737488355329:=by
 induction e using ah.ind with
 |h k o v w n sp l D =>
  intro h m hm;rw[mr];have h1:n.size<=140737488355328:=h.own;exact IC l (λe he=>D e he (h.sub e he)) m _ (by omega)
theorem IB(X m:Int)(O:m+140737488355329<=X):∀(l:List ah),(∀e∈l,sK e)->∀n:Int,n<=X->(lu l m n).1<=X
 |[],_,n,D=>by rw[lu];exact D
 |e::l,h,n,D=>by
  rw[lu]
  split
  .exact D
  .have h1:=Gs e (h e (aD ..)) (m - n) (by omega)
   exact IB X m O l (λx hx=>h x (au _ hx)) _ (by omega)
theorem L8(s:aa)(hs:uA s)(m n:Int)(hm:0<=m)(h0:0<=n)(hn:n<=m+m*140737488355329)
  (h1:∀d:Int,0<=d->d<m->eu s.gy d 0<=d+(d+1)*140737488355329) (V:∀d:Int,0<=d->d<m->eu s.iD d 0<=d+(d+1)*140737488355329) :
  (qI s m n).1<=m+(m+1)*140737488355329/\((qI s m n).2=false->(qI s m n).1<=m+m*140737488355329):=by
 obtain⟨k,D,es,ex,b,ts,th,os,el⟩:=s;have ab:D.size<=140737488355328:=hs.own.1;have O:=IB (m+(m+1)*140737488355329) m (by omega) ex hs.own.2 (n+1+(D.size:Int)) (by omega);have h4:=AJ ex m (n+1+(D.size:Int));change ∀d:Int,0<=d->d<m->eu th d 0<=d+(d+1)*140737488355329 at h1;change ∀d:Int,0<=d->d<m->eu el d 0<=d+(d+1)*140737488355329 at V;rw[qI];obtain⟨a,ha⟩:∃a,lu ex m (n+1+(D.size:Int))=a:=⟨_,rfl⟩;rw[ha]at O h4;simp only[ha];by_cases c1:a.2=true
 .simp only[c1,if_true]
  exact⟨O,λh=>by cases h⟩
 .simp only[c1]
  by_cases c2:a.1>m
  .simp only[c2,if_true]
   exact⟨O,λh=>by cases h⟩
  .simp only[c2,if_false]
   have h5:=h1 (m - a.1) (by omega) (by omega);have h6:=AO th (m - a.1) 0;by_cases U:a.1+eu th (m - a.1) 0>m
   .simp only[U,if_true]
    exact⟨by show a.1+eu th (m - a.1) 0<=_;omega,λh=>by cases h⟩
   .simp only[U,if_false]
    have h7:=V (m - (a.1+eu th (m - a.1) 0)) (by omega) (by omega);exact⟨by show a.1+eu th (m - a.1) 0+eu el _ 0<=_;omega,λ_=>by show a.1+eu th (m - a.1) 0+eu el _ 0<=_;omega⟩
theorem tV:∀(k:Nat) (l:List aa),(∀s∈l,uA s)->∀m:Int,0<=m->m<=k->∀n:Int,0<=n->n<=m+m*140737488355329->eu l m n<=m+(m+1)*140737488355329
 |_,[],_,m,hm,_,n,_,D=>by rw[eu];omega
 |0,s::l,h,m,hm,hk,n,O,D=>by
  rw[eu];have hb:=L8 s (h s (aD ..)) m n hm O D (λd h1 U=>by omega) λd h1 U=>by omega
  have hp:=Dh s m n
  split
  .exact hb.1
  .next hc =>
   exact tV 0 l (λx hx=>h x (au _ hx)) m hm hk _ (by omega) (hb.2 (by simpa using hc))
 |k+1,s::l,h,m,hm,hk,n,O,D=>by
  rw[eu];have V:=h s (aD ..);have hb:=L8 s V m n hm O D (λd h1 U=>tV k s.gy V.gy d h1 (by omega) 0 (by omega) (by omega)) λd h1 U=>tV k s.iD V.iD d h1 (by omega) 0 (by omega) (by omega)
  have hp:=Dh s m n
  split
  .exact hb.1
  .next hc =>
   exact tV (k+1) l (λx hx=>h x (au _ hx)) m hm hk _ (by omega) (hb.2 (by simpa using hc))
termination_by k l=>(k,l.length)
theorem Cv(s:aa)(m n:Int):qI s m n=(let a:=lu s.bf m (n+1+(s.aT.size:Int))
  if a.2=true then(a.1,true)
  else if a.1>m then(a.1,true)
  else
   let n:=a.1+eu s.gy (m - a.1) 0
   if n>m then(n,true) else(n+eu s.iD (m - n) 0,false)):=by cases s;rw[qI];rfl
theorem Kg{s:aa}{m n a:Int}(h:lu s.bf m (n+1+(s.aT.size:Int))=(a,true)):qI s m n=(a,true):=by
 rw[Cv,h];rfl
theorem Kh{s:aa}{m n a:Int}(h:lu s.bf m (n+1+(s.aT.size:Int))=(a,false))(D:a>m):qI s m n=(a,true):=by
 rw[Cv,h];simp only;rw[if_neg (by decide),if_pos D]
theorem Ki{s:aa}{m n a:Int}(h:lu s.bf m (n+1+(s.aT.size:Int))=(a,false))(D:¬a>m)(O:a+eu s.gy (m - a) 0>m):qI s m n=(a+eu s.gy (m - a) 0,true):=by
 rw[Cv,h];simp only;rw[if_neg (by decide),if_neg D,if_pos O]
theorem Rn{s:aa}{m n a:Int}(h:lu s.bf m (n+1+(s.aT.size:Int))=(a,false))(D:¬a>m)(O:¬a+eu s.gy (m - a) 0>m):qI s m n=(a+eu s.gy (m - a) 0+eu s.iD (m - (a+eu s.gy (m - a) 0)) 0,false):=by
 rw[Cv,h];simp only;rw[if_neg (by decide),if_neg D,if_neg O]
theorem yl{s:aa}{l:List aa}{m n a:Int}(h:qI s m n=(a,true)):eu (s::l) m n=a:=by rw[eu,h];rfl
theorem Pf{s:aa}{l:List aa}{m n a:Int}(h:qI s m n=(a,false)):eu (s::l) m n=eu l m a:=by rw[eu,h];rfl
section
def ah.cellsR(e:ah):List Value:=[.int .i64 e.bI,.int .i64 e.op,.int .i64 e.bv,.int .i64 e.aS,.string e.aT,e.sp.val e.cu.length]
def ah.valR(e:ah):Value:=.agg #[.int .i64 e.bI,.int .i64 e.op,.int .i64 e.bv,.int .i64 e.aS,.string e.aT,e.sp.val e.cu.length]
def aa.cellsR(s:aa):List Value:=[.int .i64 s.bI,.string s.aT,s.es.val s.bf.length,.int .i64 s.gT,s.ts.val s.gy.length,s.os.val s.iD.length]
inductive xG(n₀:Nat)(W:World):ah->Prop
 |mk (e:ah) (row:RowOf n₀ W e.sp 6 ah.cellsR e.cu) (cu:∀s,s∈e.cu->xG n₀ W s):xG n₀ W e
inductive uB(n₀:Nat)(W:World):aa->Prop
 |mk (s:aa) (erow:RowOf n₀ W s.es 6 ah.cellsR s.bf) (bf:∀e,e∈s.bf->xG n₀ W e) (trow:RowOf n₀ W s.ts 6 aa.cellsR s.gy) (gy:∀t,t∈s.gy->uB n₀ W t)
   (orow:RowOf n₀ W s.os 6 aa.cellsR s.iD) (iD:∀t,t∈s.iD->uB n₀ W t):uB n₀ W s
theorem xG.row{n:Nat}{W:World}{e:ah}(h:xG n W e):RowOf n W e.sp 6 ah.cellsR e.cu:=by cases h;assumption
theorem xG.sub{n:Nat}{W:World}{e:ah}(h:xG n W e):∀s,s∈e.cu->xG n W s:=by cases h;assumption
theorem xG.cells{n n':Nat}{W W':World}{e:ah}(h:xG n W e)(D:n<=n')(hc:∀p u,p.block<n->W.cell? p=some u->W'.cell? p=some u):xG n' W' e:=by
 induction h with
 |mk e row _ O=>exact .mk e ((row.cells hc).more D) O
theorem uB.cells{n n':Nat}{W W':World}{s:aa}(h:uB n W s)(D:n<=n')(hc:∀p u,p.block<n->W.cell? p=some u->W'.cell? p=some u):uB n' W' s:=by
 induction h with
 |mk s V ex tr _ or _ O U=>exact .mk s ((V.cells hc).more D) (λe he=>(ex e he).cells D hc) ((tr.cells hc).more D) O ((or.cells hc).more D) U
structure tJ(n₀:Nat)(W:World)(s:Sp)(l:List aa):Prop where
 row:RowOf n₀ W s 6 aa.cellsR l
 ok:∀t∈l,uB n₀ W t
structure LP(n₀:Nat)(W:World)(s:Sp)(l:List ah):Prop where
 row:RowOf n₀ W s 6 ah.cellsR l
 ok:∀t∈l,xG n₀ W t
theorem uB.xs{n:Nat}{W:World}{s:aa}(h:uB n W s):LP n W s.es s.bf:=by cases h with|mk _ a b=>exact⟨a,b⟩
theorem uB.kS{n:Nat}{W:World}{s:aa}(h:uB n W s):tJ n W s.ts s.gy:=by cases h with|mk _ _ _ a b=>exact⟨a,b⟩
theorem uB.ko{n:Nat}{W:World}{s:aa}(h:uB n W s):tJ n W s.os s.iD:=by cases h with|mk _ _ _ _ _ a b=>exact⟨a,b⟩
theorem tJ.cells{n n':Nat}{W W':World}{sp:Sp}{l:List aa}(h:tJ n W sp l)(D:n<=n')(hc:∀p u,p.block<n->W.cell? p=some u->W'.cell? p=some u):tJ n' W' sp l:=⟨(h.row.cells hc).more D,λt ht=>(h.ok t ht).cells D hc⟩
theorem LP.cells{n n':Nat}{W W':World}{sp:Sp}{l:List ah}(h:LP n W sp l)(D:n<=n')(hc:∀p u,p.block<n->W.cell? p=some u->W'.cell? p=some u):LP n' W' sp l:=⟨(h.row.cells hc).more D,λt ht=>(h.ok t ht).cells D hc⟩
theorem Bw{n:Nat}{W W':World}(hb:Below n W W'):∀(p:Addr) (u:Value),p.block<n->W.cell? p=some u->W'.cell? p=some u:=λ_ _ hp hc=>(hb.cell hp).trans hc
def BV(lo:Nat)(g:Option Nat)(W:World)(e:ah):Prop:=xG W.heap.size (gP lo (jZ g W)) e
def SI(lo:Nat)(g:Option Nat)(W:World)(s:aa):Prop:=uB W.heap.size (gP lo (jZ g W)) s
structure Ei{α:Type}(El:Nat->Option Nat->World->α->Prop):Prop where
 move:∀{lo lo':Nat}{g g':Option Nat}{W W':World}{x:α},El lo g W x->W.heap.size<=W'.heap.size->(∀b:Nat,lo<=b->g≠some b->b<W.heap.size->lo'<=b/\g'≠some b/\W'.heap[b]?=W.heap[b]?)->El lo' g' W' x
theorem qj{lo lo':Nat}{g g':Option Nat}{W W':World}(hm:∀b:Nat,lo<=b->g≠some b->b<W.heap.size->lo'<=b/\g'≠some b/\W'.heap[b]?=W.heap[b]?) :
  ∀(p:Addr) (u:Value),p.block<W.heap.size->(gP lo (jZ g W)).cell? p=some u->(gP lo' (jZ g' W')).cell? p=some u:=λp u hp hc=>by
 obtain⟨h1,D,O⟩:=iJ.1 hc;obtain⟨U,V,h6⟩:=hm _ h1 D hp;exact iJ.2 ⟨U,V,(aM h6).trans O⟩
theorem Cb:Ei BV:=⟨λh D hm=>xG.cells h D (qj hm)⟩
theorem Ri:Ei SI:=⟨λh D hm=>uB.cells h D (qj hm)⟩
section
variable {α:Type}{El:Nat->Option Nat->World->α->Prop}(hE:Ei El){lo lo':Nat}{g g':Option Nat}{W W':World}{x:α}
include hE
theorem Ei.below(h:El lo g W x)(hb:Below W.heap.size W W'):El lo g W' x:=hE.move h hb.size λb h1 D O=>⟨h1,D,hb.block b O⟩
theorem Ei.less(h:El lo g W x)(hl:lo'<=lo):El lo' g W x:=hE.move h (af _) λ_ h1 D _=>⟨ai hl h1,D,rfl⟩
theorem Ei.grow(h:El lo g W x)(U:W.grownBy W' g)(D:g'=g\/g'=some W.heap.size):El lo g' W' x:=hE.move h U.size λb h1 O V=>⟨h1,by
 rcases D with rfl|rfl
 .exact O
 .intro e
  have:=iL e;omega,U.block b V (λe=>O e.symm)⟩
theorem Ei.far(h:El lo none W x)(D:∀b,g=some b->b<lo)(hl:lo'<=lo):El lo' g W x:=hE.move h (af _) λb h1 _ _=>⟨by omega,λe=>by have:=D _ e;omega,rfl⟩
theorem Ei.open_(h:El lo g W x):El lo none W x:=hE.move h (af _) λ_ h1 _ _=>⟨h1,by simp,rfl⟩
theorem Ei.set(h:El lo g W x){q:Nat}(hq:q<lo)(i:Nat)(v:Value):El lo g (W.setCell ⟨q,i,none⟩ v) x:=hE.move h (by simp) λb h1 D _=>⟨h1,D,aN _ _ _ _ (by show b≠q;omega)⟩
end
structure nN{α:Type}(El:Nat->Option Nat->World->α->Prop)(ty:TypeId)(enc:α->List Value)(lo:Nat)(W:World)(A:Option Addr)(c:Nat)(l:List α):Prop where
 own:dz lo W ty 6 enc (.slice A l.length c) l
 elems:∀x∈l,El lo (Value.slice A l.length c).ownBlock W x
section
variable {α:Type}{El:Nat->Option Nat->World->α->Prop}(hE:Ei El){ty:TypeId}{enc:α->List Value}{lo:Nat}{W W':World}{A:Option Addr}{c:Nat}{l:List α}
theorem nN.nil:nN El ty enc lo W none 0 ([]:List α):=⟨dz.nil,λ_ h=>absurd h (by simp)⟩
include hE
theorem nN.on(h:nN El ty enc lo W A c l)(hb:Below W.heap.size W W'):nN El ty enc lo W' A c l:=⟨h.own.on hb,λx hx=>hE.below (h.elems x hx) hb⟩
theorem nN.set(h:nN El ty enc lo W A c l){q:Nat}(hq:q<lo)(i:Nat)(v:Value):nN El ty enc lo (W.setCell ⟨q,i,none⟩ v) A c l :=
 ⟨h.own.kept λg _ _ D _=>aN _ _ _ _ (by show g≠q;omega),λx hx=>hE.set (h.elems x hx) hq i v⟩
theorem nN.push(h:nN El ty enc lo W A c l){y:α}(hy:El lo (Value.slice A l.length c).ownBlock W y){V:Value}(ho:dz lo W' ty 6 enc V (l++[y]))(hg:W.grownBy W' (Value.slice A l.length c).ownBlock)
  (D:V.ownBlock=(Value.slice A l.length c).ownBlock\/V.ownBlock=some W.heap.size):∃O U,V=.slice O (l++[y]).length U/\nN El ty enc lo W' O U (l++[y]):=by
 obtain⟨O,U,rfl⟩:=ho.form;refine⟨O,U,rfl,ho,λx hx=>?_⟩;rcases List.mem_append.1 hx with h1|h1
 .exact hE.grow (h.elems x h1) hg D
 .rw[List.mem_singleton.1 h1]
  exact hE.grow hy hg D
theorem nN.row(h:nN El ty enc lo W A c l)(hk:∀x,(enc x).length=6)(hl:l.length<=1000000):RowOf W.heap.size (gP lo W) ⟨A,c⟩ 6 enc l/\∀x∈l,El lo none W x:=by
 obtain⟨sp,e,hr,hb⟩:=h.own.row hk (by omega);have:sp=⟨A,c⟩:=by
  unfold Sp.val at e;injection e with e1 e2 e3;rw[e1,e3]
 subst this;exact⟨hr.low' λa D=>(hb a D).1,λx hx=>hE.open_ (h.elems x hx)⟩
end
end
section
section
variable {P:Program}{α:Type}{k:Nat}{enc:α->List Value}{w:World}
theorem Cf{t ty e:TypeId}(hE:sN P t e k)(hk:∀x,(enc x).length=k)(h1:∀x:α,∀u∈enc x,u.oneCell'=true){n0:Nat}{s0:Sp}{l:List α}(h0:RowOf n0 w s0 k enc l)(am:s0.df=l.length)
  {n:Nat}{sp:Sp}{O:List α}(hr:RowOf n w sp k enc O) (h2:0<O.length) (ab:l.length+O.length<=1000000) :
  ∃v' w',(Builtin.append_ #[t,t] ty #[.slice s0.dO l.length s0.df,.slice sp.dO O.length sp.df]).run P w=.ok v' w'/\dz w.heap.size w' e k enc v' (l++O)/\Below w.heap.size w w':=by
 obtain⟨i,z,bytes,ht,hi,hz,ap,hby,ar,aq,an⟩:=hE;obtain⟨b2,ad,e2,_,V⟩:=hr.news hk h2;have D:(l.length+O.length)*bytes<=140737488355328:=by
  have:=Nat.mul_le_mul ab ar;omega
 have al:∀v' w',w'.ownsRow w.heap.size e k v' (l.length+O.length) (l.flatMap enc++O.flatMap enc)->w.grownBy w' none->dz w.heap.size w' e k enc v' (l++O)/\Below w.heap.size w w':=λv' w' h3 h4=>by
  refine⟨?_,⟨h4.os,h4.tape,h4.output,h4.size,λb hb=>h4.block b hb (by simp)⟩⟩;unfold dz;rw[ay,bT];exact h3
 rw[e2,am];by_cases hl:0<l.length
 .obtain⟨b,off,e1,_,ao⟩:=h0.news hk hl
  rw[e1];obtain⟨v',w',U,h3,h4⟩:=run_append_arg_grows (P:=P) (w:=w) t ty e i z k bytes ht hi hz ap hby aq an ⟨b,off,none⟩ l.length l.length (l.flatMap enc) (kL hk l) ao ⟨b2,ad,none⟩ O.length sp.df (O.flatMap enc) (kL hk O) V (by omega) (by simp only[maxLen];omega) D;exact⟨v',w',U,al v' w' h3 h4⟩
 .obtain rfl:l=[]:=gX (by omega)
  cases hat:s0.dO with
  |none =>
   obtain⟨v',w',U,h3,h4,_⟩:=run_append_own (P:=P) (w:=w) w.heap.size t ty e i z k bytes ht hi hz ap hby aq an (.slice none 0 0) 0 [] (World.ownsRow_nil w _ e k) ⟨b2,ad,none⟩ O.length sp.df (O.flatMap enc) (kL hk O) V (sD h1 O) (by simp only[maxLen];simp at ab;omega) (by simpa using D) (af _);exact⟨v',w',U,al v' w' (by simpa using h3) h4⟩
  |some b =>
   obtain⟨v',w',U,h3,h4⟩:=run_append_arg_grows (P:=P) (w:=w) t ty e i z k bytes ht hi hz ap hby aq an b 0 0 [] (by simp) (λj u h=>by simp at h) ⟨b2,ad,none⟩ O.length sp.df (O.flatMap enc) (kL hk O) V (by omega) (by simp only[maxLen];simp at ab;omega) (by simpa using D);exact⟨v',w',U,al v' w' (by simpa using h3) h4⟩
theorem yO{ops:Array Oper}{rest:List Oper}{o:Oper}{a:Act}{Q:Exit->Act->World->Prop}(ab:o.guard=none)(s x:Operand)(t:TypeId)
  (ho:o.op=.call { callee:=.builtin .append,args:=#[s,x],argTypes:=#[t,t] }) {e:TypeId}(hE:sN P t e k) (hk:∀x,(enc x).length=k) (h1:∀x:α,∀u∈enc x,u.oneCell'=true) {n0:Nat}(s0:Sp) (l:List α) (hs:a.eval s=.slice s0.dO l.length s0.df) (h0:RowOf n0 w s0 k enc l) (D:s0.df=l.length)
  {n:Nat}(sp:Sp) (V:List α) (hx:a.eval x=.slice sp.dO V.length sp.df) (hr:RowOf n w sp k enc V) (h2:0<V.length) (O:l.length+V.length<=1000000)
  (h:∀v' w',dz w.heap.size w' e k enc v' (l++V)->Below w.heap.size w w'->wpList P ops Q rest (a.put o.dst v') w'):wpList P ops Q (o::rest) a w :=
 wpList_plain ab λ_ hK=>by
  obtain⟨v',w',U,h3,h4⟩:=Cf (P:=P) (ty:=o.type) hE hk h1 h0 D hr h2 O;unfold Oper.wp execOp;simp only[ho,resolve,invoke,builtin,Sem.run_bind,Sem.run_pure,Result.andThen_ok,List.map_toArray,ax,dh,hs,hx,U];exact hK _ _ (h v' w' h3 h4)
end
end
end Go.Proofs.YtepacjkacjabbaaGreatDoor
