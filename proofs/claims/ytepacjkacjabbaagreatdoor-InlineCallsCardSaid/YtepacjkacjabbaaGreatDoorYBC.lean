import Derived.Test.YtepacjkacjabbaaGreatDoorYAZ
import Derived.Test.YtepacjkacjabbaaGreatDoorYAU
set_option linter.all false
set_option maxRecDepth 10000000
set_option maxHeartbeats 64000000
namespace Go.Proofs.YtepacjkacjabbaaGreatDoor
open Go Go.Maps Go.RowKit
theorem AX(s:ByteArray)(w:World):Calls Tryz.prog 33 #[.string s] w λo w'=>o=.returned (.agg #[.int .u8 2,.int .u8 0,.int .u32 0,.int .i64 0,.string s,.slice none 0 0])/\Below w.heap.size w w':=nz s w
theorem DT(x wd:Int)(w:World):Calls Tryz.prog 34 #[.int .u32 x,.int .i64 wd] w λo w'=>o=.returned (.agg #[.int .u8 1,.int .u8 0,.int .u32 x,.int .i64 wd,.string ⟨#[]⟩,.slice none 0 0])/\Below w.heap.size w w':=pG x wd w
theorem RJ{lo b:Nat}{W:World}{s:aa}(h:W.heap[b]?=some (.cells s.r 43))(hb:lo<=b):dz lo W 43 6 aa.cells (.slice (some ⟨b,0,none⟩) 1 1) [s] :=
 ⟨rfl,.inr ⟨b,1,_,rfl,hb,h,af _,by decide,rfl,rfl⟩⟩
structure Ub(lo n0 bb b7 pB b8:Nat)(p:aj)(w W3 W:World)(qv:bG)(rb:List aa):Prop where
 low3:Below w.heap.size w W3
 lo3:lo=W3.heap.size
 low:Below lo W3 W
 z4:W3.heap[n0]?=some (.cells ed.arr 35 (0,0))
 bx:Bx bb W3 p
 wo:oV bb (w.heap.size+1) W3 p
 ob:∀b,(Value.slice p.ws.dO p.eX.length p.ws.df).ownBlock=some b->b<bb
 q7:W3.heap[b7]?=some (.cells qv.r 54 (0,0))
 hq:gF qv=gF (qV p.aS)
 rq:tH lo (gP (bb+1) W3) qv
 ord:n0=w.heap.size/\n0+1<=bb/\bb<b7/\b7<lo/\lo<=pB/\pB<b8
 dr:W.heap[pB]?=some (.cells #[.string ⟨#[121]⟩,.int .i64 p.aS,.int .i64 0] 50 (0,0))
 own:∃A c cur,cur.map aJ=rb.map aJ/\Gd lo b8 2 54 #[.string bR,.slice (some ⟨pB,0,none⟩) 1 1,undef] A c cur W
theorem Gu{t:Array Value}{n:Nat}{v:Value}(h:t[n]?.getD undef=v):t.getD n undef=v:=by rw[<-h];simp[Array.getD_eq_getD_getElem?]
theorem AV{p:aj}{hasP:Bool}{D:Nat}{rs ws:Sp}{l:List bG}{O:List aa}(hl:l.map gF=(uP p hasP D).aA.map gF)(U:O.map aJ=(p.eX++qK D).map aJ):dx { ({ p with rs:=rs,aA:=l }:aj)with ws:=ws,eX:=O }=dx (uP p hasP D):=by
 have e:(uP p hasP D).eX=p.eX++qK D:=rfl;rw[<-e]at U;unfold dx;simp only[hl,U]
 rfl
theorem zZ{W:World}{b:Nat}{t:TypeId}{fr:Nat × Nat}{D O U:Value}(h:W.heap[b]?=some (.cells #[D,O,U] t fr)):W.cell? ⟨b,0,none⟩=some D/\W.cell? ⟨b,1,none⟩=some O/\W.cell? ⟨b,2,none⟩=some U:=by
 simp[World.cell?,h]
theorem Ub.more{lo n0 bb b7 pB O:Nat}{p:aj}{w W3 W W':World}{qv:bG}{rb:List aa}(h:Ub lo n0 bb b7 pB O p w W3 W qv rb){A:Option Addr}{c:Nat}{cur:List aa}(U:cur.map aJ=rb.map aJ)(hO:Gd lo O 2 54 #[.string bR,.slice (some ⟨pB,0,none⟩) 1 1,undef] A c cur W)(hk:EK O (Value.slice A cur.length c).ownBlock W W')
  {A':Option Addr}{c':Nat}{s t:aa}(hs:aJ s=aJ t) (V:Gd lo O 2 54 #[.string bR,.slice (some ⟨pB,0,none⟩) 1 1,undef] A' c' (cur++[s]) W'):Ub lo n0 bb b7 pB O p w W3 W' qv (rb++[t]):=by
 obtain⟨_,_,_,_,o5,o6⟩:=h.ord;have D:∀b,(Value.slice A cur.length c).ownBlock=some b->lo<=b/\∃cs fr,W.heap[b]?=some (.cells cs 43 fr):=λb hb=>hO.own.iO hb
 have ab:lo<=W.heap.size:=by have:=h.low.size;rw[h.lo3];exact this
 refine⟨h.low3,h.lo3,h.low.trans (hk.below (by omega) (λb hb=>(D b hb).1) ab),h.z4,h.bx,h.wo,h.ob,h.q7,h.hq,h.rq,h.ord,(hk.block _ (dM h.dr).1 (by omega) λe=>?_).trans h.dr,A',c',cur++[s],?_,V⟩
 .obtain⟨_,cs,fr,hh⟩:=D _ e
  rw[h.dr]at hh;cases hh
 .rw[aO,aO,U,ax,ax,hs]
theorem KY(w:World)(lv:Sp)(len:Nat)(ls:List Int)(U:Nat)(d4:U<=255)(d6:ls.length=min len 200)(d7:len<=maxLen)(d2:len<=lv.df)(hcm:lv.df<=maxLen)(hr:RowOf w.heap.size w lv 1 encU ls)(hb:∀x∈ls,0<=x/\x<=255) :
  Calls Tryz.prog 15 #[.slice lv.dO len lv.df,.int .u8 U] w λo w'=>∃(p0 p:aj) (M:jr) (hasP:Bool),o=.returned (.agg p.arr)/\xW M hasP p0/\M.N=std/\dx p=dx (uP p0 hasP U)/\jT w'.heap.size w' p/\Below w.heap.size w w':=by
 have cP:=jc w (.cells ed.arr 35);have f4:=gM w (.cells ed.arr 35);have b9:(w.alloc (.cells ed.arr 35)).heap.size=w.heap.size+1:=by simp
 have eS:=ae (PS (w.alloc (.cells ed.arr 35)) lv len ls d6 d7 d2 hcm ((hr.below cP).more cP.size) hb);have eC:=ae cP;have fm:=ae f4;have fi:=ae b9;have eN:=ae d4;clear d6 d7 d2 hcm hr hb cP f4 b9 d4;go_enter Tryz.func15,Tryz.ntmps15
 go_upto_region 1 with (first|(refine dY (t:=35) rfl rfl (jQ _) ?_)|fail)
 generalize w.alloc (.cells ed.arr 35)=w1 at *;go_wp2_with fail
 refine eS.o.mono ?_;rintro o w2 ⟨p,M,hasP,rfl,hM,hN,fE,fs,e6⟩;have HM:=ae hM;have HN:=ae hN;have ei:=ae fs;have ev:=ae e6;have cJ:Hid (p.aA.length=if hasP=true then 1 else 0):=ae (by
  have h:=hM.aA;cases hasP with
  |true=>obtain⟨q,e,_⟩:=h;rw[e];rfl
  |false=>rw[show p.aA=[] from h];rfl)
 have ct:Hid ((Lit.int .i64 p.aS).wf=true):=ae e6.rest.aS;clear hM hN fE fs e6 eS;obtain⟨wz,cX⟩:∃wz,wz=w2.alloc (.cells ed.arr 35):=⟨_,rfl⟩;have fx:Below w2.heap.size w2 wz:=by rw[cX];exact(ag _ _).alloc (af _) _
 have hZ:wz.heap[w2.heap.size]?=some (.cells ed.arr 35 (0,0)):=by rw[cX];exact gM _ _
 have HZ:=ae hZ;have eI:=ae fx;have ew:=ae cX;have cx:=dZ p;clear fx hZ cX;obtain⟨bo,cw⟩:∃bo,bo=p.arr:=⟨_,rfl⟩;have cc:=ae cw;rw[<-cw]at cx ⊢;clear cw;go_upto_region 2 with (first
  |(refine dY (t:=35) rfl rfl (jQ _) ?_;rw[<-ew.o])
  |(refine aK rfl 35 _ _ rfl w2.heap.size bo (by rfl) (by rfl) 35 ed.arr HZ.o cx (by rw[cc.o];kernel_rfl) (by rw[cc.o];exact lX p) ?_)
  |fail)
 have e7:Bx w2.heap.size (wz.setRow w2.heap.size bo) p:=by unfold Bx;rw[<-cc.o];exact bM _ _ _ _ _ _ HZ.o
 have ft:Below w2.heap.size w2 (wz.setRow w2.heap.size bo):=below_setRow eI.o (af _);have bw:(wz.setRow w2.heap.size bo).heap.size=w2.heap.size+1:=by rw[eP,ew.o];simp
 generalize wz.setRow w2.heap.size bo=w3 at *;have fk:=ae e7;have eE:=ae ft;have fj:=ae bw;have c1:=e7.cell 1 rfl;clear e7 ft bw HZ eI ew;go_upto_region 3 with fail
 clear c1;go_wp2_with fail
 have fv:=jc w3 (.cells #[.string ⟨#[121]⟩,.int .i64 p.aS,.int .i64 0,.string ⟨#[122]⟩,.int .i64 1,.int .i64 0] 50);have f3:=sG (enc:=bO.cells) (x:=⟨bY,p.aS,0⟩) (y:=⟨bZ,1,0⟩) (k:=3) (lo:=w3.heap.size) rfl (gM w3 (.cells #[.string ⟨#[121]⟩,.int .i64 p.aS,.int .i64 0,.string ⟨#[122]⟩,.int .i64 1,.int .i64 0] 50)) (af _);generalize w3.alloc (.cells #[.string ⟨#[121]⟩,.int .i64 p.aS,.int .i64 0,.string ⟨#[122]⟩,.int .i64 1,.int .i64 0] 50)=w4 at *;have ej:=ae fv;have fa:=ae f3;clear fv f3;refine(AX bZ w4).mono ?_;rintro o w5 ⟨rfl,cQ⟩;have em:=ae (ej.o.trans (cQ.mono ej.o.size));have fb:=ae ((fa.o.cells (qE cQ)).more cQ.size);clear cQ ej fa;go_wp2_with fail
 refine(AX bY w5).mono ?_;rintro o w6 ⟨rfl,cR⟩;have en:=ae (em.o.trans (cR.mono em.o.size));have fc:=ae ((fb.o.cells (qE cR)).more cR.size);clear cR em fb;go_wp2_with fail
 refine(DT 1 p.aS w6).mono ?_;rintro o w7 ⟨rfl,cS⟩;have cH:=ae (en.o.trans (cS.mono en.o.size));have fd:=ae ((fc.o.cells (qE cS)).more cS.size);clear cS en fc;go_wp2_with fail
 refine(Ig 3 (by decide) (aZ bY) (cO 1 p.aS) w7 w3.heap.size cH.o.size (ql _ _ bY (by decide)) (ui _ _ 1 p.aS (by decide) ct.o)).mono ?_;rintro o w8 ⟨sb,rfl,e8,cT⟩;obtain⟨eb,ez⟩:∃eb,eb=rU 3 (aZ bY) (cO 1 p.aS) sb:=⟨_,rfl⟩;rw[<-ez]at e8 ⊢;have eM:=ae ez;have fl:=ae e8;have cI:=ae (cH.o.trans (cT.mono cH.o.size));have ff:=ae ((fd.o.cells (qE cT)).more cT.size);clear cT cH fd e8 ez;go_wp2_with fail
 refine(LH (aZ bZ) eb w8 w3.heap.size cI.o.size (ql _ _ bZ (by decide)) fl.o).mono ?_;rintro o w9 ⟨sw,rfl,e4,cU⟩;obtain⟨s1,b9⟩:∃s1,s1=fw sw (aZ bZ) eb:=⟨_,rfl⟩;rw[<-b9]at e4 ⊢;have eJ:Hid (aJ s1=aJ (fw Sp.none (aZ bZ) (rU 3 (aZ bY) (cO 1 p.aS) Sp.none))):=ae (by
  rw[b9,eM.o];unfold fw;rw[dS,dS]
  rfl)
 have O:=ae e4;have eo:=ae (cI.o.trans (cU.mono cI.o.size));have fg:=ae ((ff.o.cells (qE cU)).more cU.size);clear cU cI ff fl e4 b9;go_wp2_with fail
 refine(DT 0 p.aS w9).mono ?_;rintro o ca ⟨rfl,ao⟩;have dj:=ae (O.o.below ao);have al:=ae (eo.o.trans (ao.mono eo.o.size));have db:=ae ((fg.o.cells (qE ao)).more ao.size);clear ao eo fg O;go_wp2_with fail
 refine(Qz bY (by decide) (cO 0 p.aS) ca w3.heap.size al.o.size (ui _ _ 0 p.aS (by decide) ct.o)).mono ?_;rintro o an ⟨ss,rfl,cD,ab⟩;obtain⟨s2,e2⟩:∃s2,s2=ji ss bY (cO 0 p.aS):=⟨_,rfl⟩;rw[<-e2]at cD ⊢;have eK:Hid (aJ s2=aJ (ji Sp.none bY (cO 0 p.aS))):=ae (by
  rw[e2];unfold ji;rw[dS,dS])
 have dn:=ae cD;have dk:=ae (dj.o.below ab);have aq:=ae (al.o.trans (ab.mono al.o.size));have dc:=ae ((db.o.cells (qE ab)).more ab.size);clear ab al db dj cD e2;simp only[aa.val,Sp.val];go_upto_region 4 with fail
 obtain⟨dv,dt,eh,aw⟩:=pX an (.cells #[.int .u8 s1.bI,.string s1.aT,.slice s1.es.dO s1.bf.length s1.es.df,.int .i64 s1.gT,.slice s1.ts.dO s1.gy.length s1.ts.df,.slice s1.os.dO s1.iD.length s1.os.df,.int .u8 s2.bI,.string s2.aT,.slice s2.es.dO s2.bf.length s2.es.df,.int .i64 s2.gT,.slice s2.ts.dO s2.gy.length s2.ts.df,.slice s2.os.dO s2.iD.length s2.os.df] 43) (.cells #[.string ⟨#[113]⟩,.slice (some ⟨w3.heap.size,0,none⟩) 2 2,.slice (some ⟨an.heap.size,0,none⟩) 2 2] 54);generalize (an.alloc (.cells #[.int .u8 s1.bI,.string s1.aT,.slice s1.es.dO s1.bf.length s1.es.df,.int .i64 s1.gT,.slice s1.ts.dO s1.gy.length s1.ts.df,.slice s1.os.dO s1.iD.length s1.os.df,.int .u8 s2.bI,.string s2.aT,.slice s2.es.dO s2.bf.length s2.es.df,.int .i64 s2.gT,.slice s2.ts.dO s2.gy.length s2.ts.df,.slice s2.os.dO s2.iD.length s2.os.df] 43)).alloc (.cells #[.string ⟨#[113]⟩,.slice (some ⟨w3.heap.size,0,none⟩) 2 2,.slice (some ⟨an.heap.size,0,none⟩) 2 2] 54)=V at *;obtain⟨D,f2⟩:∃D:bG,D=⟨bQ,⟨some ⟨w3.heap.size,0,none⟩,2⟩,[⟨bY,p.aS,0⟩,⟨bZ,1,0⟩],⟨some ⟨an.heap.size,0,none⟩,2⟩,[s1,s2]⟩:=⟨_,rfl⟩;have dg:=ae dv;have da:=ae dt;have dq:=ae eh;have eA:=ae aw;have cN:=ae f2;have d5:Below w3.heap.size w3 V:=aq.o.trans (aw.mono aq.o.size);have co:=ae d5;have dd:=ae ((dc.o.cells (qE aw)).more aw.size);have cq:=ae (And.intro (dk.o.below aw) (dn.o.below aw));have ef:=aq.o.size;clear dv dt eh aw f2 d5 aq dc dk dn;go_wp2_with fail
 have d1:=jc V (.cells #[.string ⟨#[121]⟩,.int .i64 p.aS,.int .i64 0] 50);have d3:=gM V (.cells #[.string ⟨#[121]⟩,.int .i64 p.aS,.int .i64 0] 50);generalize V.alloc (.cells #[.string ⟨#[121]⟩,.int .i64 p.aS,.int .i64 0] 50)=cb at *;have cd:=ae d1;have ck:=ae d3;clear d1 d3;refine(AX bY cb).mono ?_;rintro o cF ⟨rfl,cy⟩;have ce:=ae (cd.o.trans (cy.mono cd.o.size));have cl:=ae ((cy.block _ (dM ck.o).1).trans ck.o);clear cy cd ck;go_wp2_with fail
 refine(DT 0 1 cF).mono ?_;rintro o cG ⟨rfl,c0⟩;have b0:=ae (ce.o.trans (c0.mono ce.o.size));have b1:=ae ((c0.block _ (dM cl.o).1).trans cl.o);clear c0 ce cl;go_wp2_with fail
 have b2:=jc cG (.cells #[.int .u8 2,.int .u8 0,.int .u32 0,.int .i64 0,.string bY,.slice none 0 0,.int .u8 1,.int .u8 0,.int .u32 0,.int .i64 1,.string ⟨#[]⟩,.slice none 0 0] 30);have dT:=sG (enc:=ah.cells) (x:=aZ bY) (y:=cO 0 1) (k:=6) (lo:=V.heap.size) rfl (gM cG (.cells #[.int .u8 2,.int .u8 0,.int .u32 0,.int .i64 0,.string bY,.slice none 0 0,.int .u8 1,.int .u8 0,.int .u32 0,.int .i64 1,.string ⟨#[]⟩,.slice none 0 0] 30)) b0.o.size;generalize cG.alloc (.cells #[.int .u8 2,.int .u8 0,.int .u32 0,.int .i64 0,.string bY,.slice none 0 0,.int .u8 1,.int .u8 0,.int .u32 0,.int .i64 1,.string ⟨#[]⟩,.slice none 0 0] 30)=f6 at *;refine(pY bQ ⟨some ⟨cG.heap.size,0,none⟩,2⟩ [aZ bY,cO 0 1] f6).mono ?_;rintro o ba ⟨rfl,b3⟩;obtain⟨s3,bw⟩:∃s3,s3=dN ⟨some ⟨cG.heap.size,0,none⟩,2⟩ bQ [aZ bY,cO 0 1]:=⟨_,rfl⟩;rw[<-bw];have eL:Hid (aJ s3=aJ RP):=ae (by rw[bw];exact rP _ _ _);have eg:nk V.heap.size ba s3:=by
  rw[bw];refine(tN (by decide) dT λx hx=>?_).below b3;simp only[bE,bu,or_false]at hx;rcases hx with rfl|rfl
  .exact ql _ _ bY (by decide)
  .exact ui _ _ 0 1 (by decide) (by decide)
 have br:Below V.heap.size V f6:=b0.o.trans (b2.mono b0.o.size);have cf:=ae (br.trans (b3.mono br.size));have cm:=ae ((b3.block _ (aI (dM b1.o).1 b2.size)).trans ((b2.block _ (dM b1.o).1).trans b1.o));have dl:=ae eg;clear b2 dT b3 eg br b0 b1 bw;simp only[aa.val,Sp.val];go_upto_region 5 with fail
 obtain⟨dy,du,f5,bh⟩:=pX ba (.cells s3.r 43) (.cells #[.string ⟨#[114]⟩,.slice (some ⟨V.heap.size,0,none⟩) 1 1,.slice (some ⟨ba.heap.size,0,none⟩) 1 1] 54);generalize (ba.alloc (.cells s3.r 43)).alloc (.cells #[.string ⟨#[114]⟩,.slice (some ⟨V.heap.size,0,none⟩) 1 1,.slice (some ⟨ba.heap.size,0,none⟩) 1 1] 54)=e9 at *;have bt:=cf.o.size;have HT:Hid (Ub V.heap.size w.heap.size w2.heap.size (an.heap.size+1) V.heap.size (ba.heap.size+1) p w V e9 D [RP]):=ae (by
  have e1:=fi.o;have e3:=fj.o;have fR:=dq.o;have k0:=ei.o.size;have cA:Below w2.heap.size w2 V:=eE.o.trans (co.o.mono (by omega));have c8:Below w1.heap.size w1 V:=ei.o.trans (cA.mono k0);refine⟨eC.o.trans (c8.mono (by omega)),rfl,cf.o.trans (bh.mono bt),(c8.block _ (by omega)).trans fm.o,((co.o.block _ (by omega)).trans fk.out:V.heap[w2.heap.size]?=_),?_,?_,?_,?_,?_,⟨rfl,by omega,by omega,by omega,af _,by omega⟩,(bh.block _ (dM cm.o).1).trans cm.o,?_⟩
  .have:=ev.o.below (af _) cA
   rwa [e1]at this
  .exact ev.o.own.iP
  .rw[cN.o];exact da.o
  .rw[cN.o]
   unfold gF qV TW;simp only[ax,dh,eJ.o,eK.o]
  .rw[cN.o,<-e3]
   refine⟨(by decide:bQ.size<=maxLen),⟨dd.o,λd hd=>?_⟩,⟨sG (enc:=aa.cells) (x:=s1) (y:=s2) rfl dg.o ef,λt ht=>?_⟩⟩
   .have hd:d=⟨bY,p.aS,0⟩\/d=⟨bZ,1,0⟩:=by simpa using hd
    rcases hd with rfl|rfl
    .exact⟨(by decide:bY.size<=maxLen),ct.o,rfl⟩
    .exact⟨by decide,by decide,by decide⟩
   .have ht:t=s1\/t=s2:=by simpa using ht
    rcases ht with rfl|rfl
    .exact cq.o.1
    .exact cq.o.2
  .refine⟨some ⟨ba.heap.size,0,none⟩,1,[s3],by rw[ax,ax,eL.o],by decide,du,RJ dy bt,λs hs=>?_⟩
   rw[List.mem_singleton.1 hs];refine(lV.cells dl.o λa u ha hc=>?_).more bh.size;obtain⟨h1,h2⟩:=bJ.1 hc;refine qW.2 ⟨h1,λe=>?_,by omega,(bh.cell ha).trans h2⟩;have:ba.heap.size=a.block:=iL e;omega)
 clear dy du f5 bh bt dg da dq eA cN co dd cq cf cm dl fk eE fj ev ei eC fm fi eJ eK eL eM;obtain⟨lo,c7⟩:∃lo,lo=V.heap.size:=⟨_,rfl⟩;obtain⟨bb,c5⟩:∃bb,bb=w2.heap.size:=⟨_,rfl⟩;obtain⟨b7,c3⟩:∃b7,b7=an.heap.size+1:=⟨_,rfl⟩;obtain⟨b8,c4⟩:∃b8,b8=ba.heap.size+1:=⟨_,rfl⟩;have fN:=ae c7;rw[<-c7,<-c5,<-c3,<-c4]at HT;rw[<-c5,<-c3,<-c4];clear c7 c5 c3 c4 ef;have aE:e9.cell? ⟨bb,13,none⟩=some (.slice p.rs.dO p.aA.length p.rs.df):=by
  have h:=HT.o.bx.on (w':=e9) (HT.o.lo3 ▸ HT.o.low);exact h.cell 13 rfl
 go_upto_if 40 with fail
 clear aE
 go_cut[] (λwx=>Ub lo w.heap.size bb b7 lo b8 p w V wx D (RP::(if hasP=true then[QW] else[])))
 case first =>
  have a7:=cJ.o;by_cases hP:hasP=true
  .rw[if_pos hP]at a7
   have hd:∀i:Decidable (0<p.aA.length),@decide _ i=true:=λi=>aC (by omega)
   simp only[hd];have HP:=ae hP;clear hP a7;clear hd;go_upto_region 6 with fail
   obtain⟨A,c,cur,am,hO⟩:=HT.o.own;refine dK ?_ (kD (C':=.region 6 opsH6 true) (by kernel_rfl) (Us rfl lo b8 c 54 _ A cur rfl (by simp) (by have:=HT.o.low.size;rw[HT.o.lo3];exact this) hO (by have:=congrArg List.length am;simp at this;omega)));rintro ex a9 w9 ⟨rfl,ad,a3,a6,a5,A',c',s,a8,a1,-⟩;obtain⟨F,hF,a4⟩:=nu ad a3 a6 rfl [41,42,43,44,45,46,47,48] rfl;rw[a4];simp only[Oz,OA,OB,Oy,OC];clear hF a4 a6 ad a3;have O:=ae (HT.o.more am hO a5 a8 a1);clear a5 a8 a1 am hO;go_wp2_with fail
   go_meet
   rw[if_pos HP.o];exact O.o
  .rw[if_neg hP]at a7
   have hd:∀i:Decidable (0<p.aA.length),@decide _ i=false:=λi=>az (by omega)
   simp only[hd];clear hd;have HP:=ae hP;clear hP a7;go_wp2_with fail
   go_meet
   rw[if_neg HP.o];exact HT.o
 case rest =>
  have cr:=ae hcut;clear hcut HT;go_upto_region 7 with fail
  obtain⟨A,c,cur,am,hO⟩:=cr.o.own;refine dK ?_ (kD (C':=.region 7 opsH7 true) (by kernel_rfl) (Ut rfl lo b8 c 54 _ A cur p.aS ct.o rfl rfl (by simp) (by have:=cr.o.low.size;rw[cr.o.lo3];exact this) hO (by have:=congrArg List.length am;cases hasP<;>simp at this<;>omega)));rintro ex a9 w9 ⟨rfl,ad,a3,a6,a5,A',c',s,a8,a1,-⟩;obtain⟨F,hF,a4⟩:=nu ad a3 a6 rfl [49,50,51,52,53,54,55,56,57,58,59,60,61,62] rfl;rw[a4];simp only[Oz,OA,OB,Oy,OC];clear hF a4 a6 ad a3;have O:=ae (cr.o.more am hO a5 a8 a1);clear a5 a8 a1 am hO cr;go_upto_region 8 with fail
  obtain⟨A,c,cur,am,hO⟩:=O.o.own;obtain⟨o1,o2,o3,o4,o5,o6⟩:=O.o.ord;have f0:lo<=w9.heap.size:=by have:=O.o.low.size;rw[O.o.lo3];exact this
  have c6:Bx bb w9 p:=O.o.bx.on (O.o.lo3 ▸ O.o.low);have k8:w9.heap[b8]?=some (.cells #[.string bR,.slice (some ⟨lo,0,none⟩) 1 1,.slice A cur.length c] 54 (0,0)):=hO.box;have k7:w9.heap[b7]?=some (.cells D.r 54 (0,0)):=(O.o.low.block b7 (by omega)).trans O.o.q7;obtain⟨r0,r1,r2⟩:=zZ k8;obtain⟨q0,q1,q2⟩:=zZ k7;have aE:w9.cell? ⟨bb,13,none⟩=some (.slice p.rs.dO p.aA.length p.rs.df):=c6.cell 13 rfl;have f7:=(dM k8).1;obtain⟨rv,e0⟩:∃rv:bG,rv=⟨bR,⟨some ⟨lo,0,none⟩,1⟩,[⟨bY,p.aS,0⟩],⟨A,c⟩,cur⟩:=⟨_,rfl⟩;have ao:=jc w9 (.cells #[.string bR,.slice (some ⟨lo,0,none⟩) 1 1,.slice A cur.length c,.string D.aT,.slice D.ps.dO D.bC.length D.ps.df,.slice D.bs.dO D.eY.length D.bs.df] 54);have d8:RowOf (w9.alloc (.cells #[.string bR,.slice (some ⟨lo,0,none⟩) 1 1,.slice A cur.length c,.string D.aT,.slice D.ps.dO D.bC.length D.ps.df,.slice D.bs.dO D.eY.length D.bs.df] 54)).heap.size (w9.alloc (.cells #[.string bR,.slice (some ⟨lo,0,none⟩) 1 1,.slice A cur.length c,.string D.aT,.slice D.ps.dO D.bC.length D.ps.df,.slice D.bs.dO D.eY.length D.bs.df] 54)) ⟨some ⟨w9.heap.size,0,none⟩,2⟩ 3 bG.cells [rv,D]:=by
   have h:=gM w9 (.cells #[.string bR,.slice (some ⟨lo,0,none⟩) 1 1,.slice A cur.length c,.string D.aT,.slice D.ps.dO D.bC.length D.ps.df,.slice D.bs.dO D.eY.length D.bs.df] 54);rw[e0];exact pM (enc:=bG.cells) (x:=⟨bR,⟨some ⟨lo,0,none⟩,1⟩,[⟨bY,p.aS,0⟩],⟨A,c⟩,cur⟩) (y:=D) rfl h
  have de:=ae d8;have al:=ae ao;have er:=ae e0;have cj:=ae am;have ep:=ae hO;have fh:Hid (RowOf bb (w9.alloc (.cells #[.string bR,.slice (some ⟨lo,0,none⟩) 1 1,.slice A cur.length c,.string D.aT,.slice D.ps.dO D.bC.length D.ps.df,.slice D.bs.dO D.eY.length D.bs.df] 54)) p.rs 3 bG.cells p.aA):=ae (O.o.wo.rest.prow.cells λa u ha hc=>by
   obtain⟨_,_,h3⟩:=iJ.1 hc;exact(ao.cell (by omega)).trans ((O.o.low.cell (by omega)).trans h3))
  have cn:=ae O.o.wo.full;have cY:=ae c6;have eV:=ae (And.intro (And.intro o1 (And.intro o2 o3)) (And.intro o4 (And.intro f0 f7)));clear e0 ao d8 k8 k7 am hO c6 o1 o2 o3 o4 o5 o6;go_wp2_with(first
   |(at_builtin;refine yO rfl (.tmp 64) (.tmp 67) 32 rfl Un (λ_=>rfl) I9 p.rs p.aA rfl fh.o cn.o ⟨some ⟨w9.heap.size,0,none⟩,2⟩ [rv,D] rfl de.o (by simp) (by have:=cJ.o;simp;split at this<;>omega) ?_)
   |fail)
  clear r0 r1 r2 q0 q1 q2 aE;have ee:(w9.alloc (.cells #[.string bR,.slice (some ⟨lo,0,none⟩) 1 1,.slice A cur.length c,.string D.aT,.slice D.ps.dO D.bC.length D.ps.df,.slice D.bs.dO D.eY.length D.bs.df] 54)).heap.size=w9.heap.size+1:=by simp
  generalize w9.alloc (.cells #[.string bR,.slice (some ⟨lo,0,none⟩) 1 1,.slice A cur.length c,.string D.aT,.slice D.ps.dO D.bC.length D.ps.df,.slice D.bs.dO D.eY.length D.bs.df] 54)=ca at *;intro v' an b5 ab;rw[<-ee]at b5 ab;clear ee;obtain⟨A2,c2,rfl⟩:=b5.form;have b6:Bx bb an p:=(cY.o.on al.o).on ab;have aE:=b6.cell 13 rfl;have f13:=b6.free 13;have dp:=ae b6;have eR:=ae (And.intro al.o.size ab.size);have aq:=ae (al.o.trans (ab.mono al.o.size));have eW:=ae b5;clear b6 b5 ab fh de cn cY al;go_upto_region 9 with fail
  clear aE f13;have HU:Hid (OU ca.heap.size bb p w (an.setCell ⟨bb,13,none⟩ (.slice A2 (p.aA.length+2) c2)) A2 c2 (p.aA++[rv,D])):=ae (by
   obtain⟨⟨_,o2,o3⟩,o4,_,_⟩:=eV.o;obtain⟨l1,l2⟩:=eR.o;have fL:(an.setCell ⟨bb,13,none⟩ (.slice A2 (p.aA.length+2) c2)).heap.size=an.heap.size:=by simp
   have b4:∀b,b<lo->w9.heap[b]?=V.heap[b]? := λb hb=>O.o.low.block b hb
   have bj:∀b,b<w9.heap.size->b≠bb->(an.setCell ⟨bb,13,none⟩ (.slice A2 (p.aA.length+2) c2)).heap[b]?=w9.heap[b]? := λb hb hn=>(aN _ _ _ _ hn).trans (aq.o.block b hb)
   have cC:Below w.heap.size w w9:=O.o.low3.trans (O.o.low.mono (by omega));have cV:=O.o.ob;have e5:∀(a:Addr) (u:Value),a.block<w9.heap.size->(gP lo w9).cell? a=some u->(gP (w.heap.size+1) (jZ (Value.slice p.ws.dO p.eX.length p.ws.df).ownBlock (mask bb (an.setCell ⟨bb,13,none⟩ (.slice A2 (p.aA.length+2) c2))))).cell? a=some u:=λa u ha hc=>by
    obtain⟨h1,h2⟩:=bJ.1 hc;exact qW.2 ⟨by omega,λe=>by have:=cV _ e;omega,by omega,(aM (bj _ ha (by omega))).trans h2⟩
   refine⟨(cC.trans (aq.o.mono cC.size)).setCell (p:=⟨bb,13,none⟩) (by show w.heap.size<=bb;omega) _,⟨by omega,by omega,by rw[fL];exact l2⟩,(bj _ (by omega) (by omega)).trans ((b4 _ (by omega)).trans O.o.z4),dp.o.put 13 _ (by simp[aj.arr,aj.cells,Sp.val]),O.o.wo.move cV λb hb=>(bj b (by omega) (by omega)).trans (b4 b (by omega)),cV,eW.o.kept λg _ _ hg _=>aN _ _ _ _ (by show g≠bb;omega),λx hx=>?_⟩;rcases List.mem_append.1 hx with hx|hx
   .refine((O.o.wo.rest.aA x hx).cellsU λa u ha hc=>?_).moreU (show bb<=ca.heap.size by omega)
    obtain⟨h1,h2,h3⟩:=iJ.1 hc;exact qW.2 ⟨h1,h2,by omega,(aM ((bj _ (by omega) (by omega)).trans (b4 _ (by omega)))).trans h3⟩
   .have hx:x=rv\/x=D:=by simpa using hx
    rcases hx with rfl|rfl
    .rw[er.o]
     refine tH.moreU (n:=w9.heap.size) ⟨(by decide:bR.size<=maxLen),⟨(om (enc:=bO.cells) (x:=⟨bY,p.aS,0⟩) (lo:=lo) O.o.dr (af _)).cells e5,λd hd=>?_⟩,⟨(ep.o.own.low (B2:=lo) (λ_=>rfl) (by have:=congrArg List.length cj.o;cases hasP<;>simp at this<;>omega) (af _)).cells e5,λs hs=>lV.cells (ep.o.el s hs) λa u ha hc=>?_⟩⟩ l1
     .have hd:d=⟨bY,p.aS,0⟩:=by simpa using hd
      rw[hd];exact⟨(by decide:bY.size<=maxLen),ct.o,rfl⟩
     .obtain⟨h1,_,_,h4⟩:=qW.1 hc
      exact e5 a u ha (bJ.2 ⟨h1,h4⟩)
    .refine(O.o.rq.cellsU λa u ha hc=>?_).moreU (show lo<=ca.heap.size by omega)
     obtain⟨h1,h2⟩:=bJ.1 hc;exact qW.2 ⟨by omega,λe=>by have:=cV _ e;omega,by omega,(aM ((bj _ (by omega) (by omega)).trans (b4 _ ha))).trans h2⟩)
  have eq:Hid (gF rv=gF (rV p.aS hasP)/\gF D=gF (qV p.aS)):=ae ⟨by
   rw[er.o];unfold gF rV;simp only[cj.o],O.o.hq⟩
  generalize an.setCell ⟨bb,13,none⟩ (.slice A2 (p.aA.length+2) c2)=cb at *;generalize ca.heap.size=cE at *;clear O aq eW dp eR eV ep cj er
  go_upto_if 72 with fail
  go_cut[] (λwx=>OU cE bb p w wx A2 c2 (if U % 2=1 then(p.aA++[rv,D]).reverse else p.aA++[rv,D]))
  case first =>
   by_cases cW:U % 2=1
   .have hd:((U:Int) % 2 == 1)=true:=by rw[fT];omega
    rw[hd];have cM:=ae cW;clear hd cW;obtain⟨g,hA,hg,fz,-⟩:=HU.o.row.cell (λ_=>rfl) (j:=0) (by simp);subst hA;have a7:=cJ.o;have ap:=HU.o.bx;by_cases hP:hasP=true
    .rw[if_pos hP]at a7
     obtain⟨x,hx⟩:∃x,p.aA=[x]:=List.length_eq_one_iff.1 a7;have aE:cb.cell? ⟨bb,13,none⟩=some (.slice (some ⟨g,0,none⟩) 3 c2):=by have h:=ap.cell 13 rfl;rw[hx]at h;exact h
     have ho:=HU.o.row;rw[hx]at ho;have bc:=ae (Qx cb cE g c2 x rv D ho);have HX:=ae hx;clear a7 ap hP hx ho hg fz;go_wp2_with fail
     refine bc.o.mono ?_;rintro o cF ⟨rfl,ho,hg⟩;have et:Hid (OU cE bb p w cF (some ⟨g,0,none⟩) c2 (p.aA++[rv,D]).reverse):=ae (HU.o.rev (by simp) (λx hx=>List.mem_reverse.1 hx) (by rw[HX.o];exact ho) hg);clear ho hg bc aE;go_wp2_with fail
     go_meet
     rw[if_pos cM.o];exact et.o
    .rw[if_neg hP]at a7
     obtain hx:p.aA=[]:=gX a7;have aE:cb.cell? ⟨bb,13,none⟩=some (.slice (some ⟨g,0,none⟩) 2 c2):=by have h:=ap.cell 13 rfl;rw[hx]at h;exact h
     have ho:=HU.o.row;rw[hx]at ho;have bc:=ae (Qw cb cE g c2 rv D ho);have HX:=ae hx;clear a7 ap hP hx ho hg fz;go_wp2_with fail
     refine bc.o.mono ?_;rintro o cF ⟨rfl,ho,hg⟩;have et:Hid (OU cE bb p w cF (some ⟨g,0,none⟩) c2 (p.aA++[rv,D]).reverse):=ae (HU.o.rev (by simp) (λx hx=>List.mem_reverse.1 hx) (by rw[HX.o];exact ho) hg);clear ho hg bc aE;go_wp2_with fail
     go_meet
     rw[if_pos cM.o];exact et.o
   .have hd:((U:Int) % 2 == 1)=false:=by rw[iA];omega
    rw[hd];have cM:=ae cW;clear hd cW;go_wp2_with fail
    go_meet
    rw[if_neg cM.o];exact HU.o
  case rest =>
   obtain⟨l,hl⟩:∃l,l=(if U % 2=1 then(p.aA++[rv,D]).reverse else p.aA++[rv,D]):=⟨_,rfl⟩;rw[<-hl]at hcut;have bd:=ae hcut;have HL:Hid (l.map gF=(uP p hasP U).aA.map gF/\l.length<=1000000):=ae ⟨by
    rw[hl];unfold uP
    split<;>simp[eq.o.1,eq.o.2],by
    have:=cJ.o;rw[hl]
    split at this<;>split<;>simp<;>omega⟩
   clear hcut hl HU eq;go_upto_region 12 with fail
   have f1:(U:Int) / 2 % 256 % 3=((U / 2 % 3:Nat):Int):=by
    have h1:U / 2 % 256=U / 2:=Nat.mod_eq_of_lt (by have:=eN.o;omega);have h2:((U / 2 % 256 % 3:Nat):Int)=(U:Int) / 2 % 256 % 3:=by simp
    rw[<-h2,h1]
   have cL:=ae f1;clear f1;by_cases h0:U / 2 % 3=0
   .have ey:((U:Int) / 2 % 256 % 3 == 0)=true:=by rw[cL.o,fT];omega
    have H0:=ae h0;clear h0;go_upto_region 13 with fail
    clear ey;refine dK ?_ (kD (C':=.region 13 opsH13 true) (by kernel_rfl) (Tz rfl (w.heap.size+1) bb p.ws.df 35 _ p.ws.dO p.eX rfl (by simp[aj.arr,aj.cells]) (by have:=bd.o.ord;omega) bd.o.eX (by have:=HM.o.lT;omega)));rintro ex a9 w9 ⟨rfl,ad,a3,a6,a5,A',c',s,a8,a1,-⟩;obtain⟨F,hF,a4⟩:=nu ad a3 a6 rfl [81,82,83,84,85,86,87,88] rfl;rw[a4];simp only[Oz,OA,OB,Oy,OC];clear hF a4 a6 ad a3;obtain⟨q,hq,ap,bm,ar,bk⟩:=bd.o.fin a5 a1 HL.o.2 (by have:=HM.o.lT;simp;omega);have ch:Hid (dx q=dx (uP p hasP U)):=ae (by
     rw[hq];refine AV HL.o.1 ?_;unfold qK;rw[if_pos H0.o];rw[aO,aO,ax,ax,a8])
    have ci:=ae ap;have be:=ae bm;have cg:=ae ar;have cp:=ae bk;clear hq ap bm ar bk a5 a1 a8;go_upto_region 16 with fail
    refine kD (C':=.region 16 opsH16 false) (by kernel_rfl) (Lc (by rfl) w.heap.size bb q (by rfl) (by rfl) ci.o be.o λfp bi cv=>?_)
    rename_i bl
    refine bl _ _ ?_;refine wp_ret ?_;exact aW (fn:=Tryz.f15) (aL rfl _ _ w.heap.size 35 _ (0,0) _ (Gu cv) (bM _ _ _ _ _ _ be.o) Tryz.underlying35 rfl (dZ _)) bi ⟨p,q,M,hasP,rfl,HM.o,HN.o,ch.o,cp.o,below_setRow cg.o (af _)⟩
   .have ey:((U:Int) / 2 % 256 % 3 == 0)=false:=by rw[cL.o,iA];omega
    have H0:=ae h0;clear h0;by_cases h1:U / 2 % 3=1
    .have fy:((U:Int) / 2 % 256 % 3 == 1)=true:=by rw[cL.o,fT];omega
     have H1:=ae h1;clear h1;go_upto_region 15 with fail
     clear ey fy;refine dK ?_ (kD (C':=.region 15 opsH15 true) (by kernel_rfl) (TA rfl (w.heap.size+1) bb p.ws.df 35 _ p.ws.dO p.eX rfl (by simp[aj.arr,aj.cells]) (by have:=bd.o.ord;omega) bd.o.eX (by have:=HM.o.lT;omega)));rintro ex a9 w9 ⟨rfl,ad,a3,a6,a5,A',c',s,a8,a1,-⟩;obtain⟨F,hF,a4⟩:=nu ad a3 a6 rfl [91,92,93,94,95,96,97,98,99] rfl;rw[a4];simp only[Oz,OA,OB,Oy,OC];clear hF a4 a6 ad a3;obtain⟨q,hq,ap,bm,ar,bk⟩:=bd.o.fin a5 a1 HL.o.2 (by have:=HM.o.lT;simp;omega);have ch:Hid (dx q=dx (uP p hasP U)):=ae (by
      rw[hq];refine AV HL.o.1 ?_;unfold qK;rw[if_neg H0.o,if_pos H1.o];rw[aO,aO,ax,ax,a8])
     have ci:=ae ap;have be:=ae bm;have cg:=ae ar;have cp:=ae bk;clear hq ap bm ar bk a5 a1 a8;go_upto_region 16 with fail
     refine kD (C':=.region 16 opsH16 false) (by kernel_rfl) (Lc (by rfl) w.heap.size bb q (by rfl) (by rfl) ci.o be.o λfp bi cv=>?_)
     rename_i bl
     refine bl _ _ ?_;refine wp_ret ?_;exact aW (fn:=Tryz.f15) (aL rfl _ _ w.heap.size 35 _ (0,0) _ (Gu cv) (bM _ _ _ _ _ _ be.o) Tryz.underlying35 rfl (dZ _)) bi ⟨p,q,M,hasP,rfl,HM.o,HN.o,ch.o,cp.o,below_setRow cg.o (af _)⟩
    .have fy:((U:Int) / 2 % 256 % 3 == 1)=false:=by rw[cL.o,iA];omega
     have H1:=ae h1;clear h1;obtain⟨q,hq,ap,bm,ar,bk⟩:=bd.o.fin (.of (ag _ _)) bd.o.eX HL.o.2 (by have:=HM.o.lT;omega);have ch:Hid (dx q=dx (uP p hasP U)):=ae (by
      rw[hq];refine AV HL.o.1 ?_;unfold qK;rw[if_neg H0.o,if_neg H1.o,aP])
     have ci:=ae ap;have be:=ae bm;have cg:=ae ar;have cp:=ae bk;clear hq ap bm ar bk;go_upto_region 16 with fail
     refine kD (C':=.region 16 opsH16 false) (by kernel_rfl) (Lc (by rfl) w.heap.size bb q (by rfl) (by rfl) ci.o be.o λfp bi cv=>?_)
     rename_i bl
     refine bl _ _ ?_;refine wp_ret ?_;exact aW (fn:=Tryz.f15) (aL rfl _ _ w.heap.size 35 _ (0,0) _ (Gu cv) (bM _ _ _ _ _ _ be.o) Tryz.underlying35 rfl (dZ _)) bi ⟨p,q,M,hasP,rfl,HM.o,HN.o,ch.o,cp.o,below_setRow cg.o (af _)⟩
end Go.Proofs.YtepacjkacjabbaaGreatDoor
