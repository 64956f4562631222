import Derived.Test.YtepacjkacjabbaaGreatDoorPAA
import Derived.Test.YtepacjkacjabbaaGreatDoorPAO
import Derived.Test.YtepacjkacjabbaaGreatDoorPAQ
import Derived.Test.YtepacjkacjabbaaGreatDoorPAS
import Derived.Test.YtepacjkacjabbaaGreatDoorPAR
import Derived.Test.YtepacjkacjabbaaGreatDoorPAP
namespace Go.Proofs.YtepacjkacjabbaaGreatDoor
section
open Go Go.RowKit Go.Maps
structure dD (W:World) (mb n:Nat) (l:List ByteArray) (f:ByteArray→Option Int):Prop where
 map:dn tY 9 W mb n (iT f)
 has:∀s,(f s).isSome=gQ l s
 few:∀s c,f s=some c→0≤c∧c≤n
theorem dD.of_block {W W':World} {mb n:Nat} {l:List ByteArray} {f:ByteArray→Option Int} (h:dD W mb n l f) (hb:W'.heap[mb]? = W.heap[mb]?):dD W' mb n l f:=⟨h.map.of_block hb,h.has,h.few⟩
theorem dD.new {W W':World} {mb n:Nat} {l:List ByteArray} {f:ByteArray→Option Int} (h:dD W mb n l f) (hb:Below W.heap.size W W'):dD W' mb n l f:=h.of_block (hb.block _ h.map.lt)
theorem dD.keeps {K:gp} {W W':World} {mb n:Nat} {l:List ByteArray} {f:ByteArray→Option Int} (h:dD W mb n l f) (hk:bg K W W') (hB:K.B≤mb):dD W' mb n l f:=by
 obtain ⟨es,cl,h3⟩:=h.map.obj;exact h.of_block ((hk.same _ _ hB h3 rfl).trans h3.symm)
theorem dD.made (W:World):dD (W.alloc (.map #[] 0)) W.heap.size 0 [] (fun _=>none) :=
 ⟨(dn.made tY 9 W).congr fun l _=>by cases l <;> rfl,fun _=>rfl,fun _ _ h=>by cases h⟩
theorem dD.look {W:World} {mb n:Nat} {l:List ByteArray} {f:ByteArray→Option Int} (h:dD W mb n l f) {s:ByteArray} (hs:s.size≤maxLen) :
  (Instr.lookup 119 (.map (some mb)) (.string s) true).run Tryz.prog W=.ok (.tuple #[.int .i64 ((f s).getD 0),.bool (gQ l s)]) W:=by
 have:=h.map.look_ok qf Tryz.underlying119 (tV hs);rw [eP,h.has] at this;exact this
theorem dD.look1 {W:World} {mb n:Nat} {l:List ByteArray} {f:ByteArray→Option Int} (h:dD W mb n l f) {s:ByteArray} (hs:s.size≤maxLen) :
  (Instr.lookup 119 (.map (some mb)) (.string s) false).run Tryz.prog W=.ok (.int .i64 ((f s).getD 0)) W:=by
 have:=h.map.look qf Tryz.underlying119 (tV hs);rw [eP] at this;exact this
theorem ES (l:List ByteArray) (a s:ByteArray):gQ (l++[a]) s=(gQ l s || decide (a=s)):=by
 unfold gQ;simp
theorem dD.store {W:World} {mb n:Nat} {l:List ByteArray} {f:ByteArray→Option Int} (h:dD W mb n l f) {s:ByteArray} (hs:s.size≤maxLen) (hn:n≤1000000) :
  ∃w',(Instr.mapUpdate 119 (.map (some mb)) (.string s) (.int .i64 ((f s).getD 0+1))).run Tryz.prog W=.ok () w'∧dD w' mb (n+1) (l++[s]) (fun t=>if t=s then some ((f s).getD 0+1) else f t)∧W.mapTurned w' mb:=by
 obtain ⟨w',h1,h2,h3⟩:=h.map.store qf Tryz.underlying119 (by unfold maxLen;omega) (tV hs) ((f s).getD 0+1);rw [oP] at h2;refine ⟨w',h1,⟨h2,fun t=>?_,fun t c hc=>?_⟩,h3⟩
 ·rw [ES]
  by_cases e:t=s
  ·subst e;simp
  ·simp [e,h.has,Ne.symm e]
 ·have hb:0≤(f s).getD 0∧(f s).getD 0≤n:=by
   cases hf:f s with
   | none=>simp
   | some c=>simpa using h.few s c hf
  by_cases e:t=s
  ·simp [e] at hc;omega
  ·simp [e] at hc
   have:=h.few t c hc;omega
theorem dD.bound {W:World} {mb n:Nat} {l:List ByteArray} {f:ByteArray→Option Int} (h:dD W mb n l f) (s:ByteArray):0≤(f s).getD 0∧(f s).getD 0≤n:=by
 cases hf:f s with
 | none=>simp
 | some c=>simpa using h.few s c hf
theorem Aw (p:af) (l:List ByteArray) (a:Bool) (d:aG):mo p l a d=if (gQ l d.name || !ig p d.name.data.toList)=true then 321 else if bG d.width=false then 322 else if (if a=true then decide (1≤d.size∧d.size≤16) else decide (d.size=0))=false then 323 else 0:=by
 unfold mo;cases gQ l d.name <;> cases ig p d.name.data.toList <;> simp
set_option maxRecDepth 1000000 in
set_option maxHeartbeats 4000000 in
theorem Ay {K:gp} {J Jx:List (Int × Int)→World→Prop} (hJ:bN 246 K.B J) (hJx:bN 246 K.B Jx) (hT:j6 K J Jx) {pm:Option Nat} {E:Env} {cs:List Int} (w:World) (hst:iU K J Jx pm E cs w) (hlen:cs.length<1000000) (hmx:MxAt w)
  {mb n:Nat} {l:List ByteArray} {f:ByteArray→Option Int} (hm:dD w mb n l f) (d:aG) (hd:Gn d) (hs:d.name.size≤4294967200) (isA:Bool) :
  Calls Tryz.prog 224 #[.pointer (some ⟨K.q,0,none⟩),d.val,.map (some mb),.bool isA] w fun o w'=>o=.returned (.tuple #[])∧Told K J Jx pm E (cs++[mo K.p l isA d]) w w':=by
 obtain ⟨over,hk,-⟩:=hst.ex;have hn0w:K.n₀≤w.heap.size:=by have:=hk.lt;have:=hk.q;have:=hk.n0;omega
 have hw0:0<w.heap.size:=by have:=hk.lt;omega
 have hb1:=zba w (.cells #[.string d.name,.int .i64 d.width,.int .i64 d.size] 50);have hB1:=zan w (.cells #[.string d.name,.int .i64 d.width,.int .i64 d.size] 50);have hde:=Aw K.p l isA d;obtain ⟨de,hde0⟩:∃de,mo K.p l isA d=de:=⟨_,rfl⟩;rw [hde0] at hde ⊢;have HDE:=zhd hde;have HTELL:Hid (∀(c:Int) (X:World),Below (w.alloc (.cells #[.string d.name,.int .i64 d.width,.int .i64 d.size] 50)).heap.size (w.alloc (.cells #[.string d.name,.int .i64 d.width,.int .i64 d.size] 50)) X→Calls Tryz.prog 228 #[.pointer (some ⟨K.q,0,none⟩),.int .i64 c] X fun o w'=>o=.returned (.tuple #[])∧Told K J Jx pm E (cs++[c]) w w'):=zhd fun c X hX=>by
  have hbx:Below w.heap.size w X:=hb1.trans (hX.mono hb1.size);refine (hT pm E cs X c (hst.new hJ hJx hbx) hlen).mono ?_;rintro o w' ⟨rfl,ht⟩;exact ⟨rfl,ht.after (.of_below hbx hn0w)⟩
 have hNM:=vN _ (hk.new hb1) d.name hs (hmx.below hb1 hw0);have hmb:=hm.new hb1;have hlk:=hmb.look hd.1;clear hde hde0 hst hk hm hmb hmx hb1;simp only [aG.val];go_enter Tryz.func224,Tryz.ntmps224
 go_upto_region 1 with fail
 have HNM:=zhd hNM;have HB1:=zhd hB1;clear hNM;generalize w.alloc (.cells #[.string d.name,.int .i64 d.width,.int .i64 d.size] 50)=W1 at *;obtain ⟨c0,c1,c2⟩:=aQ HB1.out;generalize hwd:d.width=wd at *;generalize hsz:d.size=sz at *;generalize hnn:ig K.p d.name.data.toList=nn at *;generalize hha:gQ l d.name=ha at *;obtain ⟨so,hso⟩:∃so,(if isA=true then decide (1≤sz∧sz≤16) else decide (sz=0))=so:=⟨_,rfl⟩;rw [hso] at HDE;have HSO:=zhd hso;clear hso hwd hsz hnn hha;obtain ⟨z0,hz0⟩:∃z,(sz == 0)=z:=⟨_,rfl⟩;have hz1:decide (sz=0)=z0:=by rw [←hz0];rfl
 rw [hz1] at HSO;have HZ1:=zhd hz1;clear hz1
 go_upto_if 14 with fail
 go_cut [8] (fun s8 wx=>s8=.bool so∧W1=wx)
 case first =>
  cases isA with
  | false =>
   clear HNM hlk HTELL;go_wp2_with fail
   go_meet
   case rel=>exact ⟨congrArg Value.bool (by rw [←HSO.out];simp),rfl⟩
  | true =>
   clear HNM hlk HTELL;by_cases h1:1≤sz
   ·by_cases h2:sz≤16
    all_goals
     go_wp2_with fail
     go_meet
     case rel=>exact ⟨congrArg Value.bool (by rw [←HSO.out];simp [h1,h2]),rfl⟩
   ·go_wp2_with fail
    go_meet
    case rel=>exact ⟨congrArg Value.bool (by rw [←HSO.out];simp;omega),rfl⟩
 case rest =>
  obtain ⟨rfl,rfl⟩:=hcut;clear HSO HZ1 hz0;have HWI:=zhd (fun W=>bT wd W);cases ha with
  | true =>
   have hres:de=321:=by rw [HDE.out];rfl
   have HRES:=zhd hres;clear hres HNM;go_wp2_with (first | (go_at_call 228;refine (HTELL.out _ _ (Below.refl _ _)).mono ?_;rintro o9 w9 ⟨rfl,ht9⟩) | fail)
   go_returns
   exact ⟨rfl,by rw [HRES.out];exact ht9⟩
  | false =>
   cases nn with
   | false =>
    have hres:de=321:=by rw [HDE.out];rfl
    have HRES:=zhd hres;clear hres;go_wp2_with (first | (go_at_call 255;refine HNM.out.mono ?_;rintro o8 w8 ⟨rfl,hb8⟩;have HB8:=zhd hb8;clear hb8) | (go_at_call 228;refine (HTELL.out _ _ HB8.out).mono ?_;rintro o9 w9 ⟨rfl,ht9⟩) | fail)
    go_returns
    exact ⟨rfl,by rw [HRES.out];exact ht9⟩
   | true =>
    go_upto_region 8 with (first | (go_at_call 255;refine HNM.out.mono ?_;rintro o8 w8 ⟨rfl,hb8⟩;have HB8:=zhd hb8;clear hb8) | fail)
    clear c0 c1 c2 hlk;obtain ⟨c0,c1,c2⟩:=aQ ((HB8.out.block _ (zgs HB1.out).1).trans HB1.out);cases hwi:bG wd with
    | false =>
     rw [hwi] at HWI HDE;have hres:de=322:=by rw [HDE.out];rfl
     have HRES:=zhd hres;clear hres hwi;go_wp2_with (first | (go_at_call 254;refine (HWI.out _).mono ?_;rintro o7 w7 ⟨rfl,rfl⟩) | (go_at_call 228;refine (HTELL.out _ _ HB8.out).mono ?_;rintro o9 w9 ⟨rfl,ht9⟩) | fail)
     go_returns
     exact ⟨rfl,by rw [HRES.out];exact ht9⟩
    | true =>
     rw [hwi] at HWI HDE;clear hwi;cases so with
     | false =>
      have hres:de=323:=by rw [HDE.out];rfl
      have HRES:=zhd hres;clear hres;go_wp2_with (first | (go_at_call 254;refine (HWI.out _).mono ?_;rintro o7 w7 ⟨rfl,rfl⟩) | (go_at_call 228;refine (HTELL.out _ _ HB8.out).mono ?_;rintro o9 w9 ⟨rfl,ht9⟩) | fail)
      go_returns
      exact ⟨rfl,by rw [HRES.out];exact ht9⟩
     | true =>
      have hres:de=0:=by rw [HDE.out];rfl
      have HRES:=zhd hres;clear hres;go_wp2_with (first | (go_at_call 254;refine (HWI.out _).mono ?_;rintro o7 w7 ⟨rfl,rfl⟩) | (go_at_call 228;refine (HTELL.out _ _ HB8.out).mono ?_;rintro o9 w9 ⟨rfl,ht9⟩) | fail)
      go_returns
      exact ⟨rfl,by rw [HRES.out];exact ht9⟩
end
section
open Go Go.RowKit Go.Maps
set_option maxRecDepth 100000 in
set_option maxHeartbeats 4000000 in
theorem GA {K:gp} {pm:Option Nat} {E:Env} {n:Int} {over:Bool} (w:World) (hk:jv K pm E n over w) (i:Nat) (hi:i<K.p.procs.length) {m:Nat} {s:Sp} {l:List ae} (hl:yN m w s l) (hm:m≤w.heap.size) :
  Calls Tryz.prog 276 #[.pointer (some ⟨K.q,0,none⟩),.int .i64 i,s.val l.length] w fun o w'=>o=.returned (.bool (lU K.p E i l))∧Below w.heap.size w w':=by
 have hq:=hk.prog.procs _ (List.getElem_mem hi);have hpf:=hk.prog.prow.few;obtain ⟨b,off,eA,hbn,hcell⟩:=hk.prog.prow.row (by omega);have hpc:w.cell? ⟨b,off+i*3+1,none⟩=some (.slice K.p.procs[i].ps.at_ K.p.procs[i].params.length K.p.procs[i].ps.cap):=hcell i hi 1 _ rfl;have hab:lU K.p E i l=if K.p.procs[i].params.length≠l.length then true else ky K.p E K.p.procs[i].params l:=by
  unfold lU;rw [List.getElem?_eq_getElem hi]
 have c13:=hk.c13;rw [eA] at c13;have hn0:K.n₀≤w.heap.size:=by have:=hk.lt;have:=hk.q;have:=hk.n0;omega
 have HAB:=zhd hab;have HQ:=zhd hq.params;generalize K.p.procs[i]=pq at *;have hpl:=HQ.out.row.few;have hll:=hl.row.few;have hi0:(0:Int)≤(i:Int):=by omega
 have hi1:(i:Int)<(K.p.procs.length:Int):=by omega
 have HK:=zhd hk;have HL:=zhd hl;clear hk hq hcell hab hl eA;simp only [Sp.val];by_cases hne:pq.params.length=l.length
 ·have g1:((pq.params.length:Int) == (l.length:Int))=true:=by simp [hne]
  have g2:((pq.params.length:Int) != (l.length:Int))=false:=by simp [hne]
  have HNE:=zhd hne;clear hne;go_enter Tryz.func276,Tryz.ntmps276
  go_wp2_with fail
  go_loopw [26] (fun v wr=>∃k:Nat,k≤l.length∧v=.int .i64 k∧ky K.p E pq.params l=ky K.p E (pq.params.drop k) (l.drop k)∧Below w.heap.size w wr) (fun v _=>l.length - (intOf v).toNat)
  case atStart=>exact ⟨0,Nat.zero_le _,rfl,rfl,Below.refl _ _⟩
  case round =>
   obtain ⟨k,hk,rfl,har,hb⟩:=hrel;have HAR:=zhd har;have HBR:=zhd hb;clear har hb c13 hpc;by_cases hlt2:k<l.length
   ·obtain ⟨b2,off2,eA,hbn2,hcell⟩:=(HQ.out.row.below (HBR.out.mono hn0)).row (by have:=HNE.out;omega)
    obtain ⟨be,oe,eE,hbe,hce⟩:=(HL.out.row.below (HBR.out.mono hm)).row (by omega);have hx:k<pq.params.length:=by have:=HNE.out;omega
    have k0:wr.cell? ⟨b2,off2+k*3,none⟩=some (.string pq.params[k].name):=hcell k hx 0 _ rfl;have k1:wr.cell? ⟨b2,off2+k*3+1,none⟩=some (.int .i64 pq.params[k].width):=hcell k hx 1 _ rfl;have k2:wr.cell? ⟨b2,off2+k*3+2,none⟩=some (.int .i64 pq.params[k].size):=hcell k hx 2 _ rfl;have hce2:=hce k hlt2;have hrx:=HL.out.ok _ (List.getElem_mem hlt2);have hst:ky K.p E (pq.params.drop k) (l.drop k)=(dV (bu K.p E l[k]) pq.params[k].width || ky K.p E (pq.params.drop (k+1)) (l.drop (k+1))):=by
     rw [List.drop_eq_getElem_cons hx,List.drop_eq_getElem_cons hlt2];rfl
    have HST:=zhd hst;generalize pq.params[k]=x at *;generalize l[k]=y at *;have hba:=zba wr (.cells #[.string x.name,.int .i64 x.width,.int .i64 x.size] 50);have hB5:=zan wr (.cells #[.string x.name,.int .i64 x.width,.int .i64 x.size] 50);have hszr:=HBR.out.size;have hs5:(wr.alloc (.cells #[.string x.name,.int .i64 x.width,.int .i64 x.size] 50)).heap.size=wr.heap.size+1:=by simp
    have hk0:(0:Int)≤(k:Int):=by omega
    have hk1:(k:Int)<(l.length:Int):=by omega
    have hk2:(k:Int)<(pq.params.length:Int):=by omega
    have hk3:decide (k<pq.params.length)=true:=decide_eq_true hx;clear hcell hce hst hx;rw [eA,eE];clear eA eE;go_upto_region 7 with fail
    generalize wr.alloc (.cells #[.string x.name,.int .i64 x.width,.int .i64 x.size] 50)=W5 at *;have HC:Hid (∀W,Below W5.heap.size W5 W→W.cell? ⟨be,oe+k*6,none⟩=some (.int .u8 y.kind)∧W.cell? ⟨be,oe+k*6+1,none⟩=some (.int .u8 y.op)∧W.cell? ⟨be,oe+k*6+2,none⟩=some (.int .u32 y.value)∧W.cell? ⟨be,oe+k*6+3,none⟩=some (.int .i64 y.width)∧W.cell? ⟨be,oe+k*6+4,none⟩=some (.string y.name)∧W.cell? ⟨be,oe+k*6+5,none⟩=some (.slice y.sp.at_ y.subs.length y.sp.cap)∧W.cell? ⟨wr.heap.size,1,none⟩=some (.int .i64 x.width)):=zhd fun W hW=>by
     have e:=hba.trans (hW.mono hba.size);exact ⟨(e.cell (p:=⟨be,_,none⟩) (by dsimp only;omega)).trans (hce2 0 _ rfl),(e.cell (p:=⟨be,_,none⟩) (by dsimp only;omega)).trans (hce2 1 _ rfl),(e.cell (p:=⟨be,_,none⟩) (by dsimp only;omega)).trans (hce2 2 _ rfl),(e.cell (p:=⟨be,_,none⟩) (by dsimp only;omega)).trans (hce2 3 _ rfl),(e.cell (p:=⟨be,_,none⟩) (by dsimp only;omega)).trans (hce2 4 _ rfl),(e.cell (p:=⟨be,_,none⟩) (by dsimp only;omega)).trans (hce2 5 _ rfl),(aQ ((hW.block _ (by omega)).trans hB5)).2.1⟩
    have HW:Hid (∀W,Below W5.heap.size W5 W→Calls Tryz.prog 230 #[.pointer (some ⟨K.q,0,none⟩),y.val] W fun o w'=>o=.returned (.int .i64 (bu K.p E y))∧Below W.heap.size W w'):=zhd fun W hW=>by
     have e:Below w.heap.size w W:=HBR.out.trans ((hba.trans (hW.mono hba.size)).mono hszr);exact gU hrx W (e.mono hm) (by have:=e.size;omega) (HK.out.new e)
    simp only [ae.val,Sp.val] at HW;have hb5:Below w.heap.size w W5:=HBR.out.trans (hba.mono hszr);have HB5:=zhd hb5;obtain ⟨v0,v1,v2,v3,v4,v5,v6⟩:=HC.out W5.drew (Below.refl _ _).drew;have hbd:Below W5.heap.size W5 W5.drew:=(Below.refl _ _).drew;have hsw:w.heap.size≤W5.heap.size:=hb5.size;clear hce2 hrx hba hB5 k0 k1 k2 hb5 hs5;generalize bu K.p E y=wy at *;cases hdf:dV wy x.width
    all_goals
     rw [hdf] at HST;have HDF:=zhd (fun W=>(hdf ▸ iy wy x.width W:Calls Tryz.prog 229 #[.int .i64 wy,.int .i64 x.width] W fun o w'=>o=.returned (.bool _)∧W=w'));clear hdf
     go_region_held3 (fun W=>W.cell? ⟨be,oe+k*6,none⟩=some (.int .u8 y.kind)∧W.cell? ⟨be,oe+k*6+1,none⟩=some (.int .u8 y.op)∧W.cell? ⟨be,oe+k*6+2,none⟩=some (.int .u32 y.value)∧W.cell? ⟨be,oe+k*6+3,none⟩=some (.int .i64 y.width)∧W.cell? ⟨be,oe+k*6+4,none⟩=some (.string y.name)∧W.cell? ⟨be,oe+k*6+5,none⟩=some (.slice y.sp.at_ y.subs.length y.sp.cap)∧W.cell? ⟨wr.heap.size,1,none⟩=some (.int .i64 x.width)∧Below W5.heap.size W5 W) (simp [*])
      (first
       | (go_at_call 230;refine (HW.out _ (by assumption)).mono ?_;rintro o8 w8 ⟨rfl,hb8⟩;have hb9:=Below.trans (by assumption:Below W5.heap.size W5 _) (hb8.mono (Below.size (by assumption)));obtain ⟨z0,z1,z2,z3,z4,z5,z6⟩:=HC.out _ hb9)
       | (go_at_call 229;refine (HDF.out _).mono ?_;rintro o6 w6 ⟨rfl,rfl⟩)
       | fail)
    ·go_wp2_with fail
     go_roundw
     case rel=>first | exact ⟨k+1,by omega,by go_num,HAR.out.trans (HST.out.trans (Bool.false_or _)),HB5.out.trans ((by assumption:Below W5.heap.size W5 _).mono hsw)⟩ | ((repeat apply Exists.intro);exact ⟨⟨k+1,by omega,by go_num,HAR.out.trans (HST.out.trans (Bool.false_or _)),HB5.out.trans ((by assumption:Below W5.heap.size W5 _).mono hsw)⟩,rfl⟩)
     case measure=>simp [intOf];omega
    ·go_wp2_with fail
     go_ret
     exact ⟨by rw [HAB.out,if_neg (by have:=HNE.out;omega),HAR.out,HST.out];simp,HB5.out.trans ((by assumption:Below W5.heap.size W5 _).mono hsw)⟩
   ·obtain rfl:k=l.length:=by omega
    have hfin:lU K.p E i l=false:=by
     rw [HAB.out,if_neg (by have:=HNE.out;omega),HAR.out,List.drop_length,List.drop_eq_nil_of_le (by have:=HNE.out;omega)];rfl
    have hk3:decide (l.length<pq.params.length)=false:=decide_eq_false (by have:=HNE.out;omega);have HFN:=zhd hfin;clear hfin;go_wp2_with fail
    go_ret
    exact ⟨by rw [HFN.out];rfl,HBR.out⟩
 ·have g1:((pq.params.length:Int) == (l.length:Int))=false:=by simp;omega
  have g2:((pq.params.length:Int) != (l.length:Int))=true:=by simp;omega
  have hfin:lU K.p E i l=true:=by rw [HAB.out,if_pos hne]
  rw [hfin];clear hne hfin;go_enter Tryz.func276,Tryz.ntmps276
  go_wp2_with fail
  go_ret
  exact ⟨rfl,Below.refl _ _⟩
end
section
open Go Go.RowKit Go.Maps
theorem Ha {s:aa} (h:jB s=true):(s.kind=1→s.exprs.length=1)∧(s.kind=2→s.exprs.length=2)∧(s.kind=3→s.exprs.length=2):=by
 unfold jB at h;refine ⟨fun e=>?_,fun e=>?_,fun e=>?_⟩ <;> simp [e] at h <;> omega
set_option maxRecDepth 1000000 in
set_option maxHeartbeats 8000000 in
theorem Gg {K:gp} {pm:Option Nat} {E:Env} {n:Int} {over:Bool} (w:World) (hk:jv K pm E n over w) (hH:aR K.p≤20000) (hE:E.within≤1000000000) {m:Nat} {s:aa} (hs:eu m w s) (hm:m≤w.heap.size) (hf:jB s=true) :
  Calls Tryz.prog 264 #[.pointer (some ⟨K.q,0,none⟩),s.val] w fun o w'=>o=.returned (.int .i64 (eF K.p E s))∧Below w.heap.size w w':=by
 have hb1:=zba w (.cells #[.int .u8 s.kind,.string s.name,.slice s.es.at_ s.exprs.length s.es.cap,.int .i64 s.bound,.slice s.ts.at_ s.thn.length s.ts.cap,.slice s.os.at_ s.els.length s.os.cap] 43);have hB1:=zan w (.cells #[.int .u8 s.kind,.string s.name,.slice s.es.at_ s.exprs.length s.es.cap,.int .i64 s.bound,.slice s.ts.at_ s.thn.length s.ts.cap,.slice s.os.at_ s.els.length s.os.cap] 43);have hs1:(w.alloc (.cells #[.int .u8 s.kind,.string s.name,.slice s.es.at_ s.exprs.length s.es.cap,.int .i64 s.bound,.slice s.ts.at_ s.thn.length s.ts.cap,.slice s.os.at_ s.els.length s.os.cap] 43)).heap.size=w.heap.size+1:=by simp
 obtain ⟨kk0,kk1⟩:=hs.kk;have hnm:s.name.size≤maxLen:=by cases hs;assumption
 have HF:=zhd (qa _ (hk.new hb1) s.name hnm);obtain ⟨hf1,hf2,hf3⟩:=Ha hf;have HF1:=zhd hf1;have HF2:=zhd hf2;have HF3:=zhd hf3;have HB1:=zhd hB1;have HBW1:=zhd hb1;have HS1:=zhd hs1;have HK:=zhd hk;have HEX:=zhd hs.xs;have hlq:=hk.lt;clear hb1 hB1 hs1 hk hs hf hf1 hf2 hf3;obtain ⟨xk,hxk⟩:∃xk,xk=(aJ K.p E s.name).kind:=⟨_,rfl⟩;obtain ⟨xw,hxw⟩:∃xw,xw=(aJ K.p E s.name).width:=⟨_,rfl⟩;rw [←hxk,←hxw] at HF;obtain ⟨wr,hwr⟩:∃wr,wr=eF K.p E s:=⟨_,rfl⟩;rw [←hwr];unfold eF at hwr;rw [←hxk,←hxw] at hwr;have HWR:=zhd hwr;clear hxk hxw hwr;simp only [aa.val,Sp.val];go_enter Tryz.func264,Tryz.ntmps264
 go_upto_region 1 with (fail)
 generalize w.alloc (.cells #[.int .u8 s.kind,.string s.name,.slice s.es.at_ s.exprs.length s.es.cap,.int .i64 s.bound,.slice s.ts.at_ s.thn.length s.ts.cap,.slice s.os.at_ s.els.length s.os.cap] 43)=W1 at *;obtain ⟨c0,c1,c2,c3,c4,c5⟩:=ag HB1.out;have hsx:=HS1.out;go_upto_region 2 with (first | (go_at_call 256;refine HF.out.mono ?_;rintro o2 w2 ⟨rfl,hb2⟩) | fail)
 have HB3:=zhd (hb2.alloc hb2.size (.cells #[.int .u8 xk,.int .i64 xw] 264));have HX:=zhd (zan w2 (.cells #[.int .u8 xk,.int .i64 xw] 264));have hlx:W1.heap.size≤w2.heap.size:=hb2.size;have hlx2:w2.heap.size<(w2.alloc (.cells #[.int .u8 xk,.int .i64 xw] 264)).heap.size:=by simp
 generalize w2.heap.size=b8 at *;generalize w2.alloc (.cells #[.int .u8 xk,.int .i64 xw] 264)=W3 at *;clear hb2 c0 c1 c2 c3 c4 c5 HF;obtain ⟨c0,c1,c2,c3,c4,c5⟩:=ag ((HB3.out.block _ (by omega)).trans HB1.out);obtain ⟨d0,d1⟩:=nK HX.out;have HB03:=zhd (HBW1.out.trans (HB3.out.mono (by omega)));have HBM:=zhd (HB03.out.mono hm);clear HS1;rcases (show s.kind=1∨s.kind=2∨s.kind=3∨s.kind=7∨s.kind=8∨(s.kind≠1∧s.kind≠2∧s.kind≠3∧s.kind≠7∧s.kind≠8) by omega) with hkd | hkd | hkd | hkd | hkd | ⟨h1,h2,h3,h7,h8⟩
 ·have hln:=HF1.out hkd
  rw [hkd] at c0 HWR;clear hkd HF1 HF2 HF3;by_cases hb:xk=0∨xk=1∨xk=4
  ·have hres:wr=321:=by rw [HWR.out];simp [hb]
   have HRES:=zhd hres;clear hres;rcases hb with rfl | rfl | rfl
   all_goals
    go_wp2_with fail
    go_ret
    exact ⟨by rw [HRES.out];rfl,HB03.out⟩
  ·have hg0:(xk == 0)=false:=by simp;omega
   have hg1:(xk == 1)=false:=by simp;omega
   have hg4:(xk == 4)=false:=by simp;omega
   have HNB:=zhd hb;clear hb;go_upto_region 6 with fail
   have hlt2:0<s.exprs.length:=by omega
   obtain ⟨b,off,eE,hbe,hce⟩:=(HEX.out.row.below HBM.out).row (by omega);have hce2:=hce 0 hlt2;have hrx:=HEX.out.ok _ (List.getElem_mem hlt2);have hsu:bF K.p E s.exprs 0=bu K.p E s.exprs[0]:=by rw [bF,List.getElem?_eq_getElem hlt2]
   have HSU:=zhd hsu;generalize s.exprs[0]=y at *;rw [eE] at c2;have HC:Hid (∀W,Below W3.heap.size W3 W→W.cell? ⟨b,off,none⟩=some (.int .u8 y.kind)∧W.cell? ⟨b,off+1,none⟩=some (.int .u8 y.op)∧W.cell? ⟨b,off+2,none⟩=some (.int .u32 y.value)∧W.cell? ⟨b,off+3,none⟩=some (.int .i64 y.width)∧W.cell? ⟨b,off+4,none⟩=some (.string y.name)∧W.cell? ⟨b,off+5,none⟩=some (.slice y.sp.at_ y.subs.length y.sp.cap)∧W.cell? ⟨w.heap.size,2,none⟩=some (.slice (some ⟨b,off,none⟩) s.exprs.length s.es.cap)∧W.cell? ⟨b8,1,none⟩=some (.int .i64 xw)):=zhd fun W hW =>
    ⟨(hW.cell (p:=⟨b,_,none⟩) (by dsimp only;omega)).trans (hce2 0 _ rfl),(hW.cell (p:=⟨b,_,none⟩) (by dsimp only;omega)).trans (hce2 1 _ rfl),(hW.cell (p:=⟨b,_,none⟩) (by dsimp only;omega)).trans (hce2 2 _ rfl),(hW.cell (p:=⟨b,_,none⟩) (by dsimp only;omega)).trans (hce2 3 _ rfl),(hW.cell (p:=⟨b,_,none⟩) (by dsimp only;omega)).trans (hce2 4 _ rfl),(hW.cell (p:=⟨b,_,none⟩) (by dsimp only;omega)).trans (hce2 5 _ rfl),(hW.cell (p:=⟨w.heap.size,2,none⟩) (by dsimp only;omega)).trans c2,(hW.cell (p:=⟨b8,1,none⟩) (by dsimp only;omega)).trans d1⟩
   have HW:Hid (∀W,Below W3.heap.size W3 W→Calls Tryz.prog 230 #[.pointer (some ⟨K.q,0,none⟩),y.val] W fun o w'=>o=.returned (.int .i64 (bu K.p E y))∧Below W.heap.size W w'):=zhd fun W hW=>by
    have e:Below w.heap.size w W:=HB03.out.trans (hW.mono HB03.out.size);exact gU hrx W (e.mono hm) (by have:=e.size;omega) (HK.out.new e)
   simp only [ae.val,Sp.val] at HW;obtain ⟨v0,v1,v2,v3,v4,v5,v6,v7⟩:=HC.out W3.drew (Below.refl _ _).drew;have hbd:Below W3.heap.size W3 W3.drew:=(Below.refl _ _).drew;have hj:(0:Int)<(s.exprs.length:Int):=by omega
   clear hce2 hce hrx hsu eE hlt2 hbe;generalize bu K.p E y=wy at *;cases hdf:dV wy xw
   all_goals
    have hdf2:=hdf;rw [←HSU.out] at hdf2;have HDF2:=zhd hdf2;have HDF:=zhd (fun W=>(hdf ▸ iy wy xw W:Calls Tryz.prog 229 #[.int .i64 wy,.int .i64 xw] W fun o w'=>o=.returned (.bool _)∧W=w'));clear hdf hdf2
    go_region_held3 (fun W=>W.cell? ⟨b,off,none⟩=some (.int .u8 y.kind)∧W.cell? ⟨b,off+1,none⟩=some (.int .u8 y.op)∧W.cell? ⟨b,off+2,none⟩=some (.int .u32 y.value)∧W.cell? ⟨b,off+3,none⟩=some (.int .i64 y.width)∧W.cell? ⟨b,off+4,none⟩=some (.string y.name)∧W.cell? ⟨b,off+5,none⟩=some (.slice y.sp.at_ y.subs.length y.sp.cap)∧W.cell? ⟨w.heap.size,2,none⟩=some (.slice (some ⟨b,off,none⟩) s.exprs.length s.es.cap)∧W.cell? ⟨b8,1,none⟩=some (.int .i64 xw)∧Below W3.heap.size W3 W) (simp [*])
     (first
      | (go_at_call 230;refine (HW.out _ (by assumption)).mono ?_;rintro o8 w8 ⟨rfl,hb8⟩;have hb9:=Below.trans (by assumption:Below W3.heap.size W3 _) (hb8.mono (Below.size (by assumption)));obtain ⟨z0,z1,z2,z3,z4,z5,z6,z7⟩:=HC.out _ hb9)
      | (go_at_call 229;refine (HDF.out _).mono ?_;rintro o6 w6 ⟨rfl,rfl⟩)
      | fail)
    go_wp2_with fail
    go_ret
    exact ⟨congrArg (fun n=>Ending.returned (.int .i64 n)) (by rw [HWR.out];simp [HDF2.out,HNB.out]),HB03.out.trans ((by assumption:Below W3.heap.size W3 _).mono HB03.out.size)⟩
 ·have hln:=HF2.out hkd
  rw [hkd] at c0 HWR;clear hkd HF1 HF2 HF3;by_cases hb:xk=4
  ·subst hb
   go_upto_region 11 with fail
   have hlt2:1<s.exprs.length:=by omega
   obtain ⟨b,off,eE,hbe,hce⟩:=(HEX.out.row.below HBM.out).row (by omega);have hce2:=hce 1 hlt2;have hrx:=HEX.out.ok _ (List.getElem_mem hlt2);have hsu:bF K.p E s.exprs 1=bu K.p E s.exprs[1]:=by rw [bF,List.getElem?_eq_getElem hlt2]
   have HSU:=zhd hsu;generalize s.exprs[1]=y at *;rw [eE] at c2;have HC:Hid (∀W,Below W3.heap.size W3 W→W.cell? ⟨b,off+6,none⟩=some (.int .u8 y.kind)∧W.cell? ⟨b,off+7,none⟩=some (.int .u8 y.op)∧W.cell? ⟨b,off+8,none⟩=some (.int .u32 y.value)∧W.cell? ⟨b,off+9,none⟩=some (.int .i64 y.width)∧W.cell? ⟨b,off+10,none⟩=some (.string y.name)∧W.cell? ⟨b,off+11,none⟩=some (.slice y.sp.at_ y.subs.length y.sp.cap)∧W.cell? ⟨w.heap.size,2,none⟩=some (.slice (some ⟨b,off,none⟩) s.exprs.length s.es.cap)∧W.cell? ⟨b8,1,none⟩=some (.int .i64 xw)):=zhd fun W hW =>
    ⟨(hW.cell (p:=⟨b,_,none⟩) (by dsimp only;omega)).trans (hce2 0 _ rfl),(hW.cell (p:=⟨b,_,none⟩) (by dsimp only;omega)).trans (hce2 1 _ rfl),(hW.cell (p:=⟨b,_,none⟩) (by dsimp only;omega)).trans (hce2 2 _ rfl),(hW.cell (p:=⟨b,_,none⟩) (by dsimp only;omega)).trans (hce2 3 _ rfl),(hW.cell (p:=⟨b,_,none⟩) (by dsimp only;omega)).trans (hce2 4 _ rfl),(hW.cell (p:=⟨b,_,none⟩) (by dsimp only;omega)).trans (hce2 5 _ rfl),(hW.cell (p:=⟨w.heap.size,2,none⟩) (by dsimp only;omega)).trans c2,(hW.cell (p:=⟨b8,1,none⟩) (by dsimp only;omega)).trans d1⟩
   have HW:Hid (∀W,Below W3.heap.size W3 W→Calls Tryz.prog 230 #[.pointer (some ⟨K.q,0,none⟩),y.val] W fun o w'=>o=.returned (.int .i64 (bu K.p E y))∧Below W.heap.size W w'):=zhd fun W hW=>by
    have e:Below w.heap.size w W:=HB03.out.trans (hW.mono HB03.out.size);exact gU hrx W (e.mono hm) (by have:=e.size;omega) (HK.out.new e)
   simp only [ae.val,Sp.val] at HW;obtain ⟨v0,v1,v2,v3,v4,v5,v6,v7⟩:=HC.out W3.drew (Below.refl _ _).drew;have hbd:Below W3.heap.size W3 W3.drew:=(Below.refl _ _).drew;have hj:(1:Int)<(s.exprs.length:Int):=by omega
   clear hce2 hce hrx hsu eE hlt2 hbe;generalize bu K.p E y=wy at *;cases hdf:dV wy xw
   all_goals
    have hdf2:=hdf;rw [←HSU.out] at hdf2;have HDF2:=zhd hdf2;have HDF:=zhd (fun W=>(hdf ▸ iy wy xw W:Calls Tryz.prog 229 #[.int .i64 wy,.int .i64 xw] W fun o w'=>o=.returned (.bool _)∧W=w'));clear hdf hdf2
    go_region_held3 (fun W=>W.cell? ⟨b,off+6,none⟩=some (.int .u8 y.kind)∧W.cell? ⟨b,off+7,none⟩=some (.int .u8 y.op)∧W.cell? ⟨b,off+8,none⟩=some (.int .u32 y.value)∧W.cell? ⟨b,off+9,none⟩=some (.int .i64 y.width)∧W.cell? ⟨b,off+10,none⟩=some (.string y.name)∧W.cell? ⟨b,off+11,none⟩=some (.slice y.sp.at_ y.subs.length y.sp.cap)∧W.cell? ⟨w.heap.size,2,none⟩=some (.slice (some ⟨b,off,none⟩) s.exprs.length s.es.cap)∧W.cell? ⟨b8,1,none⟩=some (.int .i64 xw)∧Below W3.heap.size W3 W) (simp [*])
     (first
      | (go_at_call 230;refine (HW.out _ (by assumption)).mono ?_;rintro o8 w8 ⟨rfl,hb8⟩;have hb9:=Below.trans (by assumption:Below W3.heap.size W3 _) (hb8.mono (Below.size (by assumption)));obtain ⟨z0,z1,z2,z3,z4,z5,z6,z7⟩:=HC.out _ hb9)
      | (go_at_call 229;refine (HDF.out _).mono ?_;rintro o6 w6 ⟨rfl,rfl⟩)
      | fail)
    go_wp2_with fail
    go_ret
    exact ⟨congrArg (fun n=>Ending.returned (.int .i64 n)) (by rw [HWR.out];simp [HDF2.out]),HB03.out.trans ((by assumption:Below W3.heap.size W3 _).mono HB03.out.size)⟩
  ·have hg4:(xk == 4)=false:=by simp;omega
   have hg5:(xk != 4)=true:=by simp;omega
   have hres:wr=321:=by rw [HWR.out];simp [hb]
   have HRES:=zhd hres;clear hres hb;go_wp2_with fail
   go_ret
   exact ⟨by rw [HRES.out];rfl,HB03.out⟩
 ·have hln:=HF3.out hkd
  rw [hkd] at c0 HWR;clear hkd HF1 HF2 HF3;have hc1:=(HK.out.new HB03.out).c1;go_upto_region 14 with fail
  have hlt2:1<s.exprs.length:=by omega
  obtain ⟨b,off,eE,hbe,hce⟩:=(HEX.out.row.below HBM.out).row (by omega);have hce2:=hce 1 hlt2;have hrx:=HEX.out.ok _ (List.getElem_mem hlt2);have hsu:bF K.p E s.exprs 1=bu K.p E s.exprs[1]:=by rw [bF,List.getElem?_eq_getElem hlt2]
  have HSU:=zhd hsu;generalize s.exprs[1]=y at *;rw [eE] at c2;have HC:Hid (∀W,Below W3.heap.size W3 W→W.cell? ⟨b,off+6,none⟩=some (.int .u8 y.kind)∧W.cell? ⟨b,off+7,none⟩=some (.int .u8 y.op)∧W.cell? ⟨b,off+8,none⟩=some (.int .u32 y.value)∧W.cell? ⟨b,off+9,none⟩=some (.int .i64 y.width)∧W.cell? ⟨b,off+10,none⟩=some (.string y.name)∧W.cell? ⟨b,off+11,none⟩=some (.slice y.sp.at_ y.subs.length y.sp.cap)∧W.cell? ⟨w.heap.size,2,none⟩=some (.slice (some ⟨b,off,none⟩) s.exprs.length s.es.cap)∧W.cell? ⟨K.q,1,none⟩=some (.int .i64 K.p.width)):=zhd fun W hW =>
   ⟨(hW.cell (p:=⟨b,_,none⟩) (by dsimp only;omega)).trans (hce2 0 _ rfl),(hW.cell (p:=⟨b,_,none⟩) (by dsimp only;omega)).trans (hce2 1 _ rfl),(hW.cell (p:=⟨b,_,none⟩) (by dsimp only;omega)).trans (hce2 2 _ rfl),(hW.cell (p:=⟨b,_,none⟩) (by dsimp only;omega)).trans (hce2 3 _ rfl),(hW.cell (p:=⟨b,_,none⟩) (by dsimp only;omega)).trans (hce2 4 _ rfl),(hW.cell (p:=⟨b,_,none⟩) (by dsimp only;omega)).trans (hce2 5 _ rfl),(hW.cell (p:=⟨w.heap.size,2,none⟩) (by dsimp only;omega)).trans c2,(hW.cell (p:=⟨K.q,1,none⟩) (by dsimp only;omega)).trans hc1⟩
  have HW:Hid (∀W,Below W3.heap.size W3 W→Calls Tryz.prog 230 #[.pointer (some ⟨K.q,0,none⟩),y.val] W fun o w'=>o=.returned (.int .i64 (bu K.p E y))∧Below W.heap.size W w'):=zhd fun W hW=>by
   have e:Below w.heap.size w W:=HB03.out.trans (hW.mono HB03.out.size);exact gU hrx W (e.mono hm) (by have:=e.size;omega) (HK.out.new e)
  simp only [ae.val,Sp.val] at HW;obtain ⟨v0,v1,v2,v3,v4,v5,v6,v7⟩:=HC.out W3.drew (Below.refl _ _).drew;have hbd:Below W3.heap.size W3 W3.drew:=(Below.refl _ _).drew;have hj:(1:Int)<(s.exprs.length:Int):=by omega
  clear hce2 hce hrx hsu eE hlt2 hbe;generalize bu K.p E y=wy at *;cases hdf:dV wy K.p.width
  all_goals
   have hdf2:=hdf;rw [←HSU.out] at hdf2;have HDF2:=zhd hdf2;have HDF:=zhd (fun W=>(hdf ▸ iy wy K.p.width W:Calls Tryz.prog 229 #[.int .i64 wy,.int .i64 K.p.width] W fun o w'=>o=.returned (.bool _)∧W=w'));clear hdf hdf2
   go_region_held3 (fun W=>W.cell? ⟨b,off+6,none⟩=some (.int .u8 y.kind)∧W.cell? ⟨b,off+7,none⟩=some (.int .u8 y.op)∧W.cell? ⟨b,off+8,none⟩=some (.int .u32 y.value)∧W.cell? ⟨b,off+9,none⟩=some (.int .i64 y.width)∧W.cell? ⟨b,off+10,none⟩=some (.string y.name)∧W.cell? ⟨b,off+11,none⟩=some (.slice y.sp.at_ y.subs.length y.sp.cap)∧W.cell? ⟨w.heap.size,2,none⟩=some (.slice (some ⟨b,off,none⟩) s.exprs.length s.es.cap)∧W.cell? ⟨K.q,1,none⟩=some (.int .i64 K.p.width)∧Below W3.heap.size W3 W) (simp [*])
    (first
     | (go_at_call 230;refine (HW.out _ (by assumption)).mono ?_;rintro o8 w8 ⟨rfl,hb8⟩;have hb9:=Below.trans (by assumption:Below W3.heap.size W3 _) (hb8.mono (Below.size (by assumption)));obtain ⟨z0,z1,z2,z3,z4,z5,z6,z7⟩:=HC.out _ hb9)
     | (go_at_call 229;refine (HDF.out _).mono ?_;rintro o6 w6 ⟨rfl,rfl⟩)
     | fail)
   go_wp2_with fail
   go_ret
   exact ⟨congrArg (fun n=>Ending.returned (.int .i64 n)) (by rw [HWR.out];simp [HDF2.out]),HB03.out.trans ((by assumption:Below W3.heap.size W3 _).mono HB03.out.size)⟩
 ·rw [hkd] at c0 HWR
  clear hkd HF1 HF2 HF3;by_cases hb1:s.bound<1
  ·have hres:wr=329:=by rw [HWR.out];simp [hb1]
   have HRES:=zhd hres;clear hres;go_wp2_with fail
   go_ret
   exact ⟨by rw [HRES.out];rfl,HB03.out⟩
  ·by_cases hb2:16<s.bound
   ·have hres:wr=329:=by rw [HWR.out];simp [hb2]
    have HRES:=zhd hres;clear hres;go_wp2_with fail
    go_ret
    exact ⟨by rw [HRES.out];rfl,HB03.out⟩
   ·have hres:wr=0:=by rw [HWR.out];simp [hb1];omega
    have HRES:=zhd hres;clear hres;go_wp2_with fail
    go_ret
    exact ⟨by rw [HRES.out];rfl,HB03.out⟩
 ·rw [hkd] at c0 HWR
  clear hkd HF1 HF2 HF3;have hk3:=HK.out.new HB03.out;have c23:=hk3.c23;have l23:=hk3.lookN hnm;have hbd:Below W3.heap.size W3 W3.drew:=(Below.refl _ _).drew;have l23':=(hk3.new hbd).lookN hnm;have HBD:=zhd hbd;clear hk3 hbd;cases hlp:look (cz K.p) s.name with
  | none =>
   rw [hlp] at l23 l23' HWR;simp only [Option.getD_none,Option.isSome_none] at l23 l23';have hres:wr=321:=by rw [HWR.out];simp
   have HRES:=zhd hres;clear hres;go_wp2_with fail
   go_region
   go_wp2_with fail
   go_ret
   exact ⟨by rw [HRES.out];rfl,HB03.out.trans (HBD.out.mono HB03.out.size)⟩
  | some kx =>
   rw [hlp] at l23 l23' HWR;simp only [Option.getD_some,Option.isSome_some] at l23 l23';obtain ⟨e1,e2,e3⟩:=oM hlp;obtain ⟨i,rfl⟩:∃i:Nat,kx=i:=⟨kx.toNat,e3.symm⟩;simp only [Int.toNat_natCast] at e2 HWR;have HE2:=zhd e2;have hbw:=HB03.out.trans (HBD.out.mono HB03.out.size);have hAR:=GA W3.drew (HK.out.new hbw) i e2 (HEX.out.below (hbw.mono hm)) (by have:=hbw.size;omega);have HAR:=zhd hAR;have HBW:=zhd hbw;clear hlp e1 e2 e3 hAR hbw;simp only [Sp.val] at HAR;cases hab:lU K.p E i s.exprs with
   | true =>
    rw [hab] at HAR HWR;have hres:wr=327:=by rw [HWR.out];simp
    have HRES:=zhd hres;clear hres hab;go_wp2_with fail
    go_region
    go_wp2_with (first | (go_at_call 276;refine HAR.out.mono ?_;rintro o4 w4 ⟨rfl,hb4⟩;have HB4:=zhd hb4;clear hb4) | fail)
    go_ret
    exact ⟨by rw [HRES.out];rfl,HBW.out.trans (HB4.out.mono HBW.out.size)⟩
   | false =>
    rw [hab] at HAR HWR;clear hab;go_wp2_with fail
    go_region
    go_upto_region 25 with (first | (go_at_call 276;refine HAR.out.mono ?_;rintro o4 w4 ⟨rfl,hb4⟩;have HB4:=zhd hb4;clear hb4) | fail)
    have HB04:=zhd (HBW.out.trans (HB4.out.mono HBW.out.size));have hk4:=HK.out.new HB04.out;have c25:=hk4.c25;by_cases hw0:0≤E.within
    ·obtain ⟨t,ht⟩:∃t:Nat,E.within=t:=⟨E.within.toNat,by omega⟩
     rw [ht] at c25 HWR;have hLE:=E5 w4 hk4 hH i HE2.out t (by omega);have HLE:=zhd hLE;have ht0:(0:Int)≤(t:Int):=by omega
     simp only [Int.toNat_natCast] at HWR;clear hLE ht hw0 hk4;cases hlb:ja K.p i t
     all_goals
      rw [hlb] at HLE;have HLB:=zhd hlb;clear hlb;go_wp2_with (first | (go_at_call 277;refine HLE.out.mono ?_;rintro o5 w5 ⟨rfl,hb5⟩;have HB5:=zhd hb5;clear hb5) | fail)
      go_ret
      exact ⟨congrArg (fun n=>Ending.returned (.int .i64 n)) (by rw [HWR.out];simp [HLB.out]),HB04.out.trans (HB5.out.mono HB04.out.size)⟩
    ·have hres:wr=0:=by rw [HWR.out];simp;omega
     have hw1:decide (0≤E.within)=false:=decide_eq_false hw0;have HRES:=zhd hres;clear hres hw0 hk4;go_wp2_with fail
     go_ret
     exact ⟨by rw [HRES.out];rfl,HB04.out⟩
 ·have hg1:(s.kind == 1)=false:=by simpa using h1
  have hg2:(s.kind == 2)=false:=by simpa using h2
  have hg3:(s.kind == 3)=false:=by simpa using h3
  have hg7:(s.kind == 7)=false:=by simpa using h7
  have hg8:(s.kind == 8)=false:=by simpa using h8
  have hres:wr=0:=by rw [HWR.out,if_neg h1,if_neg h2,if_neg h3,if_neg h7,if_neg h8]
  have HRES:=zhd hres;clear hres h1 h2 h3 h7 h8;go_wp2_with fail
  go_ret
  exact ⟨by rw [HRES.out];rfl,HB03.out⟩
end
section
open Go Go.RowKit
def xV (k bd:Int) (ne:Bool) (tn en ln:Int):Bool :=
 if k=1 then (decide (bd=0) && decide (tn=0) && decide (en=0) && decide (ln=1))
 else if k=2 then (decide (bd=0) && decide (tn=0) && decide (en=0) && decide (ln=2))
 else if k=3 then (ne && decide (bd=0) && decide (tn=0) && decide (en=0) && decide (ln=2))
 else if k=4 then (ne && decide (bd=0) && decide (tn=0) && decide (en=0) && decide (ln=0))
 else if k=5 then (ne && decide (bd=0) && decide (tn=0) && decide (en=0) && decide (ln=0))
 else if k=6 then (ne && decide (bd=0) && decide (ln=1))
 else if k=7 then (ne && decide (en=0) && decide (ln=1))
 else if k=8 then (decide (bd=0) && decide (tn=0) && decide (en=0))
 else false
theorem G8 (s:aa):jB s=xV s.kind s.bound s.name.toList.isEmpty s.thn.length s.els.length s.exprs.length:=by
 unfold jB xV;rw [xN];by_cases h4:s.kind=4
 ·simp only [h4];apply Bool.eq_iff_iff.2;simp [and_assoc]
 by_cases h5:s.kind=5
 ·simp only [h5];apply Bool.eq_iff_iff.2;simp [and_assoc]
 simp only [h4,h5,or_self,if_false]
 repeat' split
 all_goals first | rfl | (apply Bool.eq_iff_iff.2;simp [and_assoc];done) | (apply Bool.eq_iff_iff.2;simp [and_assoc];intros;omega)
set_option maxRecDepth 1000000 in
set_option maxHeartbeats 4000000 in
theorem G9 (w:World) (s:aa) (kk:0≤s.kind∧s.kind≤255) (hl:s.exprs.length≤4398046511104) (hl2:s.thn.length≤4398046511104) (hl3:s.els.length≤4398046511104):Calls Tryz.prog 263 #[s.val] w fun o w'=>o=.returned (.bool (jB s))∧Below w.heap.size w w':=by
 rw [G8];simp only [aa.val,Sp.val];generalize s.exprs.length=ln at *;generalize s.thn.length=tn at *;generalize s.els.length=en at *;have hln:(0:Int)≤(ln:Int):=by omega
 have htn:(0:Int)≤(tn:Int):=by omega
 have hen:(0:Int)≤(en:Int):=by omega
 generalize s.name=nm at *;generalize s.es=es at *;generalize s.ts=ts at *;generalize s.os=os at *;generalize s.kind=k at *;generalize s.bound=bd at *;have hsh:xV k bd nm.toList.isEmpty tn en ln=xV k bd nm.toList.isEmpty tn en ln:=rfl
 conv at hsh=>rhs;unfold xV
 generalize xV k bd nm.toList.isEmpty tn en ln=res at *;have HSH:=zhd hsh;clear hsh;have hb1:=zba w (.cells #[.int .u8 k,.string nm,.slice es.at_ ln es.cap,.int .i64 bd,.slice ts.at_ tn ts.cap,.slice os.at_ en os.cap] 43);have hB:=zan w (.cells #[.int .u8 k,.string nm,.slice es.at_ ln es.cap,.int .i64 bd,.slice ts.at_ tn ts.cap,.slice os.at_ en os.cap] 43);have HB1:=zhd hb1;have HB:=zhd hB;clear hb1 hB;go_enter Tryz.func263,Tryz.ntmps263
 go_upto_region 1 with (fail)
 generalize w.alloc (.cells #[.int .u8 k,.string nm,.slice es.at_ ln es.cap,.int .i64 bd,.slice ts.at_ tn ts.cap,.slice os.at_ en os.cap] 43)=W2 at *;obtain ⟨c0,c1,c2,c3,c4,c5⟩:=ag HB.out
 go_quiet (fail)
 rcases (show k=1∨k=8∨k=2∨k=3∨k=4∨k=5∨k=6∨k=7∨(k≠1∧k≠8∧k≠2∧k≠3∧k≠4∧k≠5∧k≠6∧k≠7) by omega) with hkd | hkd | hkd | hkd | hkd | hkd | hkd | hkd | hkd
 case inr.inr.inr.inr.inr.inr.inr.inr =>
  obtain ⟨h1,h8,h2,h3,h4,h5,h6,h7⟩:=hkd;have g1:(k == 1)=false:=by simpa using h1
  have g2:(k == 2)=false:=by simpa using h2
  have g3:(k == 3)=false:=by simpa using h3
  have g4:(k == 4)=false:=by simpa using h4
  have g5:(k == 5)=false:=by simpa using h5
  have g6:(k == 6)=false:=by simpa using h6
  have g7:(k == 7)=false:=by simpa using h7
  have g8:(k == 8)=false:=by simpa using h8
  have hres:res=false:=by rw [HSH.out];simp [*]
  clear h1 h2 h3 h4 h5 h6 h7 h8;subst hres
  go_wp2
  go_ret
  exact ⟨rfl,bL HB1.out _⟩
 case inr.inl =>
  subst hkd;have hself:((ln:Int) == (ln:Int))=true:=by simp
  go_wp2
  go_quiet (fail)
  go_wp2
  all_goals (go_ret;exact ⟨iq (by rw [HSH.out];simp_all <;> (apply Bool.eq_iff_iff.2;simp only [beq_iff_eq,decide_eq_true_eq];try omega)),bL HB1.out _⟩)
 all_goals
  subst hkd
  go_wp2
  all_goals (go_ret;exact ⟨iq (by rw [HSH.out];simp_all <;> (apply Bool.eq_iff_iff.2;simp only [beq_iff_eq,decide_eq_true_eq];try omega)),bL HB1.out _⟩)
end
end Go.Proofs.YtepacjkacjabbaaGreatDoor
