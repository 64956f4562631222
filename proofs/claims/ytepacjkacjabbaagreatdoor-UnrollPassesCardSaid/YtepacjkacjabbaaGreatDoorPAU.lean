import Derived.Test.YtepacjkacjabbaaGreatDoorPAA
import Derived.Test.YtepacjkacjabbaaGreatDoorPAT
import Derived.Maps.RangeWalk
import Derived.Deep.DeepCutAuto
namespace Go.Proofs.YtepacjkacjabbaaGreatDoor
section
open Go Go.RowKit Go.Maps
def mY (K:gp) (J Jx:List (Int × Int)→World→Prop) (pm:Option Nat) (E:Env) (W0:World) (sp:Sp) (l:List aa):Prop :=
 ∀(cs:List Int) (d:Nat) (w:World),Below K.n₀ W0 w→iU K J Jx pm E cs w→cs.length+(aH K.p E l d).length≤1000000→d+(aH K.p E l d).length≤1000000 →
  Calls Tryz.prog 232 #[.pointer (some ⟨K.q,0,none⟩),sp.val l.length,.int .i64 d] w fun o w'=>o=.returned (.tuple #[])∧Told K J Jx pm E (cs++aH K.p E l d) w w'
theorem oW (p:af) (E:Env) (a b:List aa) (d:Nat):aH p E (a++b) d=aH p E a d++aH p E b d:=by
 rw [bA,bA,bA,List.flatMap_append]
theorem oH (p:af) (E:Env) (wh:Int) (a b:List ae) (d:Nat):bI p E wh (a++b) d=bI p E wh a d++bI p E wh b d:=by
 rw [bU,bU,bU,List.flatMap_append]
theorem zL (p:af) (E:Env) (l:List aa) (d k:Nat) (h:k<l.length):(aH p E l d).length=(aH p E (l.take k) d).length+(1+(bI p E 0 l[k].exprs 1).length+(aH p E l[k].thn (d+1)).length+(aH p E l[k].els (d+1)).length)+(aH p E (l.drop (k+1)) d).length:=by
 have e1:l=(l.take k++[l[k]])++l.drop (k+1):=by rw [←List.take_succ_eq_append_getElem h,List.take_append_drop]
 conv=>lhs;rw [e1]
 rw [oW,oW,List.length_append,List.length_append];have e2:aH p E [l[k]] d=kM p E l[k] d:=by rw [bA];simp
 rw [e2,kN];simp only [List.length_cons,List.length_append];omega
theorem za (p:af) (E:Env) (wh:Int) (l:List ae) (d k:Nat) (h:k<l.length):(bI p E wh l d).length=(bI p E wh (l.take k) d).length+(fC p E wh l[k] d).length+(bI p E wh (l.drop (k+1)) d).length:=by
 have e1:l=(l.take k++[l[k]])++l.drop (k+1):=by rw [←List.take_succ_eq_append_getElem h,List.take_append_drop]
 conv=>lhs;rw [e1]
 rw [oH,oH,List.length_append,List.length_append];have e2:bI p E wh [l[k]] d=fC p E wh l[k] d:=by rw [bU];simp
 rw [e2]
set_option maxRecDepth 1000000 in
set_option maxHeartbeats 8000000 in
theorem mP {K:gp} {J Jx:List (Int × Int)→World→Prop} (hJ:bN 246 K.B J) (hJx:bN 246 K.B Jx) (hT:j6 K J Jx) (hH:aR K.p≤20000) {pm:Option Nat} {E:Env} (hE:E.within≤1000000000) {W0:World} {sp:Sp} {l:List aa}
  (row:RowOf K.n₀ W0 sp 6 aa.cells l) (hR:∀s∈l,eu K.n₀ W0 s) (hQ:∀s∈l,mY K J Jx pm E W0 s.ts s.thn∧mY K J Jx pm E W0 s.os s.els):mY K J Jx pm E W0 sp l:=by
 intro cs d w hb hst hlen hd;have hdd:d≤1000000:=by omega
 obtain ⟨over,hk,-⟩:=hst.ex;have hn0w:K.n₀≤w.heap.size:=by have:=hk.lt;have:=hk.q;have:=hk.n0;omega
 have hqw:K.q<w.heap.size:=hk.lt;have HST:=zhd hst;have HB:=zhd hb;have HROW:=zhd row;have HR:=zhd hR;have HQ:=zhd hQ;have HLEN:=zhd hlen;have HD:=zhd hd;have hll:=row.few;clear hst hb row hR hQ hlen hd hk;simp only [Sp.val];go_enter Tryz.func232,Tryz.ntmps232
 go_wp2_with fail
 go_loopw [13] (fun v wr=>∃k:Nat,k≤l.length∧v=.int .i64 k∧Told K J Jx pm E (cs++aH K.p E (l.take k) d) w wr) (fun v _=>l.length - (intOf v).toNat)
 case atStart=>exact ⟨0,Nat.zero_le _,rfl,by rw [List.take_zero,aH,List.append_nil];exact ⟨HST.out,bg.refl _ _⟩⟩
 case round =>
  obtain ⟨k,hk,rfl,htk⟩:=hrel;have HTK:=zhd htk;clear htk;by_cases hlt:k<l.length
  ·obtain ⟨b,off,eA,hbn,hcell⟩:=(HROW.out.below (HB.out.trans HTK.out.keeps.low)).row (by omega)
   have hmem:l[k]∈l:=List.getElem_mem hlt;have hts:l.take (k+1)=l.take k++[l[k]]:=List.take_succ_eq_append_getElem hlt;have hsp:=zL K.p E l d k hlt;have k0:wr.cell? ⟨b,off+k*6,none⟩=some (.int .u8 l[k].kind):=hcell k hlt 0 _ rfl;have k1:wr.cell? ⟨b,off+k*6+1,none⟩=some (.string l[k].name):=hcell k hlt 1 _ rfl;have k2:wr.cell? ⟨b,off+k*6+2,none⟩=some (.slice l[k].es.at_ l[k].exprs.length l[k].es.cap):=hcell k hlt 2 _ rfl;have k3:wr.cell? ⟨b,off+k*6+3,none⟩=some (.int .i64 l[k].bound):=hcell k hlt 3 _ rfl;have k4:wr.cell? ⟨b,off+k*6+4,none⟩=some (.slice l[k].ts.at_ l[k].thn.length l[k].ts.cap):=hcell k hlt 4 _ rfl;have k5:wr.cell? ⟨b,off+k*6+5,none⟩=some (.slice l[k].os.at_ l[k].els.length l[k].os.cap):=hcell k hlt 5 _ rfl;have HRT:=zhd (HR.out _ hmem);obtain ⟨hqt,hqe⟩:=HQ.out _ hmem;have HQT:=zhd hqt;have HQE:=zhd hqe;have HTS:=zhd hts;have HSP:=zhd hsp;generalize l[k]=s at *;obtain ⟨kk0,kk1⟩:=HRT.out.kk;have hsw:=HTK.out.keeps.size;have hba:=zba wr (.cells #[.int .u8 s.kind,.string s.name,.slice s.es.at_ s.exprs.length s.es.cap,.int .i64 s.bound,.slice s.ts.at_ s.thn.length s.ts.cap,.slice s.os.at_ s.els.length s.os.cap] 43);have hB5:=zan wr (.cells #[.int .u8 s.kind,.string s.name,.slice s.es.at_ s.exprs.length s.es.cap,.int .i64 s.bound,.slice s.ts.at_ s.thn.length s.ts.cap,.slice s.os.at_ s.els.length s.os.cap] 43);have hs5:(wr.alloc (.cells #[.int .u8 s.kind,.string s.name,.slice s.es.at_ s.exprs.length s.es.cap,.int .i64 s.bound,.slice s.ts.at_ s.thn.length s.ts.cap,.slice s.os.at_ s.els.length s.os.cap] 43)).heap.size=wr.heap.size+1:=by simp
   have hj0:(0:Int)≤(k:Int):=by omega
   have hj1:(k:Int)<(l.length:Int):=by omega
   have hxl:=HRT.out.xs.row.few;have htl:=HRT.out.then_.row.few;have hel:=HRT.out.else_.row.few;have HF:=zhd fun W=>G9 W s ⟨kk0,kk1⟩ hxl htl hel
   clear hcell hmem hts hsp hqt hqe;rw [eA];clear eA;simp only [aa.val,Sp.val] at HF;go_upto_region 4 with fail
   have HBA:=zhd hba;have HB5:=zhd hB5;have HS5:=zhd hs5;generalize wr.alloc (.cells #[.int .u8 s.kind,.string s.name,.slice s.es.at_ s.exprs.length s.es.cap,.int .i64 s.bound,.slice s.ts.at_ s.thn.length s.ts.cap,.slice s.os.at_ s.els.length s.os.cap] 43)=W5 at *;clear hba hB5 hs5 k0 k1 k2 k3 k4 k5;obtain ⟨c0,c1,c2,c3,c4,c5⟩:=ag HB5.out
   go_upto_if 18 with (first | (go_at_call 263;refine (HF.out _).mono ?_;rintro o6 w6 ⟨rfl,hb6⟩) | fail)
   obtain ⟨c0,c1,c2,c3,c4,c5⟩:=ag ((hb6.block _ (by have:=HS5.out;omega)).trans HB5.out);have HB6:=zhd hb6;clear hb6;generalize hfb:jB s=fB
   go_cut [8] (fun s8 wx=>s8=.int .i64 (if fB=true then eF K.p E s else 325)∧Below W5.heap.size W5 wx)
   case first=>as_aux_lemma =>
    cases fB with
    | false =>
     clear hfb;go_wp2_with fail
     go_meet
     case rel=>exact ⟨by simp,HB6.out⟩
    | true =>
     have HWG:Hid (∀W,Below W5.heap.size W5 W→Calls Tryz.prog 264 #[.pointer (some ⟨K.q,0,none⟩),s.val] W fun o w'=>o=.returned (.int .i64 (eF K.p E s))∧Below W.heap.size W w'):=zhd fun W hW=>by
      obtain ⟨over2,hk2,-⟩:=HTK.out.st.ex;have e:Below wr.heap.size wr W:=HBA.out.trans (hW.mono HBA.out.size);have es:=e.size;exact Gg W (hk2.new e) hH hE (HRT.out.stays ((HB.out.trans HTK.out.keeps.low).trans (e.mono (by omega)))) (by omega) hfb
     simp only [aa.val,Sp.val] at HWG;clear hfb;go_wp2_with (first | (go_at_call 264;refine (HWG.out _ HB6.out).mono ?_;rintro o7 w7 ⟨rfl,hb7⟩;have HB7:=zhd hb7;clear hb7) | fail)
     go_meet
     case rel=>exact ⟨by simp,HB6.out.trans (HB7.out.mono HB6.out.size)⟩
   case rest=>as_aux_lemma =>
    obtain ⟨rfl,hb8⟩:=hcut;have HB8:=zhd hb8;have hse:jo K.p E s d=if (decide ((if fB=true then eF K.p E s else 325)=0) && decide (dx K.p 32 1000<(d:Int)))=true then 319 else (if fB=true then eF K.p E s else 325):=by
     unfold jo;rw [hfb];cases fB with
     | false=>simp
     | true =>
      by_cases h1:eF K.p E s=0
      ·by_cases h2:dx K.p 32 1000<(d:Int) <;> simp [h1,h2]
      ·simp [h1]
    have HSE:=zhd hse;have HWB:Hid (Below wr.heap.size wr wc):=zhd (HBA.out.trans (hb8.mono HBA.out.size));clear hb8 hse c0 c1 c2 c3 c4 c5 HF HB6;obtain ⟨e0,he0⟩:∃e0,(if fB=true then eF K.p E s else 325)=e0:=⟨_,rfl⟩;rw [he0] at HSE;rw [he0];obtain ⟨over2,hk2,-⟩:=HTK.out.st.ex;have HLIM:=zhd (rz wc (hk2.new HWB.out) 32 1000);obtain ⟨lim,hlim⟩:∃lim,dx K.p 32 1000=lim:=⟨_,rfl⟩;rw [hlim] at HLIM HSE;clear he0 hk2 hlim hfb;go_upto_region 6 with fail
    go_cut [29] (fun s29 wx=>s29=.bool (decide (e0=0) && decide (lim<(d:Int)))∧wc=wx)
    case first=>as_aux_lemma =>
     by_cases he:e0=0
     ·subst he
      go_wp2_with (first | (go_at_call 253;refine HLIM.out.mono ?_;rintro o7 w7 ⟨rfl,rfl⟩) | fail)
      go_meet
      case rel=>exact ⟨by simp,rfl⟩
     ·have hne:(e0 == 0)=false:=by simpa using he
      have HD2:=zhd (decide_eq_false he);clear he;go_wp2_with fail
      go_meet
      case rel=>exact ⟨by rw [HD2.out];rfl,rfl⟩
    case rest=>as_aux_lemma =>
     obtain ⟨rfl,rfl⟩:=hcut;obtain ⟨b29,hb29⟩:∃b,(decide (e0=0) && decide (lim<(d:Int)))=b:=⟨_,rfl⟩;rw [hb29];rw [hb29] at HSE;clear hb29
     go_upto_if 29 with fail
     go_cut [8] (fun s8 wx=>s8=.int .i64 (jo K.p E s d)∧wc=wx)
     case first=>as_aux_lemma =>
      cases b29
      all_goals
       go_wp2_with fail
       go_meet
       case rel=>exact ⟨by rw [HSE.out];simp,rfl⟩
     case rest=>as_aux_lemma =>
      obtain ⟨rfl,rfl⟩:=hcut;obtain ⟨wq,hwq⟩:∃wq,wq=wr:=⟨_,rfl⟩;subst hwq;obtain ⟨se,hse⟩:∃se,jo K.p E s d=se:=⟨_,rfl⟩;rw [hse];obtain ⟨cs1,hcs1⟩:∃cs1,cs++aH K.p E (l.take k) d=cs1:=⟨_,rfl⟩;have hl1:cs1.length=cs.length+(aH K.p E (l.take k) d).length:=by rw [←hcs1,List.length_append]
      have hst1:=HTK.out.st.new hJ hJx HWB.out;have hkq:=(HTK.out.keeps.trans (.of_below HWB.out (by have:=HTK.out.keeps.size;omega)));rw [hcs1] at hst1;have hlen:=HLEN.out;have hdl:=HD.out;have hspl:=HSP.out;have HTL:=zhd (hT pm E cs1 wc se hst1 (by omega));have hbox:wc.heap[wq.heap.size]? = some (.cells #[.int .u8 s.kind,.string s.name,.slice s.es.at_ s.exprs.length s.es.cap,.int .i64 s.bound,.slice s.ts.at_ s.thn.length s.ts.cap,.slice s.os.at_ s.els.length s.os.cap] 43 (0,0)) :=
       (HB8.out.block _ (by have:=HS5.out;omega)).trans HB5.out
      have HBOX:=zhd hbox;have HKQ:=zhd hkq;have HCS1:=zhd hcs1;have hstc:kM K.p E s d=se::(bI K.p E 0 s.exprs 1++(aH K.p E s.thn (d+1)++aH K.p E s.els (d+1))):=by rw [kN,hse]
      have HSTC:=zhd hstc;clear hse HSE HLIM hst1 hkq hbox hcs1 hstc HB8 HWB HBA HB5;have AFTER:Hid (∀X,bg K wc X→X.heap[wq.heap.size]? = some (.cells #[.int .u8 s.kind,.string s.name,.slice s.es.at_ s.exprs.length s.es.cap,.int .i64 s.bound,.slice s.ts.at_ s.thn.length s.ts.cap,.slice s.os.at_ s.els.length s.os.cap] 43 (0,0))) :=
       zhd fun X hX=>hX.cells _ _ _ _ HBOX.out rfl (by omega)
      go_upto_region 9 with (first | (go_at_call 228;refine HTL.out.mono ?_;rintro o9 w9 ⟨rfl,ht9⟩;have HT9:=zhd ht9;clear ht9) | fail)
      obtain ⟨c0,c1,c2,c3,c4,c5⟩:=ag (AFTER.out _ HT9.out.keeps);go_wp2_with fail
      go_loopw [36] (fun v wx=>∃j:Nat,j≤s.exprs.length∧v=.int .i64 j∧Told K J Jx pm E (cs1++se::bI K.p E 0 (s.exprs.take j) 1) wc wx) (fun v _=>s.exprs.length - (intOf v).toNat)
      case atStart=>exact ⟨0,Nat.zero_le _,rfl,by rw [List.take_zero,bI];exact HT9.out⟩
      case round =>
       obtain ⟨j,hj,rfl,htj⟩:=hrel;have HTJ:=zhd htj;clear htj c0 c1 c2 c3 c4 c5;by_cases hjl:j<s.exprs.length
       ·have hsx:=za K.p E 0 s.exprs 1 j hjl
        have hbl:=HB.out.trans (HKQ.out.low.trans HTJ.out.keeps.low);obtain ⟨b6,off6,eA,hbn6,hcell⟩:=(HRT.out.xs.row.below hbl).row (by omega);have hmem:s.exprs[j]∈s.exprs:=List.getElem_mem hjl;have hts:s.exprs.take (j+1)=s.exprs.take j++[s.exprs[j]]:=List.take_succ_eq_append_getElem hjl;have k0:wr.cell? ⟨b6,off6+j*6,none⟩=some (.int .u8 s.exprs[j].kind):=hcell j hjl 0 _ rfl;have k1:wr.cell? ⟨b6,off6+j*6+1,none⟩=some (.int .u8 s.exprs[j].op):=hcell j hjl 1 _ rfl;have k2:wr.cell? ⟨b6,off6+j*6+2,none⟩=some (.int .u32 s.exprs[j].value):=hcell j hjl 2 _ rfl;have k3:wr.cell? ⟨b6,off6+j*6+3,none⟩=some (.int .i64 s.exprs[j].width):=hcell j hjl 3 _ rfl;have k4:wr.cell? ⟨b6,off6+j*6+4,none⟩=some (.string s.exprs[j].name):=hcell j hjl 4 _ rfl;have k5:wr.cell? ⟨b6,off6+j*6+5,none⟩=some (.slice s.exprs[j].sp.at_ s.exprs[j].subs.length s.exprs[j].sp.cap):=hcell j hjl 5 _ rfl;have hEX:=pY hJ hJx hT (pm:=pm) (E:=E) (wh:=0) (HRT.out.xs.ok _ hmem);have HTJS:=zhd hts;generalize s.exprs[j]=x at *;have hsw2:=HTJ.out.keeps.size;have hbn2:=zba wr (.cells #[.int .u8 x.kind,.int .u8 x.op,.int .u32 x.value,.int .i64 x.width,.string x.name,.slice x.sp.at_ x.subs.length x.sp.cap] 30);have hst2:=HTJ.out.st.new hJ hJx hbn2;have hk0s:=HKQ.out.size;have hC:=hEX _ 1 _ (hbl.trans (hbn2.mono (by omega))) hst2 (by simp only [List.length_append,List.length_cons];omega) (by omega);simp only [ae.val,Sp.val,Int.natCast_one] at hC;have HCX:=zhd hC;have HBN2:=zhd hbn2;have hj20:(0:Int)≤(j:Int):=by omega
        have hj21:(j:Int)<(s.exprs.length:Int):=by omega
        clear hcell hmem hts hbn2 hst2 hC hEX hbl hsx;rw [eA];clear eA;go_wp2_with fail
        refine HCX.out.mono ?_;rintro o w2 ⟨rfl,ht2⟩;have HT2:=zhd (ht2.after (HTJ.out.keeps.trans (.of_below HBN2.out (by omega))));clear ht2 k0 k1 k2 k3 k4 k5;go_wp2_with fail
        go_roundw
        case rel=>exact ⟨j+1,by omega,by go_num,by
         rw [HTJS.out,oH];have e2:bI K.p E 0 [x] 1=fC K.p E 0 x 1:=by rw [bU];simp
         rw [e2]
         simpa using HT2.out⟩
        case measure=>simp [intOf];omega
       ·obtain rfl:j=s.exprs.length:=by omega
        have ht:=HTJ.out;rw [List.take_length] at ht;have HTJ2:=zhd ht;obtain ⟨c0,c1,c2,c3,c4,c5⟩:=ag (AFTER.out _ ht.keeps);have hk0s:=HKQ.out.size;have hsw2:=ht.keeps.size;have hb1:=HB.out.trans (HKQ.out.low.trans ht.keeps.low);have hCT:=HQT.out _ (d+1) _ hb1 ht.st (by simp only [List.length_append,List.length_cons];omega) (by omega);have HCT:=zhd hCT;have hcast:(((d+1:Nat)):Int)=(d:Int)+1:=by omega
        rw [hcast] at HCT;simp only [Sp.val] at HCT;clear hCT hcast ht hb1;have HTH:Hid (∀X,Told K J Jx pm E ((cs1++se::bI K.p E 0 s.exprs 1)++aH K.p E s.thn (d+1)) wr X→Calls Tryz.prog 232 #[.pointer (some ⟨K.q,0,none⟩),.slice s.os.at_ s.els.length s.os.cap,.int .i64 ((d:Int)+1)] X fun o w'=>o=.returned (.tuple #[])∧Told K J Jx pm E (((cs1++se::bI K.p E 0 s.exprs 1)++aH K.p E s.thn (d+1))++aH K.p E s.els (d+1)) X w'):=zhd fun X hX=>by
         have hb2:=HB.out.trans (HKQ.out.low.trans (HTJ2.out.keeps.low.trans hX.keeps.low));have:=HQE.out _ (d+1) X hb2 hX.st (by simp only [List.length_append,List.length_cons];omega) (by omega);have hcast:(((d+1:Nat)):Int)=(d:Int)+1:=by omega
         rw [hcast] at this;exact this
        go_wp2_with fail
        refine HCT.out.mono ?_;rintro o w2 ⟨rfl,ht2⟩;have HT2:=zhd ht2;clear ht2 c0 c1 c2 c3 c4 c5;obtain ⟨c0,c1,c2,c3,c4,c5⟩:=ag (AFTER.out _ (HTJ2.out.keeps.trans HT2.out.keeps));have HCE:=zhd (HTH.out _ HT2.out);go_wp2_with fail
        refine HCE.out.mono ?_;rintro o w3 ⟨rfl,ht3⟩;have HT3:=zhd (ht3.after (HKQ.out.trans (HTJ2.out.keeps.trans HT2.out.keeps)));clear ht3 c0 c1 c2 c3 c4 c5;go_wp2_with fail
        go_roundw
        case rel=>exact ⟨k+1,by omega,by go_num,by
         have h9:=HT3.out;rw [←HCS1.out] at h9;rw [HTS.out,oW];have e2:aH K.p E [s] d=kM K.p E s d:=by rw [bA];simp
         rw [e2,HSTC.out]
         simpa using h9⟩
        case measure=>simp [intOf];omega
  ·obtain rfl:k=l.length:=by omega
   go_wp2_with fail
   go_returns
   have:=HTK.out;rw [List.take_length] at this;exact ⟨rfl,this⟩
theorem BN {K:gp} {J Jx:List (Int × Int)→World→Prop} (hJ:bN 246 K.B J) (hJx:bN 246 K.B Jx) (hT:j6 K J Jx) (hH:aR K.p≤20000) {pm:Option Nat} {E:Env} (hE:E.within≤1000000000) {W0:World} {s:aa} (h:eu K.n₀ W0 s) :
  mY K J Jx pm E W0 s.ts s.thn∧mY K J Jx pm E W0 s.os s.els:=by
 induction h with
 | mk s k b n er ex tr th orow el ih1 ih2=>exact ⟨mP hJ hJx hT hH hE tr th ih1,mP hJ hJx hT hH hE orow el ih2⟩
theorem oV {K:gp} {J Jx:List (Int × Int)→World→Prop} (hJ:bN 246 K.B J) (hJx:bN 246 K.B Jx) (hT:j6 K J Jx) (hH:aR K.p≤20000) {pm:Option Nat} {E:Env} (hE:E.within≤1000000000) {W0:World} {sp:Sp} {l:List aa} (h:bX K.n₀ W0 sp l) :
  mY K J Jx pm E W0 sp l:=mP hJ hJx hT hH hE h.row h.ok (fun s hs=>BN hJ hJx hT hH hE (h.ok s hs))
end
section
open Go Go.RowKit Go.Maps
theorem bg.turned {K:gp} {w X X':World} {b:Nat} (h:bg K w X) (ht:X.mapTurned X' b) (hb:w.heap.size≤b) (hn:K.n₀≤w.heap.size):bg K w X':=by
 have hg:=ht.grown;have hs:=h.size;have hne:∀(k:Nat) (o:Obj),w.heap[k]? = some o→k≠b∧k<X.heap.size:=fun k o ho=>by have:=(zgs ho).1;omega
 refine ⟨Nat.le_trans hs hg.size,fun k o hB ho hc=>?_,fun k cs t fr ho hk hq=>?_,?_⟩
 ·obtain ⟨h1,h2⟩:=hne k _ ho
  exact (hg.block k h2 (by simpa using h1)).trans (h.same k o hB ho hc)
 ·obtain ⟨h1,h2⟩:=hne k _ ho
  exact (hg.block k h2 (by simpa using h1)).trans (h.cells k cs t fr ho hk hq)
 ·exact h.low.trans ⟨hg.os,hg.tape,hg.output,hg.size,fun k hk=>hg.block k (by omega) (by intro e;cases e;omega)⟩
theorem iU.turned {K:gp} {J Jx:List (Int × Int)→World→Prop} (hJ:bN 246 K.B J) (hJx:bN 246 K.B Jx) {pm:Option Nat} {E:Env} {cs:List Int} {X X':World} {b:Nat} (h:iU K J Jx pm E cs X) (ht:X.mapTurned X' b) (hB:K.B≤b) (h1:b≠K.mt) (h2:b≠K.mp) (h3:pm≠some b):iU K J Jx pm E cs X':=by
 obtain ⟨over,hk,hs⟩:=h.ex;have hg:=ht.grown;obtain ⟨es,cl,es',cl',hb0,he⟩:=id ht;have hother:∀k,k≠b→k<X.heap.size→X'.heap[k]? = X.heap[k]? := fun k hk2 hlt=>hg.block k hlt (by simpa using hk2)
 have hqm:K.q≠b:=by
  intro e;have:=hk.box;rw [e,hb0] at this;cases this
 refine ⟨over,⟨(hother _ hqm hk.lt).trans hk.box,?_,?_,?_,hk.prog.below ⟨hg.os,hg.tape,hg.output,hg.size,fun k hk2=>hother k (by have:=hk.n0;omega) (by have:=hk.lt;have:=hk.q;have:=hk.n0;omega)⟩,hk.n0,hk.q,hk.mt,hk.mp⟩,hs.keep (fun l hl=>hJ.turned hl hB ht) (fun l hl=>hJx.turned hl hB ht)⟩
 ·cases pm with
  | none=>exact hk.params
  | some m =>
   obtain ⟨a1,k,a2⟩:=hk.params;exact ⟨a1,k,a2.of_block (hother m (fun e=>h3 (by rw [e])) a2.lt)⟩
 ·obtain ⟨k,a2⟩:=hk.things
  exact ⟨k,a2.of_block (hother _ (Ne.symm h1) a2.lt)⟩
 ·obtain ⟨k,a2⟩:=hk.procs
  exact ⟨k,a2.of_block (hother _ (Ne.symm h2) a2.lt)⟩
theorem iU.maps {K:gp} {J Jx:List (Int × Int)→World→Prop} {pm:Option Nat} {E:Env} {cs:List Int} {X:World} (h:iU K J Jx pm E cs X):K.mt<X.heap.size∧K.mp<X.heap.size∧∀m,pm=some m→m<X.heap.size:=by
 obtain ⟨over,hk,hs⟩:=h.ex;refine ⟨?_,?_,fun m hm=>?_⟩
 ·obtain ⟨k,a2⟩:=hk.things;exact a2.lt
 ·obtain ⟨k,a2⟩:=hk.procs;exact a2.lt
 ·subst hm
  obtain ⟨a1,k,a2⟩:=hk.params;exact a2.lt
theorem vQ {α:Type} [DecidableEq α]:∀(zs L:List α),zs.Nodup→(∀x∈zs,x∈L)→zs.length≤L.length
 | [],_,_,_=>Nat.zero_le _
 | x::zs,L,hn,hs=>by
  obtain ⟨h1,h2⟩:=List.nodup_cons.1 hn;have hx:=hs x (List.mem_cons_self ..);have:=vQ zs (L.erase x) h2 (fun y hy=>(List.mem_erase_of_ne (fun e=>h1 (by rw [←e];exact hy))).2 (hs y (List.mem_cons_of_mem _ hy)));rw [List.length_erase_of_mem hx] at this;have hp:0<L.length:=List.length_pos_of_mem hx;simp only [List.length_cons];omega
theorem mq (p:af) (a:Bool):∀(l:List aG) (b:List ByteArray) (d:aG),bB p a (l++[d]) b=bB p a l b++[mo p (b++l.map aG.name) a d]
 | [],b,d=>by simp [bB]
 | x::l,b,d=>by
  rw [List.cons_append,bB,mq p a l,bB];simp
theorem kF (l:List ByteArray) (s:ByteArray):gQ l s=true↔s∈l:=by
 unfold gQ;simp
theorem Bh {α:Type} (T:List (ByteArray × α)) (s:ByteArray):(look T s).isSome=gQ (T.map (·.1)) s:=by
 unfold look gQ;rw [Bool.eq_iff_iff];simp [List.find?_isSome]
structure Ab (K:gp) (n:Nat) (D:DataW Unit) (left:Lit→Bool) (zs:List ByteArray):Prop where
 nodup:zs.Nodup
 sub:∀s∈zs,s∈aL K.p
 gone:∀s∈zs,left (jX s)=false
 rest:∀s,s∈aL K.p→s.size≤maxLen→s∈zs∨left (jX s)=true
 key:∀kl,left kl=true→Maps.has D kl=true
theorem Ab.step {K:gp} {n:Nat} {D:DataW Unit} {left:Lit→Bool} {zs:List ByteArray} (h:Ab K n D left zs) {x:ByteArray} (hl:left (jX x)=true) (hx:x∈aL K.p):Ab K n D (fun z=>left z && !z.sameKey (jX x)) (zs++[x]):=by
 have hxz:x∉zs:=fun hm=>by rw [h.gone x hm] at hl;cases hl
 have hself:(jX x).sameKey (jX x)=true:=WideAt.sameKey_self (by trivial);refine ⟨?_,?_,?_,?_,?_⟩
 ·rw [List.nodup_append]
  refine ⟨h.nodup,by simp,fun a ha b hb e=>?_⟩;rw [List.mem_singleton] at hb;subst hb;subst e;exact hxz ha
 ·intro s hs
  rcases List.mem_append.1 hs with hs | hs
  ·exact h.sub s hs
  ·rw [List.mem_singleton.1 hs];exact hx
 ·intro s hs
  rcases List.mem_append.1 hs with hs | hs
  ·rw [h.gone s hs];rfl
  ·rw [List.mem_singleton.1 hs,hself];simp
 ·intro s hs hsz
  rcases h.rest s hs hsz with h1 | h1
  ·exact .inl (List.mem_append_left _ h1)
  ·by_cases e:s=x
   ·exact .inl (by rw [e];simp)
   ·refine .inr ?_
    have hne:(jX s).sameKey (jX x)=false:=Bool.eq_false_iff.2 fun h2=>e (IU (WideAt.sameKey_eq h2))
    simp [h1,hne]
 ·intro kl hk
  simp at hk;exact h.key kl hk.1
theorem dD.names {W:World} {mb n n':Nat} {l l':List ByteArray} {f:ByteArray→Option Int} (h:dD W mb n l f) (hn:n≤n') (hl:∀s,(f s).isSome=true→gQ l' s=true) (hl2:∀s,gQ l' s=true→gQ l s=true):dD W mb n' l' f:=by
 refine ⟨h.map.mono hn,fun s=>?_,fun s c hc=>by have:=h.few s c hc;omega⟩;rw [Bool.eq_iff_iff];exact ⟨hl s,fun h2=>by rw [h.has];exact hl2 s h2⟩
structure eT (p:af):Prop where
 decls:∀d,d∈p.inputs++p.ghosts++p.vars++p.arrays→d.name.size≤4294967200
 procs:∀q∈p.procs,q.name.size≤4294967200∧∀d∈q.params,d.name.size≤4294967200
theorem BU {p:af} (h:eT p):∀s∈aL p,s.size≤maxLen:=by
 intro s hs;have e:aL p=(p.inputs++p.ghosts++p.vars++p.arrays).map aG.name:=by
  unfold aL fO;simp [List.map_append,List.map_map,Function.comp_def]
 rw [e] at hs;obtain ⟨d,hd,rfl⟩:=List.mem_map.1 hs;have:=h.decls d hd;unfold maxLen;omega
theorem lW (p:af):(aL p).length=p.inputs.length+p.ghosts.length+p.vars.length+p.arrays.length:=by
 unfold aL fO;simp;omega
end
section
open Go Go.RowKit Go.Maps
theorem Bv (p:af) (l:List ByteArray) (q:aK):vU p l q=if (gQ l q.name || !ig p q.name.data.toList)=true then 321 else if decide (8<q.params.length)=true then 327 else 0:=by
 unfold vU;cases gQ l q.name <;> cases ig p q.name.data.toList <;> simp
set_option maxRecDepth 1000000 in
set_option maxHeartbeats 8000000 in
theorem IA {K:gp} {J Jx:List (Int × Int)→World→Prop} (hJ:bN 246 K.B J) (hJx:bN 246 K.B Jx) (hT:j6 K J Jx) (hH:aR K.p≤20000) (hN:eT K.p) (hn0:0<K.n₀) {pm:Option Nat} {E:Env} {cs:List Int} (w:World) (hst:iU K J Jx pm E cs w) (hmx:MxAt w)
  (i:Nat) (hi:i<K.p.procs.length) (hlen:cs.length+(jS K.p [] i K.p.procs[i]).length≤900000) {mb n:Nat} {l:List ByteArray} {f:ByteArray→Option Int} (hm:dD w mb n l f) :
  Calls Tryz.prog 231 #[.pointer (some ⟨K.q,0,none⟩),.int .i64 i,.map (some mb)] w fun o w'=>o=.returned (.tuple #[])∧pI K J Jx outside (cs++jS K.p l i K.p.procs[i]) w w':=by
 obtain ⟨over,hk,-⟩:=hst.ex;have hn0w:K.n₀≤w.heap.size:=by have:=hk.lt;have:=hk.q;have:=hk.n0;omega
 have hw0:0<w.heap.size:=by have:=hk.lt;omega
 have hqw:=hk.lt;have hq:=hk.prog.procs _ (List.getElem_mem hi);obtain ⟨b,off,eA,hbn,hcell⟩:=hk.prog.prow.row (by omega);have k0:w.cell? ⟨b,off+i*3,none⟩=some (.string K.p.procs[i].name):=hcell i hi 0 _ rfl;have k1:w.cell? ⟨b,off+i*3+1,none⟩=some (.slice K.p.procs[i].ps.at_ K.p.procs[i].params.length K.p.procs[i].ps.cap):=hcell i hi 1 _ rfl;have k2:w.cell? ⟨b,off+i*3+2,none⟩=some (.slice K.p.procs[i].bs.at_ K.p.procs[i].body.length K.p.procs[i].bs.cap):=hcell i hi 2 _ rfl;have c13:=hk.c13;rw [eA] at c13;have hi0:(0:Int)≤(i:Int):=by omega
 have hi1:(i:Int)<(K.p.procs.length:Int):=by omega
 obtain ⟨hnq,hnd⟩:=hN.procs _ (List.getElem_mem hi);have hin:inside K.p i=inside K.p i:=rfl;have hpc:jS K.p l i K.p.procs[i]=vU K.p l K.p.procs[i]::(bB K.p false K.p.procs[i].params (aL K.p)++aH K.p (inside K.p i) K.p.procs[i].body 1):=rfl;have hpl:(jS K.p [] i K.p.procs[i]).length=1+(K.p.procs[i].params.length+(aH K.p (inside K.p i) K.p.procs[i].body 1).length):=by
  show (_::(_++_)).length=_;rw [List.length_cons,List.length_append,fJ];omega
 have hpr:=oL hH;have HPC:=zhd hpc;have HQ:=zhd hq;have HEI:Hid (Calls Tryz.prog 262 #[.pointer (some ⟨K.q,0,none⟩),.int .i64 i] w fun _ _=>True):=zhd ((xO hJ hJx w hst i hi).mono fun _ _ _=>trivial);have HENT:=fun (pm':Option Nat) (E':Env) (cs':List Int) (X:World) (h:iU K J Jx pm' E' cs' X)=>xO hJ hJx X h i hi
 have HENT2:=zhd HENT;rw [hpl] at hlen;rw [hpc];generalize K.p.procs[i]=x at *;have hpf:=HQ.out.params.row.few;have hb1:=zba w (.cells #[.string x.name,.slice x.ps.at_ x.params.length x.ps.cap,.slice x.bs.at_ x.body.length x.bs.cap] 54);have hB1:=zan w (.cells #[.string x.name,.slice x.ps.at_ x.params.length x.ps.cap,.slice x.bs.at_ x.body.length x.bs.cap] 54);have hNM:=vN _ (hk.new hb1) x.name hnq (hmx.below hb1 hw0);have hmb:=hm.new hb1;have hlk:=hmb.look (s:=x.name) (by unfold maxLen;omega);have hpe:=Bv K.p l x;obtain ⟨pe,hpe0⟩:∃pe,vU K.p l x=pe:=⟨_,rfl⟩;rw [hpe0] at hpe ⊢;have HPE:=zhd hpe;have HST:=zhd hst;have HMX:=zhd hmx;have HLEN:=zhd hlen;have HND:=zhd hnd;clear hpe hpe0 hst hk hm hmb hmx hcell hq hpc hpl hlen HENT HEI hin HPC hnd;go_enter Tryz.func231,Tryz.ntmps231
 go_upto_region 1 with fail
 have HB1:=zhd hB1;have HBW1:=zhd hb1;have HNM:=zhd hNM;clear hNM hb1 hB1;generalize w.alloc (.cells #[.string x.name,.slice x.ps.at_ x.params.length x.ps.cap,.slice x.bs.at_ x.body.length x.bs.cap] 54)=W1 at *;obtain ⟨c0,c1,c2⟩:=aQ HB1.out;clear k0 k1 k2 c13;generalize hnn:ig K.p x.name.data.toList=nn at *;generalize hha:gQ l x.name=ha at *;clear hnn hha;have HTELL:Hid (∀(c:Int) (X:World),Below W1.heap.size W1 X→Calls Tryz.prog 228 #[.pointer (some ⟨K.q,0,none⟩),.int .i64 c] X fun o w'=>o=.returned (.tuple #[])∧Told K J Jx pm E (cs++[c]) w w'∧w'.heap[w.heap.size]? = some (.cells #[.string x.name,.slice x.ps.at_ x.params.length x.ps.cap,.slice x.bs.at_ x.body.length x.bs.cap] 54 (0,0))):=zhd fun c X hX=>by
  have hbx:Below w.heap.size w X:=HBW1.out.trans (hX.mono HBW1.out.size);have hx1:X.heap[w.heap.size]? = some (.cells #[.string x.name,.slice x.ps.at_ x.params.length x.ps.cap,.slice x.bs.at_ x.body.length x.bs.cap] 54 (0,0)):=(hX.block _ (zgs HB1.out).1).trans HB1.out;refine (hT pm E cs X c (HST.out.new hJ hJx hbx) (by have:=HLEN.out;omega)).mono ?_;rintro o w' ⟨rfl,ht⟩;obtain ⟨over2,hk2,-⟩:=HST.out.ex;exact ⟨rfl,ht.after (.of_below hbx hn0w),ht.keeps.cells _ _ _ _ hx1 rfl (by have:=hk2.lt;omega)⟩
 go_upto_block 0 with fail
 go_cut [] (fun wx=>Told K J Jx pm E (cs++[pe]) w wx∧wx.heap[w.heap.size]? = some (.cells #[.string x.name,.slice x.ps.at_ x.params.length x.ps.cap,.slice x.bs.at_ x.body.length x.bs.cap] 54 (0,0)))
 case first =>
  cases ha with
  | true =>
   have hres:pe=321:=by rw [HPE.out];rfl
   have HRES:=zhd hres;clear hres HNM;go_wp2_with (first | (go_at_call 228;refine (HTELL.out _ _ (Below.refl _ _)).mono ?_;rintro o9 w9 ⟨rfl,ht9,hx9⟩;have HT9:=zhd ht9;have HX9:=zhd hx9;clear ht9 hx9) | fail)
   go_meet
   case rel=>exact ⟨by rw [HRES.out];exact HT9.out,HX9.out⟩
  | false =>
   cases nn with
   | false =>
    have hres:pe=321:=by rw [HPE.out];rfl
    have HRES:=zhd hres;clear hres;go_wp2_with (first | (go_at_call 255;refine HNM.out.mono ?_;rintro o8 w8 ⟨rfl,hb8⟩;have HB8:=zhd hb8;clear hb8) | (go_at_call 228;refine (HTELL.out _ _ HB8.out).mono ?_;rintro o9 w9 ⟨rfl,ht9,hx9⟩;have HT9:=zhd ht9;have HX9:=zhd hx9;clear ht9 hx9) | fail)
    go_meet
    case rel=>exact ⟨by rw [HRES.out];exact HT9.out,HX9.out⟩
   | true =>
    go_upto_region 5 with (first | (go_at_call 255;refine HNM.out.mono ?_;rintro o8 w8 ⟨rfl,hb8⟩;have HB8:=zhd hb8;clear hb8) | fail)
    clear c0 c1 c2 hlk;obtain ⟨c0,c1,c2⟩:=aQ ((HB8.out.block _ (zgs HB1.out).1).trans HB1.out);by_cases h8:8<x.params.length
    ·have e8:decide (8<x.params.length)=true:=decide_eq_true h8
     have f8:decide ((8:Int)<(x.params.length:Int))=true:=decide_eq_true (by omega);have hres:pe=327:=by rw [HPE.out,e8];rfl
     have HRES:=zhd hres;clear hres h8;go_wp2_with (first | (go_at_call 228;refine (HTELL.out _ _ HB8.out).mono ?_;rintro o9 w9 ⟨rfl,ht9,hx9⟩;have HT9:=zhd ht9;have HX9:=zhd hx9;clear ht9 hx9) | fail)
     go_meet
     case rel=>exact ⟨by rw [HRES.out];exact HT9.out,HX9.out⟩
    ·have e8:decide (8<x.params.length)=false:=decide_eq_false h8
     have f8:decide ((8:Int)<(x.params.length:Int))=false:=decide_eq_false (by omega);have hres:pe=0:=by rw [HPE.out,e8];rfl
     have HRES:=zhd hres;clear hres h8;go_wp2_with (first | (go_at_call 228;refine (HTELL.out _ _ HB8.out).mono ?_;rintro o9 w9 ⟨rfl,ht9,hx9⟩;have HT9:=zhd ht9;have HX9:=zhd hx9;clear ht9 hx9) | fail)
     go_meet
     case rel=>exact ⟨by rw [HRES.out];exact HT9.out,HX9.out⟩
 case rest =>
  obtain ⟨ht,hx⟩:=hcut;clear HNM HTELL HPE hlk c0 c1 c2 HB1 HBW1;have HT:=zhd ht;have HX:=zhd hx;obtain ⟨hmt,hmp,hpm⟩:=ht.st.maps;obtain ⟨over2,hk2,-⟩:=ht.st.ex;have hsz:=ht.keeps.size;have hmm:=@run_makeMap Tryz.prog;have hb2:=zba wc (.map #[] 0);have hk3:=hk2.new hb2;have c22:=hk3.c22;obtain ⟨nT,hmT⟩:=hk3.things;obtain ⟨D,hoD,hD⟩:=hmT.ex;have hbef:=dD.made wc;have hso:Ab K nT D (Maps.has D) []:=⟨List.nodup_nil,fun s h=>absurd h (by simp),fun s h=>absurd h (by simp),fun s hs hsz=>.inr (by
   have h1:=(hD (jX s) (by trivial)).1;rw [h1,eP,Bh];exact (kF _ _).2 hs),fun _ h=>h⟩
  have HD:=zhd hD;have HB2:=zhd hb2;have HBEF:=zhd hbef;have HSO:=zhd hso;have HPM:=zhd hpm;have hbq:=hk2.q;have hlq:=hk2.lt;have hmtB:=hk2.mt;have hmpB:=hk2.mp;clear ht hx hk2 hk3 hb2 hmT hD hbef hso hpm;have hs2:(wc.alloc (.map #[] 0)).heap.size=wc.heap.size+1:=by simp
  go_wp2_with (first | (at_range;refine wpList_range_own _ rfl _ 244 rfl 9 264 qf Tryz.underlying244 Ci.read K.mt nT D rfl hoD ?_;intro w0 hrg0 hg0 hs0) | fail)
  go_frame
  have hb0:Below wc.heap.size wc w0:=HB2.out.trans ⟨hg0.os,hg0.tape,hg0.output,hg0.size,fun k hk=>hg0.block k (by omega) (by simp)⟩;have hbef0:dD w0 wc.heap.size 0 [] (fun _=>none):=HBEF.out.of_block (hg0.block wc.heap.size (by omega) (by simp));have HBEF0:=zhd hbef0;have HB0:=zhd hb0;rw [hs2] at hrg0 hs0;have hS2:=zhd hs2;clear hg0 hoD c22 hbef0 hb0 HBEF hs2;rw [hS2.out];go_loopw [10] (fun _ wr=>∃(zs:List ByteArray) (f':ByteArray→Option Int) (left:Lit→Bool) (cnt:Nat),wr.ranges Tryz.prog 9 Ci.read K.mt (wc.heap.size+1) nT D left cnt∧dD wr wc.heap.size zs.length zs f'∧Hid (Ab K nT D left zs)∧Below wc.heap.size wc wr) (fun _ wr=>wr.rangeLeft K.mt (wc.heap.size+1))
  case atStart=>exact ⟨[],_,_,_,hrg0,HBEF0.out,HSO,HB0.out⟩
  case round =>
   obtain ⟨zs,f',left,cnt,hrg,hbf,HOS,hbw⟩:=hrel;have HBF:=zhd hbf;have HBW:=zhd hbw;clear hbf hbw hrg0;go_wp2_with (first | (at_next;refine wpList_next_ranges _ rfl _ rfl 9 qf Ci.read Value.string fA.val (fun key kl hkey=>by obtain ⟨s,rfl,_⟩:=Go.WideMaps.string_of_keyOf Tryz.underlying9 hkey;exact ⟨s,rfl⟩) (fun v y hv=>by obtain ⟨c,rfl,_⟩:=Ci.inv v y hv;exact ⟨c,rfl⟩) K.mt (wc.heap.size+1) nT D left cnt rfl hrg ?_ ?_) | fail)
   ·intro hc0 hl0
    have hzl:=vQ zs _ HOS.out.nodup HOS.out.sub;have hbf2:=HBF.out.names (l':=aL K.p) hzl (fun s hs=>by
     rw [HBF.out.has] at hs;exact (kF _ _).2 (HOS.out.sub s ((kF _ _).1 hs))) (fun s hs=>by
     have hs2:=(kF _ _).1 hs;rcases HOS.out.rest s hs2 (BU hN s hs2) with h | h
     ·exact (kF _ _).2 h
     ·rw [hl0] at h;cases h)
    have HBF2:=zhd hbf2;have hnl:=lW K.p;have hhp:(aL K.p).length≤20000:=by rw [hnl];unfold aR at hH;omega
    obtain ⟨wq,hwq⟩:∃wq,wq=wr:=⟨_,rfl⟩;subst hwq;have hbx:=(HBW.out.block w.heap.size (Nat.lt_of_lt_of_le (zgs HX.out).1 (Nat.le_refl _))).trans HX.out;obtain ⟨c0,c1,c2⟩:=aQ hbx;have HBX:=zhd hbx;have hszq:=HBW.out.size;have hT0:Told K J Jx pm E (cs++[pe]) w wq:=⟨HT.out.st.new hJ hJx HBW.out,HT.out.keeps.trans (.of_below HBW.out (by omega))⟩;have HT0:=zhd hT0;clear hbf2 hrg hbx HBF HOS hzl hl0 hT0 hnl;go_wp2_with fail
    go_loopw [65] (fun v wx=>∃(k:Nat) (f2:ByteArray→Option Int),k≤x.params.length∧v=.int .i64 k∧Told K J Jx pm E ((cs++[pe])++bB K.p false (x.params.take k) (aL K.p)) w wx∧dD wx wc.heap.size ((aL K.p).length+k) (aL K.p++(x.params.take k).map aG.name) f2∧wx.heap[w.heap.size]? = some (.cells #[.string x.name,.slice x.ps.at_ x.params.length x.ps.cap,.slice x.bs.at_ x.body.length x.bs.cap] 54 (0,0))) (fun v _=>x.params.length - (intOf v).toNat)
    case atStart=>exact ⟨0,f',Nat.zero_le _,rfl,by simpa [bB] using HT0.out,by simpa using HBF2.out,HBX.out⟩
    case round =>
     obtain ⟨k,f2,hk,rfl,htk,hbk,hbxk⟩:=hrel;have HTK:=zhd htk;have HBK:=zhd hbk;have HBXK:=zhd hbxk;clear htk hbk hbxk c0 c1 c2;by_cases hlt2:k<x.params.length
     ·obtain ⟨b2,off2,eA2,hbn2,hcell⟩:=(HQ.out.params.row.below HTK.out.keeps.low).row (by omega)
      have hmem:=List.getElem_mem hlt2;have hok:=HQ.out.params.ok _ hmem;have hdn:=HND.out _ hmem;have k0:wr.cell? ⟨b2,off2+k*3,none⟩=some (.string x.params[k].name):=hcell k hlt2 0 _ rfl;have k1:wr.cell? ⟨b2,off2+k*3+1,none⟩=some (.int .i64 x.params[k].width):=hcell k hlt2 1 _ rfl;have k2:wr.cell? ⟨b2,off2+k*3+2,none⟩=some (.int .i64 x.params[k].size):=hcell k hlt2 2 _ rfl;have hts:x.params.take (k+1)=x.params.take k++[x.params[k]]:=List.take_succ_eq_append_getElem hlt2;have HTS:=zhd hts;generalize x.params[k]=d at *;have hsw:=HTK.out.keeps.size;have hba:=zba wr (.cells #[.string d.name,.int .i64 d.width,.int .i64 d.size] 50);have hB5:=zan wr (.cells #[.string d.name,.int .i64 d.width,.int .i64 d.size] 50);have hlt3:(bB K.p false (x.params.take k) (aL K.p)).length≤x.params.length:=by rw [fJ];exact List.length_take_le' _ _
      have hl0:=HLEN.out;have hDC:=Ay hJ hJx hT _ (HTK.out.st.new hJ hJx hba) (by simp only [List.length_append,List.length_cons,List.length_nil];omega) (HMX.out.below (HTK.out.keeps.low.trans (hba.mono (by omega))) hn0) (HBK.out.new hba) d hok hdn false;simp only [aG.val] at hDC;have HDC:=zhd hDC;have HBA:=zhd hba;have HB5:=zhd hB5;have hj0:(0:Int)≤(k:Int):=by omega
      have hj1:(k:Int)<(x.params.length:Int):=by omega
      clear hcell hts hDC hba hB5 hmem;rw [eA2];have HEA2:=zhd eA2;clear eA2;go_upto_region 16 with (first | (go_at_call 224;refine HDC.out.mono ?_;rintro o6 w6 ⟨rfl,ht6⟩;have HT6:=zhd ht6;clear ht6) | fail)
      clear k0 k1 k2;have hmlt:=HBK.out.map.lt;have hB6:=HT6.out.keeps.cells _ _ _ _ HB5.out rfl (by omega);obtain ⟨c0,c1,c2⟩:=aQ hB6;have hbk6:=(HBK.out.new HBA.out).keeps HT6.out.keeps (by omega);have hl1:=hbk6.look1 (s:=d.name) (by unfold maxLen;omega);obtain ⟨hcb0,hcb1⟩:=hbk6.bound d.name;obtain ⟨w8,hrun,hbk8,hturn⟩:=hbk6.store (s:=d.name) (by unfold maxLen;omega) (by omega);have hst8:=HT6.out.st.turned hJ hJx hturn (by omega) (by omega) (by omega) (fun e=>by have:=HPM.out _ e;omega);have hkp8:bg K w w8:=((HTK.out.keeps.trans (.of_below HBA.out (by omega))).trans HT6.out.keeps).turned hturn (by omega) hn0w;have hxlt:=(zgs HX.out).1;have hbx8:w8.heap[w.heap.size]? = _:=(hturn.grown.block _ (by have:=(zgs HBXK.out).1;have:=HBA.out.size;have:=HT6.out.keeps.size;omega) (by intro e;have:=Option.some.inj e;have:=(zgs HX.out).1;omega)).trans (HT6.out.keeps.cells _ _ _ _ ((HBA.out.block _ (zgs HBXK.out).1).trans HBXK.out) rfl (by omega));generalize (f2 d.name).getD 0=c at *;have HST8:=zhd hst8;have HKP8:=zhd hkp8;have HBX8:=zhd hbx8;have HBK8:=zhd hbk8;clear hbk6 hbk8 hturn hst8 hkp8 hbx8 hB6;go_wp2_with (refine dE rfl _ _ _ 119 rfl rfl rfl rfl hrun ?_)
      go_roundw
      case rel=>exact ⟨k+1,_,by omega,by go_num,by
       rw [HTS.out,mq,←List.append_assoc];exact ⟨HST8.out,HKP8.out⟩,by
       rw [HTS.out,List.map_append,←List.append_assoc];exact HBK8.out,by have h:=HBX8.out;rw [HEA2.out] at h;exact h⟩
      case measure=>simp [intOf];omega
     ·obtain rfl:k=x.params.length:=by omega
      rw [List.take_length] at HTK;obtain ⟨c0,c1,c2⟩:=aQ HBXK.out;have HEN:=zhd (HENT2.out _ _ _ wr HTK.out.st);have HSB:Hid (∀(pm':Option Nat) (X:World),Below K.n₀ w X→iU K J Jx pm' (inside K.p i) ((cs++[pe])++bB K.p false x.params (aL K.p)) X→Calls Tryz.prog 232 #[.pointer (some ⟨K.q,0,none⟩),x.bs.val x.body.length,.int .i64 1] X fun o w'=>o=.returned (.tuple #[])∧Told K J Jx pm' (inside K.p i) (((cs++[pe])++bB K.p false x.params (aL K.p))++aH K.p (inside K.p i) x.body 1) X w'):=zhd fun pm' X hX hs=>by
       have hl0:=HLEN.out;have hl2:(bB K.p false x.params (aL K.p)).length=x.params.length:=fJ _ _ _ _;have:=oV hJ hJx hT hH (pm:=pm') (E:=inside K.p i) (by show (i:Int)≤1000000000;omega) HQ.out.body _ 1 X hX hs (by simp only [List.length_append,List.length_cons,List.length_nil];omega) (by omega)
       simpa using this
      simp only [Sp.val] at HSB;clear HBK;go_wp2_with fail
      refine HEN.out.mono ?_;rintro o w5 ⟨rfl,hen5⟩;obtain ⟨pm5,hst5,-⟩:=hen5.st;have hlow5:=HTK.out.keeps.low.trans hen5.keeps.low;have hbx5:=hen5.keeps.cells _ _ _ _ HBXK.out rfl (by omega);clear c0 c1 c2;obtain ⟨c0,c1,c2⟩:=aQ hbx5;have HS5:=zhd (HSB.out pm5 w5 hlow5 hst5);have HE5:=zhd hen5;clear hst5 hlow5 hbx5 hen5;go_wp2_with fail
      refine HS5.out.mono ?_;rintro o w6 ⟨rfl,ht6⟩;have HL6:=zhd (E8 hJ hJx w6 ht6.st);have HT6:=zhd ht6;clear ht6 c0 c1 c2;go_wp2_with fail
      refine HL6.out.mono ?_;rintro o w7 ⟨rfl,he7⟩;have HE7:=zhd he7;clear he7;go_wp2_with fail
      go_returns
      refine ⟨rfl,⟨?_,((HTK.out.keeps.trans HE5.out.keeps).trans HT6.out.keeps).trans HE7.out.keeps⟩⟩;obtain ⟨pm7,h9,h10⟩:=HE7.out.st;have hz1:=HTK.out.keeps.size;have hz2:=HE5.out.keeps.size;have hz3:=HT6.out.keeps.size;exact ⟨pm7,by simpa using h9,fun m e=>by have:=h10 m e;omega⟩
   ·intro s th kl y1 y2 w1 cnt1 hkey hlx hR hat hrg1 hlt hg1 hs1 hen
    obtain ⟨s',e1,rfl,hss⟩:=Go.WideMaps.string_of_keyOf Tryz.underlying9 hkey;cases e1
    have hmemT:s∈aL K.p:=by
     have h1:=HOS.out.key _ hlx;have h2:=(HD.out (jX s) (by trivial)).1;rw [eP,Bh] at h2;exact (kF _ _).1 (h2.symm.trans h1)
    have hzl:=vQ zs _ HOS.out.nodup HOS.out.sub;have hnl:=lW K.p;have hhp:(aL K.p).length≤20000:=by rw [hnl];unfold aR at hH;omega
    have hbf1:=HBF.out.of_block (W':=w1) (hg1.block _ (by have:=HBW.out.size;have:=HBF.out.map.lt;omega) (by intro e;have:=Option.some.inj e;omega));have hl1:=hbf1.look1 hss;obtain ⟨hcb0,hcb1⟩:=hbf1.bound s;obtain ⟨w8,hrun,hbk8,hturn⟩:=hbf1.store hss (by omega);have hos8:=HOS.out.step hlx hmemT;have hb8:Below wc.heap.size wc w8:=(HBW.out.grown hg1 HBW.out.size (fun q hq=>by cases hq;omega)).grown hturn.grown (by have:=HBW.out.size;omega) (fun q hq=>by cases hq;omega);have hrg8:=hrg1.kept hturn.grown (by intro e;have:=Option.some.inj e;omega) (by intro e;have:=Option.some.inj e;omega);have hcb2:(f' s).getD 0≤20000:=by omega
    generalize (f' s).getD 0=c at *;have hle8:zs.length+1=(zs++[s]).length:=by simp
    rw [hle8] at hbk8;clear hle8;have HOS8:=zhd hos8;have HB8:=zhd hb8;have HBK8:=zhd hbk8;have HRG8:=zhd hrg8;have HLT:=zhd hlt;have HLE:=zhd hrg.left_eq;clear hkey hlx hR hat hmemT hzl hnl hbf1 hos8 hb8 hrg8 hbk8 hturn hrg1 hrg hlt hg1 hs1;go_wp2_with (refine dE rfl _ _ _ 119 rfl rfl rfl rfl hrun ?_)
    go_roundw
    case rel =>
     repeat apply Exists.intro
     exact ⟨⟨zs++[s],_,_,cnt1,HRG8.out,HBK8.out,HOS8,HB8.out⟩,rfl⟩
    case measure=>rw [HRG8.out.left_eq,HLE.out];exact HLT.out
end
end Go.Proofs.YtepacjkacjabbaaGreatDoor
