import Derived.Test.YtepacjkacjabbaaGreatDoorPAA
import Derived.Test.YtepacjkacjabbaaGreatDoorPAX
import Derived.Test.YtepacjkacjabbaaGreatDoorPBC
import Derived.Test.YtepacjkacjabbaaGreatDoorPAM
import Derived.Deep.RegionWith
import Derived.WalkMore
import Derived.Test.YtepacjkacjabbaaGreatDoorPBF
import Derived.Test.YtepacjkacjabbaaGreatDoorPAI
import Derived.Test.YtepacjkacjabbaaGreatDoorPAH
import Derived.Test.YtepacjkacjabbaaGreatDoorPAV
namespace Go.Proofs.YtepacjkacjabbaaGreatDoor
section
open Go Go.RowKit Go.Maps
theorem wrap_small {x:Int} (h:-2000000≤x∧x≤2000000):IntKind.i64.wrap x=x:=by
 unfold IntKind.wrap;simp [IntKind.bits,IntKind.signed];omega
theorem pV:∀(l:List aa) (n:Int),n≤gz l n
 | [],n=>by rw [gz];omega
 | s::l,n=>by
  rw [gz];have:=pV l (max n (zW s));omega
theorem Ec (s:aa) (h:aM s):0≤zW s∧zW s≤1017:=by
 obtain ⟨k,n,es,ex,b,ts,th,os,el⟩:=s;have h1:=pV th 0;have h2:=pV el 0;rw [zW];cases hl:dY (.mk k n es ex b ts th os el) with
 | true =>
  obtain ⟨h3,h4,_⟩:=h (mG hl);change 1≤b at h3;change b≤16 at h4;rw [if_pos rfl];omega
 | false =>
  rw [if_neg (by decide)];omega
def xu (n0:Nat) (W0:World) (sp:Sp) (l:List aa):Prop:=∀W,Below n0 W0 W→n0≤W.heap.size →
 Calls Tryz.prog 104 #[.slice sp.at_ l.length sp.cap] W fun o w'=>o=.returned (.int .i64 (min (gz l 0) 1001))∧Below W.heap.size W w'
inductive Gm (s:aa):Array Value→Bool→Prop
 | th:Gm s #[.slice s.ts.at_ s.thn.length s.ts.cap] true
 | el:Gm s #[.slice s.os.at_ s.els.length s.os.cap] false
set_option maxRecDepth 1000000 in
set_option maxHeartbeats 1600000 in
theorem uY {n0:Nat} {W0:World} {sp:Sp} {l:List aa} (hr:bX n0 W0 sp l) (hw:ay l≤20000) (hlo:∀s∈l,aM s) (ih:∀s∈l,xu n0 W0 s.ts s.thn∧xu n0 W0 s.os s.els):xu n0 W0 sp l:=by
 intro w hw0 hn0;have HR:=zhd ((hr.below hw0).more hn0);have HIH:=zhd fun (i:Nat) (hi:i<l.length)=>ih _ (List.getElem_mem hi)
 have HLO:=zhd fun (i:Nat) (hi:i<l.length)=>hlo _ (List.getElem_mem hi)
 have HWT:=zhd fun (i:Nat) (hi:i<l.length)=>Nat.le_trans (bM l _ (List.getElem_mem hi)) hw
 have HW0:=zhd hw0;have hfew:=hr.row.few;have hcap:=hr.row.cap;have hbig:=hr.row.big;clear hr hw hlo ih hw0;go_enter Tryz.func104,Tryz.ntmps104
 go_wp2_with fail
 go_loopw [9,3] (fun s9 s3 wr=>∃(k:Nat) (n:Int),k≤l.length∧s9=.int .i64 k∧s3=.int .i64 n∧0≤n∧n≤1017∧gz l 0=gz (l.drop k) n∧Below w.heap.size w wr) (fun s9 _ _=>l.length - (intOf s9).toNat)
 case atStart=>exact ⟨0,0,Nat.zero_le _,rfl,rfl,by decide,by decide,rfl,Below.refl _ _⟩
 case round =>
  obtain ⟨k,n,hk,rfl,rfl,hn,hn2,hd,hb⟩:=hrel;have HD:=zhd hd;have HB:=zhd hb;clear hd hb;by_cases hlt:k<l.length
  ·obtain ⟨g,o,eA,hg,hc⟩:=(HR.out.row.below HB.out).row (by omega)
   have hc2:=hc k hlt;have HST:Hid (gz (l.drop k) n=gz (l.drop (k+1)) (max n (zW l[k]))):=zhd (by rw [List.drop_eq_getElem_cons hlt,gz]);have HS:=zhd (HR.out.ok _ (List.getElem_mem hlt));have HTH:=zhd fun (W:World) (hW:Below w.heap.size w W)=>(HIH.out k hlt).1 W (HW0.out.trans (hW.mono hn0)) (Nat.le_trans hn0 hW.size)
   have HEL:=zhd fun (W:World) (hW:Below w.heap.size w W)=>(HIH.out k hlt).2 W (HW0.out.trans (hW.mono hn0)) (Nat.le_trans hn0 hW.size)
   have HLK:=zhd (HLO.out k hlt);have HWK:=zhd (HWT.out k hlt);clear hc;generalize l[k]=s at *;have k0:=hc2 0 _ rfl;rw [Nat.add_zero] at k0;have k1:=hc2 1 _ rfl;have k2:wr.cell? ⟨g,o+k*6+2,none⟩=some (.slice s.es.at_ s.exprs.length s.es.cap):=hc2 2 _ rfl;have k3:=hc2 3 _ rfl;have k4:wr.cell? ⟨g,o+k*6+4,none⟩=some (.slice s.ts.at_ s.thn.length s.ts.cap):=hc2 4 _ rfl;have k5:wr.cell? ⟨g,o+k*6+5,none⟩=some (.slice s.os.at_ s.els.length s.os.cap):=hc2 5 _ rfl;have hba:=zba wr (.cells #[.int .u8 s.kind,.string s.name,.slice s.es.at_ s.exprs.length s.es.cap,.int .i64 s.bound,.slice s.ts.at_ s.thn.length s.ts.cap,.slice s.os.at_ s.els.length s.os.cap] 43);have hxa:=zan wr (.cells #[.int .u8 s.kind,.string s.name,.slice s.es.at_ s.exprs.length s.es.cap,.int .i64 s.bound,.slice s.ts.at_ s.thn.length s.ts.cap,.slice s.os.at_ s.els.length s.os.cap] 43);have hlow:=HB.out.trans (hba.mono HB.out.size);have hk0:(0:Int)≤(k:Int):=by omega
   have hk1:(k:Int)<(l.length:Int):=by omega
   clear hc2;rw [eA];have EA:=zhd eA;clear eA;go_upto_region 5 with fail
   clear k0 k1 k2 k3 k4 k5 hba;generalize wr.alloc (.cells #[.int .u8 s.kind,.string s.name,.slice s.es.at_ s.exprs.length s.es.cap,.int .i64 s.bound,.slice s.ts.at_ s.thn.length s.ts.cap,.slice s.os.at_ s.els.length s.os.cap] 43)=W5 at *;generalize wr.heap.size=bx at *;have HLW:=zhd (hlow.trans (Below.refl _ _).drew);have HXB:=zhd (((Below.refl W5.heap.size W5).drew.block _ (zgs hxa).1).trans hxa);obtain ⟨x0,x1,x2,x3,x4,x5⟩:=ag hxa;obtain ⟨A,hA⟩:∃x,min (gz s.thn 0) 1001=x:=⟨_,rfl⟩;obtain ⟨B,hB⟩:∃x,min (gz s.els 0) 1001=x:=⟨_,rfl⟩;have a0:=pV s.thn 0;have a1:=pV s.els 0;have hA0:0≤A∧A≤1001:=by omega
   have hB0:0≤B∧B≤1001:=by omega
   rw [hA] at HTH;rw [hB] at HEL;have HA:=zhd hA;have HBB:=zhd hB;clear hA hB a0 a1 hlow hxa;have HALL:Hid (∀W,Below w.heap.size w W→∀args b,Gm s args b→Calls Tryz.prog 104 args W fun o w'=>o=.returned (.int .i64 (if b=true then A else B))∧Below W.heap.size W w'):=zhd fun W hW args b h=>by
    cases h with
    | th=>exact HTH.out W hW
    | el=>exact HEL.out W hW
   have hw1:IntKind.i64.wrap (1+max A B)=1+max A B:=wrap_small (by omega);have HLOOP:=zhd fun (W:World) (hW:Below w.heap.size w W)=>qg W s ((HS.out.stays hW).more hW.size) HWK.out
   have hdp:zW s=if dY s=true then s.bound+max (max A B) 2 else 1+max A B:=by
    rw [←HA.out,←HBB.out];cases s
    rw [zW]
    rfl
   have HDP:=zhd hdp;clear HTH HEL hdp;go_region_with (first
    | (go_at_call 104;refine (HALL.out _ HLW.out _ true (by with_reducible exact .th)).mono ?_;rintro o W6 ⟨rfl,hb⟩;have HLn:=zhd (HLW.out.trans (hb.mono HLW.out.size));have HXn:=zhd ((hb.block _ (zgs HXB.out).1).trans HXB.out);clear HLW HXB;have HLW:=HLn;have HXB:=HXn;clear HLn HXn hb x0 x1 x2 x3 x4 x5;obtain ⟨x0,x1,x2,x3,x4,x5⟩:=ag HXB.out)
    | (go_at_call 104;refine (HALL.out _ HLW.out _ false (by with_reducible exact .el)).mono ?_;rintro o W6 ⟨rfl,hb⟩;have HLn:=zhd (HLW.out.trans (hb.mono HLW.out.size));have HXn:=zhd ((hb.block _ (zgs HXB.out).1).trans HXB.out);clear HLW HXB;have HLW:=HLn;have HXB:=HXn;clear HLn HXn hb x0 x1 x2 x3 x4 x5;obtain ⟨x0,x1,x2,x3,x4,x5⟩:=ag HXB.out)
    | fail)
   all_goals
    go_wp2_with fail
    refine (HLOOP.out _ HLW.out).mono ?_;rintro o W7 ⟨rfl,hb7⟩;have HL7:=zhd (HLW.out.trans (hb7.mono HLW.out.size));have hx7:=(hb7.block _ (zgs HXB.out).1).trans HXB.out;clear x0 x1 x2 x3 x4 x5 hb7 HLW HXB;obtain ⟨x0,x1,x2,x3,x4,x5⟩:=ag hx7;clear hx7;obtain ⟨bl,hbl⟩:∃b,dY s=b:=⟨_,rfl⟩;rw [hbl];cases bl with
    | true =>
     obtain ⟨b1,b2,_⟩:=HLK.out (mG hbl);have hdp2:s.bound+max (1+max A B - 1) 2=zW s:=by
      rw [HDP.out,if_pos hbl];omega
     have HD2:=zhd hdp2;clear hdp2;go_wp2_with fail
     have hp:=Ec s HLK.out;refine ⟨⟨k+1,max n (zW s),hlt,rfl,by rw [HD2.out],by omega,by omega,by rw [HD.out,HST.out],HL7.out⟩,by simp only [intOf];omega⟩
    | false =>
     have HD2:Hid (1+max A B=zW s):=zhd (by rw [HDP.out,hbl];rfl);go_wp2_with fail
     have hp:=Ec s HLK.out;refine ⟨⟨k+1,max n (zW s),hlt,rfl,by rw [HD2.out],by omega,by omega,by rw [HD.out,HST.out],HL7.out⟩,by simp only [intOf];omega⟩
  ·obtain rfl:k=l.length:=by omega
   have e0:gz l 0=n:=by
    rw [HD.out,List.drop_length,gz]
   have E0:=zhd e0;clear hlt e0 hk;go_wp2_with fail
   go_ret
   exact ⟨by rw [E0.out];rfl,HB.out⟩
theorem xK {n0:Nat} {W0:World} (sp:Sp) (l:List aa) (hr:bX n0 W0 sp l) (hw:ay l≤20000) (hlo:∀x∈l.flatMap aa.pre,aM x):xu n0 W0 sp l:=by
 have one:∀s:aa,eu n0 W0 s→ay [s]≤20000→(∀x∈s.pre,aM x)→xu n0 W0 s.ts s.thn∧xu n0 W0 s.os s.els:=fun s hr=>by
  induction hr with
  | mk s k b n er ex tr th orow el ih1 ih2 =>
   intro hl hx;rw [bR] at hl;exact ⟨uY ⟨tr,th⟩ (by omega) (fun t ht=>aM.own (aM.thn hx t ht)) fun t ht=>ih1 t ht (Nat.le_trans (bM _ t ht) (by omega)) (aM.thn hx t ht),uY ⟨orow,el⟩ (by omega) (fun t ht=>aM.own (aM.els hx t ht)) fun t ht=>ih2 t ht (Nat.le_trans (bM _ t ht) (by omega)) (aM.els hx t ht)⟩
 have hp:∀s∈l,∀x∈s.pre,aM x:=fun s hs x hx=>hlo x (List.mem_flatMap.2 ⟨s,hs,hx⟩)
 exact uY hr hw (fun s hs=>aM.own (hp s hs)) fun s hs=>one s (hr.ok s hs) (Nat.le_trans (bM l s hs) hw) (hp s hs)
end
section
open Go Go.RowKit Go.Maps
theorem mV:∀(l:List aa) (n:Int),0≤n→n≤20001→(∀s∈l,0≤rZ s)→0≤dz l n∧dz l n≤20001
 | [],n,h0,h1,_=>by rw [dz];omega
 | s::l,n,h0,h1,h=>by
  rw [dz];have hs:=h s (List.mem_cons_self ..);by_cases hb:n+rZ s>20000
  ·rw [if_pos hb];omega
  ·rw [if_neg hb]
   exact mV l _ (by omega) (by omega) fun t ht=>h t (List.mem_cons_of_mem _ ht)
theorem yM (s:aa) (h:∀x∈s.pre,aM x):0≤rZ s:=by
 rcases Cb s h with e | e <;> omega
def Ey (n0:Nat) (W0:World) (sp:Sp) (l:List aa):Prop:=∀W,Below n0 W0 W→n0≤W.heap.size →
 Calls Tryz.prog 103 #[.slice sp.at_ l.length sp.cap] W fun o w'=>o=.returned (.int .i64 (dz l 0))∧Below W.heap.size W w'
theorem FW {p:aa} (h:ah p=dh):bW (bS ([p].flatMap aa.pre) 0)=2:=by
 have e:ay [p]=2:=by rw [←eH,List.map_cons,List.map_nil,h,gH,gT,zk]
 have e2:bS ([p].flatMap aa.pre) 0=2:=by
  rw [jE _ 0 (by unfold ay at e;omega)];unfold ay at e;omega
 rw [e2]
 rfl
theorem FV {e:ae} (h:e.pre.length≤20000):bW (dF e.pre.length 0)=e.pre.length:=by
 rw [mZ (by omega),Int.zero_add];unfold bW;rw [if_pos (by omega)]
theorem C9 (l:List ae) (k:Nat) (hk:k<l.length):aF (l.take (k+1))=aF (l.take k)+(l[k]).pre.length:=by
 unfold aF;rw [List.take_succ_eq_append_getElem hk,List.map_append,List.sum_append];simp
theorem wY (l:List ae) (k:Nat):aF (l.take k)≤aF l:=by
 unfold aF
 conv=>rhs;rw [←List.take_append_drop k l]
 rw [List.map_append,List.sum_append];omega
theorem IR (W:World) (p:aa) (hp:ah p=dh) (hn:nP W p):Calls Tryz.prog 164 #[.slice (some ⟨W.heap.size,0,none⟩) 1 1] (W.alloc (.cells #[.int .u8 p.kind,.string p.name,.slice p.es.at_ p.exprs.length p.es.cap,.int .i64 p.bound,.slice p.ts.at_ p.thn.length p.ts.cap,.slice p.os.at_ p.els.length p.os.cap] 43)) fun o w'=>o=.returned (.int .i64 2)∧Below (W.alloc (.cells #[.int .u8 p.kind,.string p.name,.slice p.es.at_ p.exprs.length p.es.cap,.int .i64 p.bound,.slice p.ts.at_ p.thn.length p.ts.cap,.slice p.os.at_ p.els.length p.os.cap] 43)).heap.size (W.alloc (.cells #[.int .u8 p.kind,.string p.name,.slice p.es.at_ p.exprs.length p.es.cap,.int .i64 p.bound,.slice p.ts.at_ p.thn.length p.ts.cap,.slice p.os.at_ p.els.length p.os.cap] 43)) w':=by
 have hb:=zba W (.cells #[.int .u8 p.kind,.string p.name,.slice p.es.at_ p.exprs.length p.es.cap,.int .i64 p.bound,.slice p.ts.at_ p.thn.length p.ts.cap,.slice p.os.at_ p.els.length p.os.cap] 43);have h:=xm (W.alloc (.cells #[.int .u8 p.kind,.string p.name,.slice p.es.at_ p.exprs.length p.es.cap,.int .i64 p.bound,.slice p.ts.at_ p.thn.length p.ts.cap,.slice p.os.at_ p.els.length p.os.cap] 43)) ⟨some ⟨W.heap.size,0,none⟩,1⟩ [p] ⟨row_one (enc:=aa.cells) (x:=p) (zan W _),fun t ht=>by
  rw [List.mem_singleton.1 ht];exact (hn.stays hb).more hb.size⟩
 rw [FW hp] at h;exact h
set_option maxRecDepth 1000000 in
set_option maxHeartbeats 1600000 in
theorem zT {n0:Nat} {W0:World} {sp:Sp} {l:List aa} (hr:bX n0 W0 sp l) (hw:ay l≤20000) (hlo:∀s∈l,∀x∈s.pre,aM x) (ih:∀s∈l,Ey n0 W0 s.ts s.thn∧Ey n0 W0 s.os s.els):Ey n0 W0 sp l:=by
 intro w hw0 hn0;have HR:=zhd ((hr.below hw0).more hn0);have HIH:=zhd fun (i:Nat) (hi:i<l.length)=>ih _ (List.getElem_mem hi)
 have HLO:=zhd fun (i:Nat) (hi:i<l.length)=>hlo _ (List.getElem_mem hi)
 have HWT:=zhd fun (i:Nat) (hi:i<l.length)=>Nat.le_trans (bM l _ (List.getElem_mem hi)) hw
 have HW0:=zhd hw0;have hfew:=hr.row.few;have hcap:=hr.row.cap;have hbig:=hr.row.big;clear hr hw hlo ih hw0;go_enter Tryz.func103,Tryz.ntmps103
 go_wp2_with fail
 refine Go.wp_scope_straight ?_;go_wp2_with fail
 refine Go.wp_label ?_;go_wp2_with fail
 go_loopw [12,3] (fun s12 s3 wr=>∃(k:Nat) (n:Int),k≤l.length∧s12=.int .i64 k∧s3=.int .i64 n∧0≤n∧n≤20000∧dz l 0=dz (l.drop k) n∧Below w.heap.size w wr) (fun s12 _ _=>l.length - (intOf s12).toNat)
 case atStart=>exact ⟨0,0,Nat.zero_le _,rfl,rfl,by decide,by decide,rfl,Below.refl _ _⟩
 case round =>
  obtain ⟨k,n,hk,rfl,rfl,hn,hn2,hd,hb⟩:=hrel;have HD:=zhd hd;have HB:=zhd hb;clear hd hb;by_cases hlt:k<l.length
  ·obtain ⟨g,o,eA,hg,hc⟩:=(HR.out.row.below HB.out).row (by omega)
   have hc2:=hc k hlt;have HST:Hid (dz (l.drop k) n=if n+rZ l[k]>20000 then 20001 else dz (l.drop (k+1)) (n+rZ l[k])):=zhd (by rw [List.drop_eq_getElem_cons hlt,dz]);have HS:=zhd (HR.out.ok _ (List.getElem_mem hlt));have HTH:=zhd fun (W:World) (hW:Below w.heap.size w W)=>(HIH.out k hlt).1 W (HW0.out.trans (hW.mono hn0)) (Nat.le_trans hn0 hW.size)
   have HEL:=zhd fun (W:World) (hW:Below w.heap.size w W)=>(HIH.out k hlt).2 W (HW0.out.trans (hW.mono hn0)) (Nat.le_trans hn0 hW.size)
   have HLK:=zhd (HLO.out k hlt);have HWK:=zhd (HWT.out k hlt);clear hc;generalize l[k]=s at *;have k0:=hc2 0 _ rfl;rw [Nat.add_zero] at k0;have k1:=hc2 1 _ rfl;have k2:wr.cell? ⟨g,o+k*6+2,none⟩=some (.slice s.es.at_ s.exprs.length s.es.cap):=hc2 2 _ rfl;have k3:=hc2 3 _ rfl;have k4:wr.cell? ⟨g,o+k*6+4,none⟩=some (.slice s.ts.at_ s.thn.length s.ts.cap):=hc2 4 _ rfl;have k5:wr.cell? ⟨g,o+k*6+5,none⟩=some (.slice s.os.at_ s.els.length s.os.cap):=hc2 5 _ rfl;have hba:=zba wr (.cells #[.int .u8 s.kind,.string s.name,.slice s.es.at_ s.exprs.length s.es.cap,.int .i64 s.bound,.slice s.ts.at_ s.thn.length s.ts.cap,.slice s.os.at_ s.els.length s.os.cap] 43);have hxa:=zan wr (.cells #[.int .u8 s.kind,.string s.name,.slice s.es.at_ s.exprs.length s.es.cap,.int .i64 s.bound,.slice s.ts.at_ s.thn.length s.ts.cap,.slice s.os.at_ s.els.length s.os.cap] 43);have hlow:=HB.out.trans (hba.mono HB.out.size);have hk0:(0:Int)≤(k:Int):=by omega
   have hk1:(k:Int)<(l.length:Int):=by omega
   clear hc2;rw [eA];have EA:=zhd eA;clear eA;go_upto_region 5 with fail
   clear k0 k1 k2 k3 k4 k5 hba;generalize wr.alloc (.cells #[.int .u8 s.kind,.string s.name,.slice s.es.at_ s.exprs.length s.es.cap,.int .i64 s.bound,.slice s.ts.at_ s.thn.length s.ts.cap,.slice s.os.at_ s.els.length s.os.cap] 43)=W5 at *;generalize wr.heap.size=bx at *;obtain ⟨x0,x1,x2,x3,x4,x5⟩:=ag hxa;have HXA:=zhd hxa;have HLW:=zhd hlow;have hxf:=HS.out.xs.row.few;have HXW:Hid (aF s.exprs≤20000):=zhd (by have h1:=HWK.out;rw [bR] at h1;omega);clear hxa hlow;go_upto_region 7 with fail
   clear x0 x1 x2 x3 x4 x5;go_loopw [19,6] (fun s19 s6 wx=>∃k2:Nat,k2≤s.exprs.length∧s19=.int .i64 (k2:Nat)∧s6=.int .i64 (1+(aF (s.exprs.take k2):Int))∧Below w.heap.size w wx∧wx.heap[bx]? = some (.cells #[.int .u8 s.kind,.string s.name,.slice s.es.at_ s.exprs.length s.es.cap,.int .i64 s.bound,.slice s.ts.at_ s.thn.length s.ts.cap,.slice s.os.at_ s.els.length s.os.cap] 43 (0,0))) (fun s19 _ _=>s.exprs.length - (intOf s19).toNat)
   case atStart=>exact ⟨0,Nat.zero_le _,rfl,rfl,HLW.out,HXA.out⟩
   case round =>
    obtain ⟨k2,hk2,rfl,rfl,hlx,hbx⟩:=hrel;by_cases hlt2:k2<s.exprs.length
    ·obtain ⟨ge,oe,eE,hge,hce⟩:=(HS.out.xs.row.below hlx).row (by omega)
     have hce2:=hce k2 hlt2;have HTK:=zhd (C9 s.exprs k2 hlt2);have hbt:=wY s.exprs k2;have hbe:=vw (List.getElem_mem hlt2);have HEX:=zhd (HS.out.xs.ok _ (List.getElem_mem hlt2));generalize s.exprs[k2]=e at *;have k0:=hce2 0 _ rfl;rw [Nat.add_zero] at k0;have k1:=hce2 1 _ rfl;have k2':=hce2 2 _ rfl;have k3:=hce2 3 _ rfl;have k4:=hce2 4 _ rfl;have k5:wr.cell? ⟨ge,oe+k2*6+5,none⟩=some (.slice e.sp.at_ e.subs.length e.sp.cap):=hce2 5 _ rfl;have hba:=zba wr (.cells #[.int .u8 e.kind,.int .u8 e.op,.int .u32 e.value,.int .i64 e.width,.string e.name,.slice e.sp.at_ e.subs.length e.sp.cap] 30);have hlow:=hlx.trans (hba.mono hlx.size);have hbx2:=(hba.block _ (zgs hbx).1).trans hbx;have hxw:=HXW.out;have hb1:(aF (s.exprs.take k2):Int)≤20000:=by omega
     have hb2:(e.pre.length:Int)≤20000:=by omega
     have hxc:=zan wr (.cells #[.int .u8 e.kind,.int .u8 e.op,.int .u32 e.value,.int .i64 e.width,.string e.name,.slice e.sp.at_ e.subs.length e.sp.cap] 30);have hSZ:∀W,Below w.heap.size w W→Calls Tryz.prog 163 #[.agg #[.int .u8 e.kind,.int .u8 e.op,.int .u32 e.value,.int .i64 e.width,.string e.name,.slice e.sp.at_ e.subs.length e.sp.cap]] W fun o w'=>o=.returned (.int .i64 (e.pre.length:Nat))∧Below W.heap.size W w':=fun W hW=>by
      have:=zK W e ((HEX.out.stays hW).more hW.size);rw [FV (by omega)] at this;exact this
     have HSZ:=zhd hSZ;have HBX2:=zhd hbx2;have hq0:(0:Int)≤(k2:Int):=by omega
     have hq1:(k2:Int)<(s.exprs.length:Int):=by omega
     clear hce hce2 hba hlx hbx hbx2 hSZ hbt hbe hxw;rw [eE];have EE:=zhd eE;clear eE;go_upto_region 9 with fail
     clear k0 k1 k2' k3 k4 k5;generalize wr.alloc (.cells #[.int .u8 e.kind,.int .u8 e.op,.int .u32 e.value,.int .i64 e.width,.string e.name,.slice e.sp.at_ e.subs.length e.sp.cap] 30)=W8 at *;generalize wr.heap.size=by8 at *;obtain ⟨x0,x1,x2,x3,x4,x5⟩:=ag hxc;clear hxc;go_wp2_with fail
     refine (HSZ.out _ hlow).mono ?_;rintro o w9 ⟨rfl,hb9⟩;have HL9:=zhd (hlow.trans (hb9.mono hlow.size));have HX9:=zhd ((hb9.block _ (zgs HBX2.out).1).trans HBX2.out);clear hb9 hlow x0 x1 x2 x3 x4 x5;go_wp2_with fail
     rw [←EE.out];exact ⟨⟨k2+1,hlt2,rfl,by rw [HTK.out];congr 1;omega,HL9.out,HX9.out⟩,by simp only [intOf];omega⟩
    ·obtain rfl:k2=s.exprs.length:=by omega
     rw [List.take_length];have HLX:=zhd hlx;have HBX:=zhd hbx;obtain ⟨x0,x1,x2,x3,x4,x5⟩:=ag hbx;have hxw:=HXW.out;have hX:(aF s.exprs:Int)≤20000:=by omega
     clear hlx hbx hxw hlt2 hk2;go_wp2_with fail
     refine (HTH.out _ HLX.out).mono ?_;rintro o w7 ⟨rfl,hb7⟩;have HL7:=zhd (HLX.out.trans (hb7.mono HLX.out.size));have HX7:=zhd ((hb7.block _ (zgs HBX.out).1).trans HBX.out);have hA:=mV s.thn 0 (by decide) (by decide) fun t ht=>yM t (aM.thn HLK.out t ht)
     have hB:=mV s.els 0 (by decide) (by decide) fun t ht=>yM t (aM.els HLK.out t ht)
     have hdp:rZ s=if dY s=true then s.bound*(1+(aF s.exprs:Int)+dz s.thn 0)+(1+(aF s.exprs:Int))+2 else 1+(aF s.exprs:Int)+dz s.thn 0+dz s.els 0:=by
      cases s
      rw [rZ]
      rfl
     obtain ⟨X,hXe⟩:∃x:Int,(aF s.exprs:Int)=x:=⟨_,rfl⟩;have hX0:0≤X:=by omega
     rw [hXe] at hX hdp ⊢;obtain ⟨A,hAe⟩:∃x,dz s.thn 0=x:=⟨_,rfl⟩;obtain ⟨B,hBe⟩:∃x,dz s.els 0=x:=⟨_,rfl⟩;rw [hAe] at hA hdp ⊢;rw [hBe] at hB hdp HEL;have HDP:=zhd hdp;clear hb7 HLX HBX x0 x1 x2 x3 x4 x5 hdp HTH hXe hAe hBe;obtain ⟨x0,x1,x2,x3,x4,x5⟩:=ag HX7.out;go_wp2_with fail
     refine (qg _ s ((HS.out.stays HL7.out).more HL7.out.size) HWK.out).mono ?_;rintro o w8 ⟨rfl,hb8⟩;have HL8:=zhd (HL7.out.trans (hb8.mono HL7.out.size));have HX8:=zhd ((hb8.block _ (zgs HX7.out).1).trans HX7.out);clear hb8 HL7 HX7 x0 x1 x2 x3 x4 x5;obtain ⟨x0,x1,x2,x3,x4,x5⟩:=ag HX8.out;obtain ⟨bl,hbl⟩:∃b,dY s=b:=⟨_,rfl⟩;rw [hbl];cases bl with
     | true =>
      obtain ⟨b1,b2,_⟩:=aM.own HLK.out (mG hbl);have hd2:rZ s=s.bound*(1+X+A)+(1+X)+2:=by rw [HDP.out,if_pos hbl]
      have p1:s.bound*(1+X+A)≤16*40002:=Int.mul_le_mul b2 (by omega) (by omega) (by decide);have p0:0≤s.bound*(1+X+A):=Int.mul_nonneg (by omega) (by omega);have w1:IntKind.i64.wrap (1+X+A)=1+X+A:=wrap_small (by omega);obtain ⟨P,hP⟩:∃x,s.bound*(1+X+A)=x:=⟨_,rfl⟩;rw [hP] at hd2 p0 p1;have w2:IntKind.i64.wrap (s.bound*(1+X+A))=P:=by
       rw [hP];exact wrap_small (by omega)
      have w3:IntKind.i64.wrap (P+(1+X))=P+(1+X):=wrap_small (by omega);have w4:IntKind.i64.wrap (P+(1+X)+2)=P+(1+X)+2:=wrap_small (by omega);have w5:IntKind.i64.wrap (n+(P+(1+X)+2))=n+(P+(1+X)+2):=wrap_small (by omega);have HD2:=zhd hd2;clear hd2 hbl hP;go_upto_region 13 with fail
      have HLW2:=zhd (HL8.out.trans (Below.refl _ _).drew);have HXB:=zhd (((Below.refl w8.heap.size w8).drew.block _ (zgs HX8.out).1).trans HX8.out);clear HL8 HX8;go_region_with (first
       | (go_at_call 30;refine (Bt _).mono ?_;rintro o W6 ⟨p,rfl,hp,hnp,hb⟩;have HPP:=zhd hp;have HNP:=zhd hnp;clear hp hnp;have hlxx:=Nat.lt_of_lt_of_le (zgs HXB.out).1 hb.size;have HLn:=zhd (HLW2.out.trans (hb.mono HLW2.out.size));have HXn:=zhd ((hb.block _ (zgs HXB.out).1).trans HXB.out);clear HLW2 HXB;have HLW2:=HLn;have HXB:=HXn;clear HLn HXn hb x0 x1 x2 x3 x4 x5;obtain ⟨x0,x1,x2,x3,x4,x5⟩:=ag HXB.out)
       | (go_at_call 164;refine (IR _ _ HPP.out HNP.out).mono ?_;rintro o W9 ⟨rfl,hb9⟩;have hbn:=((Below.refl _ _).alloc (Nat.le_refl _) _).trans (hb9.mono (by simp));have hb:=hbn;clear hb9 hbn;have HLn:=zhd (HLW2.out.trans (hb.mono HLW2.out.size));have HXn:=zhd ((hb.block _ (zgs HXB.out).1).trans HXB.out);clear HLW2 HXB;have HLW2:=HLn;have HXB:=HXn;clear HLn HXn hb x0 x1 x2 x3 x4 x5;obtain ⟨x0,x1,x2,x3,x4,x5⟩:=ag HXB.out)
       | fail)
      all_goals
       go_wp2_with fail
       all_goals (first | ((try simp only [Exit.noGoto_ret]);go_ret;exact ⟨by rw [HD.out,HST.out,HD2.out,if_pos (by omega)];rfl,HLW2.out⟩) | exact ⟨⟨k+1,n+(P+(1+X)+2),hlt,rfl,by first | rfl | (congr 1;omega),by omega,by omega,by rw [HD.out,HST.out,HD2.out,if_neg (by omega)],HLW2.out⟩,by simp only [intOf];omega⟩)
     | false =>
      have HD2:Hid (rZ s=1+X+A+B):=zhd (by rw [HDP.out,hbl];rfl);clear hbl;go_wp2_with fail
      refine (HEL.out _ HL8.out).mono ?_;rintro o w9 ⟨rfl,hb9⟩;have HL9:=zhd (HL8.out.trans (hb9.mono HL8.out.size));clear hb9 x0 x1 x2 x3 x4 x5;go_wp2_with fail
      all_goals (first | ((try simp only [Exit.noGoto_ret]);go_ret;exact ⟨by rw [HD.out,HST.out,HD2.out,if_pos (by omega)];rfl,HL9.out⟩) | exact ⟨⟨k+1,n+(1+X+A+B),hlt,rfl,by first | rfl | (congr 1;omega),by omega,by omega,by rw [HD.out,HST.out,HD2.out,if_neg (by omega)],HL9.out⟩,by simp only [intOf];omega⟩)
  ·obtain rfl:k=l.length:=by omega
   have e0:dz l 0=n:=by
    rw [HD.out,List.drop_length,dz]
   have E0:=zhd e0;clear hlt e0 hk;go_wp2_with fail
   (try simp only [Exit.noGoto_ret])
   go_ret
   exact ⟨by rw [E0.out];rfl,HB.out⟩
theorem wM {n0:Nat} {W0:World} (sp:Sp) (l:List aa) (hr:bX n0 W0 sp l) (hw:ay l≤20000) (hlo:∀x∈l.flatMap aa.pre,aM x):Ey n0 W0 sp l:=by
 have one:∀s:aa,eu n0 W0 s→ay [s]≤20000→(∀x∈s.pre,aM x)→Ey n0 W0 s.ts s.thn∧Ey n0 W0 s.os s.els:=fun s hr=>by
  induction hr with
  | mk s k b n er ex tr th orow el ih1 ih2 =>
   intro hl hx;rw [bR] at hl;exact ⟨zT ⟨tr,th⟩ (by omega) (aM.thn hx) fun t ht=>ih1 t ht (Nat.le_trans (bM _ t ht) (by omega)) (aM.thn hx t ht),zT ⟨orow,el⟩ (by omega) (aM.els hx) fun t ht=>ih2 t ht (Nat.le_trans (bM _ t ht) (by omega)) (aM.els hx t ht)⟩
 have hp:∀s∈l,∀x∈s.pre,aM x:=fun s hs x hx=>hlo x (List.mem_flatMap.2 ⟨s,hs,hx⟩)
 exact zT hr hw hp fun s hs=>one s (hr.ok s hs) (Nat.le_trans (bM l s hs) hw) (hp s hs)
end
section
open Go Go.RowKit Go.Maps
theorem GG {n:Nat} {W:World} {p:af} (h:jW n W p):jW n W (eQ p):=by
 obtain ⟨h1,h2,h3,h4,h5,h6,h7,h8,h9,h10,h11,h12,h13,h14⟩:=h;exact ⟨h1,h2,h3,h4,h5,h6,h7,h8,h9,h10,h11,⟨RowOf.nil,fun _ h=>absurd h (by simp [eQ])⟩,⟨RowOf.nil,fun _ h=>absurd h (by simp [eQ])⟩,h14⟩
theorem zR (l:List aa) (h:∀x∈l.flatMap aa.pre,aM x):0≤dz l 0∧dz l 0≤20001:=by
 rcases zS h with ⟨h1,h2⟩ | ⟨h1,h2⟩ <;> omega
noncomputable def opsW5:Array Oper:=((Tryz.f43.body.bind (opsOf 5)).getD #[])
def Hl (t:Nat):Bool:=decide (t≤1) || decide (t=4)
theorem Iw:dR opsW5 13 22 Hl=true:=by kernel_rfl
set_option maxRecDepth 10000000 in
set_option maxHeartbeats 64000000 in
theorem J3 {a0:Act} {w0:World} (hsz:a0.tmps.size=22) (bp bq:Nat) (p:af) (f1:a0.tmps[1]?.getD undef=.pointer (some ⟨bp,0,none⟩)) (f4:a0.tmps[4]?.getD undef=.pointer (some ⟨bq,0,none⟩))
  (hbp:Bx bp w0 p) (hbq:Bx bq w0 (eQ p)) (hp:jW w0.heap.size w0 p) (hr:dC p) :
  (Code.region 5 opsW5 true).wp Tryz.prog (fun e a w=>e=.normal∧a.tmps.size=22∧a.defers=a0.defers∧a.tmps[2]?.getD undef=.int .i64 (bJ p)∧a.tmps[3]?.getD undef=.int .i64 0∧Below w0.heap.size w0 w) a0 w0:=by
 have hwk:=hr.right.loops;have hh:=iY p;have hhe:=hr.heft;have hw1:ay p.work≤20000:=by omega
 have hw2:ay p.recover≤20000:=by omega
 obtain ⟨a1,a2⟩:=zR p.work hwk.1;obtain ⟨b1,b2⟩:=zR p.recover hwk.2;have hweq:=DX hr;have hsn:0≤bW (countP (eQ p))∧bW (countP (eQ p))≤20000:=by
  rw [uM hr];unfold bW
  split <;> omega
 have e1:IntKind.i64.wrap (bW (countP (eQ p))+dz p.work 0)=bW (countP (eQ p))+dz p.work 0:=wrap_small (by omega);have e2:IntKind.i64.wrap (bW (countP (eQ p))+dz p.work 0+dz p.recover 0)=bW (countP (eQ p))+dz p.work 0+dz p.recover 0:=wrap_small (by omega);have hbel:∀W:World,Below w0.heap.size w0 W→Bx bp W p∧Bx bq W (eQ p):=fun W h=>⟨(h.block _ hbp.lt).trans hbp,(h.block _ hbq.lt).trans hbq⟩
 refine aP (n:=13) (sz:=22) (keep:=Hl) rfl Iw hsz (fun _ w=>Below w0.heap.size w0 w) (fun _ w w'=>Below w.heap.size w w') ((Below.refl _ _).drew) ?_;have e:opsW5.toList=opsW5.toList:=rfl
 conv at e=>rhs;arg 1;whnf
 simp only at e;rw [e];clear e
 apply ak.exact rfl rfl
 ·exact fun _ _ h=>h
 ·exact fun w=>Below.refl _ w
 ·rintro L a w ⟨-,hS,-,hsm,haft⟩
  have f4:a.tmps[4]?.getD undef=_:=(hsm 4 rfl).trans f4;exact GN rfl bq (au f4) 35 (eQ p).arr (0,0) _ (hbel w hS).2 Tryz.underlying35 rfl (aN _)
 apply ak.call (f:=53) (args:=#[.agg (eQ p).arr]) rfl rfl
 ·exact fun _ w w' h hb=>h.trans (hb.mono h.size)
 ·exact fun w w' hb=>hb
 ·rintro L a w ⟨-,hS,-,hsm,haft⟩
  have f11:a.tmps[11]?.getD undef=_:=aj (haft.1 rfl).2;refine ⟨?_,?_⟩
  ·simp [go_sem,f11]
  ·exact yC w (eQ p) (GG ((hp.below hS).more hS.size)) (yS hr)
 apply ak.exact rfl rfl
 ·exact fun _ _ h=>h
 ·exact fun w=>Below.refl _ w
 ·rintro L a w ⟨-,hS,-,hsm,haft⟩
  have f1:a.tmps[1]?.getD undef=_:=(hsm 1 rfl).trans f1;simp [go_sem,f1];exact rfl
 apply ak.exact rfl rfl
 ·exact fun _ _ h=>h
 ·exact fun w=>Below.refl _ w
 ·rintro L a w ⟨-,hS,-,hsm,haft⟩
  have f13:a.tmps[13]?.getD undef=_:=aj (haft.1 rfl).2;have hc:w.cell? ⟨bp,14,none⟩=some (.slice p.ws.at_ p.work.length p.ws.cap):=(hbel w hS).1.cell 14 rfl;simp [go_sem,f13,hc];exact rfl
 apply ak.call (f:=103) (args:=#[.slice p.ws.at_ p.work.length p.ws.cap]) rfl rfl
 ·exact fun _ w w' h hb=>h.trans (hb.mono h.size)
 ·exact fun w w' hb=>hb
 ·rintro L a w ⟨-,hS,-,hsm,haft⟩
  have f14:a.tmps[14]?.getD undef=_:=aj (haft.1 rfl).2;refine ⟨?_,?_⟩
  ·simp [go_sem,f14]
  ·exact wM p.ws p.work hp.work hw1 hwk.1 w hS hS.size
 apply ak.exact rfl rfl
 ·exact fun _ _ h=>h
 ·exact fun w=>Below.refl _ w
 ·rintro L a w ⟨-,hS,-,hsm,haft⟩
  have f12:a.tmps[12]?.getD undef=_:=aj (haft.1 rfl).2;have f15:a.tmps[15]?.getD undef=_:=aj (haft.2.1 rfl).2;simp [go_sem,f12,f15,e1];exact rfl
 apply ak.exact rfl rfl
 ·exact fun _ _ h=>h
 ·exact fun w=>Below.refl _ w
 ·rintro L a w ⟨-,hS,-,hsm,haft⟩
  have f1:a.tmps[1]?.getD undef=_:=(hsm 1 rfl).trans f1;simp [go_sem,f1];exact rfl
 apply ak.exact rfl rfl
 ·exact fun _ _ h=>h
 ·exact fun w=>Below.refl _ w
 ·rintro L a w ⟨-,hS,-,hsm,haft⟩
  have f17:a.tmps[17]?.getD undef=_:=aj (haft.1 rfl).2;have hc:w.cell? ⟨bp,15,none⟩=some (.slice p.cs.at_ p.recover.length p.cs.cap):=(hbel w hS).1.cell 15 rfl;simp [go_sem,f17,hc];exact rfl
 apply ak.call (f:=103) (args:=#[.slice p.cs.at_ p.recover.length p.cs.cap]) rfl rfl
 ·exact fun _ w w' h hb=>h.trans (hb.mono h.size)
 ·exact fun w w' hb=>hb
 ·rintro L a w ⟨-,hS,-,hsm,haft⟩
  have f18:a.tmps[18]?.getD undef=_:=aj (haft.1 rfl).2;refine ⟨?_,?_⟩
  ·simp [go_sem,f18]
  ·exact wM p.cs p.recover hp.recover hw2 hwk.2 w hS hS.size
 apply ak.exact rfl rfl
 ·exact fun _ _ h=>h
 ·exact fun w=>Below.refl _ w
 ·rintro L a w ⟨-,hS,-,hsm,haft⟩
  have f16:a.tmps[16]?.getD undef=_:=aj (haft.1 rfl).2;have f19:a.tmps[19]?.getD undef=_:=aj (haft.2.1 rfl).2;simp [go_sem,f16,f19,e2];exact rfl
 refine ak.any (fun L v w=>v=.int .i64 (bJ p)) rfl ?_ ?_ ?_
 ·exact fun _ _ _ _ _ _ _ hP=>hP
 ·rintro L a w ⟨hL,hS,hbeh,hsm,haft⟩
  have f20:a.tmps[20]?.getD undef=_:=aj (haft.1 rfl).2;refine Oper.wp_value (v:=.int .i64 (bJ p)) (w':=w) ?_ ?_
  ·rw [←hweq];simp [go_sem,f20]
  ·exact ⟨_,rfl,fun e=>(by cases e),rfl,hS,Below.refl _ _⟩
 refine ak.any (fun L v w=>v=.int .i64 (bJ p)) rfl ?_ ?_ ?_
 ·exact fun _ _ _ _ _ _ _ hP=>hP
 ·rintro L a w ⟨hL,hS,hbeh,hsm,haft⟩
  have f21:a.tmps[21]?.getD undef=_:=aj (haft.1 rfl).2;refine Oper.wp_value (v:=.int .i64 (bJ p)) (w':=w) ?_ ?_
  ·simp [go_sem,f21]
  ·exact ⟨_,rfl,fun e=>(by cases e),rfl,hS,Below.refl _ _⟩
 apply ak.exact rfl rfl
 ·exact fun _ _ h=>h
 ·exact fun w=>Below.refl _ w
 ·rintro L a w ⟨-,hS,-,hsm,haft⟩
  simp [go_sem];exact rfl
 rintro L a w hL ⟨hS,hsame,hv⟩;exact ⟨rfl,hsame.1.trans hsz,hsame.2.1,aj (hv 11),aj (hv 12),hS⟩
theorem Jr {a:Act} (h:a.tmps.size=22) (hd:a.defers=[]):∃F:Nat→Value,(∀i:Nat,F i=a.eval (.tmp i))∧a=⟨(F 0::F 1::F 2::F 3::F 4::F 5::F 6::F 7::F 8::F 9::F 10::F 11::F 12::F 13::F 14::F 15::F 16::F 17::F 18::F 19::F 20::F 21::[]).toArray,[]⟩:=⟨fun i=>a.eval (.tmp i),fun _=>rfl,mf h hd⟩
set_option maxRecDepth 1000000 in
set_option maxHeartbeats 16000000 in
theorem mQ (w:World) (p:af) (hp:jW w.heap.size w p) (hn0:0<w.heap.size) (hmx:MxAt w) (hr:dC p) :
  Calls Tryz.prog 43 #[.agg p.arr] w fun o w'=>o=.returned (.tuple #[.int .i64 (bJ p),.int .i64 0])∧Below w.heap.size w w':=by
 have hb1:=zba w (.cells p.arr 35);have hB:=zan w (.cells p.arr 35);have hCK:=oQ _ p (hp.on hb1) (Nat.lt_of_lt_of_le hn0 hb1.size) hr.names hr.weight (hmx.below hb1 hn0);rw [decide_eq_true (show (eD p).2=0∧p.procs.length=0 from ⟨hr.chk,hr.len⟩)] at hCK;have harrs:=aN p;have HCK:=zhd hCK;have HB:=zhd hB;have HB1:=zhd hb1;have HP:=zhd hp;have HR:=zhd hr;clear hCK hB hb1 hp hr hmx;obtain ⟨arr,harr⟩:∃arr,arr=p.arr:=⟨_,rfl⟩;have HARR:=zhd harr;rw [←harr] at HCK HB HB1 harrs ⊢;clear harr;go_enter Tryz.func43,Tryz.ntmps43
 go_wp2_with (first | (refine wpList_load_row rfl 35 _ rfl (w.heap.size) rfl 35 _ (0,0) _ HB.out Tryz.underlying35 rfl harrs ?_) | fail)
 refine HCK.out.mono ?_;rintro o2 w2 ⟨rfl,hb2⟩;have hbx:=(hb2.block _ (zgs HB.out).1).trans HB.out;have HBX:=zhd hbx;have hsz2:w.heap.size<w2.heap.size:=(zgs hbx).1;obtain ⟨wz,hwz⟩:∃wz,wz=w2.alloc (.cells bH.arr 35):=⟨_,rfl⟩;have hbz:Below w2.heap.size w2 wz:=by rw [hwz];exact (Below.refl _ _).alloc (Nat.le_refl _) _
 have hZ:wz.heap[w2.heap.size]? = some (.cells bH.arr 35 (0,0)):=by rw [hwz];exact zan _ _
 have HZ:=zhd hZ;have HBZ:=zhd hbz;have HWZ:=zhd hwz;have HB2:=zhd hb2;clear hbx hbz hZ hwz hb2;go_upto_region 4 with (first
  | (refine wpList_load_row rfl 35 _ rfl (w.heap.size) rfl 35 _ (0,0) _ HBX.out Tryz.underlying35 rfl harrs ?_)
  | (refine aO (t:=35) rfl rfl (gm _) ?_;rw [←HWZ.out])
  | (refine wpList_store_row rfl 35 _ _ rfl w2.heap.size arr (by rfl) (by rfl) 35 bH.arr HZ.out harrs (by rw [HARR.out];kernel_rfl) (by rw [HARR.out];exact jg p) ?_)
  | fail)
 have hq0:Bx w2.heap.size (wz.setRow w2.heap.size arr) p:=by unfold Bx;rw [←HARR.out];exact setRow_heap _ _ _ _ _ _ HZ.out
 have hp0:Bx w.heap.size (wz.setRow w2.heap.size arr) p:=by unfold Bx;rw [←HARR.out];exact (setRow_other _ _ _ _ (by omega)).trans ((HBZ.out.block _ hsz2).trans HBX.out)
 have hbr:Below w2.heap.size w2 (wz.setRow w2.heap.size arr):=below_setRow HBZ.out (Nat.le_refl _);generalize wz.setRow w2.heap.size arr=w3 at *;have hc14:=hq0.cell 14 rfl;have hf14:=hq0.free 14;have hq1:Bx w2.heap.size (w3.setCell ⟨w2.heap.size,14,none⟩ (.slice none 0 0)) { p with ws:=Sp.none,work:=[] }:=hq0.put 14 _ (by simp [af.arr,af.cells,Sp.val,Sp.none]);have hc15:=hq1.cell 15 rfl;have hf15:=hq1.free 15;have hq2:Bx w2.heap.size ((w3.setCell ⟨w2.heap.size,14,none⟩ (.slice none 0 0)).setCell ⟨w2.heap.size,15,none⟩ (.slice none 0 0)) (eQ p):=hq1.put 15 _ (by simp [eQ,af.arr,af.cells,Sp.val,Sp.none]);have hbs:Below w2.heap.size w2 ((w3.setCell ⟨w2.heap.size,14,none⟩ (.slice none 0 0)).setCell ⟨w2.heap.size,15,none⟩ (.slice none 0 0)):=(hbr.setCell (p:=⟨w2.heap.size,14,none⟩) (Nat.le_refl _) _).setCell (p:=⟨w2.heap.size,15,none⟩) (Nat.le_refl _) _;have HQ2:=zhd hq2;have HBS:=zhd hbs;clear hq0 hp0 hbr hq1 hq2 hbs;go_upto_region 5 with fail
 clear hc14 hf14 hc15 hf15;generalize (w3.setCell ⟨w2.heap.size,14,none⟩ (.slice none 0 0)).setCell ⟨w2.heap.size,15,none⟩ (.slice none 0 0)=w4 at *;have hlow:Below w.heap.size w w4:=(HB1.out.trans (HB2.out.mono HB1.out.size)).trans (HBS.out.mono (by omega));have hbp4:Bx w.heap.size w4 p:=by unfold Bx;rw [←HARR.out];exact (HBS.out.block _ hsz2).trans HBX.out
 refine Code.wp_mono ?_ (fV (C':=.region 5 opsW5 true) (by kernel_rfl) (J3 rfl w.heap.size w2.heap.size p rfl rfl hbp4 HQ2.out (HP.out.on hlow) HR.out));have HLOW:=zhd hlow;clear hlow hbp4;rintro e a9 w5 ⟨rfl,hsz9,hd9,h2,h3,hb5⟩;obtain ⟨F,hF,rfl⟩:=Jr hsz9 hd9;have g2:F 2=.int .i64 (bJ p):=(hF 2).trans (au h2);have g3:F 3=.int .i64 0:=(hF 3).trans (au h3);rw [g2,g3];clear hF g2 g3 hsz9 hd9 h2 h3;go_wp2_with fail
 go_ret2
 exact ⟨rfl,HLOW.out.trans (hb5.mono HLOW.out.size)⟩
end
section
open Go Go.RowKit Go.Maps
inductive Gs (p:af):Array Value→Bool→Prop
 | wk:Gs p #[.slice p.ws.at_ p.work.length p.ws.cap] true
 | rc:Gs p #[.slice p.cs.at_ p.recover.length p.cs.cap] false
set_option maxRecDepth 100000 in
set_option maxHeartbeats 1600000 in
theorem uZ (w:World) (p:af) (hp:jW w.heap.size w p) (hn0:0<w.heap.size) (hN:eT p) (hwt:eU p≤1125899906842624) (hmx:MxAt w) (hr:cB p) (hc:(eD p).2=0) (hpr:p.procs.length=0) (hl:aR p≤20000) :
  Calls Tryz.prog 44 #[.agg p.arr] w fun o w'=>o=.returned (.tuple #[.int .i64 (max (min (gz p.work 0) 1001) (min (gz p.recover 0) 1001)),.int .i64 0])∧Below w.heap.size w w':=by
 have hb1:=zba w (.cells p.arr 35);have hB:=zan w (.cells p.arr 35);have hCK:=oQ _ p (hp.on hb1) (Nat.lt_of_lt_of_le hn0 hb1.size) hN hwt (hmx.below hb1 hn0);rw [decide_eq_true (show (eD p).2=0∧p.procs.length=0 from ⟨hc,hpr⟩)] at hCK;have hw1:ay p.work≤20000:=by unfold aR at hl;omega
 have hw2:ay p.recover≤20000:=by unfold aR at hl;omega
 have HALL:Hid (∀W,Below w.heap.size w W→∀args b,Gs p args b→Calls Tryz.prog 104 args W fun o w'=>o=.returned (.int .i64 (if b=true then min (gz p.work 0) 1001 else min (gz p.recover 0) 1001))∧Below W.heap.size W w'):=zhd fun W hW args b h=>by
  cases h with
  | wk=>exact xK p.ws p.work hp.work hw1 hr.loops.1 W hW hW.size
  | rc=>exact xK p.cs p.recover hp.recover hw2 hr.loops.2 W hW hW.size
 have h14:p.arr[14]? = some (.slice p.ws.at_ p.work.length p.ws.cap):=rfl;have h15:p.arr[15]? = some (.slice p.cs.at_ p.recover.length p.cs.cap):=rfl;have harrs:=aN p;have HCK:=zhd hCK;have HB:=zhd hB;have HB1:=zhd hb1;clear hCK hB hb1 hp hN hwt hmx hr hc hpr hl hw1 hw2;generalize p.arr=arr at *;go_enter Tryz.func44,Tryz.ntmps44
 go_wp2_with (first | (refine wpList_load_row rfl 35 _ rfl w.heap.size rfl 35 _ (0,0) _ HB.out Tryz.underlying35 rfl harrs ?_) | fail)
 refine HCK.out.mono ?_;rintro o2 w2 ⟨rfl,hb2⟩;have hbx:=(hb2.block _ (zgs HB.out).1).trans HB.out;have HLW:=zhd ((HB1.out.trans (hb2.mono HB1.out.size)).trans (Below.refl _ _).drew);have HXB:=zhd (((Below.refl w2.heap.size w2).drew.block _ (zgs hbx).1).trans hbx);have hcell:∀W:World,W.heap[w.heap.size]? = some (.cells arr 35 (0,0))→W.cell? ⟨w.heap.size,14,none⟩=some (.slice p.ws.at_ p.work.length p.ws.cap)∧W.cell? ⟨w.heap.size,15,none⟩=some (.slice p.cs.at_ p.recover.length p.cs.cap):=fun W h=>⟨by simp [World.cell?,h,h14],by simp [World.cell?,h,h15]⟩
 have HCELL:=zhd hcell;obtain ⟨c14,c15⟩:=hcell _ hbx;clear hb2 hbx hcell;go_upto_region 3 with fail
 go_region_with (first
  | (go_at_call 104;refine (HALL.out _ HLW.out _ true (by with_reducible exact .wk)).mono ?_;rintro o W6 ⟨rfl,hb⟩;have HLn:=zhd (HLW.out.trans (hb.mono HLW.out.size));have HXn:=zhd ((hb.block _ (zgs HXB.out).1).trans HXB.out);clear HLW HXB;have HLW:=HLn;have HXB:=HXn;clear HLn HXn hb c14 c15;obtain ⟨c14,c15⟩:=HCELL.out _ HXB.out)
  | (go_at_call 104;refine (HALL.out _ HLW.out _ false (by with_reducible exact .rc)).mono ?_;rintro o W6 ⟨rfl,hb⟩;have HLn:=zhd (HLW.out.trans (hb.mono HLW.out.size));have HXn:=zhd ((hb.block _ (zgs HXB.out).1).trans HXB.out);clear HLW HXB;have HLW:=HLn;have HXB:=HXn;clear HLn HXn hb c14 c15;obtain ⟨c14,c15⟩:=HCELL.out _ HXB.out)
  | fail)
 all_goals
  go_wp2_with fail
  go_ret2
  exact ⟨rfl,HLW.out⟩
end
end Go.Proofs.YtepacjkacjabbaaGreatDoor
