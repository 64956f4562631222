import Derived.Test.YtepacjkacjabbaaGreatDoorWAA
import Derived.Test.YtepacjkacjabbaaGreatDoorWAR
import Derived.Test.YtepacjkacjabbaaGreatDoorWAF
import Derived.RegionTactic
import Derived.BigQuiet
import Derived.Deep.QuietTactic
import Derived.Deep.CutRange
import Derived.Deep.CutBlock
import Derived.Deep.DeepCutAuto
import Derived.Deep.RegionWith
import Derived.StillTailTactics
import Derived.Outline
import Derived.Carry
import Derived.Test.YtepacjkacjabbaaGreatDoorWAE
import Derived.Laws.Rows
import Derived.Laws.Tables
import Derived.Laws.CopyOwn
import Derived.Test.YtepacjkacjabbaaGreatDoorWAS
namespace Go.Proofs.YtepacjkacjabbaaGreatDoor
section
open Go Go.RowKit Go.Maps
def D6 (n0:Nat) (W0:World) (a b:ae):Prop:=∀W,Below n0 W0 W→n0≤W.heap.size →
 Calls Tryz.prog 114 #[.agg #[.int .u8 a.kind,.int .u8 a.op,.int .u32 a.value,.int .i64 a.width,.string a.name,.slice a.sp.at_ a.subs.length a.sp.cap],.agg #[.int .u8 b.kind,.int .u8 b.op,.int .u32 b.value,.int .i64 b.width,.string b.name,.slice b.sp.at_ b.subs.length b.sp.cap]] W fun o w'=>o=.returned (.bool (J6 a b))∧Below W.heap.size W w'
def Bc (n0:Nat) (W0:World) (sa sb:Sp) (la lb:List ae):Prop:=∀W,Below n0 W0 W→n0≤W.heap.size →
 Calls Tryz.prog 155 #[.slice sa.at_ la.length sa.cap,.slice sb.at_ lb.length sb.cap,.func (.func 114) #[] #[]] W fun o w'=>o=.returned (.bool (jv la lb))∧Below W.heap.size W w'
theorem GD (la lb:List ae) (h:la.length=lb.length) (k:Nat) (hk:k<la.length):jv (la.drop k) (lb.drop k)=(J6 la[k] (lb[k]'(by omega)) && jv (la.drop (k+1)) (lb.drop (k+1))):=by
 rw [List.drop_eq_getElem_cons hk,List.drop_eq_getElem_cons (by omega:k<lb.length),jv]
theorem JR {la lb:List ae} (h:la.length≠lb.length):jv la lb=false:=by
 cases e:jv la lb with
 | false=>rfl
 | true=>exact absurd (by simpa using congrArg List.length ((BD la lb).1 e)) h
set_option maxRecDepth 1000000 in
set_option maxHeartbeats 8000000 in
theorem zb {n0:Nat} {W0:World} {sa sb:Sp} {la lb:List ae} (ra:RowOf n0 W0 sa 6 ae.cells la) (rb:RowOf n0 W0 sb 6 ae.cells lb) (ih:∀a∈la,∀b∈lb,D6 n0 W0 a b):Bc n0 W0 sa sb la lb:=by
 intro w hw hn;have HRA:=zhd ((ra.below hw).more hn);have HRB:=zhd ((rb.below hw).more hn);have HIH:=zhd fun (i:Nat) (hi:i<la.length) (hj:i<lb.length) (W:World) (hW:Below w.heap.size w W)=>ih _ (List.getElem_mem hi) _ (List.getElem_mem hj) W (hw.trans (hW.mono hn)) (Nat.le_trans hn hW.size)
 have ca:=ra.cap;have ba:=ra.big;have fa:=ra.few;have cb:=rb.cap;have bb:=rb.big;have fb:=rb.few;clear ra rb ih hw;go_enter Tryz.func155,Tryz.ntmps155
 by_cases hl:la.length=lb.length
 ·have hd:((la.length:Int) == (lb.length:Int))=true:=by simp [hl]
  have hd2:((la.length:Int) != (lb.length:Int))=false:=by simp [hl]
  have HL:=zhd hl;clear hl;go_wp2_with fail
  go_loopw [17] (fun v wr=>∃k:Nat,k≤la.length∧v=.int .i64 k∧jv la lb=jv (la.drop k) (lb.drop k)∧Below w.heap.size w wr) (fun v _=>la.length - (intOf v).toNat)
  case atStart=>exact ⟨0,Nat.zero_le _,rfl,rfl,Below.refl _ _⟩
  case round =>
   obtain ⟨k,hk,rfl,har,hb⟩:=hrel;have HAR:=zhd har;have HBR:=zhd hb;clear har hb;by_cases hlt:k<la.length
   ·have hlb:k<lb.length:=by have:=HL.out;omega
    obtain ⟨ga,oa,eA,hga,hca⟩:=(HRA.out.below HBR.out).row (by omega);obtain ⟨gb,ob,eB,hgb,hcb⟩:=(HRB.out.below HBR.out).row (by omega);have hca2:=hca k hlt;have hcb2:=hcb k hlb;have HST:=zhd (HAR.out.trans (GD la lb HL.out k hlt));have HCALL:=zhd (HIH.out k hlt hlb);clear hca hcb;generalize la[k]=x at *;generalize lb[k]=y at *;have a0:=hca2 0 _ rfl;rw [Nat.add_zero] at a0;have a1:=hca2 1 _ rfl;have a2:=hca2 2 _ rfl;have a3:=hca2 3 _ rfl;have a4:=hca2 4 _ rfl;have a5:wr.cell? ⟨ga,oa+k*6+5,none⟩=some (.slice x.sp.at_ x.subs.length x.sp.cap):=hca2 5 _ rfl;have b0:=hcb2 0 _ rfl;rw [Nat.add_zero] at b0;have b1:=hcb2 1 _ rfl;have b2:=hcb2 2 _ rfl;have b3:=hcb2 3 _ rfl;have b4:=hcb2 4 _ rfl;have b5:wr.cell? ⟨gb,ob+k*6+5,none⟩=some (.slice y.sp.at_ y.subs.length y.sp.cap):=hcb2 5 _ rfl;have hk0:(0:Int)≤(k:Int):=by omega
    have hk1:(k:Int)<(la.length:Int):=by omega
    have hk2:(k:Int)<(lb.length:Int):=by omega
    have hk3:decide (k<lb.length)=true:=decide_eq_true hlb;clear hca2 hcb2;rw [eA,eB];clear eA eB;go_upto_region 6 with fail
    have hba:=zba wr (.cells #[.int .u8 x.kind,.int .u8 x.op,.int .u32 x.value,.int .i64 x.width,.string x.name,.slice x.sp.at_ x.subs.length x.sp.cap] 30);have hxa:=zan wr (.cells #[.int .u8 x.kind,.int .u8 x.op,.int .u32 x.value,.int .i64 x.width,.string x.name,.slice x.sp.at_ x.subs.length x.sp.cap] 30);have hszw:=HBR.out.size;have hgb2:gb<wr.heap.size:=by omega
    replace b0:=(hba.cell (p:=⟨gb,ob+k*6,none⟩) hgb2).trans b0
    replace b1:=(hba.cell (p:=⟨gb,ob+k*6+1,none⟩) hgb2).trans b1
    replace b2:=(hba.cell (p:=⟨gb,ob+k*6+2,none⟩) hgb2).trans b2
    replace b3:=(hba.cell (p:=⟨gb,ob+k*6+3,none⟩) hgb2).trans b3
    replace b4:=(hba.cell (p:=⟨gb,ob+k*6+4,none⟩) hgb2).trans b4
    replace b5:=(hba.cell (p:=⟨gb,ob+k*6+5,none⟩) hgb2).trans b5
    generalize wr.alloc (.cells #[.int .u8 x.kind,.int .u8 x.op,.int .u32 x.value,.int .i64 x.width,.string x.name,.slice x.sp.at_ x.subs.length x.sp.cap] 30)=W5 at *;have hsz5:=hba.size;generalize wr.heap.size=bx at *;obtain ⟨x0,x1,x2,x3,x4,x5⟩:=ah hxa;have HXA:=zhd hxa;have HBA:=zhd hba;clear a0 a1 a2 a3 a4 a5 hxa hba;go_upto_region 7 with fail
    have hbc:=zba W5 (.cells #[.int .u8 y.kind,.int .u8 y.op,.int .u32 y.value,.int .i64 y.width,.string y.name,.slice y.sp.at_ y.subs.length y.sp.cap] 30);have hyc:=zan W5 (.cells #[.int .u8 y.kind,.int .u8 y.op,.int .u32 y.value,.int .i64 y.width,.string y.name,.slice y.sp.at_ y.subs.length y.sp.cap] 30);have hxc:=(hbc.block bx (zgs HXA.out).1).trans HXA.out;have HLO0:=HBR;have hlow:=HLO0.out.trans ((HBA.out.trans (hbc.mono hsz5)).mono hszw);clear x0 x1 x2 x3 x4 x5 b0 b1 b2 b3 b4 b5 HXA HBA;generalize W5.alloc (.cells #[.int .u8 y.kind,.int .u8 y.op,.int .u32 y.value,.int .i64 y.width,.string y.name,.slice y.sp.at_ y.subs.length y.sp.cap] 30)=W7 at *;generalize W5.heap.size=bx2 at *;obtain ⟨x0,x1,x2,x3,x4,x5⟩:=ah hxc;obtain ⟨y0,y1,y2,y3,y4,y5⟩:=ah hyc;have HLOW:=zhd hlow;have hend:=HLOW.out.size;clear hxc hyc hbc hlow;obtain ⟨bv,hbv⟩:∃b,J6 x y=b:=⟨_,rfl⟩;have HBV:=zhd hbv;rw [hbv] at HCALL;clear hbv;cases bv with
    | false =>
     go_wp2_with (go_at_call 114;refine (HCALL.out W7 HLOW.out).mono ?_;rintro o W8 ⟨rfl,hb8⟩;have HB8:=zhd hb8;clear hb8)
     go_ret
     exact ⟨by rw [HST.out,HBV.out];rfl,HLOW.out.trans (HB8.out.mono hend)⟩
    | true =>
     go_wp2_with (go_at_call 114;refine (HCALL.out W7 HLOW.out).mono ?_;rintro o W8 ⟨rfl,hb8⟩;have HB8:=zhd hb8;clear hb8)
     exact ⟨⟨k+1,hlt,rfl,by rw [HST.out,HBV.out];rfl,HLOW.out.trans (HB8.out.mono hend)⟩,by simp only [intOf];omega⟩
   ·obtain rfl:k=la.length:=by omega
    have e0:jv la lb=true:=by
     rw [HAR.out,List.drop_length,HL.out,List.drop_length]
     rfl
    have E0:=zhd e0;clear hlt e0;go_wp2_with fail
    go_ret
    exact ⟨by rw [E0.out];rfl,HBR.out⟩
 ·have hd:((la.length:Int) == (lb.length:Int))=false:=by simp;omega
  have hd2:((la.length:Int) != (lb.length:Int))=true:=by simp;omega
  rw [JR hl];clear hl;go_wp2_with fail
  go_ret
  exact ⟨rfl,Below.refl _ _⟩
set_option maxRecDepth 1000000 in
set_option maxHeartbeats 8000000 in
theorem wN {n0:Nat} {W0:World} {a b:ae} (ih:Bc n0 W0 a.sp b.sp a.subs b.subs):D6 n0 W0 a b:=by
 intro w hw hn;have HIH:=zhd fun (W:World) (hW:Below w.heap.size w W)=>ih W (hw.trans (hW.mono hn)) (Nat.le_trans hn hW.size)
 have HB2:Hid (∀x y,Below w.heap.size w ((w.alloc x).alloc y)):=zhd fun x y=>((Below.refl _ _).alloc (Nat.le_refl _) _).alloc (by simp) _
 clear ih hw;obtain ⟨k,o,v,wd,n,sp,l⟩:=a;obtain ⟨k',o',v',wd',n',sp',l'⟩:=b;have e0:J6 (.mk k o v wd n sp l) (.mk k' o' v' wd' n' sp' l')=(decide (k=k'∧o=o'∧v=v'∧wd=wd'∧n=n') && jv l l'):=by rw [J6];rfl
 rw [e0];simp only [ae.kind,ae.op,ae.value,ae.width,ae.name,ae.sp,ae.subs] at *;go_enter Tryz.func114,Tryz.ntmps114
 by_cases h1:k=k'
 ·by_cases h2:o=o'
  ·by_cases h3:v=v'
   ·by_cases h4:wd=wd'
    ·by_cases h5:n=n'
     ·subst h1 h2 h3 h4 h5
      go_wp2_with (go_at_call 155;refine (HIH.out _ (HB2.out _ _)).mono ?_;rintro o W8 ⟨rfl,hb8⟩;have HB8:=zhd ((HB2.out _ _).trans (hb8.mono (HB2.out _ _).size));clear hb8)
      go_ret
      exact ⟨by simp,HB8.out⟩
     ·have hd:(n.toList == n'.toList)=false:=beq_eq_false_iff_ne.2 fun e=>h5 (toList_inj e)
      have e1:(decide (k=k'∧o=o'∧v=v'∧wd=wd'∧n=n') && jv l l')=false:=by simp [h5]
      rw [e1];subst h1 h2 h3 h4;clear h5 e1 e0;go_wp2_with fail
      go_ret
      exact ⟨rfl,HB2.out _ _⟩
    ·have hd:(wd == wd')=false:=by simp [h4]
     have e1:(decide (k=k'∧o=o'∧v=v'∧wd=wd'∧n=n') && jv l l')=false:=by simp [h4]
     rw [e1];subst h1 h2 h3;clear h4 e1 e0;go_wp2_with fail
     go_ret
     exact ⟨rfl,HB2.out _ _⟩
   ·have hd:(v == v')=false:=by simp [h3]
    have e1:(decide (k=k'∧o=o'∧v=v'∧wd=wd'∧n=n') && jv l l')=false:=by simp [h3]
    rw [e1];subst h1 h2;clear h3 e1 e0;go_wp2_with fail
    go_ret
    exact ⟨rfl,HB2.out _ _⟩
  ·have hd:(o == o')=false:=by simp [h2]
   have e1:(decide (k=k'∧o=o'∧v=v'∧wd=wd'∧n=n') && jv l l')=false:=by simp [h2]
   rw [e1];subst h1;clear h2 e1 e0;go_wp2_with fail
   go_ret
   exact ⟨rfl,HB2.out _ _⟩
 ·have hd:(k == k')=false:=by simp [h1]
  have e1:(decide (k=k'∧o=o'∧v=v'∧wd=wd'∧n=n') && jv l l')=false:=by simp [h1]
  rw [e1];clear h1 e1 e0;go_wp2_with fail
  go_ret
  exact ⟨rfl,HB2.out _ _⟩
theorem Hr {n0:Nat} {W0:World} (a:ae):∀b,iG n0 W0 a→iG n0 W0 b→D6 n0 W0 a b:=by
 induction a using ae.ind with
 | h k o v w n sp l ih =>
  intro b ha hb;exact wN (zb ha.row hb.row fun x hx y hy=>ih x hx y (ha.sub x hx) (hb.sub y hy))
end
section
open Go Go.RowKit Go.Maps
def EO (n0:Nat) (W0:World) (a b:aa):Prop:=∀W,Below n0 W0 W→n0≤W.heap.size →
 Calls Tryz.prog 96 #[.agg #[.int .u8 a.kind,.string a.name,.slice a.es.at_ a.exprs.length a.es.cap,.int .i64 a.bound,.slice a.ts.at_ a.thn.length a.ts.cap,.slice a.os.at_ a.els.length a.os.cap],.agg #[.int .u8 b.kind,.string b.name,.slice b.es.at_ b.exprs.length b.es.cap,.int .i64 b.bound,.slice b.ts.at_ b.thn.length b.ts.cap,.slice b.os.at_ b.els.length b.os.cap]] W fun o w'=>o=.returned (.bool (J7 a b))∧Below W.heap.size W w'
def vP (n0:Nat) (W0:World) (sa sb:Sp) (la lb:List aa):Prop:=∀W,Below n0 W0 W→n0≤W.heap.size →
 Calls Tryz.prog 95 #[.slice sa.at_ la.length sa.cap,.slice sb.at_ lb.length sb.cap,.func (.func 96) #[] #[]] W fun o w'=>o=.returned (.bool (iO la lb))∧Below W.heap.size W w'
theorem G5 (la lb:List aa) (h:la.length=lb.length) (k:Nat) (hk:k<la.length):iO (la.drop k) (lb.drop k)=(J7 la[k] (lb[k]'(by omega)) && iO (la.drop (k+1)) (lb.drop (k+1))):=by
 rw [List.drop_eq_getElem_cons hk,List.drop_eq_getElem_cons (by omega:k<lb.length),iO]
theorem Jg {la lb:List aa} (h:la.length≠lb.length):iO la lb=false:=by
 cases e:iO la lb with
 | false=>rfl
 | true=>exact absurd (by simpa using congrArg List.length ((BF la lb).1 e)) h
set_option maxRecDepth 1000000 in
set_option maxHeartbeats 8000000 in
theorem qZ {n0:Nat} {W0:World} {sa sb:Sp} {la lb:List aa} (ra:RowOf n0 W0 sa 6 aa.cells la) (rb:RowOf n0 W0 sb 6 aa.cells lb) (ih:∀a∈la,∀b∈lb,EO n0 W0 a b):vP n0 W0 sa sb la lb:=by
 intro w hw hn;have HRA:=zhd ((ra.below hw).more hn);have HRB:=zhd ((rb.below hw).more hn);have HIH:=zhd fun (i:Nat) (hi:i<la.length) (hj:i<lb.length) (W:World) (hW:Below w.heap.size w W)=>ih _ (List.getElem_mem hi) _ (List.getElem_mem hj) W (hw.trans (hW.mono hn)) (Nat.le_trans hn hW.size)
 have ca:=ra.cap;have ba:=ra.big;have fa:=ra.few;have cb:=rb.cap;have bb:=rb.big;have fb:=rb.few;clear ra rb ih hw;go_enter Tryz.func95,Tryz.ntmps95
 by_cases hl:la.length=lb.length
 ·have hd:((la.length:Int) == (lb.length:Int))=true:=by simp [hl]
  have hd2:((la.length:Int) != (lb.length:Int))=false:=by simp [hl]
  have HL:=zhd hl;clear hl;go_wp2_with fail
  go_loopw [17] (fun v wr=>∃k:Nat,k≤la.length∧v=.int .i64 k∧iO la lb=iO (la.drop k) (lb.drop k)∧Below w.heap.size w wr) (fun v _=>la.length - (intOf v).toNat)
  case atStart=>exact ⟨0,Nat.zero_le _,rfl,rfl,Below.refl _ _⟩
  case round =>
   obtain ⟨k,hk,rfl,har,hb⟩:=hrel;have HAR:=zhd har;have HBR:=zhd hb;clear har hb;by_cases hlt:k<la.length
   ·have hlb:k<lb.length:=by have:=HL.out;omega
    obtain ⟨ga,oa,eA,hga,hca⟩:=(HRA.out.below HBR.out).row (by omega);obtain ⟨gb,ob,eB,hgb,hcb⟩:=(HRB.out.below HBR.out).row (by omega);have hca2:=hca k hlt;have hcb2:=hcb k hlb;have HST:=zhd (HAR.out.trans (G5 la lb HL.out k hlt));have HCALL:=zhd (HIH.out k hlt hlb);clear hca hcb;generalize la[k]=x at *;generalize lb[k]=y at *;have a0:=hca2 0 _ rfl;rw [Nat.add_zero] at a0;have a1:=hca2 1 _ rfl;have a2:wr.cell? ⟨ga,oa+k*6+2,none⟩=some (.slice x.es.at_ x.exprs.length x.es.cap):=hca2 2 _ rfl;have a3:=hca2 3 _ rfl;have a4:wr.cell? ⟨ga,oa+k*6+4,none⟩=some (.slice x.ts.at_ x.thn.length x.ts.cap):=hca2 4 _ rfl;have a5:wr.cell? ⟨ga,oa+k*6+5,none⟩=some (.slice x.os.at_ x.els.length x.os.cap):=hca2 5 _ rfl;have b0:=hcb2 0 _ rfl;rw [Nat.add_zero] at b0;have b1:=hcb2 1 _ rfl;have b2:wr.cell? ⟨gb,ob+k*6+2,none⟩=some (.slice y.es.at_ y.exprs.length y.es.cap):=hcb2 2 _ rfl;have b3:=hcb2 3 _ rfl;have b4:wr.cell? ⟨gb,ob+k*6+4,none⟩=some (.slice y.ts.at_ y.thn.length y.ts.cap):=hcb2 4 _ rfl;have b5:wr.cell? ⟨gb,ob+k*6+5,none⟩=some (.slice y.os.at_ y.els.length y.os.cap):=hcb2 5 _ rfl;have hk0:(0:Int)≤(k:Int):=by omega
    have hk1:(k:Int)<(la.length:Int):=by omega
    have hk2:(k:Int)<(lb.length:Int):=by omega
    have hk3:decide (k<lb.length)=true:=decide_eq_true hlb;clear hca2 hcb2;rw [eA,eB];clear eA eB;go_upto_region 6 with fail
    have hba:=zba wr (.cells #[.int .u8 x.kind,.string x.name,.slice x.es.at_ x.exprs.length x.es.cap,.int .i64 x.bound,.slice x.ts.at_ x.thn.length x.ts.cap,.slice x.os.at_ x.els.length x.os.cap] 43);have hxa:=zan wr (.cells #[.int .u8 x.kind,.string x.name,.slice x.es.at_ x.exprs.length x.es.cap,.int .i64 x.bound,.slice x.ts.at_ x.thn.length x.ts.cap,.slice x.os.at_ x.els.length x.os.cap] 43);have hszw:=HBR.out.size;have hgb2:gb<wr.heap.size:=by omega
    replace b0:=(hba.cell (p:=⟨gb,ob+k*6,none⟩) hgb2).trans b0
    replace b1:=(hba.cell (p:=⟨gb,ob+k*6+1,none⟩) hgb2).trans b1
    replace b2:=(hba.cell (p:=⟨gb,ob+k*6+2,none⟩) hgb2).trans b2
    replace b3:=(hba.cell (p:=⟨gb,ob+k*6+3,none⟩) hgb2).trans b3
    replace b4:=(hba.cell (p:=⟨gb,ob+k*6+4,none⟩) hgb2).trans b4
    replace b5:=(hba.cell (p:=⟨gb,ob+k*6+5,none⟩) hgb2).trans b5
    generalize wr.alloc (.cells #[.int .u8 x.kind,.string x.name,.slice x.es.at_ x.exprs.length x.es.cap,.int .i64 x.bound,.slice x.ts.at_ x.thn.length x.ts.cap,.slice x.os.at_ x.els.length x.os.cap] 43)=W5 at *;have hsz5:=hba.size;generalize wr.heap.size=bx at *;obtain ⟨x0,x1,x2,x3,x4,x5⟩:=ah hxa;have HXA:=zhd hxa;have HBA:=zhd hba;clear a0 a1 a2 a3 a4 a5 hxa hba;go_upto_region 7 with fail
    have hbc:=zba W5 (.cells #[.int .u8 y.kind,.string y.name,.slice y.es.at_ y.exprs.length y.es.cap,.int .i64 y.bound,.slice y.ts.at_ y.thn.length y.ts.cap,.slice y.os.at_ y.els.length y.os.cap] 43);have hyc:=zan W5 (.cells #[.int .u8 y.kind,.string y.name,.slice y.es.at_ y.exprs.length y.es.cap,.int .i64 y.bound,.slice y.ts.at_ y.thn.length y.ts.cap,.slice y.os.at_ y.els.length y.os.cap] 43);have hxc:=(hbc.block bx (zgs HXA.out).1).trans HXA.out;have HLO0:=HBR;have hlow:=HLO0.out.trans ((HBA.out.trans (hbc.mono hsz5)).mono hszw);clear x0 x1 x2 x3 x4 x5 b0 b1 b2 b3 b4 b5 HXA HBA;generalize W5.alloc (.cells #[.int .u8 y.kind,.string y.name,.slice y.es.at_ y.exprs.length y.es.cap,.int .i64 y.bound,.slice y.ts.at_ y.thn.length y.ts.cap,.slice y.os.at_ y.els.length y.os.cap] 43)=W7 at *;generalize W5.heap.size=bx2 at *;obtain ⟨x0,x1,x2,x3,x4,x5⟩:=ah hxc;obtain ⟨y0,y1,y2,y3,y4,y5⟩:=ah hyc;have HLOW:=zhd hlow;have hend:=HLOW.out.size;clear hxc hyc hbc hlow;obtain ⟨bv,hbv⟩:∃b,J7 x y=b:=⟨_,rfl⟩;have HBV:=zhd hbv;rw [hbv] at HCALL;clear hbv;cases bv with
    | false =>
     go_wp2_with (go_at_call 96;refine (HCALL.out W7 HLOW.out).mono ?_;rintro o W8 ⟨rfl,hb8⟩;have HB8:=zhd hb8;clear hb8)
     go_ret
     exact ⟨by rw [HST.out,HBV.out];rfl,HLOW.out.trans (HB8.out.mono hend)⟩
    | true =>
     go_wp2_with (go_at_call 96;refine (HCALL.out W7 HLOW.out).mono ?_;rintro o W8 ⟨rfl,hb8⟩;have HB8:=zhd hb8;clear hb8)
     exact ⟨⟨k+1,hlt,rfl,by rw [HST.out,HBV.out];rfl,HLOW.out.trans (HB8.out.mono hend)⟩,by simp only [intOf];omega⟩
   ·obtain rfl:k=la.length:=by omega
    have e0:iO la lb=true:=by
     rw [HAR.out,List.drop_length,HL.out,List.drop_length]
     rfl
    have E0:=zhd e0;clear hlt e0;go_wp2_with fail
    go_ret
    exact ⟨by rw [E0.out];rfl,HBR.out⟩
 ·have hd:((la.length:Int) == (lb.length:Int))=false:=by simp;omega
  have hd2:((la.length:Int) != (lb.length:Int))=true:=by simp;omega
  rw [Jg hl];clear hl;go_wp2_with fail
  go_ret
  exact ⟨rfl,Below.refl _ _⟩
set_option maxRecDepth 1000000 in
set_option maxHeartbeats 8000000 in
theorem xP {n0:Nat} {W0:World} {a b:aa} (ihx:Bc n0 W0 a.es b.es a.exprs b.exprs) (iht:vP n0 W0 a.ts b.ts a.thn b.thn) (ihe:vP n0 W0 a.os b.os a.els b.els):EO n0 W0 a b:=by
 intro w hw hn;have HX:=zhd fun (W:World) (hW:Below w.heap.size w W)=>ihx W (hw.trans (hW.mono hn)) (Nat.le_trans hn hW.size)
 have HT:=zhd fun (W:World) (hW:Below w.heap.size w W)=>iht W (hw.trans (hW.mono hn)) (Nat.le_trans hn hW.size)
 have HE:=zhd fun (W:World) (hW:Below w.heap.size w W)=>ihe W (hw.trans (hW.mono hn)) (Nat.le_trans hn hW.size)
 obtain ⟨k,n,es,ex,bd,ts,th,os,el⟩:=a;obtain ⟨k',n',es',ex',bd',ts',th',os',el'⟩:=b;have hb2:Below w.heap.size w ((w.alloc (.cells #[.int .u8 k,.string n,.slice es.at_ ex.length es.cap,.int .i64 bd,.slice ts.at_ th.length ts.cap,.slice os.at_ el.length os.cap] 43)).alloc (.cells #[.int .u8 k',.string n',.slice es'.at_ ex'.length es'.cap,.int .i64 bd',.slice ts'.at_ th'.length ts'.cap,.slice os'.at_ el'.length os'.cap] 43)):=((Below.refl _ _).alloc (Nat.le_refl _) _).alloc (by simp) _;have e0:J7 (.mk k n es ex bd ts th os el) (.mk k' n' es' ex' bd' ts' th' os' el')=(decide (k=k'∧n=n'∧bd=bd') && (jv ex ex' && (iO th th' && iO el el'))):=by rw [J7];rfl
 rw [e0];clear ihx iht ihe hw;simp only [aa.kind,aa.name,aa.bound,aa.es,aa.exprs,aa.ts,aa.thn,aa.os,aa.els] at *;go_enter Tryz.func96,Tryz.ntmps96
 obtain ⟨hx2,hz2,hs2,_⟩:=je w (.cells #[.int .u8 k,.string n,.slice es.at_ ex.length es.cap,.int .i64 bd,.slice ts.at_ th.length ts.cap,.slice os.at_ el.length os.cap] 43) (.cells #[.int .u8 k',.string n',.slice es'.at_ ex'.length es'.cap,.int .i64 bd',.slice ts'.at_ th'.length ts'.cap,.slice os'.at_ el'.length os'.cap] 43);have HB2:=zhd hb2;have HSZ:=zhd hb2.size;have HX2:=zhd hx2;have HZ2:=zhd hz2;clear hb2 hx2 hz2 hs2;by_cases h1:k=k'
 ·by_cases h2:n=n'
  ·by_cases h3:bd=bd'
   ·subst h1 h2 h3
    have e2:(decide (k=k∧n=n∧bd=bd) && (jv ex ex' && (iO th th' && iO el el')))=(jv ex ex' && (iO th th' && iO el el')):=by simp
    rw [e2];clear e0 e2;go_wp2_with fail
    refine (HX.out _ HB2.out).mono ?_;rintro o W8 ⟨rfl,hb8⟩;obtain ⟨bx,hbx⟩:∃b,jv ex ex'=b:=⟨_,rfl⟩;have HBX:=zhd hbx;rw [hbx];clear hbx;have HB8:=zhd (HB2.out.trans (hb8.mono HSZ.out));have hx8:=(hb8.block _ (zgs HX2.out).1).trans HX2.out;have hz8:=(hb8.block _ (zgs HZ2.out).1).trans HZ2.out;obtain ⟨x0,x1,x2,x3,x4,x5⟩:=ah hx8;obtain ⟨y0,y1,y2,y3,y4,y5⟩:=ah hz8;have HX8:=zhd hx8;have HZ8:=zhd hz8;clear hb8 HX hx8 hz8 HX2 HZ2;cases bx with
    | false =>
     go_wp2_with fail
     go_ret
     exact ⟨by rw [HBX.out];rfl,HB8.out⟩
    | true =>
     go_wp2_with fail
     refine (HT.out _ HB8.out).mono ?_;rintro o W9 ⟨rfl,hb9⟩;obtain ⟨bt,hbt⟩:∃b,iO th th'=b:=⟨_,rfl⟩;have HBT:=zhd hbt;rw [hbt];clear hbt;have HB9:=zhd (HB8.out.trans (hb9.mono HB8.out.size));have hx9:=(hb9.block _ (zgs HX8.out).1).trans HX8.out;have hz9:=(hb9.block _ (zgs HZ8.out).1).trans HZ8.out;clear x0 x1 x2 x3 x4 x5 y0 y1 y2 y3 y4 y5;obtain ⟨x0,x1,x2,x3,x4,x5⟩:=ah hx9;obtain ⟨y0,y1,y2,y3,y4,y5⟩:=ah hz9;clear hb9 HT hx9 hz9 HX8 HZ8;cases bt with
     | false =>
      go_wp2_with fail
      go_ret
      exact ⟨by rw [HBX.out,HBT.out];rfl,HB9.out⟩
     | true =>
      go_wp2_with fail
      refine (HE.out _ HB9.out).mono ?_;rintro o W10 ⟨rfl,hb10⟩;have HB10:=zhd (HB9.out.trans (hb10.mono HB9.out.size));clear hb10 HE;go_wp2_with fail
      go_ret
      exact ⟨by rw [HBX.out,HBT.out];rfl,HB10.out⟩
   ·have hd:(bd == bd')=false:=by simp [h3]
    have e1:(decide (k=k'∧n=n'∧bd=bd') && (jv ex ex' && (iO th th' && iO el el')))=false:=by simp [h3]
    rw [e1];subst h1 h2;clear h3 e1 e0;go_wp2_with fail
    go_ret
    exact ⟨rfl,HB2.out⟩
  ·have hd:(n.toList == n'.toList)=false:=beq_eq_false_iff_ne.2 fun e=>h2 (toList_inj e)
   have e1:(decide (k=k'∧n=n'∧bd=bd') && (jv ex ex' && (iO th th' && iO el el')))=false:=by simp [h2]
   rw [e1];subst h1;clear h2 e1 e0;go_wp2_with fail
   go_ret
   exact ⟨rfl,HB2.out⟩
 ·have hd:(k == k')=false:=by simp [h1]
  have e1:(decide (k=k'∧n=n'∧bd=bd') && (jv ex ex' && (iO th th' && iO el el')))=false:=by simp [h1]
  rw [e1];clear h1 e1 e0;go_wp2_with fail
  go_ret
  exact ⟨rfl,HB2.out⟩
theorem Hy {n0:Nat} {W0:World} (a:aa):∀b,gz n0 W0 a→gz n0 W0 b→EO n0 W0 a b:=by
 induction a using aa.ind with
 | h k n es ex bd ts th os el i1 i2 =>
  intro b ha hb;exact xP (zb ha.xs.row hb.xs.row fun x hx y hy=>Hr x y (ha.xs.ok x hx) (hb.xs.ok y hy)) (qZ ha.then_.row hb.then_.row fun x hx y hy=>i1 x hx y (ha.then_.ok x hx) (hb.then_.ok y hy)) (qZ ha.else_.row hb.else_.row fun x hx y hy=>i2 x hx y (ha.else_.ok x hx) (hb.else_.ok y hy))
theorem Dv {n0:Nat} {W0:World} {sa sb:Sp} {la lb:List aa} (ha:dJ n0 W0 sa la) (hb:dJ n0 W0 sb lb):vP n0 W0 sa sb la lb:=qZ ha.row hb.row fun x hx y hy=>Hy x y (ha.ok x hx) (hb.ok y hy)
end
section
open Go Go.RowKit Go.Maps
set_option maxRecDepth 1000000 in
set_option maxHeartbeats 4000000 in
theorem yL (w:World) (sa sb:Sp) (la lb:List aa) (ha:dJ w.heap.size w sa la) (hb:dJ w.heap.size w sb lb) (wa:ay la≤20000) (wb:ay lb≤20000) :
  Calls Tryz.prog 38 #[.slice sa.at_ la.length sa.cap,.slice sb.at_ lb.length sb.cap] w fun o w'=>o=.returned (.bool (iO la lb))∧Below w.heap.size w w':=by
 have HA:=zhd (eP w sa la 0 ha (by omega));have hB:∀W,Below w.heap.size w W→Calls Tryz.prog 94 #[.slice sb.at_ lb.length sb.cap,.int .i64 0] W fun o w'=>o=.returned (.int .i64 (dR (lb.flatMap aa.pre) 0))∧Below W.heap.size W w':=fun W hW=>eP W sb lb 0 ((hb.below hW).more hW.size) (by omega)
 have HB:=zhd hB;have HS:=zhd (Dv ha hb);have ca:dR (la.flatMap aa.pre) 0≤20000:=by
  rw [kN _ 0 (by unfold ay at wa;omega)];unfold ay at wa;omega
 have cb:dR (lb.flatMap aa.pre) 0≤20000:=by
  rw [kN _ 0 (by unfold ay at wb;omega)];unfold ay at wb;omega
 have da:=decide_eq_true ca;have db:=decide_eq_true cb;have HLA:=zhd fun W=>jr (dR (la.flatMap aa.pre) 0) W
 have HLB:=zhd fun W=>jr (dR (lb.flatMap aa.pre) 0) W
 rw [da] at HLA;rw [db] at HLB;simp only [Sp.val] at HA;clear ha hb ca cb da db hB wa wb;go_enter Tryz.func38,Tryz.ntmps38
 go_wp2_with fail
 refine HA.out.mono ?_;rintro o w1 ⟨rfl,hb1⟩;go_wp2_with fail
 refine (HLA.out _).mono ?_;rintro o w2 ⟨rfl,rfl⟩;go_wp2_with fail
 refine (HB.out _ hb1).mono ?_;rintro o w2 ⟨rfl,hb2⟩;go_wp2_with fail
 refine (HLB.out _).mono ?_;rintro o w3 ⟨rfl,rfl⟩;have hb3:=hb1.trans (hb2.mono hb1.size);go_wp2_with fail
 refine (HS.out _ hb3 hb3.size).mono ?_;rintro o w4 ⟨rfl,hb4⟩;go_wp2_with fail
 go_ret
 exact ⟨rfl,hb3.trans (hb4.mono hb3.size)⟩
set_option maxHeartbeats 1000000 in
theorem CJ (w:World):Calls Tryz.prog 30 #[] w fun o w'=>∃s:aa,o=.returned (.agg #[.int .u8 s.kind,.string s.name,.slice s.es.at_ s.exprs.length s.es.cap,.int .i64 s.bound,.slice s.ts.at_ s.thn.length s.ts.cap,.slice s.os.at_ s.els.length s.os.cap])∧ag s=eG∧p9 w' s∧Below w.heap.size w w':=by
 go_enter Tryz.func30,Tryz.ntmps30
 go_wp2_with fail
 obtain ⟨h1,h2,h3,h4⟩:=je w (.cells #[.int .u8 7,.string ⟨#[]⟩,.slice (some ⟨w.heap.size+1,0,none⟩) 1 1,.int .i64 1,.slice none 0 0,.slice none 0 0] 43) (.cells #[.int .u8 1,.int .u8 0,.int .u32 1,.int .i64 1,.string ⟨#[]⟩,.slice none 0 0] 30);refine bodyPost_ret (results_cell_row rfl _ _ w.heap.size 43 _ (0,0) _ rfl h1 Tryz.underlying43 rfl (by kernel_rfl)) rfl ⟨.mk 7 ⟨#[]⟩ ⟨some ⟨w.heap.size+1,0,none⟩,1⟩ [aR 1 1] 1 Sp.none [] Sp.none [],rfl,rfl,?_,h4⟩;exact .mk _ (show (0:Int)≤7∧(7:Int)≤255 by decide) (show (Lit.int .i64 1).wf=true by decide) (show (0:Nat)≤maxLen by decide) (row_one (enc:=ae.cells) (x:=aR 1 1) h2) (fun y hy=>by
  have:y=aR 1 1:=by simpa [aa.exprs] using hy
  rw [this];exact rJ _ 1 1 (by decide) (by decide)) RowOf.nil (fun _ h=>absurd h (by simp [aa.thn])) RowOf.nil (fun _ h=>absurd h (by simp [aa.els]))
end
section
open Go Go.RowKit Go.Maps
theorem zS:ag eG=eG:=rfl
theorem iL {P:Program} {Q:Exit→Act→World→Prop} {a:Act} {w:World} {C C':Code} (h:C=C') (h2:C'.wp P Q a w):C.wp P Q a w:=by subst h;exact h2
theorem LB {a:Act} (h:a.tmps.size=8) (hd:a.defers=[]):∃F:Nat→Value,(∀i:Nat,F i=a.eval (.tmp i))∧a=⟨(F 0::F 1::F 2::F 3::F 4::F 5::F 6::F 7::[]).toArray,[]⟩:=⟨fun i=>a.eval (.tmp i),fun _=>rfl,qD h hd⟩
theorem wM {p:aa} (h:ag p=eG):ay [p]≤20000:=by
 rw [←eQ,List.map_cons,List.map_nil,h,lu,fC,Ai]
 decide
theorem JU {s p:aa} (h:ag p=eG):iO [s] [p]=eO s:=by
 unfold eO;rw [Bool.eq_iff_iff,BF,sG,List.map_cons,List.map_nil,List.map_cons,List.map_nil,h,zS];simp
noncomputable def opsIP:Array Oper:=((Tryz.f27.body.bind (opsOf 1)).getD #[])
def Ec (t:Nat):Bool:=decide (t≤1)
theorem JS:iW opsIP 6 8 Ec=true:=by kernel_rfl
set_option maxRecDepth 10000000 in
set_option maxHeartbeats 64000000 in
theorem J9 {a0:Act} {w0:World} (hsz:a0.tmps.size=8) (b1:Nat) (s:aa) (f1:a0.tmps[1]?.getD undef=.pointer (some ⟨b1,0,none⟩)) (hbx:w0.heap[b1]? = some (.cells #[.int .u8 s.kind,.string s.name,.slice s.es.at_ s.exprs.length s.es.cap,.int .i64 s.bound,.slice s.ts.at_ s.thn.length s.ts.cap,.slice s.os.at_ s.els.length s.os.cap] 43 (0,0))) (hrd:p9 w0 s) (hw:ay [s]≤20000) :
  (Code.region 1 opsIP true).wp Tryz.prog (fun e a w=>e=.normal∧a.tmps.size=8∧a.defers=a0.defers∧(∀t:Nat,Ec t=true→a.tmps[t]?.getD undef=a0.tmps[t]?.getD undef)∧a.tmps[2]?.getD undef=.bool (eO s)∧Below w0.heap.size w0 w) a0 w0:=by
 have hb1:b1<w0.heap.size:=(zgs hbx).1;obtain ⟨x0,x1,x2,x3,x4,x5⟩:=ah hbx;refine dh (n:=6) (sz:=8) (keep:=Ec) rfl JS hsz (fun _ w=>Below w0.heap.size w0 w) (fun _ w w'=>Below w.heap.size w w') ((Below.refl _ _).drew) ?_;have e:opsIP.toList=opsIP.toList:=rfl
 conv at e=>rhs;arg 1;whnf
 simp only at e;rw [e];clear e
 apply aj.exact rfl rfl
 ·exact fun _ _ h=>h
 ·exact fun w=>Below.refl _ w
 ·rintro L a w ⟨-,hS,-,hsm,haft⟩
  have f1:a.tmps[1]?.getD undef=_:=(hsm 1 rfl).trans f1;have c0:=(hS.cell (p:=⟨b1,0,none⟩) hb1).trans (x0);have c1:=(hS.cell (p:=⟨b1,1,none⟩) hb1).trans (x1);have c2:=(hS.cell (p:=⟨b1,2,none⟩) hb1).trans (x2);have c3:=(hS.cell (p:=⟨b1,3,none⟩) hb1).trans (x3);have c4:=(hS.cell (p:=⟨b1,4,none⟩) hb1).trans (x4);have c5:=(hS.cell (p:=⟨b1,5,none⟩) hb1).trans (x5);simp [go_sem,f1,c0,c1,c2,c3,c4,c5];exact rfl
 refine aj.any (fun L v w=>∃b,v=.slice (some ⟨b,0,none⟩) 1 1∧RowOf w.heap.size w ⟨some ⟨b,0,none⟩,1⟩ 6 aa.cells [s]) rfl ?_ ?_ ?_
 ·exact fun _ _ _ _ _ _ hR hP=>hP.imp fun b h2=>⟨h2.1,(h2.2.below hR).more hR.size⟩
 ·rintro L a w ⟨hL,hS,hbeh,hsm,haft⟩
  have f3:a.tmps[3]?.getD undef=_:=ak (haft.1 rfl).2;have hb2:=zba w (.cells #[.int .u8 s.kind,.string s.name,.slice s.es.at_ s.exprs.length s.es.cap,.int .i64 s.bound,.slice s.ts.at_ s.thn.length s.ts.cap,.slice s.os.at_ s.els.length s.os.cap] 43);refine Oper.wp_value (v:=.slice (some ⟨w.heap.size,0,none⟩) 1 1) (w':=w.alloc (.cells #[.int .u8 s.kind,.string s.name,.slice s.es.at_ s.exprs.length s.es.cap,.int .i64 s.bound,.slice s.ts.at_ s.thn.length s.ts.cap,.slice s.os.at_ s.els.length s.os.cap] 43)) ?_ ?_
  ·simp [go_sem,f3]
  ·exact ⟨_,rfl,fun e=>(by cases e),⟨_,rfl,row_one (enc:=aa.cells) (x:=s) (zan w _)⟩,hS.trans (hb2.mono hS.size),hb2⟩
 refine aj.any (fun L v w=>∃p:aa,v=.agg #[.int .u8 p.kind,.string p.name,.slice p.es.at_ p.exprs.length p.es.cap,.int .i64 p.bound,.slice p.ts.at_ p.thn.length p.ts.cap,.slice p.os.at_ p.els.length p.os.cap]∧ag p=eG∧p9 w p) rfl ?_ ?_ ?_
 ·exact fun _ _ _ _ _ _ hR hP=>hP.imp fun p h2=>⟨h2.1,h2.2.1,(h2.2.2.stays hR).more hR.size⟩
 ·rintro L a w ⟨hL,hS,hbeh,hsm,haft⟩
  refine Oper.wp_enter (f:=30) (args:=#[]) (w':=w) ?_ ?_
  ·simp [go_sem]
  ·refine (CJ w).mono ?_
   rintro o w' ⟨p,rfl,h1,h2,hb2⟩;exact ⟨_,rfl,_,rfl,fun e=>(by cases e),⟨p,rfl,h1,h2⟩,hS.trans (hb2.mono hS.size),hb2⟩
 refine aj.any (fun L v w=>∃b p,v=.slice (some ⟨b,0,none⟩) 1 1∧ag p=eG∧RowOf w.heap.size w ⟨some ⟨b,0,none⟩,1⟩ 6 aa.cells [p]∧p9 w p) rfl ?_ ?_ ?_
 ·exact fun _ _ _ _ _ _ hR hP=>hP.imp fun b h=>h.imp fun p h2=>⟨h2.1,h2.2.1,(h2.2.2.1.below hR).more hR.size,(h2.2.2.2.stays hR).more hR.size⟩
 ·rintro L a w ⟨hL,hS,hbeh,hsm,haft⟩
  obtain ⟨p,x5,hp,hnp⟩:=(haft.1 rfl).2;have f5:a.tmps[5]?.getD undef=.agg #[.int .u8 p.kind,.string p.name,.slice p.es.at_ p.exprs.length p.es.cap,.int .i64 p.bound,.slice p.ts.at_ p.thn.length p.ts.cap,.slice p.os.at_ p.els.length p.os.cap]:=ak x5;have hb2:=zba w (.cells #[.int .u8 p.kind,.string p.name,.slice p.es.at_ p.exprs.length p.es.cap,.int .i64 p.bound,.slice p.ts.at_ p.thn.length p.ts.cap,.slice p.os.at_ p.els.length p.os.cap] 43);refine Oper.wp_value (v:=.slice (some ⟨w.heap.size,0,none⟩) 1 1) (w':=w.alloc (.cells #[.int .u8 p.kind,.string p.name,.slice p.es.at_ p.exprs.length p.es.cap,.int .i64 p.bound,.slice p.ts.at_ p.thn.length p.ts.cap,.slice p.os.at_ p.els.length p.os.cap] 43)) ?_ ?_
  ·simp [go_sem,f5]
  ·exact ⟨_,rfl,fun e=>(by cases e),⟨_,p,rfl,hp,row_one (enc:=aa.cells) (x:=p) (zan w _),(hnp.stays hb2).more hb2.size⟩,hS.trans (hb2.mono hS.size),hb2⟩
 refine aj.any (fun L v w=>v=.bool (eO s)) rfl ?_ ?_ ?_
 ·exact fun _ _ _ _ _ _ _ hP=>hP
 ·rintro L a w ⟨hL,hS,hbeh,hsm,haft⟩
  obtain ⟨b,x4,hr4⟩:=(haft.1 rfl).2;obtain ⟨b6,p,x6,hp,hr6,hnp⟩:=(haft.2.1 rfl).2;have f4:a.tmps[4]?.getD undef=.slice (some ⟨b,0,none⟩) 1 1:=ak x4;have f6:a.tmps[6]?.getD undef=.slice (some ⟨b6,0,none⟩) 1 1:=ak x6;have hst:p9 w s:=(hrd.stays hS).more hS.size;have hone:∀x:aa,p9 w x→∀t∈[x],p9 w t:=fun x hx t ht=>by rw [List.mem_singleton.1 ht];exact hx
  have hCL:=yL w ⟨some ⟨b,0,none⟩,1⟩ ⟨some ⟨b6,0,none⟩,1⟩ [s] [p] ⟨hr4,hone s hst⟩ ⟨hr6,hone p hnp⟩ hw (wM hp);have heq:iO [s] [p]=eO s:=JU hp;rw [heq] at hCL;refine Oper.wp_enter (f:=38) (args:=#[.slice (some ⟨b,0,none⟩) 1 1,.slice (some ⟨b6,0,none⟩) 1 1]) (w':=w) ?_ ?_
  ·simp [go_sem,f4,f6]
  ·refine hCL.mono ?_
   rintro o w' ⟨rfl,hb2⟩;exact ⟨_,rfl,_,rfl,fun e=>(by cases e),rfl,hS.trans (hb2.mono hS.size),hb2⟩
 refine aj.any (fun L v w=>v=.bool (eO s)) rfl ?_ ?_ ?_
 ·exact fun _ _ _ _ _ _ _ hP=>hP
 ·rintro L a w ⟨hL,hS,hbeh,hsm,haft⟩
  have f7:a.tmps[7]?.getD undef=.bool (eO s):=ak (haft.1 rfl).2;refine Oper.wp_value (v:=.bool (eO s)) (w':=w) ?_ ?_
  ·simp [go_sem,f7]
  ·exact ⟨_,rfl,fun e=>(by cases e),rfl,hS,Below.refl _ _⟩
 rintro L a w hL ⟨hS,hsame,hv⟩;exact ⟨rfl,hsame.1.trans hsz,hsame.2.1,hsame.2.2,ak (hv 5),hS⟩
set_option maxRecDepth 1000000 in
set_option maxHeartbeats 4000000 in
theorem jQ (w:World) (s:aa) (h:gz w.heap.size w s) (hw:ay [s]≤20000) :
  Calls Tryz.prog 27 #[.agg #[.int .u8 s.kind,.string s.name,.slice s.es.at_ s.exprs.length s.es.cap,.int .i64 s.bound,.slice s.ts.at_ s.thn.length s.ts.cap,.slice s.os.at_ s.els.length s.os.cap]] w fun o w'=>o=.returned (.bool (eO s))∧Below w.heap.size w w':=by
 have hb1:=zba w (.cells #[.int .u8 s.kind,.string s.name,.slice s.es.at_ s.exprs.length s.es.cap,.int .i64 s.bound,.slice s.ts.at_ s.thn.length s.ts.cap,.slice s.os.at_ s.els.length s.os.cap] 43);have hB:=zan w (.cells #[.int .u8 s.kind,.string s.name,.slice s.es.at_ s.exprs.length s.es.cap,.int .i64 s.bound,.slice s.ts.at_ s.thn.length s.ts.cap,.slice s.os.at_ s.els.length s.os.cap] 43);have hrd:p9 (w.alloc (.cells #[.int .u8 s.kind,.string s.name,.slice s.es.at_ s.exprs.length s.es.cap,.int .i64 s.bound,.slice s.ts.at_ s.thn.length s.ts.cap,.slice s.os.at_ s.els.length s.os.cap] 43)) s:=(h.stays hb1).more hb1.size;have HW:=zhd hw;have HB:=zhd hB;have HRD:=zhd hrd;have HB1:=zhd hb1;clear h hw hB hrd hb1;go_enter Tryz.func27,Tryz.ntmps27
 go_wp2_with fail
 refine Code.wp_mono ?_ (iL (C':=.region 1 opsIP true) (by kernel_rfl) (J9 rfl w.heap.size s rfl HB.out HRD.out HW.out));rintro e a9 w2 ⟨rfl,hsz9,hd9,hsm9,h2,hb2⟩;obtain ⟨F,hF,rfl⟩:=LB hsz9 hd9;have g2:F 2=.bool (eO s):=(hF 2).trans (au h2);rw [g2];clear hF g2 hsz9 hd9 hsm9 h2;go_wp2_with fail
 go_ret
 exact ⟨rfl,HB1.out.trans (hb2.mono HB1.out.size)⟩
set_option maxRecDepth 1000000 in
set_option maxHeartbeats 4000000 in
theorem ru (w:World) (s:aa) (h:gz w.heap.size w s) (hw:ay [s]≤20000) :
  Calls Tryz.prog 106 #[.agg #[.int .u8 s.kind,.string s.name,.slice s.es.at_ s.exprs.length s.es.cap,.int .i64 s.bound,.slice s.ts.at_ s.thn.length s.ts.cap,.slice s.os.at_ s.els.length s.os.cap]] w fun o w'=>o=.returned (.bool (fK s))∧Below w.heap.size w w':=by
 have hb1:=zba w (.cells #[.int .u8 s.kind,.string s.name,.slice s.es.at_ s.exprs.length s.es.cap,.int .i64 s.bound,.slice s.ts.at_ s.thn.length s.ts.cap,.slice s.os.at_ s.els.length s.os.cap] 43);have HP:=zhd (jQ (w.alloc (.cells #[.int .u8 s.kind,.string s.name,.slice s.es.at_ s.exprs.length s.es.cap,.int .i64 s.bound,.slice s.ts.at_ s.thn.length s.ts.cap,.slice s.os.at_ s.els.length s.os.cap] 43)) s ((h.stays hb1).more hb1.size) hw);have HB1:=zhd hb1;clear h hw hb1;by_cases hk:s.kind=7
 ·have hd:(s.kind == 7)=true:=by simp [hk]
  have e:fK s=!eO s:=by unfold fK;rw [decide_eq_true hk,Bool.true_and]
  rw [e];clear hk e;go_enter Tryz.func106,Tryz.ntmps106
  go_wp2_with fail
  refine HP.out.mono ?_;rintro o w2 ⟨rfl,hb2⟩;go_wp2_with fail
  go_ret
  exact ⟨rfl,HB1.out.trans (hb2.mono HB1.out.size)⟩
 ·have hd:(s.kind == 7)=false:=by simp [hk]
  rw [DN hk];clear hk;go_enter Tryz.func106,Tryz.ntmps106
  go_wp2_with fail
  go_ret
  exact ⟨rfl,HB1.out⟩
end
end Go.Proofs.YtepacjkacjabbaaGreatDoor
