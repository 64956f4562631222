import Derived.Test.YtepacjkacjabbaaGreatDoorPAA
import Derived.Test.YtepacjkacjabbaaGreatDoorPAK
import Derived.Test.YtepacjkacjabbaaGreatDoorPAF
import Derived.RegionTactic
import Derived.BigQuiet
import Derived.Deep.QuietTactic
import Derived.Deep.CutRange
import Derived.Deep.CutBlock
import Derived.Deep.DeepCutAuto
import Derived.Deep.RegionWith
import Derived.StillTailTactics
import Derived.Outline
import Derived.Carry
import Derived.Test.YtepacjkacjabbaaGreatDoorPAG
import Derived.IntWalk
import Derived.Test.YtepacjkacjabbaaGreatDoorPAE
import Derived.Deep.Draws
import Derived.Deep.RegionHeld3
namespace Go.Proofs.YtepacjkacjabbaaGreatDoor
section
open Go Go.RowKit Go.Maps
def Cn (n0:Nat) (W0:World) (a b:ae):Prop:=∀W,Below n0 W0 W→n0≤W.heap.size →
 Calls Tryz.prog 114 #[.agg #[.int .u8 a.kind,.int .u8 a.op,.int .u32 a.value,.int .i64 a.width,.string a.name,.slice a.sp.at_ a.subs.length a.sp.cap],.agg #[.int .u8 b.kind,.int .u8 b.op,.int .u32 b.value,.int .i64 b.width,.string b.name,.slice b.sp.at_ b.subs.length b.sp.cap]] W fun o w'=>o=.returned (.bool (CL a b))∧Below W.heap.size W w'
def yO (n0:Nat) (W0:World) (sa sb:Sp) (la lb:List ae):Prop:=∀W,Below n0 W0 W→n0≤W.heap.size →
 Calls Tryz.prog 155 #[.slice sa.at_ la.length sa.cap,.slice sb.at_ lb.length sb.cap,.func (.func 114) #[] #[]] W fun o w'=>o=.returned (.bool (dG la lb))∧Below W.heap.size W w'
theorem qY (la lb:List ae) (h:la.length=lb.length) (k:Nat) (hk:k<la.length):dG (la.drop k) (lb.drop k)=(CL la[k] (lb[k]'(by omega)) && dG (la.drop (k+1)) (lb.drop (k+1))):=by
 rw [List.drop_eq_getElem_cons hk,List.drop_eq_getElem_cons (by omega:k<lb.length),dG]
theorem vk {la lb:List ae} (h:la.length≠lb.length):dG la lb=false:=by
 cases e:dG la lb with
 | false=>rfl
 | true=>exact absurd (by simpa using congrArg List.length ((AJ la lb).1 e)) h
set_option maxRecDepth 1000000 in
set_option maxHeartbeats 8000000 in
theorem yB {n0:Nat} {W0:World} {sa sb:Sp} {la lb:List ae} (ra:RowOf n0 W0 sa 6 ae.cells la) (rb:RowOf n0 W0 sb 6 ae.cells lb) (ih:∀a∈la,∀b∈lb,Cn n0 W0 a b):yO n0 W0 sa sb la lb:=by
 intro w hw hn;have HRA:=zhd ((ra.below hw).more hn);have HRB:=zhd ((rb.below hw).more hn);have HIH:=zhd fun (i:Nat) (hi:i<la.length) (hj:i<lb.length) (W:World) (hW:Below w.heap.size w W)=>ih _ (List.getElem_mem hi) _ (List.getElem_mem hj) W (hw.trans (hW.mono hn)) (Nat.le_trans hn hW.size)
 have ca:=ra.cap;have ba:=ra.big;have fa:=ra.few;have cb:=rb.cap;have bb:=rb.big;have fb:=rb.few;clear ra rb ih hw;go_enter Tryz.func155,Tryz.ntmps155
 by_cases hl:la.length=lb.length
 ·have hd:((la.length:Int) == (lb.length:Int))=true:=by simp [hl]
  have hd2:((la.length:Int) != (lb.length:Int))=false:=by simp [hl]
  have HL:=zhd hl;clear hl;go_wp2_with fail
  go_loopw [17] (fun v wr=>∃k:Nat,k≤la.length∧v=.int .i64 k∧dG la lb=dG (la.drop k) (lb.drop k)∧Below w.heap.size w wr) (fun v _=>la.length - (intOf v).toNat)
  case atStart=>exact ⟨0,Nat.zero_le _,rfl,rfl,Below.refl _ _⟩
  case round =>
   obtain ⟨k,hk,rfl,har,hb⟩:=hrel;have HAR:=zhd har;have HBR:=zhd hb;clear har hb;by_cases hlt:k<la.length
   ·have hlb:k<lb.length:=by have:=HL.out;omega
    obtain ⟨ga,oa,eA,hga,hca⟩:=(HRA.out.below HBR.out).row (by omega);obtain ⟨gb,ob,eB,hgb,hcb⟩:=(HRB.out.below HBR.out).row (by omega);have hca2:=hca k hlt;have hcb2:=hcb k hlb;have HST:=zhd (HAR.out.trans (qY la lb HL.out k hlt));have HCALL:=zhd (HIH.out k hlt hlb);clear hca hcb;generalize la[k]=x at *;generalize lb[k]=y at *;have a0:=hca2 0 _ rfl;rw [Nat.add_zero] at a0;have a1:=hca2 1 _ rfl;have a2:=hca2 2 _ rfl;have a3:=hca2 3 _ rfl;have a4:=hca2 4 _ rfl;have a5:wr.cell? ⟨ga,oa+k*6+5,none⟩=some (.slice x.sp.at_ x.subs.length x.sp.cap):=hca2 5 _ rfl;have b0:=hcb2 0 _ rfl;rw [Nat.add_zero] at b0;have b1:=hcb2 1 _ rfl;have b2:=hcb2 2 _ rfl;have b3:=hcb2 3 _ rfl;have b4:=hcb2 4 _ rfl;have b5:wr.cell? ⟨gb,ob+k*6+5,none⟩=some (.slice y.sp.at_ y.subs.length y.sp.cap):=hcb2 5 _ rfl;have hk0:(0:Int)≤(k:Int):=by omega
    have hk1:(k:Int)<(la.length:Int):=by omega
    have hk2:(k:Int)<(lb.length:Int):=by omega
    have hk3:decide (k<lb.length)=true:=decide_eq_true hlb;clear hca2 hcb2;rw [eA,eB];clear eA eB;go_upto_region 6 with fail
    have hba:=zba wr (.cells #[.int .u8 x.kind,.int .u8 x.op,.int .u32 x.value,.int .i64 x.width,.string x.name,.slice x.sp.at_ x.subs.length x.sp.cap] 30);have hxa:=zan wr (.cells #[.int .u8 x.kind,.int .u8 x.op,.int .u32 x.value,.int .i64 x.width,.string x.name,.slice x.sp.at_ x.subs.length x.sp.cap] 30);have hszw:=HBR.out.size;have hgb2:gb<wr.heap.size:=by omega
    replace b0:=(hba.cell (p:=⟨gb,ob+k*6,none⟩) hgb2).trans b0
    replace b1:=(hba.cell (p:=⟨gb,ob+k*6+1,none⟩) hgb2).trans b1
    replace b2:=(hba.cell (p:=⟨gb,ob+k*6+2,none⟩) hgb2).trans b2
    replace b3:=(hba.cell (p:=⟨gb,ob+k*6+3,none⟩) hgb2).trans b3
    replace b4:=(hba.cell (p:=⟨gb,ob+k*6+4,none⟩) hgb2).trans b4
    replace b5:=(hba.cell (p:=⟨gb,ob+k*6+5,none⟩) hgb2).trans b5
    generalize wr.alloc (.cells #[.int .u8 x.kind,.int .u8 x.op,.int .u32 x.value,.int .i64 x.width,.string x.name,.slice x.sp.at_ x.subs.length x.sp.cap] 30)=W5 at *;have hsz5:=hba.size;generalize wr.heap.size=bx at *;obtain ⟨x0,x1,x2,x3,x4,x5⟩:=ag hxa;have HXA:=zhd hxa;have HBA:=zhd hba;clear a0 a1 a2 a3 a4 a5 hxa hba;go_upto_region 7 with fail
    have hbc:=zba W5 (.cells #[.int .u8 y.kind,.int .u8 y.op,.int .u32 y.value,.int .i64 y.width,.string y.name,.slice y.sp.at_ y.subs.length y.sp.cap] 30);have hyc:=zan W5 (.cells #[.int .u8 y.kind,.int .u8 y.op,.int .u32 y.value,.int .i64 y.width,.string y.name,.slice y.sp.at_ y.subs.length y.sp.cap] 30);have hxc:=(hbc.block bx (zgs HXA.out).1).trans HXA.out;have HLO0:=HBR;have hlow:=HLO0.out.trans ((HBA.out.trans (hbc.mono hsz5)).mono hszw);clear x0 x1 x2 x3 x4 x5 b0 b1 b2 b3 b4 b5 HXA HBA;generalize W5.alloc (.cells #[.int .u8 y.kind,.int .u8 y.op,.int .u32 y.value,.int .i64 y.width,.string y.name,.slice y.sp.at_ y.subs.length y.sp.cap] 30)=W7 at *;generalize W5.heap.size=bx2 at *;obtain ⟨x0,x1,x2,x3,x4,x5⟩:=ag hxc;obtain ⟨y0,y1,y2,y3,y4,y5⟩:=ag hyc;have HLOW:=zhd hlow;have hend:=HLOW.out.size;clear hxc hyc hbc hlow;obtain ⟨bv,hbv⟩:∃b,CL x y=b:=⟨_,rfl⟩;have HBV:=zhd hbv;rw [hbv] at HCALL;clear hbv;cases bv with
    | false =>
     go_wp2_with (go_at_call 114;refine (HCALL.out W7 HLOW.out).mono ?_;rintro o W8 ⟨rfl,hb8⟩;have HB8:=zhd hb8;clear hb8)
     go_ret
     exact ⟨by rw [HST.out,HBV.out];rfl,HLOW.out.trans (HB8.out.mono hend)⟩
    | true =>
     go_wp2_with (go_at_call 114;refine (HCALL.out W7 HLOW.out).mono ?_;rintro o W8 ⟨rfl,hb8⟩;have HB8:=zhd hb8;clear hb8)
     exact ⟨⟨k+1,hlt,rfl,by rw [HST.out,HBV.out];rfl,HLOW.out.trans (HB8.out.mono hend)⟩,by simp only [intOf];omega⟩
   ·obtain rfl:k=la.length:=by omega
    have e0:dG la lb=true:=by
     rw [HAR.out,List.drop_length,HL.out,List.drop_length]
     rfl
    have E0:=zhd e0;clear hlt e0;go_wp2_with fail
    go_ret
    exact ⟨by rw [E0.out];rfl,HBR.out⟩
 ·have hd:((la.length:Int) == (lb.length:Int))=false:=by simp;omega
  have hd2:((la.length:Int) != (lb.length:Int))=true:=by simp;omega
  rw [vk hl];clear hl;go_wp2_with fail
  go_ret
  exact ⟨rfl,Below.refl _ _⟩
set_option maxRecDepth 1000000 in
set_option maxHeartbeats 8000000 in
theorem wu {n0:Nat} {W0:World} {a b:ae} (ih:yO n0 W0 a.sp b.sp a.subs b.subs):Cn n0 W0 a b:=by
 intro w hw hn;have HIH:=zhd fun (W:World) (hW:Below w.heap.size w W)=>ih W (hw.trans (hW.mono hn)) (Nat.le_trans hn hW.size)
 have HB2:Hid (∀x y,Below w.heap.size w ((w.alloc x).alloc y)):=zhd fun x y=>((Below.refl _ _).alloc (Nat.le_refl _) _).alloc (by simp) _
 clear ih hw;obtain ⟨k,o,v,wd,n,sp,l⟩:=a;obtain ⟨k',o',v',wd',n',sp',l'⟩:=b;have e0:CL (.mk k o v wd n sp l) (.mk k' o' v' wd' n' sp' l')=(decide (k=k'∧o=o'∧v=v'∧wd=wd'∧n=n') && dG l l'):=by rw [CL];rfl
 rw [e0];simp only [ae.kind,ae.op,ae.value,ae.width,ae.name,ae.sp,ae.subs] at *;go_enter Tryz.func114,Tryz.ntmps114
 by_cases h1:k=k'
 ·by_cases h2:o=o'
  ·by_cases h3:v=v'
   ·by_cases h4:wd=wd'
    ·by_cases h5:n=n'
     ·subst h1 h2 h3 h4 h5
      go_wp2_with (go_at_call 155;refine (HIH.out _ (HB2.out _ _)).mono ?_;rintro o W8 ⟨rfl,hb8⟩;have HB8:=zhd ((HB2.out _ _).trans (hb8.mono (HB2.out _ _).size));clear hb8)
      go_ret
      exact ⟨by simp,HB8.out⟩
     ·have hd:(n.toList == n'.toList)=false:=beq_eq_false_iff_ne.2 fun e=>h5 (toList_inj e)
      have e1:(decide (k=k'∧o=o'∧v=v'∧wd=wd'∧n=n') && dG l l')=false:=by simp [h5]
      rw [e1];subst h1 h2 h3 h4;clear h5 e1 e0;go_wp2_with fail
      go_ret
      exact ⟨rfl,HB2.out _ _⟩
    ·have hd:(wd == wd')=false:=by simp [h4]
     have e1:(decide (k=k'∧o=o'∧v=v'∧wd=wd'∧n=n') && dG l l')=false:=by simp [h4]
     rw [e1];subst h1 h2 h3;clear h4 e1 e0;go_wp2_with fail
     go_ret
     exact ⟨rfl,HB2.out _ _⟩
   ·have hd:(v == v')=false:=by simp [h3]
    have e1:(decide (k=k'∧o=o'∧v=v'∧wd=wd'∧n=n') && dG l l')=false:=by simp [h3]
    rw [e1];subst h1 h2;clear h3 e1 e0;go_wp2_with fail
    go_ret
    exact ⟨rfl,HB2.out _ _⟩
  ·have hd:(o == o')=false:=by simp [h2]
   have e1:(decide (k=k'∧o=o'∧v=v'∧wd=wd'∧n=n') && dG l l')=false:=by simp [h2]
   rw [e1];subst h1;clear h2 e1 e0;go_wp2_with fail
   go_ret
   exact ⟨rfl,HB2.out _ _⟩
 ·have hd:(k == k')=false:=by simp [h1]
  have e1:(decide (k=k'∧o=o'∧v=v'∧wd=wd'∧n=n') && dG l l')=false:=by simp [h1]
  rw [e1];clear h1 e1 e0;go_wp2_with fail
  go_ret
  exact ⟨rfl,HB2.out _ _⟩
theorem FN {n0:Nat} {W0:World} (a:ae):∀b,iw n0 W0 a→iw n0 W0 b→Cn n0 W0 a b:=by
 induction a using ae.ind with
 | h k o v w n sp l ih =>
  intro b ha hb;exact wu (yB ha.row hb.row fun x hx y hy=>ih x hx y (ha.sub x hx) (hb.sub y hy))
end
section
open Go Go.RowKit Go.Maps
def yP (n0:Nat) (W0:World) (a b:ae):Prop:=∀W,Below n0 W0 W→n0≤W.heap.size →
 Calls Tryz.prog 145 #[.agg #[.int .i64 a.kind,.int .i64 a.op,.int .i64 a.value,.int .i64 a.width,.string a.name,.slice a.sp.at_ a.subs.length a.sp.cap],.agg #[.int .i64 b.kind,.int .i64 b.op,.int .i64 b.value,.int .i64 b.width,.string b.name,.slice b.sp.at_ b.subs.length b.sp.cap]] W fun o w'=>o=.returned (.bool (CL a b))∧Below W.heap.size W w'
set_option maxRecDepth 1000000 in
set_option maxHeartbeats 8000000 in
theorem FY {n0:Nat} {W0:World} {a b:ae} (ra:RowOf n0 W0 a.sp 6 ae.cellsR a.subs) (rb:RowOf n0 W0 b.sp 6 ae.cellsR b.subs) (ih:∀x∈a.subs,∀y∈b.subs,yP n0 W0 x y):yP n0 W0 a b:=by
 intro w hw hn;have HRA:=zhd ((ra.below hw).more hn);have HRB:=zhd ((rb.below hw).more hn);have HIH:=zhd fun (i:Nat) (hi:i<a.subs.length) (hj:i<b.subs.length) (W:World) (hW:Below w.heap.size w W)=>ih _ (List.getElem_mem hi) _ (List.getElem_mem hj) W (hw.trans (hW.mono hn)) (Nat.le_trans hn hW.size)
 have HB2:Hid (∀x y,Below w.heap.size w ((w.alloc x).alloc y)):=zhd fun x y=>((Below.refl _ _).alloc (Nat.le_refl _) _).alloc (by simp) _
 have ca:=ra.cap;have ba:=ra.big;have fa:=ra.few;have cb:=rb.cap;have bb:=rb.big;have fb:=rb.few;clear ra rb ih hw;obtain ⟨k,o,v,wd,n,sp,l⟩:=a;obtain ⟨k',o',v',wd',n',sp',l'⟩:=b;have e0:CL (.mk k o v wd n sp l) (.mk k' o' v' wd' n' sp' l')=(decide (k=k'∧o=o'∧v=v'∧wd=wd'∧n=n') && dG l l'):=by rw [CL];rfl
 rw [e0];simp only [ae.kind,ae.op,ae.value,ae.width,ae.name,ae.sp,ae.subs] at *;go_enter Tryz.func145,Tryz.ntmps145
 by_cases h1:k=k'
 ·by_cases h2:o=o'
  ·by_cases h3:v=v'
   ·by_cases h4:wd=wd'
    ·by_cases h5:n=n'
     ·by_cases h6:l.length=l'.length
      ·subst h1 h2 h3 h4 h5
       have hd:((l.length:Int) != (l'.length:Int))=false:=by simp [h6]
       have HL:=zhd h6;obtain ⟨q1,q2,q3,q4⟩:=gY w (.cells #[.int .i64 k,.int .i64 o,.int .i64 v,.int .i64 wd,.string n,.slice sp.at_ l.length sp.cap] 101) (.cells #[.int .i64 k,.int .i64 o,.int .i64 v,.int .i64 wd,.string n,.slice sp'.at_ l'.length sp'.cap] 101);rw [show (decide (k=k∧o=o∧v=v∧wd=wd∧n=n) && dG l l')=dG l l' by simp];clear h6 e0;go_upto_region 3 with fail
       clear hd;have HQ1:=zhd q1;have HQ2:=zhd q2;have HQ4:=zhd q4;clear q1 q2 q3 q4;generalize ((w.alloc (.cells #[.int .i64 k,.int .i64 o,.int .i64 v,.int .i64 wd,.string n,.slice sp.at_ l.length sp.cap] 101)).alloc (.cells #[.int .i64 k,.int .i64 o,.int .i64 v,.int .i64 wd,.string n,.slice sp'.at_ l'.length sp'.cap] 101))=W2 at *;go_wp2_with fail
       go_loopw [5] (fun s5 wr=>∃j:Nat,j≤l.length∧s5=.int .i64 j∧dG l l'=dG (l.drop j) (l'.drop j)∧Below W2.heap.size W2 wr) (fun s5 _=>l.length - (intOf s5).toNat)
       case atStart=>exact ⟨0,Nat.zero_le _,rfl,rfl,Below.refl _ _⟩
       case round =>
        obtain ⟨j,hj,rfl,har,hb⟩:=hrel;have HAR:=zhd har;have HBR:=zhd hb;have HLW:=zhd (HQ4.out.trans (hb.mono HQ4.out.size));have hX:=(hb.block _ (zgs HQ1.out).1).trans HQ1.out;have hY:=(hb.block _ (zgs HQ2.out).1).trans HQ2.out;have x5:wr.cell? ⟨w.heap.size,5,none⟩=some (.slice sp.at_ l.length sp.cap):=(ag hX).2.2.2.2.2;have y5:wr.cell? ⟨w.heap.size+1,5,none⟩=some (.slice sp'.at_ l'.length sp'.cap):=(ag hY).2.2.2.2.2;have hj0:(0:Int)≤(j:Int):=by omega
        clear har hb hX hY;by_cases hlt:j<l.length
        ·have hlb:j<l'.length:=by have:=HL.out;omega
         obtain ⟨ga,oa,eA,hga,hca⟩:=(HRA.out.below HLW.out).row (by omega);obtain ⟨gb,ob,eB,hgb,hcb⟩:=(HRB.out.below HLW.out).row (by omega);have hca2:=hca j hlt;have hcb2:=hcb j hlb;have HST:=zhd (HAR.out.trans (qY l l' HL.out j hlt));have HCALL:=zhd (HIH.out j hlt hlb);clear hca hcb;generalize l[j]=x at *;generalize l'[j]=y at *;have a0:=hca2 0 _ rfl;rw [Nat.add_zero] at a0;have a1:=hca2 1 _ rfl;have a2:=hca2 2 _ rfl;have a3:=hca2 3 _ rfl;have a4:=hca2 4 _ rfl;have a5:wr.cell? ⟨ga,oa+j*6+5,none⟩=some (.slice x.sp.at_ x.subs.length x.sp.cap):=hca2 5 _ rfl;have b0:=hcb2 0 _ rfl;rw [Nat.add_zero] at b0;have b1:=hcb2 1 _ rfl;have b2:=hcb2 2 _ rfl;have b3:=hcb2 3 _ rfl;have b4:=hcb2 4 _ rfl;have b5:wr.cell? ⟨gb,ob+j*6+5,none⟩=some (.slice y.sp.at_ y.subs.length y.sp.cap):=hcb2 5 _ rfl;have hk1:(j:Int)<(l.length:Int):=by omega
         have hk2:(j:Int)<(l'.length:Int):=by omega
         clear hca2 hcb2;rw [eA] at x5;rw [eB] at y5;clear eA eB;go_upto_region 6 with fail
         obtain ⟨bv,hbv⟩:∃b,CL x y=b:=⟨_,rfl⟩;have HBV:=zhd hbv;rw [hbv] at HCALL;clear hbv
         go_still_tail 10,(by kernel_rfl)
         change wpList _ _ _ _ _ wr.drew;have HLD:=zhd (HLW.out.trans ((Below.refl wr.heap.size wr).drew.mono HLW.out.size));have HBD:=zhd (HBR.out.trans ((Below.refl wr.heap.size wr).drew.mono HBR.out.size));clear x5 y5 a0 a1 a2 a3 a4 a5 b0 b1 b2 b3 b4 b5;generalize wr.drew=wd9 at *;cases bv with
         | false =>
          go_wp2_with (go_at_call 145;refine (HCALL.out wd9 HLD.out).mono ?_;rintro o W8 ⟨rfl,hb8⟩;have HB8:=zhd (HLD.out.trans (hb8.mono HLD.out.size));clear hb8)
          go_ret
          exact ⟨by rw [HST.out,HBV.out];rfl,HB8.out⟩
         | true =>
          go_wp2_with (go_at_call 145;refine (HCALL.out wd9 HLD.out).mono ?_;rintro o W8 ⟨rfl,hb8⟩;have HB8:=zhd (HBD.out.trans (hb8.mono HBD.out.size));clear hb8)
          go_roundw
          case rel=>exact ⟨j+1,hlt,by go_num,by rw [HST.out,HBV.out];rfl,HB8.out⟩
          case measure=>simp [intOf];omega
        ·obtain rfl:j=l.length:=by omega
         have E0:Hid (dG l l'=true):=zhd (by rw [HAR.out,List.drop_length,HL.out,List.drop_length];rfl);go_wp2_with fail
         go_ret
         exact ⟨by rw [E0.out];rfl,HLW.out⟩
      ·have hd:((l.length:Int) != (l'.length:Int))=true:=by simp;omega
       have e1:(decide (k=k'∧o=o'∧v=v'∧wd=wd'∧n=n') && dG l l')=false:=by rw [vk h6,Bool.and_false]
       rw [e1];subst h1 h2 h3 h4 h5;clear h6 e1 e0 ca ba fa cb bb fb;go_wp2_with fail
       go_ret
       exact ⟨rfl,HB2.out _ _⟩
     ·have hq:(n.toList == n'.toList)=false:=beq_eq_false_iff_ne.2 fun e=>h5 (toList_inj e)
      have hd:(n.toList != n'.toList)=true:=by simp only [bne,hq];rfl
      have e1:(decide (k=k'∧o=o'∧v=v'∧wd=wd'∧n=n') && dG l l')=false:=by simp [h5]
      rw [e1];subst h1 h2 h3 h4;clear h5 e1 e0 ca ba fa cb bb fb;go_wp2_with fail
      go_ret
      exact ⟨rfl,HB2.out _ _⟩
    ·have hq:(wd == wd')=false:=by simp [h4]
     have hd:(wd != wd')=true:=by simp [h4]
     have e1:(decide (k=k'∧o=o'∧v=v'∧wd=wd'∧n=n') && dG l l')=false:=by simp [h4]
     rw [e1];subst h1 h2 h3;clear h4 e1 e0 ca ba fa cb bb fb;go_wp2_with fail
     go_ret
     exact ⟨rfl,HB2.out _ _⟩
   ·have hq:(v == v')=false:=by simp [h3]
    have hd:(v != v')=true:=by simp [h3]
    have e1:(decide (k=k'∧o=o'∧v=v'∧wd=wd'∧n=n') && dG l l')=false:=by simp [h3]
    rw [e1];subst h1 h2;clear h3 e1 e0 ca ba fa cb bb fb;go_wp2_with fail
    go_ret
    exact ⟨rfl,HB2.out _ _⟩
  ·have hq:(o == o')=false:=by simp [h2]
   have hd:(o != o')=true:=by simp [h2]
   have e1:(decide (k=k'∧o=o'∧v=v'∧wd=wd'∧n=n') && dG l l')=false:=by simp [h2]
   rw [e1];subst h1;clear h2 e1 e0 ca ba fa cb bb fb;go_wp2_with fail
   go_ret
   exact ⟨rfl,HB2.out _ _⟩
 ·have hq:(k == k')=false:=by simp [h1]
  have hd:(k != k')=true:=by simp [h1]
  have e1:(decide (k=k'∧o=o'∧v=v'∧wd=wd'∧n=n') && dG l l')=false:=by simp [h1]
  rw [e1];clear h1 e1 e0 ca ba fa cb bb fb;go_wp2_with fail
  go_ret
  exact ⟨rfl,HB2.out _ _⟩
theorem DJ {n0:Nat} {W0:World} (a:ae):∀b,l6 n0 W0 a→l6 n0 W0 b→yP n0 W0 a b:=by
 induction a using ae.ind with
 | h k o v w n sp l ih =>
  intro b ha hb;exact FY ha.row hb.row fun x hx y hy=>ih x hx y (ha.sub x hx) (hb.sub y hy)
end
section
open Go Go.RowKit
def gq (l:List aa):Nat:=(l.map fun s=>1+s.exprs.length).sum
theorem lg:∀(l:List aa) (b:Int),0≤b→b≤bS l b∧bS l b≤max b 20001+gq l
 | [],b,hb=>by simp [bS,gq];omega
 | s::l,b,hb=>by
  have h1:=rR s b hb;have e:gq (s::l)=1+s.exprs.length+gq l:=by simp [gq]
  rw [bS,e];by_cases h:stepT s b>20000
  ·rw [if_pos h];omega
  ·rw [if_neg h]
   have h2:=lg l (stepT s b) (by omega);omega
def gZ (p:af):Int:=(p.inputs.length:Int)+p.ghosts.length+p.vars.length+p.arrays.length+1
def dJ (l:List bn) (b:Int):Int:=l.foldl (fun n i=>dF i.value.pre.length (n+1)) b
def dN (l:List aK) (b:Int):Int:=l.foldl (fun n q=>bS (q.body.flatMap aa.pre) (n+1+q.params.length)) b
def countP (p:af):Int :=
 dF p.invariant.pre.length (bS (p.recover.flatMap aa.pre) (bS (p.work.flatMap aa.pre) (dN p.procs (dJ p.inits (dF p.require.pre.length (gZ p))))))
def eU (p:af):Nat:=(p.procs.map fun q=>1+q.params.length+gq (q.body.flatMap aa.pre)).sum+gq (p.work.flatMap aa.pre)+gq (p.recover.flatMap aa.pre)
theorem rq (l:List bn):∀b:Int,0≤b→b≤dJ l b∧dJ l b≤max b 20001+2*l.length:=by
 induction l with
 | nil=>intro b hb;simp [dJ];omega
 | cons i l ih =>
  intro b hb;have h1:=kZ i.value.pre.length (gu i.value) (b+1) (by omega);have h2:=ih (dF i.value.pre.length (b+1)) (by omega);have e:dJ (i::l) b=dJ l (dF i.value.pre.length (b+1)):=rfl;simp only [List.length_cons];omega
theorem rD (l:List aK):∀b:Int,0≤b→b≤dN l b∧dN l b≤max b 20001+(l.map fun q=>1+q.params.length+gq (q.body.flatMap aa.pre)).sum:=by
 induction l with
 | nil=>intro b hb;simp [dN];omega
 | cons q l ih =>
  intro b hb;have h1:=lg (q.body.flatMap aa.pre) (b+1+q.params.length) (by omega);have h2:=ih (bS (q.body.flatMap aa.pre) (b+1+q.params.length)) (by omega);have e:dN (q::l) b=dN l (bS (q.body.flatMap aa.pre) (b+1+q.params.length)):=rfl;simp only [List.map_cons,List.sum_cons];omega
structure zY (W:World) (q:Nat) (p:af):Prop where
 heap:W.heap[q]? = some (.cells #[.int .i64 p.blocks,.int .i64 p.width,.slice p.is.at_ p.inputs.length p.is.cap,.slice p.gs.at_ p.ghosts.length p.gs.cap,.slice p.vs.at_ p.vars.length p.vs.cap,.slice p.as.at_ p.arrays.length p.as.cap,.int .u8 p.require.kind,.int .u8 p.require.op,.int .u32 p.require.value,.int .i64 p.require.width,.string p.require.name,.slice p.require.sp.at_ p.require.subs.length p.require.sp.cap,.slice p.ns.at_ p.inits.length p.ns.cap,.slice p.rs.at_ p.procs.length p.rs.cap,.slice p.ws.at_ p.work.length p.ws.cap,.slice p.cs.at_ p.recover.length p.cs.cap,.int .u8 p.invariant.kind,.int .u8 p.invariant.op,.int .u32 p.invariant.value,.int .i64 p.invariant.width,.string p.invariant.name,.slice p.invariant.sp.at_ p.invariant.subs.length p.invariant.sp.cap] 35 (0,0))
theorem zY.at {W:World} {q:Nat} {p:af} (h:zY W q p):W.cell? ⟨q,12,none⟩=some (.slice p.ns.at_ p.inits.length p.ns.cap)∧W.cell? ⟨q,13,none⟩=some (.slice p.rs.at_ p.procs.length p.rs.cap)∧W.cell? ⟨q,14,none⟩=some (.slice p.ws.at_ p.work.length p.ws.cap)∧W.cell? ⟨q,15,none⟩=some (.slice p.cs.at_ p.recover.length p.cs.cap) ∧
  W.cell? ⟨q,16,none⟩=some (.int .u8 p.invariant.kind)∧W.cell? ⟨q,17,none⟩=some (.int .u8 p.invariant.op)∧W.cell? ⟨q,18,none⟩=some (.int .u32 p.invariant.value)∧W.cell? ⟨q,19,none⟩=some (.int .i64 p.invariant.width)∧W.cell? ⟨q,20,none⟩=some (.string p.invariant.name)∧W.cell? ⟨q,21,none⟩=some (.slice p.invariant.sp.at_ p.invariant.subs.length p.invariant.sp.cap):=by
 simp [World.cell?,h.heap]
theorem I6 {α:Type} (f:α→Nat) (l:List α) (k:Nat):((l.take k).map f).sum≤(l.map f).sum:=by
 have h:((l.take k++l.drop k).map f).sum=(l.map f).sum:=by rw [List.take_append_drop]
 rw [List.map_append,List.sum_append] at h;omega
set_option maxRecDepth 1000000 in
set_option maxHeartbeats 2000000 in
theorem xI (w:World) (p:af) (h:jW w.heap.size w p) (hwt:eU p≤1125899906842624) :
  Calls Tryz.prog 111 #[p.val] w fun o w'=>o=.returned (.int .i64 (countP p))∧Below w.heap.size w w':=by
 have hl1:=h.inputs.row.few;have hl2:=h.ghosts.row.few;have hl3:=h.vars.row.few;have hl4:=h.arrays.row.few;have hl5:=h.irow.few;have hl6:=h.prow.few;have HP:=zhd h;have HWT:=zhd hwt;clear h hwt;simp only [af.val,Sp.val];go_enter Tryz.func111,Tryz.ntmps111
 go_wp2_with fail
 have hbB:=(Below.refl _ w).alloc (Nat.le_refl _) (.cells #[.int .i64 p.blocks,.int .i64 p.width,.slice p.is.at_ p.inputs.length p.is.cap,.slice p.gs.at_ p.ghosts.length p.gs.cap,.slice p.vs.at_ p.vars.length p.vs.cap,.slice p.as.at_ p.arrays.length p.as.cap,.int .u8 p.require.kind,.int .u8 p.require.op,.int .u32 p.require.value,.int .i64 p.require.width,.string p.require.name,.slice p.require.sp.at_ p.require.subs.length p.require.sp.cap,.slice p.ns.at_ p.inits.length p.ns.cap,.slice p.rs.at_ p.procs.length p.rs.cap,.slice p.ws.at_ p.work.length p.ws.cap,.slice p.cs.at_ p.recover.length p.cs.cap,.int .u8 p.invariant.kind,.int .u8 p.invariant.op,.int .u32 p.invariant.value,.int .i64 p.invariant.width,.string p.invariant.name,.slice p.invariant.sp.at_ p.invariant.subs.length p.invariant.sp.cap] 35);have hbox:zY (w.alloc (.cells #[.int .i64 p.blocks,.int .i64 p.width,.slice p.is.at_ p.inputs.length p.is.cap,.slice p.gs.at_ p.ghosts.length p.gs.cap,.slice p.vs.at_ p.vars.length p.vs.cap,.slice p.as.at_ p.arrays.length p.as.cap,.int .u8 p.require.kind,.int .u8 p.require.op,.int .u32 p.require.value,.int .i64 p.require.width,.string p.require.name,.slice p.require.sp.at_ p.require.subs.length p.require.sp.cap,.slice p.ns.at_ p.inits.length p.ns.cap,.slice p.rs.at_ p.procs.length p.rs.cap,.slice p.ws.at_ p.work.length p.ws.cap,.slice p.cs.at_ p.recover.length p.cs.cap,.int .u8 p.invariant.kind,.int .u8 p.invariant.op,.int .u32 p.invariant.value,.int .i64 p.invariant.width,.string p.invariant.name,.slice p.invariant.sp.at_ p.invariant.subs.length p.invariant.sp.cap] 35)) w.heap.size p:=⟨zan _ _⟩;have hlt:w.heap.size<(w.alloc (.cells #[.int .i64 p.blocks,.int .i64 p.width,.slice p.is.at_ p.inputs.length p.is.cap,.slice p.gs.at_ p.ghosts.length p.gs.cap,.slice p.vs.at_ p.vars.length p.vs.cap,.slice p.as.at_ p.arrays.length p.as.cap,.int .u8 p.require.kind,.int .u8 p.require.op,.int .u32 p.require.value,.int .i64 p.require.width,.string p.require.name,.slice p.require.sp.at_ p.require.subs.length p.require.sp.cap,.slice p.ns.at_ p.inits.length p.ns.cap,.slice p.rs.at_ p.procs.length p.rs.cap,.slice p.ws.at_ p.work.length p.ws.cap,.slice p.cs.at_ p.recover.length p.cs.cap,.int .u8 p.invariant.kind,.int .u8 p.invariant.op,.int .u32 p.invariant.value,.int .i64 p.invariant.width,.string p.invariant.name,.slice p.invariant.sp.at_ p.invariant.subs.length p.invariant.sp.cap] 35)).heap.size:=by simp
 have HPB:=zhd ((HP.out.below hbB).more hbB.size);generalize w.alloc (.cells #[.int .i64 p.blocks,.int .i64 p.width,.slice p.is.at_ p.inputs.length p.is.cap,.slice p.gs.at_ p.ghosts.length p.gs.cap,.slice p.vs.at_ p.vars.length p.vs.cap,.slice p.as.at_ p.arrays.length p.as.cap,.int .u8 p.require.kind,.int .u8 p.require.op,.int .u32 p.require.value,.int .i64 p.require.width,.string p.require.name,.slice p.require.sp.at_ p.require.subs.length p.require.sp.cap,.slice p.ns.at_ p.inits.length p.ns.cap,.slice p.rs.at_ p.procs.length p.rs.cap,.slice p.ws.at_ p.work.length p.ws.cap,.slice p.cs.at_ p.recover.length p.cs.cap,.int .u8 p.invariant.kind,.int .u8 p.invariant.op,.int .u32 p.invariant.value,.int .i64 p.invariant.width,.string p.invariant.name,.slice p.invariant.sp.at_ p.invariant.subs.length p.invariant.sp.cap] 35)=wB at *;have HBOX:=zhd hbox;have HBB:=zhd hbB;clear hbox hbB HP;have hC:=fZ wB p.require ((p.inputs.length:Int)+p.ghosts.length+p.vars.length+p.arrays.length+1) HPB.out.require (by omega);simp only [ae.val,Sp.val] at hC;have hn0:=kZ p.require.pre.length (gu p.require) ((p.inputs.length:Int)+p.ghosts.length+p.vars.length+p.arrays.length+1) (by omega);generalize hN0:dF p.require.pre.length ((p.inputs.length:Int)+p.ghosts.length+p.vars.length+p.arrays.length+1)=n0 at *;have HN0:=zhd hN0;clear hN0;refine hC.mono ?_;clear hC;rintro o w1 ⟨rfl,hb1⟩;have hbx1:zY w1 w.heap.size p:=⟨(hb1.block w.heap.size hlt).trans HBOX.out.heap⟩;obtain ⟨c12,-⟩:=hbx1.at;have hs1:=hb1.size;go_wp2_with fail
 go_loopw [3,30] (fun v i wr=>∃k:Nat,k≤p.inits.length∧i=.int .i64 k∧v=.int .i64 (dJ (p.inits.take k) n0)∧Below wB.heap.size wB wr) (fun _ i _=>p.inits.length - (intOf i).toNat)
 case atStart=>exact ⟨0,Nat.zero_le _,rfl,by simp [dJ],hb1⟩
 case round =>
  obtain ⟨k,hk,rfl,rfl,hbr⟩:=hrel;have hszr:=hbr.size;have hin:=rq (p.inits.take k) n0 (by omega);have hil:(p.inits.take k).length≤k:=List.length_take_le _ _;by_cases hltk:k<p.inits.length
  ·obtain ⟨b0,off,eA,hbn,hcell⟩:=(HPB.out.irow.below hbr).row (by omega)
   have hts:p.inits.take (k+1)=p.inits.take k++[p.inits[k]]:=List.take_succ_eq_append_getElem hltk;have k0:wr.cell? ⟨b0,off+k*7,none⟩=some (.int .i64 p.inits[k].block):=hcell k hltk 0 _ rfl;have k1:wr.cell? ⟨b0,off+k*7+1,none⟩=some (.int .u8 p.inits[k].value.kind):=hcell k hltk 1 _ rfl;have k2:wr.cell? ⟨b0,off+k*7+2,none⟩=some (.int .u8 p.inits[k].value.op):=hcell k hltk 2 _ rfl;have k3:wr.cell? ⟨b0,off+k*7+3,none⟩=some (.int .u32 p.inits[k].value.value):=hcell k hltk 3 _ rfl;have k4:wr.cell? ⟨b0,off+k*7+4,none⟩=some (.int .i64 p.inits[k].value.width):=hcell k hltk 4 _ rfl;have k5:wr.cell? ⟨b0,off+k*7+5,none⟩=some (.string p.inits[k].value.name):=hcell k hltk 5 _ rfl;have k6:wr.cell? ⟨b0,off+k*7+6,none⟩=some (.slice p.inits[k].value.sp.at_ p.inits[k].value.subs.length p.inits[k].value.sp.cap):=hcell k hltk 6 _ rfl;have hrx:=(HPB.out.inits _ (List.getElem_mem hltk)).value.stays hbr;have HTS:=zhd hts;generalize p.inits[k]=x at *;have hstep:dJ (p.inits.take (k+1)) n0=dF x.value.pre.length (dJ (p.inits.take k) n0+1):=by rw [HTS.out];simp [dJ]
   generalize dJ (p.inits.take k) n0=cur at *;have HST:=zhd hstep;have hba:=zba wr (.cells #[.int .i64 x.block,.int .u8 x.value.kind,.int .u8 x.value.op,.int .u32 x.value.value,.int .i64 x.value.width,.string x.value.name,.slice x.value.sp.at_ x.value.subs.length x.value.sp.cap] 149);have hsa:=hba.size;have hCE:=fZ _ x.value (cur+1) ((hrx.stays (hba.mono (by omega))).more (n₁:=(wr.alloc (.cells #[.int .i64 x.block,.int .u8 x.value.kind,.int .u8 x.value.op,.int .u32 x.value.value,.int .i64 x.value.width,.string x.value.name,.slice x.value.sp.at_ x.value.subs.length x.value.sp.cap] 149)).heap.size) (by omega)) (by omega);simp only [ae.val,Sp.val] at hCE;have HCE:=zhd hCE;have HBA:=zhd hba;have hj0:(0:Int)≤(k:Int):=by omega
   have hj1:(k:Int)<(p.inits.length:Int):=by omega
   clear hcell hts hstep hCE hba hrx c12;rw [eA];clear eA;go_wp2_with fail
   refine HCE.out.mono ?_;rintro o w2 ⟨rfl,hb2⟩;have hb3:=hbr.trans ((HBA.out.trans (hb2.mono HBA.out.size)).mono (by omega));clear hb2 k0 k1 k2 k3 k4 k5 k6;go_wp2_with fail
   go_roundw
   case rel=>exact ⟨k+1,by omega,by go_num,by rw [HST.out],hb3⟩
   case measure=>simp [intOf];omega
  ·obtain rfl:k=p.inits.length:=by omega
   rw [List.take_length] at hin;rw [List.take_length];generalize hI0:dJ p.inits n0=i0 at *;have HI0:=zhd hI0;have hbx2:zY wr w.heap.size p:=⟨(hbr.block w.heap.size hlt).trans HBOX.out.heap⟩;obtain ⟨-,c13,-⟩:=hbx2.at;have hWr:=hbr;clear hI0 hbx2 c12 hil hk hltk hbx1 hb1;obtain ⟨wo,rfl⟩:∃y:World,y=wr:=⟨_,rfl⟩;have hl7:(p.procs.map fun q=>1+q.params.length+gq (q.body.flatMap aa.pre)).sum≤1125899906842624:=by
    have:=HWT.out;unfold eU at this;omega
   go_wp2_with fail
   go_loopw [3,43] (fun v i wr=>∃k:Nat,k≤p.procs.length∧i=.int .i64 k∧v=.int .i64 (dN (p.procs.take k) i0)∧Below wB.heap.size wB wr) (fun _ i _=>p.procs.length - (intOf i).toNat)
   case atStart=>exact ⟨0,Nat.zero_le _,rfl,by simp [dN],hWr⟩
   case round =>
    obtain ⟨k,hk,rfl,rfl,hbr⟩:=hrel;have hszr:=hbr.size;have hpn:=rD (p.procs.take k) i0 (by omega);have hpt:=I6 (fun q:aK=>1+q.params.length+gq (q.body.flatMap aa.pre)) p.procs k;by_cases hltk:k<p.procs.length
    ·obtain ⟨b0,off,eA,hbn,hcell⟩:=(HPB.out.prow.below hbr).row (by omega)
     have hts:p.procs.take (k+1)=p.procs.take k++[p.procs[k]]:=List.take_succ_eq_append_getElem hltk;have k0:wr.cell? ⟨b0,off+k*3,none⟩=some (.string p.procs[k].name):=hcell k hltk 0 _ rfl;have k1:wr.cell? ⟨b0,off+k*3+1,none⟩=some (.slice p.procs[k].ps.at_ p.procs[k].params.length p.procs[k].ps.cap):=hcell k hltk 1 _ rfl;have k2:wr.cell? ⟨b0,off+k*3+2,none⟩=some (.slice p.procs[k].bs.at_ p.procs[k].body.length p.procs[k].bs.cap):=hcell k hltk 2 _ rfl;have hrq:=HPB.out.procs _ (List.getElem_mem hltk);have hrx:=hrq.body.below hbr;have hpf:=hrq.params.row.few;have HTS:=zhd hts;generalize p.procs[k]=x at *;have hstep:dN (p.procs.take (k+1)) i0=bS (x.body.flatMap aa.pre) (dN (p.procs.take k) i0+1+x.params.length):=by rw [HTS.out];simp [dN]
     generalize dN (p.procs.take k) i0=cur at *;have HST:=zhd hstep;have hba:=zba wr (.cells #[.string x.name,.slice x.ps.at_ x.params.length x.ps.cap,.slice x.bs.at_ x.body.length x.bs.cap] 54);have hsa:=hba.size;have hCE:=cK _ x.bs x.body (cur+1+x.params.length) ((hrx.below (hba.mono (by omega))).more (n₁:=(wr.alloc (.cells #[.string x.name,.slice x.ps.at_ x.params.length x.ps.cap,.slice x.bs.at_ x.body.length x.bs.cap] 54)).heap.size) (by omega)) (by omega);simp only [Sp.val] at hCE;have HCE:=zhd hCE;have HBA:=zhd hba;have hj0:(0:Int)≤(k:Int):=by omega
     have hj1:(k:Int)<(p.procs.length:Int):=by omega
     clear hcell hts hstep hCE hba hrx hrq c13;rw [eA];clear eA;go_wp2_with fail
     refine HCE.out.mono ?_;rintro o w2 ⟨rfl,hb2⟩;have hb3:=hbr.trans ((HBA.out.trans (hb2.mono HBA.out.size)).mono (by omega));clear hb2 k0 k1 k2;go_wp2_with fail
     go_roundw
     case rel=>exact ⟨k+1,by omega,by go_num,by rw [HST.out],hb3⟩
     case measure=>simp [intOf];omega
    ·obtain rfl:k=p.procs.length:=by omega
     rw [List.take_length] at hpn;rw [List.take_length];generalize hI1:dN p.procs i0=i1 at *;have hw2:gq (p.work.flatMap aa.pre)+gq (p.recover.flatMap aa.pre)≤1125899906842624:=by
      have:=HWT.out;unfold eU at this;omega
     have hc1:=lg (p.work.flatMap aa.pre) i1 (by omega);have hc2:=lg (p.recover.flatMap aa.pre) (bS (p.work.flatMap aa.pre) i1) (by omega);have hend:countP p=dF p.invariant.pre.length (bS (p.recover.flatMap aa.pre) (bS (p.work.flatMap aa.pre) i1)):=by
      rw [←hI1,←HI0.out,←HN0.out];rfl
     have HEND:=zhd hend;have HW1:Hid (∀W,Below wr.heap.size wr W→Calls Tryz.prog 94 #[.slice p.ws.at_ p.work.length p.ws.cap,.int .i64 i1] W fun o w'=>o=.returned (.int .i64 (bS (p.work.flatMap aa.pre) i1))∧Below W.heap.size W w') :=
      zhd fun W hW=>cK W p.ws p.work i1 (((HPB.out.work.below hbr).below (hW.mono hszr)).more (by have:=hW.size;omega)) (by omega)
     have HW2:Hid (∀W,Below wr.heap.size wr W→Calls Tryz.prog 94 #[.slice p.cs.at_ p.recover.length p.cs.cap,.int .i64 (bS (p.work.flatMap aa.pre) i1)] W fun o w'=>o=.returned (.int .i64 (bS (p.recover.flatMap aa.pre) (bS (p.work.flatMap aa.pre) i1)))∧Below W.heap.size W w') :=
      zhd fun W hW=>cK W p.cs p.recover _ (((HPB.out.recover.below hbr).below (hW.mono hszr)).more (by have:=hW.size;omega)) (by omega)
     have HW3:Hid (∀W,Below wr.heap.size wr W→Calls Tryz.prog 86 #[.agg #[.int .u8 p.invariant.kind,.int .u8 p.invariant.op,.int .u32 p.invariant.value,.int .i64 p.invariant.width,.string p.invariant.name,.slice p.invariant.sp.at_ p.invariant.subs.length p.invariant.sp.cap],.int .i64 (bS (p.recover.flatMap aa.pre) (bS (p.work.flatMap aa.pre) i1))] W fun o w'=>o=.returned (.int .i64 (countP p))∧Below W.heap.size W w') :=
      zhd fun W hW=>by rw [hend];exact fZ W p.invariant _ (((HPB.out.invariant.stays hbr).stays (hW.mono hszr)).more (by have:=hW.size;omega)) (by omega)
     have HCB:Hid (∀W,Below wr.heap.size wr W→zY W w.heap.size p):=zhd fun W hW=>⟨(hW.block w.heap.size (by omega)).trans ((hbr.block w.heap.size hlt).trans HBOX.out.heap)⟩
     obtain ⟨-,-,d14,d15,d16,d17,d18,d19,d20,d21⟩:=(HCB.out wr (Below.refl _ _)).at;generalize bS (p.recover.flatMap aa.pre) (bS (p.work.flatMap aa.pre) i1)=i3 at *;generalize bS (p.work.flatMap aa.pre) i1=i2 at *;have hbd:Below wr.heap.size wr wr.drew:=(Below.refl _ _).drew;have hbE:=HBB.out.trans (hbr.mono HBB.out.size);have HBE:=zhd hbE;clear hend hI1 hc1 hc2 hw2 hpt hpn hk hltk c13 hbE;go_wp2_with fail
     go_region_held3 (fun w'=>w'.cell? ⟨w.heap.size,14,none⟩=some (.slice p.ws.at_ p.work.length p.ws.cap)∧w'.cell? ⟨w.heap.size,15,none⟩=some (.slice p.cs.at_ p.recover.length p.cs.cap)∧w'.cell? ⟨w.heap.size,16,none⟩=some (.int .u8 p.invariant.kind)∧w'.cell? ⟨w.heap.size,17,none⟩=some (.int .u8 p.invariant.op)∧w'.cell? ⟨w.heap.size,18,none⟩=some (.int .u32 p.invariant.value)∧w'.cell? ⟨w.heap.size,19,none⟩=some (.int .i64 p.invariant.width)∧w'.cell? ⟨w.heap.size,20,none⟩=some (.string p.invariant.name)∧w'.cell? ⟨w.heap.size,21,none⟩=some (.slice p.invariant.sp.at_ p.invariant.subs.length p.invariant.sp.cap)∧Below wr.heap.size wr w')
      (simp [*])
      (first
       | (go_at_call 86;refine (HW3.out _ (by assumption)).mono ?_;rintro e w9 ⟨rfl,hb9⟩;have hb10:=Below.trans (by assumption:Below wr.heap.size wr _) (hb9.mono (Below.size (by assumption)));obtain ⟨-,-,z14,z15,z16,z17,z18,z19,z20,z21⟩:=(HCB.out _ hb10).at)
       | (go_at_call 94;refine (HW1.out _ (by assumption)).mono ?_;clear HW1;rintro e w9 ⟨rfl,hb9⟩;have hb10:=Below.trans (by assumption:Below wr.heap.size wr _) (hb9.mono (Below.size (by assumption)));obtain ⟨-,-,z14,z15,z16,z17,z18,z19,z20,z21⟩:=(HCB.out _ hb10).at)
       | (go_at_call 94;refine (HW2.out _ (by assumption)).mono ?_;clear HW2;rintro e w9 ⟨rfl,hb9⟩;have hb10:=Below.trans (by assumption:Below wr.heap.size wr _) (hb9.mono (Below.size (by assumption)));obtain ⟨-,-,z14,z15,z16,z17,z18,z19,z20,z21⟩:=(HCB.out _ hb10).at)
       | fail)
     go_wp2_with fail
     go_ret
     exact ⟨rfl,HBE.out.trans (hb10.mono (by omega))⟩
end
end Go.Proofs.YtepacjkacjabbaaGreatDoor
