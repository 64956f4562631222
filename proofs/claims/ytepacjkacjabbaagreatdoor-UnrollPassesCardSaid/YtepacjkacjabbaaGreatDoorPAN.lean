import Derived.Test.YtepacjkacjabbaaGreatDoorPAA
import Derived.Test.YtepacjkacjabbaaGreatDoorPAK
import Derived.Test.YtepacjkacjabbaaGreatDoorPAL
import Derived.Test.YtepacjkacjabbaaGreatDoorPAM
import Derived.Laws.Rows
import Derived.Laws.Tables
import Derived.Laws.CopyOwn
import Derived.Shelf.Strings.SlTrimAscii
import Derived.Shelf.Strings.Search3
import Derived.Shelf.Strings.Cut
import Derived.Shelf.Strings.Shaped
import Derived.Shelf.Strings.Trim
import Derived.Shelf.Small.Utf8
import Derived.Shelf.Small.Strs
import Derived.Shelf.Small.Wraps
import Derived.Shelf.Strings.Search1
import Derived.Shelf.Strings.Search2
import Derived.Shelf.LaysM
import Derived.Shelf.Strings.Runes
import Derived.Shelf.Strings.AsciiSet
import Derived.Shelf.Unicode.DecodeSlow
import Derived.Test.YtepacjkacjabbaaGreatDoorProg
import Derived.Test.YtepacjkacjabbaaGreatDoorPAE
import Derived.Lib.IndexMore
import Derived.Lib.SlTrimSet
namespace Go.Proofs.YtepacjkacjabbaaGreatDoor
section
open Go Go.RowKit Go.Maps
def mX (n0:Nat) (W0:World) (sa sb:Sp) (la lb:List aa):Prop:=∀W,Below n0 W0 W→n0≤W.heap.size →
 Calls Tryz.prog 77 #[.slice sa.at_ la.length sa.cap,.slice sb.at_ lb.length sb.cap] W fun o w'=>o=.returned (.bool (dw la lb))∧Below W.heap.size W w'
set_option maxRecDepth 1000000 in
set_option maxHeartbeats 16000000 in
theorem rQ {n0:Nat} {W0:World} {sa sb:Sp} {la lb:List aa} (ra:nU n0 W0 sa la) (rb:nU n0 W0 sb lb) (ih:∀x∈la,∀y∈lb,mX n0 W0 x.ts y.ts x.thn y.thn∧mX n0 W0 x.os y.os x.els y.els):mX n0 W0 sa sb la lb:=by
 intro w hw hn;have HRA:=zhd ((ra.row.below hw).more hn);have HRB:=zhd ((rb.row.below hw).more hn);have HIH:=zhd fun (i:Nat) (hi:i<la.length) (hj:i<lb.length)=>And.intro (fun (W:World) (hW:Below w.heap.size w W)=>(ih _ (List.getElem_mem hi) _ (List.getElem_mem hj)).1 W (hw.trans (hW.mono hn)) (Nat.le_trans hn hW.size)) (fun (W:World) (hW:Below w.heap.size w W)=>(ih _ (List.getElem_mem hi) _ (List.getElem_mem hj)).2 W (hw.trans (hW.mono hn)) (Nat.le_trans hn hW.size))
 have HXA:=zhd fun (i:Nat) (hi:i<la.length)=>(ra.ok _ (List.getElem_mem hi)).xs.cells hn (mh hw)
 have HXB:=zhd fun (i:Nat) (hi:i<lb.length)=>(rb.ok _ (List.getElem_mem hi)).xs.cells hn (mh hw)
 have fa:=ra.row.few;have fb:=rb.row.few;clear ra rb ih hw;go_enter Tryz.func77,Tryz.ntmps77
 by_cases hl:la.length=lb.length
 ·have hd:((la.length:Int) != (lb.length:Int))=false:=by simp [hl]
  have HL:=zhd hl;clear hl;go_wp2_with fail
  go_loopw [5] (fun s5 wr=>∃i:Nat,i≤la.length∧s5=.int .i64 i∧dw la lb=dw (la.drop i) (lb.drop i)∧Below w.heap.size w wr) (fun s5 _=>la.length - (intOf s5).toNat)
  case atStart=>exact ⟨0,Nat.zero_le _,rfl,rfl,Below.refl _ _⟩
  case round =>
   clear hd;obtain ⟨i,hi,rfl,har,hb⟩:=hrel;have HAR:=zhd har;have HBR:=zhd hb;clear har hb;have hi0:(0:Int)≤(i:Int):=by omega
   by_cases hlt:i<la.length
   ·have hlb:i<lb.length:=by have:=HL.out;omega
    obtain ⟨ga,oa,eA,hga,hca⟩:=(HRA.out.below HBR.out).row (by omega);obtain ⟨gb,ob,eB,hgb,hcb⟩:=(HRB.out.below HBR.out).row (by omega);have HCA:=zhd (hca i hlt);have HCB:=zhd (hcb i hlb);have HST:=zhd (HAR.out.trans (xP la lb HL.out i hlt));have HC1:=zhd (HIH.out i hlt hlb).1;have HC2:=zhd (HIH.out i hlt hlb).2;have HXX:=zhd (HXA.out i hlt);have HXY:=zhd (HXB.out i hlb);have hk1:(i:Int)<(la.length:Int):=by omega
    have hk2:(i:Int)<(lb.length:Int):=by omega
    have HGA:Hid (ga<wr.heap.size):=zhd (Nat.lt_of_lt_of_le hga HBR.out.size);have HGB:Hid (gb<wr.heap.size):=zhd (Nat.lt_of_lt_of_le hgb HBR.out.size);clear hca hcb hga hgb;generalize la[i]=x at *;generalize lb[i]=y at *;rw [eA,eB];clear eA eB;go_upto_region 6 with fail
    refine Code.wp_mono ?_ (qL (C':=.region 6 opsSS true) (by kernel_rfl) (Lb rfl x y ga oa la.length sa.cap gb ob lb.length sb.cap i rfl rfl rfl hk1 hk2 hi0 HGA.out HGB.out HCA.out HCB.out));rintro ex a9 w6 ⟨rfl,hsz9,hd9,hkp,hlow6,b6,b7,h6,h7,hx6,hy6⟩;obtain ⟨F,hF,hfr⟩:=Eb hsz9;rw [hfr,hd9];simp only [List.range,List.range.loop,List.map];have gk:∀i:Nat,zw i=true→F i=_:=fun i hi=>(hF i).trans (au (hkp i hi))
    have g6:F 6=.pointer (some ⟨b6,0,none⟩):=(hF 6).trans (au h6);have g7:F 7=.pointer (some ⟨b7,0,none⟩):=(hF 7).trans (au h7);have g0:=gk 0 rfl;have g1:=gk 1 rfl;have g2:=gk 2 rfl;have g3:=gk 3 rfl;have g4:=gk 4 rfl;have g5:=gk 5 rfl;have g8:=gk 8 rfl;have g9:=gk 9 rfl;have g10:=gk 10 rfl;have g11:=gk 11 rfl;have g12:=gk 12 rfl;have g13:=gk 13 rfl;have g14:=gk 14 rfl;have g15:=gk 15 rfl;have g16:=gk 16 rfl;have g17:=gk 17 rfl;have g18:=gk 18 rfl;have g19:=gk 19 rfl;have g28:=gk 28 rfl;have g29:=gk 29 rfl;have g30:=gk 30 rfl;have g31:=gk 31 rfl;have g32:=gk 32 rfl;have g33:=gk 33 rfl;have g34:=gk 34 rfl;have g35:=gk 35 rfl;have g36:=gk 36 rfl;have g37:=gk 37 rfl;have g38:=gk 38 rfl;have g39:=gk 39 rfl;have g40:=gk 40 rfl;have g41:=gk 41 rfl;have g42:=gk 42 rfl;have g43:=gk 43 rfl;have g44:=gk 44 rfl;have g45:=gk 45 rfl;have g46:=gk 46 rfl;have g47:=gk 47 rfl;have g48:=gk 48 rfl;have g49:=gk 49 rfl;have g50:=gk 50 rfl;have g51:=gk 51 rfl;have g52:=gk 52 rfl;have g53:=gk 53 rfl;have g54:=gk 54 rfl;have g55:=gk 55 rfl;have g56:=gk 56 rfl;have g57:=gk 57 rfl;have g58:=gk 58 rfl;have g59:=gk 59 rfl;have g60:=gk 60 rfl;have g61:=gk 61 rfl;have g62:=gk 62 rfl;have g63:=gk 63 rfl;have g64:=gk 64 rfl;have g65:=gk 65 rfl;have g66:=gk 66 rfl;have g67:=gk 67 rfl;have g68:=gk 68 rfl;have g69:=gk 69 rfl;have g70:=gk 70 rfl;have g71:=gk 71 rfl;have g72:=gk 72 rfl;have g73:=gk 73 rfl;have g74:=gk 74 rfl;have g75:=gk 75 rfl;have g76:=gk 76 rfl;have g77:=gk 77 rfl;have g78:=gk 78 rfl;have g79:=gk 79 rfl;have g80:=gk 80 rfl;have g81:=gk 81 rfl;have g82:=gk 82 rfl;have g83:=gk 83 rfl;have g84:=gk 84 rfl;have g85:=gk 85 rfl;have g86:=gk 86 rfl;have g87:=gk 87 rfl;have g88:=gk 88 rfl;have g89:=gk 89 rfl;have g90:=gk 90 rfl;simp only [List.getElem?_toArray,List.getElem?_cons_zero,List.getElem?_cons_succ,Option.getD_some] at g0 g1 g2 g3 g4 g5 g8 g9 g10 g11 g12 g13 g14 g15 g16 g17 g18 g19 g28 g29 g30 g31 g32 g33 g34 g35 g36 g37 g38 g39 g40 g41 g42 g43 g44 g45 g46 g47 g48 g49 g50 g51 g52 g53 g54 g55 g56 g57 g58 g59 g60 g61 g62 g63 g64 g65 g66 g67 g68 g69 g70 g71 g72 g73 g74 g75 g76 g77 g78 g79 g80 g81 g82 g83 g84 g85 g86 g87 g88 g89 g90;rw [g6,g7,g0,g1,g2,g3,g4,g5,g8,g9,g10,g11,g12,g13,g14,g15,g16,g17,g18,g19,g28,g29,g30,g31,g32,g33,g34,g35,g36,g37,g38,g39,g40,g41,g42,g43,g44,g45,g46,g47,g48,g49,g50,g51,g52,g53,g54,g55,g56,g57,g58,g59,g60,g61,g62,g63,g64,g65,g66,g67,g68,g69,g70,g71,g72,g73,g74,g75,g76,g77,g78,g79,g80,g81,g82,g83,g84,g85,g86,g87,g88,g89,g90];clear gk hF hfr hkp hsz9 hd9 g6 g7 g0 g1 g2 g3 g4 g5 g8 g9 g10 g11 g12 g13 g14 g15 g16 g17 g18 g19 g28 g29 g30 g31 g32 g33 g34 g35 g36 g37 g38 g39 g40 g41 g42 g43 g44 g45 g46 g47 g48 g49 g50 g51 g52 g53 g54 g55 g56 g57 g58 g59 g60 g61 g62 g63 g64 g65 g66 g67 g68 g69 g70 g71 g72 g73 g74 g75 g76 g77 g78 g79 g80 g81 g82 g83 g84 g85 g86 g87 g88 g89 g90;have HLD:=zhd (HBR.out.trans (hlow6.mono HBR.out.size));have HX6:=zhd hx6;have HY6:=zhd hy6;obtain ⟨xk,xn,xes,xex,xbd,xts,xth,xos,xel⟩:=x;obtain ⟨yk,yn,yes,yex,ybd,yts,yth,yos,yel⟩:=y;simp only [aa.kind,aa.name,aa.bound,aa.es,aa.exprs,aa.ts,aa.thn,aa.os,aa.els] at *;have e0:Gi (.mk xk xn xes xex xbd xts xth xos xel) (.mk yk yn yes yex ybd yts yth yos yel)=(decide (xk=yk∧xn=yn∧xbd=ybd) && (dG xex yex && (dw xth yth && dw xel yel))):=by rw [Gi];rfl
    rw [e0] at HST;clear e0 HCA HCB HGA HGB hlow6 hx6 hy6 HRA HRB HIH HXA HXB;obtain ⟨x0,x1,x2,x3,x4,x5⟩:=ag HX6.out;obtain ⟨y0,y1,y2,y3,y4,y5⟩:=ag HY6.out;by_cases h1:xk=yk
    ·by_cases h2:xn=yn
     ·by_cases h3:xbd=ybd
      ·by_cases h4:xex.length=yex.length
       ·subst h1 h2 h3
        have hq1:(xk != xk)=false:=by simp
        have hq2:(xn.toList != xn.toList)=false:=by simp
        have hq3:(xbd != xbd)=false:=by simp
        have hq4:((xex.length:Int) != (yex.length:Int))=false:=by simp [h4]
        have HL4:=zhd h4;rw [show (decide (xk=xk∧xn=xn∧xbd=xbd) && (dG xex yex && (dw xth yth && dw xel yel)))=(dG xex yex && (dw xth yth && dw xel yel)) by simp] at HST;clear h4;go_wp2_with fail
        refine (HC1.out _ HLD.out).mono ?_;rintro o W8 ⟨rfl,hb8⟩;obtain ⟨bt,hbt⟩:∃b,dw xth yth=b:=⟨_,rfl⟩;rw [hbt] at HST;rw [hbt];clear hbt;have HB8:=zhd (HLD.out.trans (hb8.mono HLD.out.size));have H8X:=zhd ((hb8.block _ (zgs HX6.out).1).trans HX6.out);have H8Y:=zhd ((hb8.block _ (zgs HY6.out).1).trans HY6.out);clear hb8 HC1;clear x0 x1 x2 x3 x4 x5 y0 y1 y2 y3 y4 y5;obtain ⟨x0,x1,x2,x3,x4,x5⟩:=ag H8X.out;obtain ⟨y0,y1,y2,y3,y4,y5⟩:=ag H8Y.out;clear HX6 HY6;cases bt with
        | false =>
         go_wp2_with fail
         go_ret
         exact ⟨by rw [HST.out];simp,HB8.out⟩
        | true =>
         go_wp2_with fail
         refine (HC2.out _ HB8.out).mono ?_;rintro o W9 ⟨rfl,hb9⟩;obtain ⟨be,hbe⟩:∃b,dw xel yel=b:=⟨_,rfl⟩;rw [hbe] at HST;rw [hbe];clear hbe;have HB9:=zhd (HB8.out.trans (hb9.mono HB8.out.size));have H9X:=zhd ((hb9.block _ (zgs H8X.out).1).trans H8X.out);have H9Y:=zhd ((hb9.block _ (zgs H8Y.out).1).trans H8Y.out);clear hb9 HC2;clear x0 x1 x2 x3 x4 x5 y0 y1 y2 y3 y4 y5;obtain ⟨x0,x1,x2,x3,x4,x5⟩:=ag H9X.out;obtain ⟨y0,y1,y2,y3,y4,y5⟩:=ag H9Y.out;clear H8X H8Y;cases be with
         | false =>
          go_wp2_with fail
          go_ret
          exact ⟨by rw [HST.out];simp,HB9.out⟩
         | true =>
          rw [Bool.true_and,Bool.and_true] at HST;go_upto_region 9 with fail
          clear x0 x1 x2 x3 x4 x5 y0 y1 y2 y3 y4 y5;go_wp2_with fail
          go_loopw [8] (fun s8 wq=>∃j:Nat,j≤xex.length∧s8=.int .i64 j∧dG xex yex=dG (xex.drop j) (yex.drop j)∧Below W9.heap.size W9 wq) (fun s8 _=>xex.length - (intOf s8).toNat)
          case atStart=>exact ⟨0,Nat.zero_le _,rfl,rfl,Below.refl _ _⟩
          case round =>
           obtain ⟨j,hj,rfl,hax,hbq⟩:=hrel;have HAX:=zhd hax;have HBQ:=zhd (HB9.out.trans (hbq.mono HB9.out.size));have HQX:=zhd ((hbq.block _ (zgs H9X.out).1).trans H9X.out);have HQY:=zhd ((hbq.block _ (zgs H9Y.out).1).trans H9Y.out);have HB99:=zhd hbq;clear hax hbq;have hj0:(0:Int)≤(j:Int):=by omega
           have hfx:=HXX.out.row.few;change xex.length≤4398046511104 at hfx;have x2:wr.cell? ⟨b6,2,none⟩=some (.slice xes.at_ xex.length xes.cap):=(ag HQX.out).2.2.1;have y2:wr.cell? ⟨b7,2,none⟩=some (.slice yes.at_ yex.length yes.cap):=(ag HQY.out).2.2.1;by_cases hlj:j<xex.length
           ·have hljb:j<yex.length:=by have:=HL4.out;omega
            obtain ⟨gx,ox,eX,hgx,hcx⟩:=(HXX.out.row.below HBQ.out).row (by omega);obtain ⟨gy,oy,eY,hgy,hcy⟩:=(HXY.out.row.below HBQ.out).row (by omega);have hcx2:=hcx j hlj;have hcy2:=hcy j hljb;have HSX:=zhd (HAX.out.trans (qY xex yex HL4.out j hlj));have HCALL:=zhd (DJ xex[j] yex[j] (HXX.out.ok _ (List.getElem_mem hlj)) (HXY.out.ok _ (List.getElem_mem hljb)));clear hcx hcy;generalize xex[j]=x at *;generalize yex[j]=y at *;have a0:=hcx2 0 _ rfl;rw [Nat.add_zero] at a0;have a1:=hcx2 1 _ rfl;have a2:=hcx2 2 _ rfl;have a3:=hcx2 3 _ rfl;have a4:=hcx2 4 _ rfl;have a5:wr.cell? ⟨gx,ox+j*6+5,none⟩=some (.slice x.sp.at_ x.subs.length x.sp.cap):=hcx2 5 _ rfl;have b0:=hcy2 0 _ rfl;rw [Nat.add_zero] at b0;have b1:=hcy2 1 _ rfl;have b2:=hcy2 2 _ rfl;have b3:=hcy2 3 _ rfl;have b4:=hcy2 4 _ rfl;have b5:wr.cell? ⟨gy,oy+j*6+5,none⟩=some (.slice y.sp.at_ y.subs.length y.sp.cap):=hcy2 5 _ rfl;have hj1:(j:Int)<(xex.length:Int):=by omega
            have hj2:(j:Int)<(yex.length:Int):=by omega
            clear hcx2 hcy2;rw [eX] at x2;rw [eY] at y2;clear eX eY;go_upto_region 12 with fail
            obtain ⟨bv,hbv⟩:∃b,CL x y=b:=⟨_,rfl⟩;have HBV:=zhd hbv;rw [show yP w.heap.size w x y=∀W,Below w.heap.size w W→w.heap.size≤W.heap.size→_ from rfl] at HCALL;have HCALL2:=zhd fun (W:World) (hW:Below w.heap.size w W)=>HCALL.out W hW hW.size
            rw [hbv] at HCALL2;clear hbv HCALL
            go_still_tail 10,(by kernel_rfl)
            change wpList _ _ _ _ _ wr.drew;have HBD:=zhd (HBQ.out.trans ((Below.refl wr.heap.size wr).drew.mono HBQ.out.size));have HBE:=zhd (HB99.out.trans ((Below.refl wr.heap.size wr).drew.mono HB99.out.size));clear x2 y2 a0 a1 a2 a3 a4 a5 b0 b1 b2 b3 b4 b5 HQX HQY HBQ HB99;generalize wr.drew=wd9 at *;go_wp2_with fail
            refine (HCALL2.out wd9 HBD.out).mono ?_;rintro o W10 ⟨rfl,hb10⟩;have HB10:=zhd (HBE.out.trans (hb10.mono HBE.out.size));have HB11:=zhd (HBD.out.trans (hb10.mono HBD.out.size));clear hb10 HBD HBE;cases bv with
            | false =>
             go_wp2_with fail
             go_ret
             exact ⟨by rw [HST.out,HSX.out,HBV.out];rfl,HB11.out⟩
            | true =>
             go_wp2_with fail
             go_roundw
             case rel=>exact ⟨j+1,hlj,by go_num,by rw [HSX.out,HBV.out];rfl,HB10.out⟩
             case measure=>simp [intOf];omega
           ·obtain rfl:j=xex.length:=by omega
            have E0:Hid (dG xex yex=true):=zhd (by rw [HAX.out,List.drop_length,HL4.out,List.drop_length];rfl);rw [E0.out,Bool.true_and] at HST;go_wp2_with fail
            go_roundw
            case rel=>exact ⟨i+1,hlt,by go_num,HST.out,HBQ.out⟩
            case measure=>simp [intOf];omega
       ·have hq:((xex.length:Int) != (yex.length:Int))=true:=by simp;omega
        have e1:=vk h4;subst h1 h2 h3;have E1:Hid (dw la lb=false):=zhd (by rw [HST.out,e1];simp);clear h4 e1;go_wp2_with fail
        go_ret
        exact ⟨by rw [E1.out];rfl,HLD.out⟩
      ·have hd:(xbd != ybd)=true:=by simp [h3]
       have hq:(xbd == ybd)=false:=by simp [h3]
       have E1:Hid (dw la lb=false):=zhd (by rw [HST.out];simp [h3]);subst h1 h2;clear h3;go_wp2_with fail
       go_ret
       exact ⟨by rw [E1.out];rfl,HLD.out⟩
     ·have hq:(xn.toList == yn.toList)=false:=beq_eq_false_iff_ne.2 fun e=>h2 (toList_inj e)
      have hd:(xn.toList != yn.toList)=true:=by simp only [bne,hq];rfl
      have E1:Hid (dw la lb=false):=zhd (by rw [HST.out];simp [h2]);subst h1;clear h2;go_wp2_with fail
      go_ret
      exact ⟨by rw [E1.out];rfl,HLD.out⟩
    ·have hq:(xk == yk)=false:=by simp [h1]
     have hd:(xk != yk)=true:=by simp [h1]
     have E1:Hid (dw la lb=false):=zhd (by rw [HST.out];simp [h1]);clear h1;go_wp2_with fail
     go_ret
     exact ⟨by rw [E1.out];rfl,HLD.out⟩
   ·obtain rfl:i=la.length:=by omega
    have e0:dw la lb=true:=by
     rw [HAR.out,List.drop_length,HL.out,List.drop_length]
     rfl
    have E0:=zhd e0;clear hlt e0;go_wp2_with fail
    go_ret
    exact ⟨by rw [E0.out];rfl,HBR.out⟩
 ·have hd:((la.length:Int) != (lb.length:Int))=true:=by simp;omega
  rw [AC hl];clear hl;go_wp2_with fail
  go_ret
  exact ⟨rfl,Below.refl _ _⟩
theorem IW {n0:Nat} {W0:World} (x:aa):∀y,j5 n0 W0 x→j5 n0 W0 y→mX n0 W0 x.ts y.ts x.thn y.thn∧mX n0 W0 x.os y.os x.els y.els:=by
 induction x using aa.ind with
 | h k n es ex b ts th os el i1 i2 =>
  intro y ha hb;exact ⟨rQ ha.then_ hb.then_ fun s hs t ht=>i1 s hs t (ha.then_.ok s hs) (hb.then_.ok t ht),rQ ha.else_ hb.else_ fun s hs t ht=>i2 s hs t (ha.else_.ok s hs) (hb.else_.ok t ht)⟩
theorem BH {n0:Nat} {W0:World} {sa sb:Sp} {la lb:List aa} (ha:nU n0 W0 sa la) (hb:nU n0 W0 sb lb):mX n0 W0 sa sb la lb:=rQ ha hb fun x hx y hy=>IW x y (ha.ok x hx) (hb.ok y hy)
end
end Go.Proofs.YtepacjkacjabbaaGreatDoor
namespace Go.Proofs.YtepacjkacjabbaaGreatDoor
section
open Go
def dh:aa:=.mk 7 ⟨#[]⟩ Sp.none [.mk 1 0 1 1 ⟨#[]⟩ Sp.none []] 1 Sp.none [] Sp.none []
def aY (s:aa):Bool:=Gi s dh
def dY (s:aa):Bool:=decide (s.kind=7) && !aY s
theorem eG (s:aa):aY (ah s)=aY s:=by
 have hb:ah (ah s)=ah s:=by
  induction s using aa.ind with
  | h k n es ex b ts th os el i1 i2 =>
   have hx:∀e:ae,av (av e)=av e:=fun e=>by
    induction e using ae.ind with
    | h k o v w n sp l ih=>rw [dA,dA,List.map_map,cu (f:=av ∘ av) (g:=av) ih]
   rw [bC,bC,List.map_map,List.map_map,List.map_map,cu (f:=av ∘ av) (g:=av) fun e _=>hx e,cu (f:=ah ∘ ah) (g:=ah) i1,cu (f:=ah ∘ ah) (g:=ah) i2]
 unfold aY;rw [Bool.eq_iff_iff,pX,pX,hb]
theorem jQ (s:aa):dY (ah s)=dY s:=by unfold dY;rw [gD,eG]
mutual
def rZ:aa→Int
 | .mk k n es ex b ts th os el=>if dY (.mk k n es ex b ts th os el)=true then b*(1+(aF ex:Int)+dz th 0)+(1+(aF ex:Int))+2 else 1+(aF ex:Int)+dz th 0+dz el 0
def dz:List aa→Int→Int
 | [],n=>n
 | s::l,n=>if n+rZ s>20000 then 20001 else dz l (n+rZ s)
end
mutual
def zW:aa→Int
 | .mk k n es ex b ts th os el=>if dY (.mk k n es ex b ts th os el)=true then b+max (max (min (gz th 0) 1001) (min (gz el 0) 1001)) 2 else 1+max (min (gz th 0) 1001) (min (gz el 0) 1001)
def gz:List aa→Int→Int
 | [],n=>n
 | s::l,n=>gz l (max n (zW s))
end
def fT (e:List ae) (th:List aa):aa:=.mk 6 ⟨#[]⟩ Sp.none (e.take 1) 0 Sp.none th Sp.none []
def kG {α:Type} (f:α→α):Nat→α→α
 | 0,x=>x
 | n+1,x=>kG f n (f x)
mutual
def uh:aa→aa
 | .mk k n es ex b ts th os el=>if dY (.mk k n es ex b ts th os el)=true then kG (fun last=>fT ex (aX th++[last])) b.toNat (fT ex [dh]) else .mk k n Sp.none ex b Sp.none (aX th) Sp.none (aX el)
def aX:List aa→List aa
 | []=>[]
 | s::l=>uh s::aX l
end
theorem lN:∀l:List aa,aX l=l.map uh
 | []=>by rw [aX];rfl
 | e::l=>by rw [aX,lN l];rfl
def LC (l:List aa):List Int:=((l.flatMap aa.pre).filter fun s=>decide (s.kind=3∨s.kind=4∨s.kind=5)).map aa.kind
def dW (l:List aa):Nat:=(l.flatMap aa.pre).countP aY
def lV (l:List aa):Bool:=(l.flatMap aa.pre).all fun s=>!dY s
end
end Go.Proofs.YtepacjkacjabbaaGreatDoor
namespace Go.Proofs.YtepacjkacjabbaaGreatDoor
section
open Go Go.RowKit Go.Maps
set_option maxRecDepth 1000000 in
set_option maxHeartbeats 4000000 in
theorem xh (w:World) (sa sb:Sp) (la lb:List aa) (ha:bX w.heap.size w sa la) (hb:bX w.heap.size w sb lb) (wa:ay la≤20000) (wb:ay lb≤20000) :
  Calls Tryz.prog 38 #[.slice sa.at_ la.length sa.cap,.slice sb.at_ lb.length sb.cap] w fun o w'=>o=.returned (.bool (dw la lb))∧Below w.heap.size w w':=by
 have HA:=zhd (cK w sa la 0 ha (by omega));have hB:∀W,Below w.heap.size w W→Calls Tryz.prog 94 #[.slice sb.at_ lb.length sb.cap,.int .i64 0] W fun o w'=>o=.returned (.int .i64 (bS (lb.flatMap aa.pre) 0))∧Below W.heap.size W w':=fun W hW=>cK W sb lb 0 ((hb.below hW).more hW.size) (by omega)
 have HB:=zhd hB;have HS:=zhd (DK ha hb);have ca:bS (la.flatMap aa.pre) 0≤20000:=by
  rw [jE _ 0 (by unfold ay at wa;omega)];unfold ay at wa;omega
 have cb:bS (lb.flatMap aa.pre) 0≤20000:=by
  rw [jE _ 0 (by unfold ay at wb;omega)];unfold ay at wb;omega
 have da:=decide_eq_true ca;have db:=decide_eq_true cb;have HLA:=zhd fun W=>iC (bS (la.flatMap aa.pre) 0) W
 have HLB:=zhd fun W=>iC (bS (lb.flatMap aa.pre) 0) W
 rw [da] at HLA;rw [db] at HLB;simp only [Sp.val] at HA;clear ha hb ca cb da db hB wa wb;go_enter Tryz.func38,Tryz.ntmps38
 go_wp2_with fail
 refine HA.out.mono ?_;rintro o w1 ⟨rfl,hb1⟩;go_wp2_with fail
 refine (HLA.out _).mono ?_;rintro o w2 ⟨rfl,rfl⟩;go_wp2_with fail
 refine (HB.out _ hb1).mono ?_;rintro o w2 ⟨rfl,hb2⟩;go_wp2_with fail
 refine (HLB.out _).mono ?_;rintro o w3 ⟨rfl,rfl⟩;have hb3:=hb1.trans (hb2.mono hb1.size);go_wp2_with fail
 refine (HS.out _ hb3 hb3.size).mono ?_;rintro o w4 ⟨rfl,hb4⟩;go_wp2_with fail
 go_ret
 exact ⟨rfl,hb3.trans (hb4.mono hb3.size)⟩
set_option maxHeartbeats 1000000 in
theorem Bt (w:World):Calls Tryz.prog 30 #[] w fun o w'=>∃s:aa,o=.returned (.agg #[.int .u8 s.kind,.string s.name,.slice s.es.at_ s.exprs.length s.es.cap,.int .i64 s.bound,.slice s.ts.at_ s.thn.length s.ts.cap,.slice s.os.at_ s.els.length s.os.cap])∧ah s=dh∧nP w' s∧Below w.heap.size w w':=by
 go_enter Tryz.func30,Tryz.ntmps30
 go_wp2_with fail
 obtain ⟨h1,h2,h3,h4⟩:=gY w (.cells #[.int .u8 7,.string ⟨#[]⟩,.slice (some ⟨w.heap.size+1,0,none⟩) 1 1,.int .i64 1,.slice none 0 0,.slice none 0 0] 43) (.cells #[.int .u8 1,.int .u8 0,.int .u32 1,.int .i64 1,.string ⟨#[]⟩,.slice none 0 0] 30);refine bodyPost_ret (results_cell_row rfl _ _ w.heap.size 43 _ (0,0) _ rfl h1 Tryz.underlying43 rfl (by kernel_rfl)) rfl ⟨.mk 7 ⟨#[]⟩ ⟨some ⟨w.heap.size+1,0,none⟩,1⟩ [dB 1 1] 1 Sp.none [] Sp.none [],rfl,rfl,?_,h4⟩;exact .mk _ (show (0:Int)≤7∧(7:Int)≤255 by decide) (show (Lit.int .i64 1).wf=true by decide) (show (0:Nat)≤maxLen by decide) (row_one (enc:=ae.cells) (x:=dB 1 1) h2) (fun y hy=>by
  have:y=dB 1 1:=by simpa [aa.exprs] using hy
  rw [this];exact nA _ 1 1 (by decide) (by decide)) RowOf.nil (fun _ h=>absurd h (by simp [aa.thn])) RowOf.nil (fun _ h=>absurd h (by simp [aa.els]))
end
end Go.Proofs.YtepacjkacjabbaaGreatDoor
namespace Go.Proofs
open Go.Shelf
def Tryz.lays160_ren:Go.Shelf.Ren:=⟨fun | 160=>280 | 232=>301 | 231=>300 | 227=>302 | 234=>304 | 233=>303 | 236=>306 | 235=>305 | 228=>307 | 271=>310 | 151=>309 | 197=>308 | 120=>313 | 152=>312 | 260=>311 | 137=>314 | 119=>315 | 224=>199 | 225=>198 | 217=>197 | 266=>220 | n=>n,fun | 9=>9 | 4=>4 | 3=>3 | 5=>5 | 117=>323 | 116=>322 | 0=>0 | 124=>326 | 21=>21 | 105=>328 | 46=>240 | 119=>332 | 139=>335 | 138=>334 | n=>n,fun | 3=>1 | 4=>2 | n=>n⟩
theorem Tryz.lays160:Go.Proofs.Lays.n160 Tryz.prog Tryz.lays160_ren:={
 mixed:=by kernel_rfl
 f119:=Tryz.func315.trans (congrArg some (by kernel_rfl))
 f120:=Tryz.func313.trans (congrArg some (by kernel_rfl))
 f137:=Tryz.func314.trans (congrArg some (by kernel_rfl))
 f151:=Tryz.func309.trans (congrArg some (by kernel_rfl))
 f152:=Tryz.func312.trans (congrArg some (by kernel_rfl))
 f160:=Tryz.func280.trans (congrArg some (by kernel_rfl))
 f197:=Tryz.func308.trans (congrArg some (by kernel_rfl))
 f217:=Tryz.func197.trans (congrArg some (by kernel_rfl))
 f224:=Tryz.func199.trans (congrArg some (by kernel_rfl))
 f225:=Tryz.func198.trans (congrArg some (by kernel_rfl))
 f227:=Tryz.func302.trans (congrArg some (by kernel_rfl))
 f228:=Tryz.func307.trans (congrArg some (by kernel_rfl))
 f231:=Tryz.func300.trans (congrArg some (by kernel_rfl))
 f232:=Tryz.func301.trans (congrArg some (by kernel_rfl))
 f233:=Tryz.func303.trans (congrArg some (by kernel_rfl))
 f234:=Tryz.func304.trans (congrArg some (by kernel_rfl))
 f235:=Tryz.func305.trans (congrArg some (by kernel_rfl))
 f236:=Tryz.func306.trans (congrArg some (by kernel_rfl))
 f260:=Tryz.func311.trans (congrArg some (by kernel_rfl))
 f266:=Tryz.func220.trans (congrArg some (by kernel_rfl))
 f271:=Tryz.func310.trans (congrArg some (by kernel_rfl))
 t0:=Tryz.underlying0
 a0:=Tryz.isAgg0
 z0:=Tryz.sizeOf0
 v0:=Tryz.zeroValue0
 t3:=Tryz.underlying3
 a3:=Tryz.isAgg3
 z3:=Tryz.sizeOf3
 v3:=Tryz.zeroValue3
 t4:=Tryz.underlying4
 a4:=Tryz.isAgg4
 z4:=Tryz.sizeOf4
 v4:=Tryz.zeroValue4
 t5:=Tryz.underlying5
 a5:=Tryz.isAgg5
 z5:=Tryz.sizeOf5
 v5:=Tryz.zeroValue5
 t9:=Tryz.underlying9
 a9:=Tryz.isAgg9
 z9:=Tryz.sizeOf9
 v9:=Tryz.zeroValue9
 t21:=Tryz.underlying21
 a21:=Tryz.isAgg21
 z21:=Tryz.sizeOf21
 v21:=Tryz.zeroValue21
 t46:=Tryz.underlying240
 a46:=Tryz.isAgg240
 z46:=Tryz.sizeOf240
 v46:=Tryz.zeroValue240
 t105:=Tryz.underlying328
 a105:=Tryz.isAgg328
 z105:=Tryz.sizeOf328
 v105:=Tryz.zeroValue328
 t116:=Tryz.underlying322
 a116:=Tryz.isAgg322
 z116:=Tryz.sizeOf322
 t117:=Tryz.underlying323
 a117:=Tryz.isAgg323
 z117:=Tryz.sizeOf323
 v117:=Tryz.zeroValue323
 t119:=Tryz.underlying332
 a119:=Tryz.isAgg332
 z119:=Tryz.sizeOf332
 t124:=Tryz.underlying326
 a124:=Tryz.isAgg326
 z124:=Tryz.sizeOf326
 v124:=Tryz.zeroValue326
 t138:=Tryz.underlying334
 a138:=Tryz.isAgg334
 z138:=Tryz.sizeOf334
 v138:=Tryz.zeroValue334
 t139:=Tryz.underlying335
 a139:=Tryz.isAgg335
 z139:=Tryz.sizeOf335
 v139:=Tryz.zeroValue335
 g3:=by kernel_rfl
 g4:=by kernel_rfl }
def Tryz.lays144_ren:Go.Shelf.Ren:=⟨fun | 144=>279 | 143=>299 | 219=>153 | 217=>197 | 225=>198 | 224=>199 | 267=>200 | 266=>220 | 314=>221 | n=>n,fun | 9=>9 | 4=>4 | 3=>3 | 5=>5 | 46=>240 | 146=>260 | 51=>26 | n=>n,fun | 1=>0 | n=>n⟩
theorem Tryz.lays144:Go.Proofs.Lays.n144 Tryz.prog Tryz.lays144_ren:={
 mixed:=by kernel_rfl
 f143:=Tryz.func299.trans (congrArg some (by kernel_rfl))
 f144:=Tryz.func279.trans (congrArg some (by kernel_rfl))
 f217:=Tryz.func197.trans (congrArg some (by kernel_rfl))
 f219:=Tryz.func153.trans (congrArg some (by kernel_rfl))
 f224:=Tryz.func199.trans (congrArg some (by kernel_rfl))
 f225:=Tryz.func198.trans (congrArg some (by kernel_rfl))
 f266:=Tryz.func220.trans (congrArg some (by kernel_rfl))
 f267:=Tryz.func200.trans (congrArg some (by kernel_rfl))
 f314:=Tryz.func221.trans (congrArg some (by kernel_rfl))
 t3:=Tryz.underlying3
 a3:=Tryz.isAgg3
 z3:=Tryz.sizeOf3
 v3:=Tryz.zeroValue3
 t4:=Tryz.underlying4
 a4:=Tryz.isAgg4
 z4:=Tryz.sizeOf4
 v4:=Tryz.zeroValue4
 t5:=Tryz.underlying5
 a5:=Tryz.isAgg5
 z5:=Tryz.sizeOf5
 v5:=Tryz.zeroValue5
 t9:=Tryz.underlying9
 a9:=Tryz.isAgg9
 z9:=Tryz.sizeOf9
 v9:=Tryz.zeroValue9
 t46:=Tryz.underlying240
 a46:=Tryz.isAgg240
 z46:=Tryz.sizeOf240
 v46:=Tryz.zeroValue240
 t51:=Tryz.underlying26
 a51:=Tryz.isAgg26
 z51:=Tryz.sizeOf26
 v51:=Tryz.zeroValue26
 t146:=Tryz.underlying260
 a146:=Tryz.isAgg260
 z146:=Tryz.sizeOf260
 v146:=Tryz.zeroValue260
 g1:=by kernel_rfl }
open Go.RowKit Go.Lib in
theorem Tryz.strings_Contains (s sub:ByteArray) (m:Int) (w:World) (hs:s.size<4294967281) (hm:w.cell? ⟨0,0,none⟩=some (.int .i64 m)) :
  Calls Tryz.prog 279 #[.string s,.string sub] w fun e w'=>e=.returned (.bool (Lib.contains s.data.toList sub.data.toList))∧w'=w:=Any.strings_Contains Tryz.lays144 s sub m w hs hm
def Tryz.lays145_ren:Go.Shelf.Ren:=⟨fun | 145=>19 | 220=>89 | 219=>153 | 217=>197 | 225=>198 | 224=>199 | 267=>200 | 266=>220 | 314=>221 | n=>n,fun | 9=>9 | 4=>4 | 59=>45 | 3=>3 | 5=>5 | 46=>240 | 146=>260 | 51=>26 | n=>n,fun | 1=>0 | n=>n⟩
theorem Tryz.lays145:Go.Proofs.Lays.n145 Tryz.prog Tryz.lays145_ren:={
 mixed:=by kernel_rfl
 f145:=Tryz.func19.trans (congrArg some (by kernel_rfl))
 f217:=Tryz.func197.trans (congrArg some (by kernel_rfl))
 f219:=Tryz.func153.trans (congrArg some (by kernel_rfl))
 f220:=Tryz.func89.trans (congrArg some (by kernel_rfl))
 f224:=Tryz.func199.trans (congrArg some (by kernel_rfl))
 f225:=Tryz.func198.trans (congrArg some (by kernel_rfl))
 f266:=Tryz.func220.trans (congrArg some (by kernel_rfl))
 f267:=Tryz.func200.trans (congrArg some (by kernel_rfl))
 f314:=Tryz.func221.trans (congrArg some (by kernel_rfl))
 t3:=Tryz.underlying3
 a3:=Tryz.isAgg3
 z3:=Tryz.sizeOf3
 v3:=Tryz.zeroValue3
 t4:=Tryz.underlying4
 a4:=Tryz.isAgg4
 z4:=Tryz.sizeOf4
 v4:=Tryz.zeroValue4
 t5:=Tryz.underlying5
 a5:=Tryz.isAgg5
 z5:=Tryz.sizeOf5
 v5:=Tryz.zeroValue5
 t9:=Tryz.underlying9
 a9:=Tryz.isAgg9
 z9:=Tryz.sizeOf9
 v9:=Tryz.zeroValue9
 t46:=Tryz.underlying240
 a46:=Tryz.isAgg240
 z46:=Tryz.sizeOf240
 v46:=Tryz.zeroValue240
 t51:=Tryz.underlying26
 a51:=Tryz.isAgg26
 z51:=Tryz.sizeOf26
 v51:=Tryz.zeroValue26
 t59:=Tryz.underlying45
 a59:=Tryz.isAgg45
 z59:=Tryz.sizeOf45
 v59:=Tryz.zeroValue45
 t146:=Tryz.underlying260
 a146:=Tryz.isAgg260
 z146:=Tryz.sizeOf260
 v146:=Tryz.zeroValue260
 g1:=by kernel_rfl }
open Go.RowKit Go.Lib in
theorem Tryz.strings_Cut (s sep:ByteArray) (m:Int) (w:World) (hs:s.size<4294967281) (hm:w.cell? ⟨0,0,none⟩=some (.int .i64 m)) :
  Calls Tryz.prog 19 #[.string s,.string sep] w fun e w'=>e=.returned (.tuple #[.string ⟨(Lib.cut s.data.toList sep.data.toList).1.toArray⟩,.string ⟨(Lib.cut s.data.toList sep.data.toList).2.1.toArray⟩,.bool (Lib.cut s.data.toList sep.data.toList).2.2])∧∃n,w'=w.drewN n:=Any.strings_Cut Tryz.lays145 s sep m w hs hm
def Tryz.laysM144_ren:Go.Shelf.Ren:=⟨fun | 144=>279 | 143=>299 | 219=>153 | 217=>197 | 225=>198 | 224=>199 | 267=>200 | 266=>220 | 314=>221 | n=>n,fun | 9=>9 | 4=>4 | 3=>3 | 5=>5 | 46=>240 | 146=>260 | 51=>26 | n=>n,fun | 1=>0 | n=>n⟩
theorem Tryz.laysM144:Go.Proofs.LaysM.n144 Tryz.prog Tryz.laysM144_ren:={
 mixed:=by kernel_rfl
 f143:=Tryz.func299.trans (congrArg some (by kernel_rfl))
 f144:=Tryz.func279.trans (congrArg some (by kernel_rfl))
 f217:=Tryz.func197.trans (congrArg some (by kernel_rfl))
 f219:=Tryz.func153.trans (congrArg some (by kernel_rfl))
 f224:=Tryz.func199.trans (congrArg some (by kernel_rfl))
 f225:=Tryz.func198.trans (congrArg some (by kernel_rfl))
 f266:=Tryz.func220.trans (congrArg some (by kernel_rfl))
 f267:=Tryz.func200.trans (congrArg some (by kernel_rfl))
 f314:=Tryz.func221.trans (congrArg some (by kernel_rfl))
 t3:=Tryz.underlying3
 a3:=Tryz.isAgg3
 z3:=Tryz.sizeOf3
 v3:=Tryz.zeroValue3
 t4:=Tryz.underlying4
 a4:=Tryz.isAgg4
 z4:=Tryz.sizeOf4
 v4:=Tryz.zeroValue4
 t5:=Tryz.underlying5
 a5:=Tryz.isAgg5
 z5:=Tryz.sizeOf5
 v5:=Tryz.zeroValue5
 t9:=Tryz.underlying9
 a9:=Tryz.isAgg9
 z9:=Tryz.sizeOf9
 v9:=Tryz.zeroValue9
 t46:=Tryz.underlying240
 a46:=Tryz.isAgg240
 z46:=Tryz.sizeOf240
 v46:=Tryz.zeroValue240
 t51:=Tryz.underlying26
 a51:=Tryz.isAgg26
 z51:=Tryz.sizeOf26
 v51:=Tryz.zeroValue26
 t146:=Tryz.underlying260
 a146:=Tryz.isAgg260
 z146:=Tryz.sizeOf260
 v146:=Tryz.zeroValue260
 g1:=by kernel_rfl
 i3:=by kernel_rfl
 i4:=by kernel_rfl
 i5:=by kernel_rfl
 i9:=by kernel_rfl
 i46:=by kernel_rfl
 i51:=by kernel_rfl
 i146:=by kernel_rfl
 m1:=by kernel_rfl
 s1_3:=fun w h=>Go.Proofs.cell_of_shapedOpen_int (zero:=#[.int .i64 0]) (t:=3) h (of_decide_eq_true (by kernel_rfl)) (by kernel_rfl) rfl (by kernel_rfl) (by kernel_rfl) Tryz.underlying3 }
end Go.Proofs
namespace Go.Proofs.YtepacjkacjabbaaGreatDoor
section
open Go
theorem contains_cons (b:UInt8) (l sub:List UInt8):Lib.contains (b::l) sub=(sub.isPrefixOf (b::l) || Lib.contains l sub):=by
 unfold Lib.contains;rw [Lib.index];have:=Lib.index_ge l sub;by_cases h:sub.isPrefixOf (b::l)=true
 ·rw [if_pos h,h];simp
 ·rw [if_neg h,Bool.eq_false_iff.2 h,Bool.false_or]
  by_cases h2:Lib.index l sub=-1
  ·rw [h2];rfl
  ·have:((Lib.index l sub == -1)=true)=False:=by simp [h2]
   simp only [this,if_false]
   apply decide_eq_decide.2
   omega
theorem yX (b:UInt8) (t:List UInt8):Lib.contains [] (b::t)=false:=rfl
theorem wW (w r t:List UInt8) (c:UInt8) (hw:c∉w):Lib.contains (w++r) (c::t)=Lib.contains r (c::t):=by
 induction w with
 | nil=>rfl
 | cons x w ih =>
  have h1:c≠x:=fun e=>hw (by rw [e];exact List.mem_cons_self ..)
  rw [List.cons_append,contains_cons,ih (fun h=>hw (List.mem_cons_of_mem _ h))];have:(c::t).isPrefixOf (x::(w++r))=false:=by rw [List.isPrefixOf];simp [h1]
  rw [this,Bool.false_or]
theorem sS (r:List UInt8):∀(s w:List UInt8),32∉s→32∉w→(s++[32]).isPrefixOf (w++32::r)=decide (w=s)
 | [],[],_,_=>rfl
 | [],x::w,_,hw=>by
  have h1:(32:UInt8)≠x:=fun e=>hw (by rw [e];exact List.mem_cons_self ..)
  simp [List.isPrefixOf,h1]
 | y::s,[],hs,_=>by
  have h1:y≠32:=fun e=>hs (by rw [e];exact List.mem_cons_self ..)
  simp [List.isPrefixOf,h1]
 | y::s,x::w,hs,hw=>by
  have ih:=sS r s w (fun h=>hs (List.mem_cons_of_mem _ h)) (fun h=>hw (List.mem_cons_of_mem _ h));rw [List.cons_append,List.cons_append,List.isPrefixOf,ih];by_cases h:y=x
  ·subst h;simp
  ·have h2:x≠y:=fun e=>h e.symm
   simp [h,h2]
def qd:List (List UInt8)→List UInt8
 | []=>[32]
 | w::ws=>32::(w++qd ws)
theorem Dh:∀ws:List (List UInt8),∃r,qd ws=32::r
 | []=>⟨[],rfl⟩
 | w::ws=>⟨w++qd ws,rfl⟩
theorem nV (s:List UInt8) (hs:32∉s):∀ws:List (List UInt8),(∀w∈ws,(32:UInt8)∉w)→Lib.contains (qd ws) (32::(s++[32]))=ws.any fun w=>decide (w=s)
 | [],_=>by
  rw [qd,contains_cons,yX];cases s <;> rfl
 | w::ws,hw=>by
  rw [qd,contains_cons,wW _ _ _ _ (hw w (List.mem_cons_self ..)),nV s hs ws (fun x hx=>hw x (List.mem_cons_of_mem _ hx)),List.any_cons];obtain ⟨r,hr⟩:=Dh ws;rw [hr,List.isPrefixOf,sS r s w hs (hw w (List.mem_cons_self ..))];simp
def wO:List (List UInt8):=words.map fun w=>w.toUTF8.data.toList
theorem BZ:∀w∈wO,(32:UInt8)∉w:=by decide
theorem jh (f:UInt8→Bool):∀l:List UInt8,l.dropWhile f=[]↔∀c∈l,f c=true
 | []=>by simp
 | c::l=>by
  rw [List.dropWhile_cons];by_cases h:f c=true
  ·rw [if_pos h,jh f l];simp [h]
  ·rw [if_neg h];simp [h]
theorem Gy (f:String→List UInt8) (s:List UInt8):∀l:List String,(l.all fun w=>decide (f w≠s))=!((l.map f).any fun w=>decide (w=s))
 | []=>rfl
 | w::l=>by rw [List.all_cons,Gy f s l,List.map_cons,List.any_cons];by_cases h:f w=s <;> simp [h]
theorem Ga (l cs:List UInt8):(Lib.trimS l cs=[])↔∀c∈l,cs.contains c=true:=by
 unfold Lib.trimS Lib.trimLeftS Lib.trimRightS;rw [jh]
 constructor
 ·intro h c hc
  cases hd:l.reverse.dropWhile (cs.contains ·) with
  | nil=>exact (jh _ _).1 hd c (List.mem_reverse.2 hc)
  | cons x t =>
   have h1:=List.head?_dropWhile_not (cs.contains ·) l.reverse;rw [hd] at h1;have h2:=h x (by rw [hd];simp);simp at h1;rw [List.contains_iff_mem] at h2;exact absurd h2 h1
 ·intro h c hc
  have h1:l.reverse.dropWhile (cs.contains ·)=[]:=(jh _ _).2 fun x hx=>h x (List.mem_reverse.1 hx)
  rw [h1] at hc;cases hc
def rO:List UInt8 := "abcdefghijklmnopqrstuvwxyz0123456789_".toUTF8.data.toList
set_option maxRecDepth 100000 in
theorem FU:∀n:Nat,n<256→rO.contains (UInt8.ofNat n)=mI (UInt8.ofNat n):=by decide
theorem IP (c:UInt8):rO.contains c=mI c:=by
 have:=FU c.toNat c.toNat_lt
 rwa [UInt8.ofNat_toNat] at this
def zl (s:List UInt8):Bool :=
 decide (s.length≤16) && (match s with | c::_=>lower c | []=>false) && !Lib.contains (qd wO) (32::(s++[32])) && decide (Lib.trimS s rO=[])
theorem Df (s:List UInt8):zl s=iZ s:=by
 unfold zl iZ;have ht:decide (Lib.trimS s rO=[])=s.all mI:=by
  rw [Bool.eq_iff_iff,decide_eq_true_iff,Ga,List.all_eq_true]
  constructor <;> intro h c hc <;> have:=h c hc <;> rw [IP] at * <;> exact this
 rw [ht];by_cases ha:s.all mI=true
 ·have h32:(32:UInt8)∉s:=fun h=>absurd (List.all_eq_true.1 ha 32 h) (by decide)
  rw [nV s h32 wO BZ,ha];rw [Gy (fun w=>w.toUTF8.data.toList) s words,Bool.and_true,Bool.and_true]
  rfl
 ·rw [Bool.eq_false_iff.2 ha]
  simp
theorem xJ:∀s:List UInt8,y7 s=if (Lib.cut s [46]).2.2=true then some ((Lib.cut s [46]).1,(Lib.cut s [46]).2.1) else none
 | []=>rfl
 | c::l=>by
  have ih:=xJ l;have hg:=Lib.index_ge l [46];rw [y7,ih];by_cases h:c.toNat=46
  ·have hc:c=46:=UInt8.toNat.inj h
   subst hc;have h1:Lib.index (46::l) [46]=0:=by rw [Lib.index];rfl
   unfold Lib.cut;rw [h1];simp
  ·have hc:c≠46:=fun e=>h (by rw [e];rfl)
   have hp:[46].isPrefixOf (c::l)=false:=by
    have:(46:UInt8)≠c:=fun e=>hc e.symm
    simp [List.isPrefixOf,this]
   rw [if_neg h];unfold Lib.cut;rw [Lib.index,hp];by_cases h2:Lib.index l [46]=-1
   ·simp [h2]
   ·obtain ⟨k,hk⟩:∃k:Nat,Lib.index l [46]=k:=⟨(Lib.index l [46]).toNat,by omega⟩
    have h3:((k:Int) == -1)=false:=by rw [beq_eq_false_iff_ne];omega
    have h4:(0:Int)≤(k:Int)+1:=by omega
    have h5:((k:Int)+1).toNat=k+1:=by omega
    simp [hk,h3,h4,h5]
end
end Go.Proofs.YtepacjkacjabbaaGreatDoor
