import Derived.Test.YtepacjkacjabbaaGreatDoorWAA
import Derived.Test.YtepacjkacjabbaaGreatDoorWAU
import Derived.Test.YtepacjkacjabbaaGreatDoorWAT
namespace Go.Proofs.YtepacjkacjabbaaGreatDoor
section
open Go Go.RowKit Go.Maps
theorem FD (w:World) (o1 o2 o3 o4:Obj):Below w.heap.size w ((((w.alloc o1).alloc o2).alloc o3).alloc o4)∧((((w.alloc o1).alloc o2).alloc o3).alloc o4).heap[w.heap.size]? = some o1∧((((w.alloc o1).alloc o2).alloc o3).alloc o4).heap[w.heap.size+1]? = some o2∧((((w.alloc o1).alloc o2).alloc o3).alloc o4).heap[w.heap.size+1+1]? = some o3∧((((w.alloc o1).alloc o2).alloc o3).alloc o4).heap[w.heap.size+1+1+1]? = some o4:=by
 obtain ⟨h1,h2,h3,h4,_,h6⟩:=DU w o1 o2 o3 o4;exact ⟨h6,h1,h2,h3,h4⟩
theorem bz {α:Type} {W:World} {b k c:Nat} {t:TypeId} {fr:Nat × Nat} {enc:α→List Value} {l:List α} (hk:∀x,(enc x).length=k) (hc:c=l.length) (hl:l.length≤1000) (h:W.heap[b]? = some (.cells (l.flatMap enc).toArray t fr)):RowOf W.heap.size W ⟨some ⟨b,0,none⟩,c⟩ k enc l:=by
 subst hc;refine ⟨Nat.le_refl _,by simp only [maxLen];omega,by omega,fun _=>⟨b,0,rfl,(zgs h).1,fun j hj r u hu=>?_⟩⟩;have e:=vS hk l j r u hj hu;simp only [World.cell?,h,Nat.zero_add]
 simpa using e
theorem iT {lo g c:Nat} {W:World} {k o v wd:Int} {nm:ByteArray} {l:List ae} (hrow:RowOf W.heap.size W ⟨some ⟨g,0,none⟩,c⟩ 6 ae.cells l) (hg:lo≤g) (hs:∀s,s∈l→aU lo W s) (hk:0≤k∧k≤255) (ho:0≤o∧o≤255) (hv:0≤v∧v≤4294967295) (hw:(Lit.int .i64 wd).wf=true) (hn:nm.size≤maxLen):aU lo W (.mk k o v wd nm ⟨some ⟨g,0,none⟩,c⟩ l) :=
 .mk _ hk ho hv hw hn (hrow.low hg) hs
theorem eZ {w W:World} {e:ae} (he:aU (w.heap.size+4) W e) (cs:Array Value):aU w.heap.size (W.setRow (w.heap.size+1+1+1) cs) e :=
 (he.set (by omega)).less (by omega)
set_option maxRecDepth 1000000 in
set_option maxHeartbeats 4000000 in
theorem Gf:rF 0:=by
 intro q n lv ls at_ p M w h wd wh hwd;obtain ⟨hb0,x0,x1,x2,x3⟩:=FD w (.cells #[.pointer (some ⟨q,0,none⟩)] 143) (.cells #[.int .i64 wh] 3) (.cells #[.int .i64 0] 3) (.cells #[.int .u8 0,.int .u8 0,.int .u32 0,.int .i64 0,.string ⟨#[]⟩,.slice none 0 0] 30);have hS:zB q n lv ls at_ p M wh 0 w _:=⟨h.on hb0,h.base.box_lt,h.base.nW,ai h.base.box_lt hb0,x0,x1,x2,x3⟩;have HS0:=zhd hS;clear hb0 x0 x1 x2 x3 hS h;go_enter Tryz.func99,Tryz.ntmps99
 go_upto_region 1 with fail
 generalize ((((w.alloc (.cells #[.pointer (some ⟨q,0,none⟩)] 143)).alloc (.cells #[.int .i64 wh] 3)).alloc (.cells #[.int .i64 0] 3)).alloc (.cells #[.int .u8 0,.int .u8 0,.int .u32 0,.int .i64 0,.string ⟨#[]⟩,.slice none 0 0] 30))=W0 at *;have m0:=HS0.out.boxm;have v0:=HS0.out.boxw;have y0:=HS0.out.boxd;have z0:=HS0.out.base.base.cell 3 rfl;go_wp2_with fail
 refine (bW q n lv ls _ p M _ HS0.out.base wd wh hwd).mono ?_;rintro o WA ⟨e,aA,rfl,hwx,hnx,hm,hb⟩;have HSA:=zhd (HS0.out.next hm hb);have HWX:=zhd (hwx.rise 0);have HNA:Hid (aU (w.heap.size+4) WA e):=zhd ((hnx _).more (Nat.zero_le _));clear hm hb hwx hnx;simp only [ae.val,Sp.val];go_wp2_with (first | (refine wpList_store_row rfl 30 _ _ rfl (w.heap.size+1+1+1) #[.int .u8 e.kind,.int .u8 e.op,.int .u32 e.value,.int .i64 e.width,.string e.name,.slice e.sp.at_ e.subs.length e.sp.cap] (by rfl) (by rfl) 30 zX HSA.out.cr (aM _ _ _ _ _ _) (by rfl) (dH _ _ _ _ _ _ _ _) ?_) | fail)
 obtain ⟨f1,f2,f3⟩:=HSA.out.fin #[.int .u8 e.kind,.int .u8 e.op,.int .u32 e.value,.int .i64 e.width,.string e.name,.slice e.sp.at_ e.subs.length e.sp.cap];exact bodyPost_ret (results_cell_row rfl _ _ (w.heap.size+1+1+1) 30 _ (0,0) _ rfl f1 Tryz.underlying30 rfl (aM _ _ _ _ _ _)) rfl ⟨e,_,rfl,HWX.out,eZ HNA.out _,f2,f3⟩
set_option maxRecDepth 1000000 in
set_option maxHeartbeats 8000000 in
theorem G6 {d:Nat} (hd10:d≤10) (hE:rF d):rF (d+1):=by
 intro q n lv ls at_ p M w h wd wh hwd;have HSUB:=zhd (LX hd10 hE);obtain ⟨hb0,x0,x1,x2,x3⟩:=FD w (.cells #[.pointer (some ⟨q,0,none⟩)] 143) (.cells #[.int .i64 wh] 3) (.cells #[.int .i64 ((d:Int)+1)] 3) (.cells #[.int .u8 0,.int .u8 0,.int .u32 0,.int .i64 0,.string ⟨#[]⟩,.slice none 0 0] 30);have hS:zB q n lv ls at_ p M wh ((d:Int)+1) w _:=⟨h.on hb0,h.base.box_lt,h.base.nW,ai h.base.box_lt hb0,x0,x1,x2,x3⟩;have HS0:=zhd hS;have hwdt:=h.width;have hz:((d:Int)+1 == 0)=false:=by rw [beq_eq_false_iff_ne];omega
 clear hb0 x0 x1 x2 x3 hS h hE hd10;rw [show (((d+1:Nat)):Int)=(d:Int)+1 by omega];go_enter Tryz.func99,Tryz.ntmps99
 go_upto_region 1 with fail
 generalize ((((w.alloc (.cells #[.pointer (some ⟨q,0,none⟩)] 143)).alloc (.cells #[.int .i64 wh] 3)).alloc (.cells #[.int .i64 ((d:Int)+1)] 3)).alloc (.cells #[.int .u8 0,.int .u8 0,.int .u32 0,.int .i64 0,.string ⟨#[]⟩,.slice none 0 0] 30))=W0 at *;have HWT:=zhd hwdt;clear hwdt;have m0:=HS0.out.boxm;have v0:=HS0.out.boxw;have y0:=HS0.out.boxd;have z0:=HS0.out.base.base.cell 3 rfl;go_wp2_with fail
 refine (bZ q n lv ls _ p M.prm _ HS0.out.base.base 9 (by decide) (by decide)).mono ?_;rintro o W1 ⟨k1,a1,rfl,lo1,hi1,hm,hb⟩;have HS1:=zhd (HS0.out.next hm hb);clear hm hb HS0 m0 v0 y0 z0;have m1:=HS1.out.boxm;have v1:=HS1.out.boxw;have y1:=HS1.out.boxd;have z1:=HS1.out.base.base.cell 3 rfl;clear hz;have hk9:k1=0∨k1=1∨k1=2∨k1=3∨k1=4∨k1=5∨k1=6∨k1=7∨k1=8:=by omega
 clear lo1 hi1;rcases hk9 with rfl | rfl | rfl | rfl | rfl | rfl | rfl | rfl | rfl
 ·go_wp2_with fail
  refine (bW q n lv ls _ p M _ HS1.out.base wd wh hwd).mono ?_;rintro o WA ⟨e,aA,rfl,hwx,hnx,hm,hb⟩;have HSA:=zhd (HS1.out.next hm hb);have HWX:=zhd (hwx.rise (d+1));have HNA:Hid (aU (w.heap.size+4) WA e):=zhd ((hnx _).more (Nat.zero_le _));clear hm hb hwx hnx;simp only [ae.val,Sp.val];go_wp2_with (first | (refine wpList_store_row rfl 30 _ _ rfl (w.heap.size+1+1+1) #[.int .u8 e.kind,.int .u8 e.op,.int .u32 e.value,.int .i64 e.width,.string e.name,.slice e.sp.at_ e.subs.length e.sp.cap] (by rfl) (by rfl) 30 zX HSA.out.cr (aM _ _ _ _ _ _) (by rfl) (dH _ _ _ _ _ _ _ _) ?_) | fail)
  obtain ⟨f1,f2,f3⟩:=HSA.out.fin #[.int .u8 e.kind,.int .u8 e.op,.int .u32 e.value,.int .i64 e.width,.string e.name,.slice e.sp.at_ e.subs.length e.sp.cap];exact bodyPost_ret (results_cell_row rfl _ _ (w.heap.size+1+1+1) 30 _ (0,0) _ rfl f1 Tryz.underlying30 rfl (aM _ _ _ _ _ _)) rfl ⟨e,_,rfl,HWX.out,eZ HNA.out _,f2,f3⟩
 ·go_wp2_with fail
  refine (bW q n lv ls _ p M _ HS1.out.base wd wh hwd).mono ?_;rintro o WA ⟨e,aA,rfl,hwx,hnx,hm,hb⟩;have HSA:=zhd (HS1.out.next hm hb);have HWX:=zhd (hwx.rise (d+1));have HNA:Hid (aU (w.heap.size+4) WA e):=zhd ((hnx _).more (Nat.zero_le _));clear hm hb hwx hnx;simp only [ae.val,Sp.val];go_wp2_with (first | (refine wpList_store_row rfl 30 _ _ rfl (w.heap.size+1+1+1) #[.int .u8 e.kind,.int .u8 e.op,.int .u32 e.value,.int .i64 e.width,.string e.name,.slice e.sp.at_ e.subs.length e.sp.cap] (by rfl) (by rfl) 30 zX HSA.out.cr (aM _ _ _ _ _ _) (by rfl) (dH _ _ _ _ _ _ _ _) ?_) | fail)
  obtain ⟨f1,f2,f3⟩:=HSA.out.fin #[.int .u8 e.kind,.int .u8 e.op,.int .u32 e.value,.int .i64 e.width,.string e.name,.slice e.sp.at_ e.subs.length e.sp.cap];exact bodyPost_ret (results_cell_row rfl _ _ (w.heap.size+1+1+1) 30 _ (0,0) _ rfl f1 Tryz.underlying30 rfl (aM _ _ _ _ _ _)) rfl ⟨e,_,rfl,HWX.out,eZ HNA.out _,f2,f3⟩
 ·go_wp2_with fail
  refine (bW q n lv ls _ p M _ HS1.out.base wd wh hwd).mono ?_;rintro o WA ⟨e,aA,rfl,hwx,hnx,hm,hb⟩;have HSA:=zhd (HS1.out.next hm hb);have HWX:=zhd (hwx.rise (d+1));have HNA:Hid (aU (w.heap.size+4) WA e):=zhd ((hnx _).more (Nat.zero_le _));clear hm hb hwx hnx;simp only [ae.val,Sp.val];go_wp2_with (first | (refine wpList_store_row rfl 30 _ _ rfl (w.heap.size+1+1+1) #[.int .u8 e.kind,.int .u8 e.op,.int .u32 e.value,.int .i64 e.width,.string e.name,.slice e.sp.at_ e.subs.length e.sp.cap] (by rfl) (by rfl) 30 zX HSA.out.cr (aM _ _ _ _ _ _) (by rfl) (dH _ _ _ _ _ _ _ _) ?_) | fail)
  obtain ⟨f1,f2,f3⟩:=HSA.out.fin #[.int .u8 e.kind,.int .u8 e.op,.int .u32 e.value,.int .i64 e.width,.string e.name,.slice e.sp.at_ e.subs.length e.sp.cap];exact bodyPost_ret (results_cell_row rfl _ _ (w.heap.size+1+1+1) 30 _ (0,0) _ rfl f1 Tryz.underlying30 rfl (aM _ _ _ _ _ _)) rfl ⟨e,_,rfl,HWX.out,eZ HNA.out _,f2,f3⟩
 ·by_cases h1:wd=1
  ·subst h1
   go_wp2_with fail
   refine (bZ q n lv ls _ p M.prm _ HS1.out.base.base 3 (by decide) (by decide)).mono ?_;rintro o W2 ⟨k2,a2,rfl,lo2,hi2,hm,hb⟩;have HS2:=zhd (HS1.out.next hm hb);clear hm hb HS1 m1 v1 y1 z1;have m2:=HS2.out.boxm;have v2:=HS2.out.boxw;have y2:=HS2.out.boxd;have z2:=HS2.out.base.base.cell 3 rfl;have hwd2:1≤1+k2∧1+k2≤3:=by omega
   go_wp2_with fail
   refine (bZ q n lv ls _ p M.prm _ HS2.out.base.base 4 (by decide) (by decide)).mono ?_;rintro o W3 ⟨k3,a3,rfl,lo3,hi3,hm,hb⟩;have HS3:=zhd (HS2.out.next hm hb);clear hm hb HS2 m2 v2 y2 z2;have m3:=HS3.out.boxm;have v3:=HS3.out.boxw;have y3:=HS3.out.boxd;have z3:=HS3.out.base.base.cell 3 rfl;go_wp2_with fail
   refine (HSUB.out q n lv ls _ p M wh w _ HS3.out (1+k2) hwd2).mono ?_;rintro o W4 ⟨e1,a4,rfl,hwx,hnx,hm,hb⟩;have HW1:=zhd hwx;have HS4:=zhd hm;have HN1_4:=zhd hnx;clear hwx hnx;clear hm hb HS3 m3 v3 y3 z3;have m4:=HS4.out.boxm;have v4:=HS4.out.boxw;have y4:=HS4.out.boxd;have z4:=HS4.out.base.base.cell 3 rfl;go_wp2_with fail
   refine (HSUB.out q n lv ls _ p M wh w _ HS4.out (1+k2) hwd2).mono ?_;rintro o W5 ⟨e2,a5,rfl,hwx,hnx,hm,hb⟩;have HW2:=zhd hwx;have HS5:=zhd hm;have HN1_5:=zhd (HN1_4.out.on hb (by have:=HS4.out.old;omega));have HN2_5:=zhd hnx;clear hwx hnx;clear hm hb HS4 m4 v4 y4 z4 HN1_4;have m5:=HS5.out.boxm;have v5:=HS5.out.boxw;have y5:=HS5.out.boxd;have z5:=HS5.out.base.base.cell 3 rfl;go_wp2_with fail
   refine (jE (13+k3) e1 e2 _).mono ?_;rintro o WA ⟨b,rfl,hb1,hb2,hxb,hba⟩;have hbm:=ai (Nat.lt_of_lt_of_le HS5.out.old (Nat.le_trans (Nat.le_add_right _ 4) HS5.out.size)) hba;have HSA:=zhd (HS5.out.on hba);have HNA:Hid (aU (w.heap.size+4) WA (.mk 6 (13+k3) 0 0 ⟨#[]⟩ ⟨some ⟨b,0,none⟩,2⟩ [e1,e2])):=zhd (iT (rO (enc:=ae.cells) rfl hxb) (Nat.le_trans HS5.out.size hb1) (fun s hs=>by
    simp only [List.mem_cons,List.not_mem_nil,or_false] at hs;rcases hs with rfl | rfl
    ·exact HN1_5.out.on hbm (by have:=HS5.out.old;omega)
    ·exact HN2_5.out.on hbm (by have:=HS5.out.old;omega)) (show (0:Int)≤6∧(6:Int)≤255 by decide) ⟨by omega,by omega⟩ (show (0:Int)≤0∧(0:Int)≤4294967295 by decide) (show (Lit.int .i64 0).wf=true by decide) (show (⟨#[]⟩:ByteArray).size≤maxLen by decide))
   clear hba hbm hb1 hb2 hxb;go_wp2_with (first | (refine wpList_store_row rfl 30 _ _ rfl (w.heap.size+1+1+1) #[.int .u8 6,.int .u8 (13+k3),.int .u32 0,.int .i64 0,.string ⟨#[]⟩,.slice (some ⟨b,0,none⟩) 2 2] (by rfl) (by rfl) 30 zX HSA.out.cr (aM _ _ _ _ _ _) (by rfl) (dH _ _ _ _ _ _ _ _) ?_) | fail)
   obtain ⟨f1,f2,f3⟩:=HSA.out.fin #[.int .u8 6,.int .u8 (13+k3),.int .u32 0,.int .i64 0,.string ⟨#[]⟩,.slice (some ⟨b,0,none⟩) 2 2];exact bodyPost_ret (results_cell_row rfl _ _ (w.heap.size+1+1+1) 30 _ (0,0) _ rfl f1 Tryz.underlying30 rfl (aM _ _ _ _ _ _)) rfl ⟨.mk 6 (13+k3) 0 0 ⟨#[]⟩ ⟨some ⟨b,0,none⟩,2⟩ [e1,e2],_,rfl,WX.cmp (by omega) (by omega) HW1.out HW2.out,eZ HNA.out _,f2,f3⟩
  ·have hd1:(wd == 1)=false:=by simp [h1]
   clear h1;go_wp2_with fail
   refine (bZ q n lv ls _ p M.prm _ HS1.out.base.base 10 (by decide) (by decide)).mono ?_;rintro o W2 ⟨k2,a2,rfl,lo2,hi2,hm,hb⟩;have HS2:=zhd (HS1.out.next hm hb);clear hm hb HS1 m1 v1 y1 z1;have m2:=HS2.out.boxm;have v2:=HS2.out.boxw;have y2:=HS2.out.boxd;have z2:=HS2.out.base.base.cell 3 rfl;go_wp2_with fail
   refine (HSUB.out q n lv ls _ p M wh w _ HS2.out wd hwd).mono ?_;rintro o W3 ⟨e1,a3,rfl,hwx,hnx,hm,hb⟩;have HW1:=zhd hwx;have HS3:=zhd hm;have HN1_3:=zhd hnx;clear hwx hnx;clear hm hb HS2 m2 v2 y2 z2;have m3:=HS3.out.boxm;have v3:=HS3.out.boxw;have y3:=HS3.out.boxd;have z3:=HS3.out.base.base.cell 3 rfl;go_wp2_with fail
   refine (HSUB.out q n lv ls _ p M wh w _ HS3.out wd hwd).mono ?_;rintro o W4 ⟨e2,a4,rfl,hwx,hnx,hm,hb⟩;have HW2:=zhd hwx;have HS4:=zhd hm;have HN1_4:=zhd (HN1_3.out.on hb (by have:=HS3.out.old;omega));have HN2_4:=zhd hnx;clear hwx hnx;clear hm hb HS3 m3 v3 y3 z3 HN1_3;have m4:=HS4.out.boxm;have v4:=HS4.out.boxw;have y4:=HS4.out.boxd;have z4:=HS4.out.base.base.cell 3 rfl;go_wp2_with fail
   refine (jE (3+k2) e1 e2 _).mono ?_;rintro o WA ⟨b,rfl,hb1,hb2,hxb,hba⟩;have hbm:=ai (Nat.lt_of_lt_of_le HS4.out.old (Nat.le_trans (Nat.le_add_right _ 4) HS4.out.size)) hba;have HSA:=zhd (HS4.out.on hba);have HNA:Hid (aU (w.heap.size+4) WA (.mk 6 (3+k2) 0 0 ⟨#[]⟩ ⟨some ⟨b,0,none⟩,2⟩ [e1,e2])):=zhd (iT (rO (enc:=ae.cells) rfl hxb) (Nat.le_trans HS4.out.size hb1) (fun s hs=>by
    simp only [List.mem_cons,List.not_mem_nil,or_false] at hs;rcases hs with rfl | rfl
    ·exact HN1_4.out.on hbm (by have:=HS4.out.old;omega)
    ·exact HN2_4.out.on hbm (by have:=HS4.out.old;omega)) (show (0:Int)≤6∧(6:Int)≤255 by decide) ⟨by omega,by omega⟩ (show (0:Int)≤0∧(0:Int)≤4294967295 by decide) (show (Lit.int .i64 0).wf=true by decide) (show (⟨#[]⟩:ByteArray).size≤maxLen by decide))
   clear hba hbm hb1 hb2 hxb;go_wp2_with (first | (refine wpList_store_row rfl 30 _ _ rfl (w.heap.size+1+1+1) #[.int .u8 6,.int .u8 (3+k2),.int .u32 0,.int .i64 0,.string ⟨#[]⟩,.slice (some ⟨b,0,none⟩) 2 2] (by rfl) (by rfl) 30 zX HSA.out.cr (aM _ _ _ _ _ _) (by rfl) (dH _ _ _ _ _ _ _ _) ?_) | fail)
   obtain ⟨f1,f2,f3⟩:=HSA.out.fin #[.int .u8 6,.int .u8 (3+k2),.int .u32 0,.int .i64 0,.string ⟨#[]⟩,.slice (some ⟨b,0,none⟩) 2 2];exact bodyPost_ret (results_cell_row rfl _ _ (w.heap.size+1+1+1) 30 _ (0,0) _ rfl f1 Tryz.underlying30 rfl (aM _ _ _ _ _ _)) rfl ⟨.mk 6 (3+k2) 0 0 ⟨#[]⟩ ⟨some ⟨b,0,none⟩,2⟩ [e1,e2],_,rfl,WX.bin (by omega) (by omega) HW1.out HW2.out,eZ HNA.out _,f2,f3⟩
 ·skip
  go_wp2_with fail
  refine (bZ q n lv ls _ p M.prm _ HS1.out.base.base 10 (by decide) (by decide)).mono ?_;rintro o W2 ⟨k2,a2,rfl,lo2,hi2,hm,hb⟩;have HS2:=zhd (HS1.out.next hm hb);clear hm hb HS1 m1 v1 y1 z1;have m2:=HS2.out.boxm;have v2:=HS2.out.boxw;have y2:=HS2.out.boxd;have z2:=HS2.out.base.base.cell 3 rfl;go_wp2_with fail
  refine (HSUB.out q n lv ls _ p M wh w _ HS2.out wd hwd).mono ?_;rintro o W3 ⟨e1,a3,rfl,hwx,hnx,hm,hb⟩;have HW1:=zhd hwx;have HS3:=zhd hm;have HN1_3:=zhd hnx;clear hwx hnx;clear hm hb HS2 m2 v2 y2 z2;have m3:=HS3.out.boxm;have v3:=HS3.out.boxw;have y3:=HS3.out.boxd;have z3:=HS3.out.base.base.cell 3 rfl;go_wp2_with fail
  refine (HSUB.out q n lv ls _ p M wh w _ HS3.out wd hwd).mono ?_;rintro o W4 ⟨e2,a4,rfl,hwx,hnx,hm,hb⟩;have HW2:=zhd hwx;have HS4:=zhd hm;have HN1_4:=zhd (HN1_3.out.on hb (by have:=HS3.out.old;omega));have HN2_4:=zhd hnx;clear hwx hnx;clear hm hb HS3 m3 v3 y3 z3 HN1_3;have m4:=HS4.out.boxm;have v4:=HS4.out.boxw;have y4:=HS4.out.boxd;have z4:=HS4.out.base.base.cell 3 rfl;go_wp2_with fail
  refine (jE (3+k2) e1 e2 _).mono ?_;rintro o WA ⟨b,rfl,hb1,hb2,hxb,hba⟩;have hbm:=ai (Nat.lt_of_lt_of_le HS4.out.old (Nat.le_trans (Nat.le_add_right _ 4) HS4.out.size)) hba;have HSA:=zhd (HS4.out.on hba);have HNA:Hid (aU (w.heap.size+4) WA (.mk 6 (3+k2) 0 0 ⟨#[]⟩ ⟨some ⟨b,0,none⟩,2⟩ [e1,e2])):=zhd (iT (rO (enc:=ae.cells) rfl hxb) (Nat.le_trans HS4.out.size hb1) (fun s hs=>by
   simp only [List.mem_cons,List.not_mem_nil,or_false] at hs;rcases hs with rfl | rfl
   ·exact HN1_4.out.on hbm (by have:=HS4.out.old;omega)
   ·exact HN2_4.out.on hbm (by have:=HS4.out.old;omega)) (show (0:Int)≤6∧(6:Int)≤255 by decide) ⟨by omega,by omega⟩ (show (0:Int)≤0∧(0:Int)≤4294967295 by decide) (show (Lit.int .i64 0).wf=true by decide) (show (⟨#[]⟩:ByteArray).size≤maxLen by decide))
  clear hba hbm hb1 hb2 hxb;go_wp2_with (first | (refine wpList_store_row rfl 30 _ _ rfl (w.heap.size+1+1+1) #[.int .u8 6,.int .u8 (3+k2),.int .u32 0,.int .i64 0,.string ⟨#[]⟩,.slice (some ⟨b,0,none⟩) 2 2] (by rfl) (by rfl) 30 zX HSA.out.cr (aM _ _ _ _ _ _) (by rfl) (dH _ _ _ _ _ _ _ _) ?_) | fail)
  obtain ⟨f1,f2,f3⟩:=HSA.out.fin #[.int .u8 6,.int .u8 (3+k2),.int .u32 0,.int .i64 0,.string ⟨#[]⟩,.slice (some ⟨b,0,none⟩) 2 2];exact bodyPost_ret (results_cell_row rfl _ _ (w.heap.size+1+1+1) 30 _ (0,0) _ rfl f1 Tryz.underlying30 rfl (aM _ _ _ _ _ _)) rfl ⟨.mk 6 (3+k2) 0 0 ⟨#[]⟩ ⟨some ⟨b,0,none⟩,2⟩ [e1,e2],_,rfl,WX.bin (by omega) (by omega) HW1.out HW2.out,eZ HNA.out _,f2,f3⟩
 ·skip
  go_wp2_with fail
  refine (HSUB.out q n lv ls _ p M wh w _ HS1.out 1 ⟨by decide,by decide⟩).mono ?_;rintro o W2 ⟨e1,a2,rfl,hwx,hnx,hm,hb⟩;have HW1:=zhd hwx;have HS2:=zhd hm;have HN1_2:=zhd hnx;clear hwx hnx;clear hm hb HS1 m1 v1 y1 z1;have m2:=HS2.out.boxm;have v2:=HS2.out.boxw;have y2:=HS2.out.boxd;have z2:=HS2.out.base.base.cell 3 rfl;go_wp2_with fail
  refine (HSUB.out q n lv ls _ p M wh w _ HS2.out wd hwd).mono ?_;rintro o W3 ⟨e2,a3,rfl,hwx,hnx,hm,hb⟩;have HW2:=zhd hwx;have HS3:=zhd hm;have HN1_3:=zhd (HN1_2.out.on hb (by have:=HS2.out.old;omega));have HN2_3:=zhd hnx;clear hwx hnx;clear hm hb HS2 m2 v2 y2 z2 HN1_2;have m3:=HS3.out.boxm;have v3:=HS3.out.boxw;have y3:=HS3.out.boxd;have z3:=HS3.out.base.base.cell 3 rfl;go_wp2_with fail
  refine (HSUB.out q n lv ls _ p M wh w _ HS3.out wd hwd).mono ?_;rintro o W4 ⟨e3,a4,rfl,hwx,hnx,hm,hb⟩;have HW3:=zhd hwx;have HS4:=zhd hm;have HN1_4:=zhd (HN1_3.out.on hb (by have:=HS3.out.old;omega));have HN2_4:=zhd (HN2_3.out.on hb (by have:=HS3.out.old;omega));have HN3_4:=zhd hnx;clear hwx hnx;clear hm hb HS3 m3 v3 y3 z3 HN1_3 HN2_3;have m4:=HS4.out.boxm;have v4:=HS4.out.boxw;have y4:=HS4.out.boxd;have z4:=HS4.out.base.base.cell 3 rfl;have hba:=zba W4 (.cells #[.int .u8 e1.kind,.int .u8 e1.op,.int .u32 e1.value,.int .i64 e1.width,.string e1.name,.slice e1.sp.at_ e1.subs.length e1.sp.cap,.int .u8 e2.kind,.int .u8 e2.op,.int .u32 e2.value,.int .i64 e2.width,.string e2.name,.slice e2.sp.at_ e2.subs.length e2.sp.cap,.int .u8 e3.kind,.int .u8 e3.op,.int .u32 e3.value,.int .i64 e3.width,.string e3.name,.slice e3.sp.at_ e3.subs.length e3.sp.cap] 30);have hbm:=ai (Nat.lt_of_lt_of_le HS4.out.old (Nat.le_trans (Nat.le_add_right _ 4) HS4.out.size)) hba;have HSA:=zhd (HS4.out.on hba);have HNA:Hid (aU (w.heap.size+4) (W4.alloc (.cells #[.int .u8 e1.kind,.int .u8 e1.op,.int .u32 e1.value,.int .i64 e1.width,.string e1.name,.slice e1.sp.at_ e1.subs.length e1.sp.cap,.int .u8 e2.kind,.int .u8 e2.op,.int .u32 e2.value,.int .i64 e2.width,.string e2.name,.slice e2.sp.at_ e2.subs.length e2.sp.cap,.int .u8 e3.kind,.int .u8 e3.op,.int .u32 e3.value,.int .i64 e3.width,.string e3.name,.slice e3.sp.at_ e3.subs.length e3.sp.cap] 30)) (.mk 7 0 0 0 ⟨#[]⟩ ⟨some ⟨W4.heap.size,0,none⟩,3⟩ [e1,e2,e3])):=zhd (iT (bz (t:=30) (fr:=(0,0)) (fun _=>rfl) rfl (by simp) (zan W4 (.cells #[.int .u8 e1.kind,.int .u8 e1.op,.int .u32 e1.value,.int .i64 e1.width,.string e1.name,.slice e1.sp.at_ e1.subs.length e1.sp.cap,.int .u8 e2.kind,.int .u8 e2.op,.int .u32 e2.value,.int .i64 e2.width,.string e2.name,.slice e2.sp.at_ e2.subs.length e2.sp.cap,.int .u8 e3.kind,.int .u8 e3.op,.int .u32 e3.value,.int .i64 e3.width,.string e3.name,.slice e3.sp.at_ e3.subs.length e3.sp.cap] 30))) HS4.out.size (fun s hs=>by
   simp only [List.mem_cons,List.not_mem_nil,or_false] at hs;rcases hs with rfl | rfl | rfl
   ·exact HN1_4.out.on hbm (by have:=HS4.out.old;omega)
   ·exact HN2_4.out.on hbm (by have:=HS4.out.old;omega)
   ·exact HN3_4.out.on hbm (by have:=HS4.out.old;omega)) (show (0:Int)≤7∧(7:Int)≤255 by decide) (show (0:Int)≤0∧(0:Int)≤255 by decide) (show (0:Int)≤0∧(0:Int)≤4294967295 by decide) (show (Lit.int .i64 0).wf=true by decide) (show (⟨#[]⟩:ByteArray).size≤maxLen by decide))
  clear hba hbm;go_wp2_with (first | (refine wpList_store_row rfl 30 _ _ rfl (w.heap.size+1+1+1) #[.int .u8 7,.int .u8 0,.int .u32 0,.int .i64 0,.string ⟨#[]⟩,.slice (some ⟨W4.heap.size,0,none⟩) 3 3] (by rfl) (by rfl) 30 zX HSA.out.cr (aM _ _ _ _ _ _) (by rfl) (dH _ _ _ _ _ _ _ _) ?_) | fail)
  obtain ⟨f1,f2,f3⟩:=HSA.out.fin #[.int .u8 7,.int .u8 0,.int .u32 0,.int .i64 0,.string ⟨#[]⟩,.slice (some ⟨W4.heap.size,0,none⟩) 3 3];exact bodyPost_ret (results_cell_row rfl _ _ (w.heap.size+1+1+1) 30 _ (0,0) _ rfl f1 Tryz.underlying30 rfl (aM _ _ _ _ _ _)) rfl ⟨.mk 7 0 0 0 ⟨#[]⟩ ⟨some ⟨W4.heap.size,0,none⟩,3⟩ [e1,e2,e3],_,rfl,WX.mux HW1.out HW2.out HW3.out,eZ HNA.out _,f2,f3⟩
 ·skip
  go_wp2_with fail
  refine (bZ q n lv ls _ p M.prm _ HS1.out.base.base 2 (by decide) (by decide)).mono ?_;rintro o W2 ⟨k2,a2,rfl,lo2,hi2,hm,hb⟩;have HS2:=zhd (HS1.out.next hm hb);clear hm hb HS1 m1 v1 y1 z1;have m2:=HS2.out.boxm;have v2:=HS2.out.boxw;have y2:=HS2.out.boxd;have z2:=HS2.out.base.base.cell 3 rfl;have hk2:k2=0∨k2=1:=by omega
  clear lo2 hi2;rcases hk2 with rfl | rfl
  ·skip
   go_wp2_with fail
   refine (bZ q n lv ls _ p M.prm _ HS2.out.base.base 2 (by decide) (by decide)).mono ?_;rintro o W3 ⟨k3,a3,rfl,lo3,hi3,hm,hb⟩;have HS3:=zhd (HS2.out.next hm hb);clear hm hb HS2 m2 v2 y2 z2;have m3:=HS3.out.boxm;have v3:=HS3.out.boxw;have y3:=HS3.out.boxd;have z3:=HS3.out.base.base.cell 3 rfl;go_wp2_with fail
   refine (HSUB.out q n lv ls _ p M wh w _ HS3.out wd hwd).mono ?_;rintro o W4 ⟨e1,a4,rfl,hwx,hnx,hm,hb⟩;have HW1:=zhd hwx;have HS4:=zhd hm;have HN1_4:=zhd hnx;clear hwx hnx;clear hm hb HS3 m3 v3 y3 z3;have m4:=HS4.out.boxm;have v4:=HS4.out.boxw;have y4:=HS4.out.boxd;have z4:=HS4.out.base.base.cell 3 rfl;have hba:=zba W4 (.cells #[.int .u8 e1.kind,.int .u8 e1.op,.int .u32 e1.value,.int .i64 e1.width,.string e1.name,.slice e1.sp.at_ e1.subs.length e1.sp.cap] 30);have hbm:=ai (Nat.lt_of_lt_of_le HS4.out.old (Nat.le_trans (Nat.le_add_right _ 4) HS4.out.size)) hba;have HSA:=zhd (HS4.out.on hba);have HNA:Hid (aU (w.heap.size+4) (W4.alloc (.cells #[.int .u8 e1.kind,.int .u8 e1.op,.int .u32 e1.value,.int .i64 e1.width,.string e1.name,.slice e1.sp.at_ e1.subs.length e1.sp.cap] 30)) (.mk 5 (1+k3) 0 0 ⟨#[]⟩ ⟨some ⟨W4.heap.size,0,none⟩,1⟩ [e1])):=zhd (iT (bz (t:=30) (fr:=(0,0)) (fun _=>rfl) rfl (by simp) (zan W4 (.cells #[.int .u8 e1.kind,.int .u8 e1.op,.int .u32 e1.value,.int .i64 e1.width,.string e1.name,.slice e1.sp.at_ e1.subs.length e1.sp.cap] 30))) HS4.out.size (fun s hs=>by
    simp only [List.mem_cons,List.not_mem_nil,or_false] at hs;rw [hs];exact HN1_4.out.on hbm (by have:=HS4.out.old;omega)) (show (0:Int)≤5∧(5:Int)≤255 by decide) ⟨by omega,by omega⟩ (show (0:Int)≤0∧(0:Int)≤4294967295 by decide) (show (Lit.int .i64 0).wf=true by decide) (show (⟨#[]⟩:ByteArray).size≤maxLen by decide))
   clear hba hbm;go_wp2_with (first | (refine wpList_store_row rfl 30 _ _ rfl (w.heap.size+1+1+1) #[.int .u8 5,.int .u8 (1+k3),.int .u32 0,.int .i64 0,.string ⟨#[]⟩,.slice (some ⟨W4.heap.size,0,none⟩) 1 1] (by rfl) (by rfl) 30 zX HSA.out.cr (aM _ _ _ _ _ _) (by rfl) (dH _ _ _ _ _ _ _ _) ?_) | fail)
   obtain ⟨f1,f2,f3⟩:=HSA.out.fin #[.int .u8 5,.int .u8 (1+k3),.int .u32 0,.int .i64 0,.string ⟨#[]⟩,.slice (some ⟨W4.heap.size,0,none⟩) 1 1];exact bodyPost_ret (results_cell_row rfl _ _ (w.heap.size+1+1+1) 30 _ (0,0) _ rfl f1 Tryz.underlying30 rfl (aM _ _ _ _ _ _)) rfl ⟨.mk 5 (1+k3) 0 0 ⟨#[]⟩ ⟨some ⟨W4.heap.size,0,none⟩,1⟩ [e1],_,rfl,WX.un (by omega) (by omega) HW1.out,eZ HNA.out _,f2,f3⟩
  ·skip
   go_wp2_with fail
   refine (bZ q n lv ls _ p M.prm _ HS2.out.base.base 3 (by decide) (by decide)).mono ?_;rintro o W3 ⟨k3,a3,rfl,lo3,hi3,hm,hb⟩;have HS3:=zhd (HS2.out.next hm hb);clear hm hb HS2 m2 v2 y2 z2;have m3:=HS3.out.boxm;have v3:=HS3.out.boxw;have y3:=HS3.out.boxd;have z3:=HS3.out.base.base.cell 3 rfl;have hwd2:1≤1+k3∧1+k3≤3:=by omega
   go_wp2_with fail
   refine (HSUB.out q n lv ls _ p M wh w _ HS3.out (1+k3) hwd2).mono ?_;rintro o W4 ⟨e1,a4,rfl,hwx,hnx,hm,hb⟩;have HW1:=zhd hwx;have HS4:=zhd hm;have HN1_4:=zhd hnx;clear hwx hnx;clear hm hb HS3 m3 v3 y3 z3;have m4:=HS4.out.boxm;have v4:=HS4.out.boxw;have y4:=HS4.out.boxd;have z4:=HS4.out.base.base.cell 3 rfl;have hba:=zba W4 (.cells #[.int .u8 e1.kind,.int .u8 e1.op,.int .u32 e1.value,.int .i64 e1.width,.string e1.name,.slice e1.sp.at_ e1.subs.length e1.sp.cap] 30);have hbm:=ai (Nat.lt_of_lt_of_le HS4.out.old (Nat.le_trans (Nat.le_add_right _ 4) HS4.out.size)) hba;have HSA:=zhd (HS4.out.on hba);have HNA:Hid (aU (w.heap.size+4) (W4.alloc (.cells #[.int .u8 e1.kind,.int .u8 e1.op,.int .u32 e1.value,.int .i64 e1.width,.string e1.name,.slice e1.sp.at_ e1.subs.length e1.sp.cap] 30)) (.mk 8 0 0 wd ⟨#[]⟩ ⟨some ⟨W4.heap.size,0,none⟩,1⟩ [e1])):=zhd (iT (bz (t:=30) (fr:=(0,0)) (fun _=>rfl) rfl (by simp) (zan W4 (.cells #[.int .u8 e1.kind,.int .u8 e1.op,.int .u32 e1.value,.int .i64 e1.width,.string e1.name,.slice e1.sp.at_ e1.subs.length e1.sp.cap] 30))) HS4.out.size (fun s hs=>by
    simp only [List.mem_cons,List.not_mem_nil,or_false] at hs;rw [hs];exact HN1_4.out.on hbm (by have:=HS4.out.old;omega)) (show (0:Int)≤8∧(8:Int)≤255 by decide) (show (0:Int)≤0∧(0:Int)≤255 by decide) (show (0:Int)≤0∧(0:Int)≤4294967295 by decide) (mi hwd) (show (⟨#[]⟩:ByteArray).size≤maxLen by decide))
   clear hba hbm;go_wp2_with (first | (refine wpList_store_row rfl 30 _ _ rfl (w.heap.size+1+1+1) #[.int .u8 8,.int .u8 0,.int .u32 0,.int .i64 wd,.string ⟨#[]⟩,.slice (some ⟨W4.heap.size,0,none⟩) 1 1] (by rfl) (by rfl) 30 zX HSA.out.cr (aM _ _ _ _ _ _) (by rfl) (dH _ _ _ _ _ _ _ _) ?_) | fail)
   obtain ⟨f1,f2,f3⟩:=HSA.out.fin #[.int .u8 8,.int .u8 0,.int .u32 0,.int .i64 wd,.string ⟨#[]⟩,.slice (some ⟨W4.heap.size,0,none⟩) 1 1];exact bodyPost_ret (results_cell_row rfl _ _ (w.heap.size+1+1+1) 30 _ (0,0) _ rfl f1 Tryz.underlying30 rfl (aM _ _ _ _ _ _)) rfl ⟨.mk 8 0 0 wd ⟨#[]⟩ ⟨some ⟨W4.heap.size,0,none⟩,1⟩ [e1],_,rfl,WX.cast hwd.1 (by omega) HW1.out,eZ HNA.out _,f2,f3⟩
 ·by_cases h1:wd=p.width
  ·by_cases h2:wh=1
   ·have hd1:(wd == p.width)=true:=by simp [h1]
    have hd2:(wh != 1)=false:=by simp [h2]
    clear h1 h2;go_wp2_with fail
    refine (bW q n lv ls _ p M _ HS1.out.base wd wh hwd).mono ?_;rintro o WA ⟨e,aA,rfl,hwx,hnx,hm,hb⟩;have HSA:=zhd (HS1.out.next hm hb);have HWX:=zhd (hwx.rise (d+1));have HNA:Hid (aU (w.heap.size+4) WA e):=zhd ((hnx _).more (Nat.zero_le _));clear hm hb hwx hnx;simp only [ae.val,Sp.val];go_wp2_with (first | (refine wpList_store_row rfl 30 _ _ rfl (w.heap.size+1+1+1) #[.int .u8 e.kind,.int .u8 e.op,.int .u32 e.value,.int .i64 e.width,.string e.name,.slice e.sp.at_ e.subs.length e.sp.cap] (by rfl) (by rfl) 30 zX HSA.out.cr (aM _ _ _ _ _ _) (by rfl) (dH _ _ _ _ _ _ _ _) ?_) | fail)
    obtain ⟨f1,f2,f3⟩:=HSA.out.fin #[.int .u8 e.kind,.int .u8 e.op,.int .u32 e.value,.int .i64 e.width,.string e.name,.slice e.sp.at_ e.subs.length e.sp.cap];exact bodyPost_ret (results_cell_row rfl _ _ (w.heap.size+1+1+1) 30 _ (0,0) _ rfl f1 Tryz.underlying30 rfl (aM _ _ _ _ _ _)) rfl ⟨e,_,rfl,HWX.out,eZ HNA.out _,f2,f3⟩
   ·have hd1:(wd == p.width)=true:=by simp [h1]
    have hd2:(wh != 1)=true:=by simp [h2]
    have HNE:=zhd h2;have HEQ:Hid (M.w=wd):=zhd (by rw [←HWT.out,h1]);clear h1 h2;go_wp2_with fail
    refine (HSUB.out q n lv ls _ p M wh w _ HS1.out 2 ⟨by decide,by decide⟩).mono ?_;rintro o W2 ⟨e1,a2,rfl,hwx,hnx,hm,hb⟩;have HW1:=zhd hwx;have HS2:=zhd hm;have HN1_2:=zhd hnx;clear hwx hnx;clear hm hb HS1 m1 v1 y1 z1;have m2:=HS2.out.boxm;have v2:=HS2.out.boxw;have y2:=HS2.out.boxd;have z2:=HS2.out.base.base.cell 3 rfl;have hba:=zba W2 (.cells #[.int .u8 e1.kind,.int .u8 e1.op,.int .u32 e1.value,.int .i64 e1.width,.string e1.name,.slice e1.sp.at_ e1.subs.length e1.sp.cap] 30);have hbm:=ai (Nat.lt_of_lt_of_le HS2.out.old (Nat.le_trans (Nat.le_add_right _ 4) HS2.out.size)) hba;have HSA:=zhd (HS2.out.on hba);have HNA:Hid (aU (w.heap.size+4) (W2.alloc (.cells #[.int .u8 e1.kind,.int .u8 e1.op,.int .u32 e1.value,.int .i64 e1.width,.string e1.name,.slice e1.sp.at_ e1.subs.length e1.sp.cap] 30)) (.mk 4 0 0 0 ⟨#[]⟩ ⟨some ⟨W2.heap.size,0,none⟩,1⟩ [e1])):=zhd (iT (bz (t:=30) (fr:=(0,0)) (fun _=>rfl) rfl (by simp) (zan W2 (.cells #[.int .u8 e1.kind,.int .u8 e1.op,.int .u32 e1.value,.int .i64 e1.width,.string e1.name,.slice e1.sp.at_ e1.subs.length e1.sp.cap] 30))) HS2.out.size (fun s hs=>by
     simp only [List.mem_cons,List.not_mem_nil,or_false] at hs;rw [hs];exact HN1_2.out.on hbm (by have:=HS2.out.old;omega)) (show (0:Int)≤4∧(4:Int)≤255 by decide) (show (0:Int)≤0∧(0:Int)≤255 by decide) (show (0:Int)≤0∧(0:Int)≤4294967295 by decide) (show (Lit.int .i64 0).wf=true by decide) (show (⟨#[]⟩:ByteArray).size≤maxLen by decide))
    clear hba hbm;go_wp2_with (first | (refine wpList_store_row rfl 30 _ _ rfl (w.heap.size+1+1+1) #[.int .u8 4,.int .u8 0,.int .u32 0,.int .i64 0,.string ⟨#[]⟩,.slice (some ⟨W2.heap.size,0,none⟩) 1 1] (by rfl) (by rfl) 30 zX HSA.out.cr (aM _ _ _ _ _ _) (by rfl) (dH _ _ _ _ _ _ _ _) ?_) | fail)
    obtain ⟨f1,f2,f3⟩:=HSA.out.fin #[.int .u8 4,.int .u8 0,.int .u32 0,.int .i64 0,.string ⟨#[]⟩,.slice (some ⟨W2.heap.size,0,none⟩) 1 1];exact bodyPost_ret (results_cell_row rfl _ _ (w.heap.size+1+1+1) 30 _ (0,0) _ rfl f1 Tryz.underlying30 rfl (aM _ _ _ _ _ _)) rfl ⟨.mk 4 0 0 0 ⟨#[]⟩ ⟨some ⟨W2.heap.size,0,none⟩,1⟩ [e1],_,rfl,(HEQ.out ▸ WX.disk HNE.out HW1.out),eZ HNA.out _,f2,f3⟩
  ·have hd1:(wd == p.width)=false:=by simp [h1]
   clear h1;go_wp2_with fail
   refine (bW q n lv ls _ p M _ HS1.out.base wd wh hwd).mono ?_;rintro o WA ⟨e,aA,rfl,hwx,hnx,hm,hb⟩;have HSA:=zhd (HS1.out.next hm hb);have HWX:=zhd (hwx.rise (d+1));have HNA:Hid (aU (w.heap.size+4) WA e):=zhd ((hnx _).more (Nat.zero_le _));clear hm hb hwx hnx;simp only [ae.val,Sp.val];go_wp2_with (first | (refine wpList_store_row rfl 30 _ _ rfl (w.heap.size+1+1+1) #[.int .u8 e.kind,.int .u8 e.op,.int .u32 e.value,.int .i64 e.width,.string e.name,.slice e.sp.at_ e.subs.length e.sp.cap] (by rfl) (by rfl) 30 zX HSA.out.cr (aM _ _ _ _ _ _) (by rfl) (dH _ _ _ _ _ _ _ _) ?_) | fail)
   obtain ⟨f1,f2,f3⟩:=HSA.out.fin #[.int .u8 e.kind,.int .u8 e.op,.int .u32 e.value,.int .i64 e.width,.string e.name,.slice e.sp.at_ e.subs.length e.sp.cap];exact bodyPost_ret (results_cell_row rfl _ _ (w.heap.size+1+1+1) 30 _ (0,0) _ rfl f1 Tryz.underlying30 rfl (aM _ _ _ _ _ _)) rfl ⟨e,_,rfl,HWX.out,eZ HNA.out _,f2,f3⟩
 ·by_cases h1:wd=p.width
  ·by_cases h2:wh=0
   ·have hd1:(wd == p.width)=true:=by simp [h1]
    have hd2:(wh == 0)=true:=by simp [h2]
    have HNE:=zhd h2;have HEQ:Hid (M.w=wd):=zhd (by rw [←HWT.out,h1]);have HNA0:Hid (M.N.a=⟨#[97]⟩):=zhd (by rw [HS1.out.base.std];rfl);clear h1 h2;go_wp2_with fail
    refine (HSUB.out q n lv ls _ p M wh w _ HS1.out 2 ⟨by decide,by decide⟩).mono ?_;rintro o W2 ⟨e1,a2,rfl,hwx,hnx,hm,hb⟩;have HW1:=zhd hwx;have HS2:=zhd hm;have HN1_2:=zhd hnx;clear hwx hnx;clear hm hb HS1 m1 v1 y1 z1;have m2:=HS2.out.boxm;have v2:=HS2.out.boxw;have y2:=HS2.out.boxd;have z2:=HS2.out.base.base.cell 3 rfl;have hba:=zba W2 (.cells #[.int .u8 e1.kind,.int .u8 e1.op,.int .u32 e1.value,.int .i64 e1.width,.string e1.name,.slice e1.sp.at_ e1.subs.length e1.sp.cap] 30);have hbm:=ai (Nat.lt_of_lt_of_le HS2.out.old (Nat.le_trans (Nat.le_add_right _ 4) HS2.out.size)) hba;have HSA:=zhd (HS2.out.on hba);have HNA:Hid (aU (w.heap.size+4) (W2.alloc (.cells #[.int .u8 e1.kind,.int .u8 e1.op,.int .u32 e1.value,.int .i64 e1.width,.string e1.name,.slice e1.sp.at_ e1.subs.length e1.sp.cap] 30)) (.mk 3 0 0 0 ⟨#[97]⟩ ⟨some ⟨W2.heap.size,0,none⟩,1⟩ [e1])):=zhd (iT (bz (t:=30) (fr:=(0,0)) (fun _=>rfl) rfl (by simp) (zan W2 (.cells #[.int .u8 e1.kind,.int .u8 e1.op,.int .u32 e1.value,.int .i64 e1.width,.string e1.name,.slice e1.sp.at_ e1.subs.length e1.sp.cap] 30))) HS2.out.size (fun s hs=>by
     simp only [List.mem_cons,List.not_mem_nil,or_false] at hs;rw [hs];exact HN1_2.out.on hbm (by have:=HS2.out.old;omega)) (show (0:Int)≤3∧(3:Int)≤255 by decide) (show (0:Int)≤0∧(0:Int)≤255 by decide) (show (0:Int)≤0∧(0:Int)≤4294967295 by decide) (show (Lit.int .i64 0).wf=true by decide) (show (⟨#[97]⟩:ByteArray).size≤maxLen by decide))
    clear hba hbm;go_wp2_with (first | (refine wpList_store_row rfl 30 _ _ rfl (w.heap.size+1+1+1) #[.int .u8 3,.int .u8 0,.int .u32 0,.int .i64 0,.string ⟨#[97]⟩,.slice (some ⟨W2.heap.size,0,none⟩) 1 1] (by rfl) (by rfl) 30 zX HSA.out.cr (aM _ _ _ _ _ _) (by rfl) (dH _ _ _ _ _ _ _ _) ?_) | fail)
    obtain ⟨f1,f2,f3⟩:=HSA.out.fin #[.int .u8 3,.int .u8 0,.int .u32 0,.int .i64 0,.string ⟨#[97]⟩,.slice (some ⟨W2.heap.size,0,none⟩) 1 1];exact bodyPost_ret (results_cell_row rfl _ _ (w.heap.size+1+1+1) 30 _ (0,0) _ rfl f1 Tryz.underlying30 rfl (aM _ _ _ _ _ _)) rfl ⟨.mk 3 0 0 0 ⟨#[97]⟩ ⟨some ⟨W2.heap.size,0,none⟩,1⟩ [e1],_,rfl,(HEQ.out ▸ HNA0.out ▸ WX.elem HNE.out HW1.out),eZ HNA.out _,f2,f3⟩
   ·have hd1:(wd == p.width)=true:=by simp [h1]
    have hd2:(wh == 0)=false:=by simp [h2]
    clear h1 h2;go_wp2_with fail
    refine (bW q n lv ls _ p M _ HS1.out.base wd wh hwd).mono ?_;rintro o WA ⟨e,aA,rfl,hwx,hnx,hm,hb⟩;have HSA:=zhd (HS1.out.next hm hb);have HWX:=zhd (hwx.rise (d+1));have HNA:Hid (aU (w.heap.size+4) WA e):=zhd ((hnx _).more (Nat.zero_le _));clear hm hb hwx hnx;simp only [ae.val,Sp.val];go_wp2_with (first | (refine wpList_store_row rfl 30 _ _ rfl (w.heap.size+1+1+1) #[.int .u8 e.kind,.int .u8 e.op,.int .u32 e.value,.int .i64 e.width,.string e.name,.slice e.sp.at_ e.subs.length e.sp.cap] (by rfl) (by rfl) 30 zX HSA.out.cr (aM _ _ _ _ _ _) (by rfl) (dH _ _ _ _ _ _ _ _) ?_) | fail)
    obtain ⟨f1,f2,f3⟩:=HSA.out.fin #[.int .u8 e.kind,.int .u8 e.op,.int .u32 e.value,.int .i64 e.width,.string e.name,.slice e.sp.at_ e.subs.length e.sp.cap];exact bodyPost_ret (results_cell_row rfl _ _ (w.heap.size+1+1+1) 30 _ (0,0) _ rfl f1 Tryz.underlying30 rfl (aM _ _ _ _ _ _)) rfl ⟨e,_,rfl,HWX.out,eZ HNA.out _,f2,f3⟩
  ·have hd1:(wd == p.width)=false:=by simp [h1]
   clear h1;go_wp2_with fail
   refine (bW q n lv ls _ p M _ HS1.out.base wd wh hwd).mono ?_;rintro o WA ⟨e,aA,rfl,hwx,hnx,hm,hb⟩;have HSA:=zhd (HS1.out.next hm hb);have HWX:=zhd (hwx.rise (d+1));have HNA:Hid (aU (w.heap.size+4) WA e):=zhd ((hnx _).more (Nat.zero_le _));clear hm hb hwx hnx;simp only [ae.val,Sp.val];go_wp2_with (first | (refine wpList_store_row rfl 30 _ _ rfl (w.heap.size+1+1+1) #[.int .u8 e.kind,.int .u8 e.op,.int .u32 e.value,.int .i64 e.width,.string e.name,.slice e.sp.at_ e.subs.length e.sp.cap] (by rfl) (by rfl) 30 zX HSA.out.cr (aM _ _ _ _ _ _) (by rfl) (dH _ _ _ _ _ _ _ _) ?_) | fail)
   obtain ⟨f1,f2,f3⟩:=HSA.out.fin #[.int .u8 e.kind,.int .u8 e.op,.int .u32 e.value,.int .i64 e.width,.string e.name,.slice e.sp.at_ e.subs.length e.sp.cap];exact bodyPost_ret (results_cell_row rfl _ _ (w.heap.size+1+1+1) 30 _ (0,0) _ rfl f1 Tryz.underlying30 rfl (aM _ _ _ _ _ _)) rfl ⟨e,_,rfl,HWX.out,eZ HNA.out _,f2,f3⟩
theorem gK (d:Nat) (hd:d≤11):rF d:=by
 induction d with
 | zero=>exact Gf
 | succ d ih=>exact G6 (by omega) (ih (by omega))
end
section
open Go Go.RowKit
theorem ow {q B b:Nat} {W W':World} (h:Below B (mask q W) (mask q W')) (hb:b<B) (hq:b≠q):W'.heap[b]? = W.heap[b]? := by
 have:=h.block b hb
 rwa [bg hq,bg hq] at this
theorem RowOf.low' {α:Type} {n k lo:Nat} {W:World} {sp:Sp} {enc:α→List Value} {l:List α} (h:RowOf n W sp k enc l) (hb:∀a,sp.at_=some a→lo≤a.block):RowOf n (dA lo W) sp k enc l :=
 ⟨h.cap,h.big,h.few,fun h0=>by
  obtain ⟨b,off,e,hlt,hc⟩:=h.row h0;exact ⟨b,off,e,hlt,fun j hj r u hu=>av.2 ⟨(by have:=hb _ e;exact this),hc j hj r u hu⟩⟩⟩
theorem jY {lo:Nat} {W:World} {A:Option Addr} {n c:Nat} {l:List aa} (h:aG lo W 43 6 aa.cells (.slice A n c) l) (hs:∀s,s∈l→gN lo W s) (hl:l.length≤1000):dz lo W ⟨A,c⟩ l:=by
 obtain ⟨sp,e,hr,hb⟩:=h.row (fun _=>rfl) (by omega);have:sp=⟨A,c⟩:=by
  unfold Sp.val at e;injection e with e1 e2 e3;rw [e1,e3]
 subst this;exact ⟨hr.low' fun a ha=>(hb a ha).1,hs⟩
theorem bN {lo:Nat} {W:World} {k bd:Int} {nm:ByteArray} {es ts os:Sp} {ex:List ae} {th el:List aa} (he:RowOf W.heap.size (dA lo W) es 6 ae.cells ex) (hx:∀e,e∈ex→aU lo W e) (ht:dz lo W ts th) (ho:dz lo W os el) (hk:0≤k∧k≤255) (hb:(Lit.int .i64 bd).wf=true) (hn:nm.size≤maxLen):gN lo W (.mk k nm es ex bd ts th os el) :=
 .mk _ hk hb hn he hx ht.1 ht.2 ho.1 ho.2
theorem aI {lo:Nat} {W:World}:dz lo W Sp.none []:=⟨RowOf.nil,fun _ h=>absurd h (by simp)⟩
theorem gN.set {lo g:Nat} {W:World} {s:aa} {cs:Array Value} (h:gN lo W s) (hg:g<lo):gN lo (W.setRow g cs) s:=by
 unfold gN;rw [size_setRow];exact gz.cells h (pI hg)
theorem gN.below {lo:Nat} {W W':World} {s:aa} (h:gN lo W s) (hb:Below W.heap.size W W'):gN lo W' s :=
 (gz.cells h fun _ _ hp hc=>av.2 ⟨(av.1 hc).1,(hb.cell hp).trans (av.1 hc).2⟩).more hb.size
theorem aU.below {lo:Nat} {W W':World} {s:ae} (h:aU lo W s) (hb:Below W.heap.size W W'):aU lo W' s :=
 (iG.cells h fun _ _ hp hc=>av.2 ⟨(av.1 hc).1,(hb.cell hp).trans (av.1 hc).2⟩).more hb.size
theorem dz.below {lo:Nat} {W W':World} {sp:Sp} {l:List aa} (h:dz lo W sp l) (hb:Below W.heap.size W W'):dz lo W' sp l :=
 ⟨(h.1.cells fun _ _ hp hc=>av.2 ⟨(av.1 hc).1,(hb.cell hp).trans (av.1 hc).2⟩).more hb.size,fun s hs=>(h.2 s hs).below hb⟩
def gH (g:Option Nat) (W:World):World:=match g with | some b=>mask b W | none=>W
theorem mF {g:Option Nat} {W:World} {p:Addr} {u:Value}:(gH g W).cell? p=some u↔g≠some p.block∧W.cell? p=some u:=by
 cases g with
 | none=>simp [gH]
 | some b =>
  by_cases h:p.block=b
  ·constructor
   ·intro hc
    exfalso
    simp only [gH,World.cell?,h,jG] at hc
    split at hc
    ·next hh =>
     split at hh
     ·cases hh
      split at hc
      ·cases hc
      ·simp at hc
     ·cases hh
    ·cases hc
   ·rintro ⟨h1,_⟩
    exact absurd (by rw [h]) h1
  ·have e:(gH (some b) W).cell? p=W.cell? p:=World.cell?_of_block (bg h)
   rw [e];exact ⟨fun hc=>⟨fun e=>h (Option.some.inj e).symm,hc⟩,fun hc=>hc.2⟩
def dK (lo:Nat) (g:Option Nat) (W:World) (s:aa):Prop:=gz W.heap.size (dA lo (gH g W)) s
theorem bH {lo:Nat} {g:Option Nat} {W:World} {p:Addr} {u:Value}:(dA lo (gH g W)).cell? p=some u↔lo≤p.block∧g≠some p.block∧W.cell? p=some u:=by rw [av,mF]
section
variable {lo q:Nat} {g:Option Nat} {W W':World} {s:aa}
theorem dK.newT (h:dK lo g W s):gN lo W s:=gz.cells h fun _ _ _ hc=>av.2 ⟨(bH.1 hc).1,(bH.1 hc).2.2⟩
theorem dK.on (h:dK lo g W s) (hb:Below W.heap.size (mask q W) (mask q W')) (hq:q<lo):dK lo g W' s :=
 (gz.cells h fun p u hp hc=>by
  obtain ⟨h1,h2,h3⟩:=bH.1 hc;exact bH.2 ⟨h1,h2,(World.cell?_of_block (ow hb hp (by omega))).trans h3⟩).more (bS hb)
theorem dK.below (h:dK lo g W s) (hb:Below W.heap.size W W'):dK lo g W' s :=
 (gz.cells h fun _ _ hp hc=>bH.2 ⟨(bH.1 hc).1,(bH.1 hc).2.1,(hb.cell hp).trans (bH.1 hc).2.2⟩).more hb.size
theorem dK.less {lo':Nat} (h:dK lo g W s) (hl:lo'≤lo):dK lo' g W s :=
 gz.cells h fun _ _ _ hc=>bH.2 ⟨by have:=(bH.1 hc).1;omega,(bH.1 hc).2⟩
theorem dK.grow {g':Option Nat} (h:dK lo g W s) (hg:W.grownBy W' g) (hat:g'=g∨g'=some W.heap.size):dK lo g' W' s :=
 (gz.cells h fun p u hp hc=>by
  obtain ⟨h1,h2,h3⟩:=bH.1 hc;refine bH.2 ⟨h1,?_,(World.cell?_of_block (hg.block _ hp (fun e=>h2 e.symm))).trans h3⟩;rcases hat with rfl | rfl
  ·exact h2
  ·intro e
   have:=Option.some.inj e;omega).more hg.size
theorem gN.tox {lo':Nat} (h:gN lo W s) (hg:∀b,g=some b→b<lo) (hl:lo'≤lo):dK lo' g W s :=
 gz.cells h fun p u _ hc=>by
  obtain ⟨h1,h2⟩:=av.1 hc;exact bH.2 ⟨by omega,fun e=>by have:=hg _ e;omega,h2⟩
end
theorem aG.old_block {α:Type} {k B:Nat} {enc:α→List Value} {e:TypeId} {v:Value} {l:List α} {W:World} (h:aG B W e k enc v l):∀b,v.ownBlock=some b→b<W.heap.size:=fun b hb=>by
 obtain ⟨_,cs,fr,hh⟩:=h.own_type hb;exact (zgs hh).1
end
end Go.Proofs.YtepacjkacjabbaaGreatDoor
