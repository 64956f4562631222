import Derived.Test.YtepacjkacjabbaaGreatDoorPAA
import Derived.Test.YtepacjkacjabbaaGreatDoorPAN
import Derived.Test.YtepacjkacjabbaaGreatDoorPAI
import Derived.Deep.CutBlock
import Derived.Deep.CutRange
import Derived.Test.YtepacjkacjabbaaGreatDoorPAC
import Derived.Deep.Draws
import Derived.StillTailTactics
import Derived.Deep.RegionHeld3
import Derived.Deep.QuietTactic
import Derived.BigQuiet
import Derived.Outline
namespace Go.Proofs.YtepacjkacjabbaaGreatDoor
section
open Go Go.RowKit Go.Maps Go.Lib
def MxAt (W:World):Prop:=∃m,W.cell? ⟨0,0,none⟩=some (.int .i64 m)
theorem MxAt.below {B:Nat} {W W':World} (h:MxAt W) (hb:Below B W W') (hB:0<B):MxAt W':=by
 obtain ⟨m,hm⟩:=h;exact ⟨m,(hb.cell (p:=⟨0,0,none⟩) hB).trans hm⟩
def DL:ByteArray:=⟨#[97,98,99,100,101,102,103,104,105,106,107,108,109,110,111,112,113,114,115,116,117,118,119,120,121,122,48,49,50,51,52,53,54,55,56,57,95]⟩
theorem FT:DL.data.toList=rO:=by decide
def rF:ByteArray:=⟨#[32,100,101,118,105,99,101,32,119,105,100,116,104,32,105,110,112,117,116,32,103,104,111,115,116,32,118,97,114,32,97,114,114,97,121,32,114,101,113,117,105,114,101,32,105,110,105,116,32,112,114,111,99,32,119,111,114,107,32,114,101,99,111,118,101,114,32,105,110,118,97,114,105,97,110,116,32,102,108,117,115,104,32,98,97,114,114,105,101,114,32,119,114,105,116,101,32,105,102,32,101,108,115,101,32,119,104,105,108,101,32,98,111,117,110,100,32,99,97,108,108,32,100,105,115,107,32]⟩
theorem zI:rF.data.toList=qd wO:=by decide
theorem qc (t:ByteArray):t.toList.isEmpty=t.data.toList.isEmpty:=by rw [ByteArray.toList_eq]
theorem KL (s:ByteArray):(({ data:=#[32] }:ByteArray)++s++{ data:=#[32] }).data.toList=32::(s.data.toList++[32]):=by simp
set_option maxRecDepth 100000 in
set_option maxHeartbeats 2000000 in
theorem Dg (w:World) (s:ByteArray) (hs:s.size≤4294967200) (hmx:MxAt w) :
  Calls Tryz.prog 272 #[.string s] w fun o w'=>o=.returned (.bool (iZ s.data.toList))∧Below w.heap.size w w':=by
 obtain ⟨m,hm⟩:=hmx;have hT:=Any.strings_Trim_laid Tryz.lays160 (by kernel_rfl) s DL w (by omega) (by decide) (ascii_of_all (by decide));have hC:=Tryz.strings_Contains rF ({ data:=#[32] }++s++{ data:=#[32] }) m w (by decide) hm;rw [zI,KL] at hC;rw [FT] at hT;have hem:=qc s;have hsz:s.size=s.data.toList.length:=by simp
 have hG:=Df s.data.toList;unfold zl at hG;rw [←hG];clear hG hm;obtain ⟨tr,htr⟩:∃tr,Lib.trimS s.data.toList rO=tr:=⟨_,rfl⟩;rw [htr] at hT ⊢;obtain ⟨ct,hct⟩:∃ct,Lib.contains (qd wO) (32::(s.data.toList++[32]))=ct:=⟨_,rfl⟩;rw [hct] at hC ⊢;have HC:=zhd hC;have HT:=zhd hT;unfold rF at HC;unfold DL at HT;clear hC hT htr hct;cases hL:s.data.toList with
 | nil =>
  rw [hL] at hem hsz;have hem2:s.toList.isEmpty=true:=hem;clear hem HC HT hL;go_enter Tryz.func272,Tryz.ntmps272
  go_wp2_with fail
  go_ret
  exact ⟨by simp,Below.refl _ _⟩
 | cons c r =>
  rw [hL] at hem hsz;have hem2:s.toList.isEmpty=false:=hem;have h0:0<s.size:=by rw [hsz];simp
  have hc0:s[0]'h0=c:=by
   show s.data[0]=c;rw [←Array.getElem_toList];simp only [hL,List.getElem_cons_zero]
  have HSZ:=zhd hsz;clear hem hsz hL;by_cases h16:s.size≤16
  ·have hd16:decide ((16:Int)<(s.size:Int))=false:=decide_eq_false (by omega)
   have hr16:decide ((c::r).length≤16)=true:=decide_eq_true (by rw [←HSZ.out];exact h16);rw [hr16];have hca:(s[0]'h0).toNat=c.toNat:=by rw [hc0]
   obtain ⟨k,hk⟩:∃k,c.toNat=k:=⟨_,rfl⟩;have hlw:lower c=decide (97≤k∧k≤122):=by unfold lower;rw [hk]
   rw [hk] at hca
   dsimp only
   rw [hlw];clear hlw hk hc0;by_cases h97:k<97
   ·have hd97:decide ((k:Int)<97)=true:=decide_eq_true (by omega)
    have hres:decide (97≤k∧k≤122)=false:=decide_eq_false (by omega);rw [hres];clear hres HC HT;go_enter Tryz.func272,Tryz.ntmps272
    go_wp2_with fail
    go_ret
    exact ⟨by simp,Below.refl _ _⟩
   ·have hd97:decide ((k:Int)<97)=false:=decide_eq_false (by omega)
    by_cases h122:122<k
    ·have hd122:decide ((122:Int)<(k:Int))=true:=decide_eq_true (by omega)
     have hres:decide (97≤k∧k≤122)=false:=decide_eq_false (by omega);rw [hres];clear hres HC HT;go_enter Tryz.func272,Tryz.ntmps272
     go_wp2_with fail
     go_ret
     exact ⟨by simp,Below.refl _ _⟩
    ·have hd122:decide ((122:Int)<(k:Int))=false:=decide_eq_false (by omega)
     have hres:decide (97≤k∧k≤122)=true:=decide_eq_true (by omega);rw [hres];clear hres;cases ct with
     | true =>
      clear HT;go_enter Tryz.func272,Tryz.ntmps272
      go_wp2_with (first | (go_at_call 279;refine HC.out.mono ?_;rintro o2 w2 ⟨rfl,rfl⟩) | fail)
      go_ret
      exact ⟨by simp,Below.refl _ _⟩
     | false =>
      have hte:=qc ⟨tr.toArray⟩;cases htt:tr.isEmpty
      all_goals
       have hte2:(ByteArray.mk tr.toArray).toList.isEmpty=_:=hte.trans htt;have HTT:=zhd htt;clear hte htt;go_enter Tryz.func272,Tryz.ntmps272
       go_wp2_with (first | (go_at_call 279;refine HC.out.mono ?_;rintro o2 w2 ⟨rfl,rfl⟩) | (go_at_call 280;refine HT.out.mono ?_;rintro o3 w3 ⟨rfl,hb3⟩) | fail)
       go_ret
       exact ⟨by have h:=HTT.out;cases tr <;> simp at h ⊢,hb3⟩
  ·have hd16:decide ((16:Int)<(s.size:Int))=true:=decide_eq_true (by omega)
   have hr16:decide ((c::r).length≤16)=false:=decide_eq_false (by rw [←HSZ.out];exact h16);rw [hr16];clear HC HT;go_enter Tryz.func272,Tryz.ntmps272
   go_wp2_with fail
   go_ret
   exact ⟨by simp,Below.refl _ _⟩
theorem GJ (s sep:List UInt8):(Lib.cut s sep).1.length≤s.length∧(Lib.cut s sep).2.1.length≤s.length:=by
 unfold Lib.cut
 split
 ·simp;omega
 ·simp
set_option maxRecDepth 1000000 in
set_option maxHeartbeats 2000000 in
theorem vN {K:gp} {pm:Option Nat} {E:Env} {n:Int} {over:Bool} (w:World) (hk:jv K pm E n over w) (s:ByteArray) (hs:s.size≤4294967200) (hmx:MxAt w) :
  Calls Tryz.prog 255 #[.pointer (some ⟨K.q,0,none⟩),.string s] w fun o w'=>o=.returned (.bool (ig K.p s.data.toList))∧Below w.heap.size w w':=by
 have hmx2:=hmx;obtain ⟨m,hm⟩:=hmx;have hC:=Tryz.strings_Cut s ⟨#[46]⟩ m w (by omega) hm;have h46:(⟨#[46]⟩:ByteArray).data.toList=[46]:=rfl;rw [h46] at hC;have hcd:=xJ s.data.toList;obtain ⟨hl1,hl2⟩:=GJ s.data.toList [46];have hsz:s.data.toList.length=s.size:=by simp
 have hnb:ig K.p s.data.toList=if (Lib.cut s.data.toList [46]).2.2=true then (if K.p.procs.length=0 then iZ (Lib.cut s.data.toList [46]).1 && iZ (Lib.cut s.data.toList [46]).2.1 else iZ s.data.toList) else iZ s.data.toList:=by
  unfold ig;rw [hcd]
  split
  ·rename_i h;split at h
   ·rename_i h2;rw [if_pos h2];cases h;rfl
   ·cases h
  ·rename_i h;split at h
   ·cases h
   ·rename_i h2;rw [if_neg h2]
 rw [hnb];clear hcd hnb hm h46;generalize (Lib.cut s.data.toList [46]).1=a at *;generalize (Lib.cut s.data.toList [46]).2.1=b at *;generalize (Lib.cut s.data.toList [46]).2.2=two at *;have hk0:=hk.new (W':=w) (Below.refl _ _);have HNX:Hid (∀(t:ByteArray) (W:World),t.size≤s.size→Below w.heap.size w W→Calls Tryz.prog 272 #[.string t] W fun o w'=>o=.returned (.bool (iZ t.data.toList))∧Below W.heap.size W w'):=zhd fun t W ht hW =>
  Dg W t (by omega) (hmx2.below hW (by have:=hk.lt;have:=hk.q;have:=hk.n0;omega))
 have ha:(⟨a.toArray⟩:ByteArray).size≤s.size:=by show a.toArray.size≤_;simp;omega
 have hb:(⟨b.toArray⟩:ByteArray).size≤s.size:=by show b.toArray.size≤_;simp;omega
 have HA:=zhd ha;have HB:=zhd hb;have HC:=zhd hC;have HK:=zhd hk;have hpl:=hk.prog.prow.few;clear hk hk0 ha hb hl1 hl2 hsz hC hs hmx2;have hea:(⟨a.toArray⟩:ByteArray).data.toList=a:=by simp
 have heb:(⟨b.toArray⟩:ByteArray).data.toList=b:=by simp
 generalize (⟨a.toArray⟩:ByteArray)=ab at *;generalize (⟨b.toArray⟩:ByteArray)=bb at *;subst hea heb;have hbd:∀n,Below w.heap.size w (w.drewN n):=fun n=>⟨rfl,rfl,rfl,Nat.le_refl _,fun _ _=>rfl⟩
 have HBD:=zhd hbd;clear hbd;have c13:=HK.out.c13;cases two with
 | false =>
  go_enter Tryz.func255,Tryz.ntmps255
  go_wp2_with (first | (go_at_call 19;refine HC.out.mono ?_;rintro o2 w2 ⟨rfl,nq,rfl⟩) | (go_at_call 272;refine (HNX.out s _ (Nat.le_refl _) (HBD.out nq)).mono ?_;rintro o3 w3 ⟨rfl,hb3⟩) | fail)
  go_ret
  exact ⟨rfl,(HBD.out nq).trans (hb3.mono (Nat.le_refl _))⟩
 | true =>
  by_cases hp:K.p.procs.length=0
  ·have hz:((K.p.procs.length:Int) == 0)=true:=beq_iff_eq.2 (by omega)
   have hzd:decide (K.p.procs.length=0)=true:=decide_eq_true hp;rw [if_pos rfl,if_pos hp];clear hp;cases hia:iZ ab.data.toList with
   | true =>
    have HIA:=zhd hia;clear hia;go_enter Tryz.func255,Tryz.ntmps255
    go_upto_region 3 with (first | (go_at_call 19;refine HC.out.mono ?_;rintro o2 w2 ⟨rfl,nq,rfl⟩) | fail)
    have HN1:=zhd (HNX.out ab _ HA.out (HBD.out nq));rw [HIA.out] at HN1;clear c13;go_wp2_with (first | (go_at_call 272;refine HN1.out.mono ?_;clear HN1;rintro o3 w3 ⟨rfl,hb3⟩;have HB3:=zhd hb3;have HN2:=zhd (HNX.out bb w3 HB.out ((HBD.out nq).trans (hb3.mono (Nat.le_refl _))));clear hb3) | (go_at_call 272;refine HN2.out.mono ?_;rintro o4 w4 ⟨rfl,hb4⟩) | fail)
    go_ret
    have h3:w.heap.size≤w3.heap.size:=HB3.out.size;have h03:Below w.heap.size w w3:=(HBD.out nq).trans HB3.out;exact ⟨by rw [Bool.true_and];rfl,h03.trans (hb4.mono h3)⟩
   | false =>
    have HIA:=zhd hia;clear hia;go_enter Tryz.func255,Tryz.ntmps255
    go_upto_region 3 with (first | (go_at_call 19;refine HC.out.mono ?_;rintro o2 w2 ⟨rfl,nq,rfl⟩) | fail)
    have HN1:=zhd (HNX.out ab _ HA.out (HBD.out nq));rw [HIA.out] at HN1;go_wp2_with (first | (go_at_call 272;refine HN1.out.mono ?_;rintro o3 w3 ⟨rfl,hb3⟩) | fail)
    go_ret
    exact ⟨by rw [Bool.false_and];rfl,(HBD.out nq).trans (hb3.mono (Nat.le_refl _))⟩
  ·have hz:((K.p.procs.length:Int) == 0)=false:=beq_eq_false_iff_ne.2 (by omega)
   have hzd:decide (K.p.procs.length=0)=false:=decide_eq_false hp;rw [if_pos rfl,if_neg hp];clear hp;go_enter Tryz.func255,Tryz.ntmps255
   go_wp2_with (first | (go_at_call 19;refine HC.out.mono ?_;rintro o2 w2 ⟨rfl,nq,rfl⟩) | (go_at_call 272;refine (HNX.out s _ (Nat.le_refl _) (HBD.out nq)).mono ?_;rintro o3 w3 ⟨rfl,hb3⟩) | fail)
   go_ret
   exact ⟨rfl,(HBD.out nq).trans (hb3.mono (Nat.le_refl _))⟩
end
section
open Go Go.RowKit
def JM:List ByteArray:=[⟨#[]⟩,⟨#[126]⟩,⟨#[45]⟩,⟨#[43]⟩,⟨#[45]⟩,⟨#[42]⟩,⟨#[47]⟩,⟨#[37]⟩,⟨#[38]⟩,⟨#[124]⟩,⟨#[94]⟩,⟨#[60,60]⟩,⟨#[62,62]⟩,⟨#[61,61]⟩,⟨#[33,61]⟩,⟨#[60]⟩,⟨#[60,61]⟩]
def jd (k:Nat):ByteArray:=JM.getD k ⟨#[]⟩
def jw (k:Nat):Int:=[0,0,0,5,5,6,6,6,2,1,1,4,4,3,3,3,3].getD k 0
def Fu (k:Nat):Value:=aZ.getD (k*4+3) undef
theorem rV {p:Nat→Prop} (k:Nat) (h:k≤16) (h0:p 0) (h1:p 1) (h2:p 2) (h3:p 3) (h4:p 4) (h5:p 5) (h6:p 6) (h7:p 7) (h8:p 8) (h9:p 9) (h10:p 10) (h11:p 11) (h12:p 12) (h13:p 13) (h14:p 14) (h15:p 15) (h16:p 16):p k:=by
 rcases (show k=0∨k=1∨k=2∨k=3∨k=4∨k=5∨k=6∨k=7∨k=8∨k=9∨k=10∨k=11∨k=12∨k=13∨k=14∨k=15∨k=16 by omega) with rfl | rfl | rfl | rfl | rfl | rfl | rfl | rfl | rfl | rfl | rfl | rfl | rfl | rfl | rfl | rfl | rfl <;> assumption
theorem I7 (k:Nat) (h:k≤16):aZ[k*4]? = some (.string (jd k)):=by
 refine rV (p:=fun k=>aZ[k*4]? = some (.string (jd k))) k h ?_ ?_ ?_ ?_ ?_ ?_ ?_ ?_ ?_ ?_ ?_ ?_ ?_ ?_ ?_ ?_ ?_ <;> rfl
theorem zD (k:Nat) (h:k≤16):(jd k).toList.isEmpty=decide (k=0):=by
 refine rV (p:=fun k=>(jd k).toList.isEmpty=decide (k=0)) k h ?_ ?_ ?_ ?_ ?_ ?_ ?_ ?_ ?_ ?_ ?_ ?_ ?_ ?_ ?_ ?_ ?_ <;> (rw [ByteArray.toList_eq];rfl)
theorem yE (k:Nat) (h:k≤16) (w:World):(Instr.index 311 (.agg aZ) (.int .u8 (k:Int))).run Tryz.prog w=.ok (.agg #[.string (jd k),.int .i64 (jw k),.bool (ji (k:Int)),Fu k]) w:=by
 refine rV (p:=fun k=>(Instr.index 311 (.agg aZ) (.int .u8 (k:Int))).run Tryz.prog w=.ok (.agg #[.string (jd k),.int .i64 (jw k),.bool (ji (k:Int)),Fu k]) w) k h ?_ ?_ ?_ ?_ ?_ ?_ ?_ ?_ ?_ ?_ ?_ ?_ ?_ ?_ ?_ ?_ ?_ <;> kernel_rfl
theorem I8 (k:Nat) (h:k≤16) (w:World):(Instr.field 310 (.agg #[.string (jd k),.int .i64 (jw k),.bool (ji (k:Int)),Fu k]) 1).run Tryz.prog w=.ok (.int .i64 (jw k)) w:=by
 refine rV (p:=fun k=>(Instr.field 310 (.agg #[.string (jd k),.int .i64 (jw k),.bool (ji (k:Int)),Fu k]) 1).run Tryz.prog w=.ok (.int .i64 (jw k)) w) k h ?_ ?_ ?_ ?_ ?_ ?_ ?_ ?_ ?_ ?_ ?_ ?_ ?_ ?_ ?_ ?_ ?_ <;> kernel_rfl
theorem F6 (k:Nat) (h:k≤16) (w:World):(Instr.field 310 (.agg #[.string (jd k),.int .i64 (jw k),.bool (ji (k:Int)),Fu k]) 2).run Tryz.prog w=.ok (.bool (ji (k:Int))) w:=by
 refine rV (p:=fun k=>(Instr.field 310 (.agg #[.string (jd k),.int .i64 (jw k),.bool (ji (k:Int)),Fu k]) 2).run Tryz.prog w=.ok (.bool (ji (k:Int))) w) k h ?_ ?_ ?_ ?_ ?_ ?_ ?_ ?_ ?_ ?_ ?_ ?_ ?_ ?_ ?_ ?_ ?_ <;> kernel_rfl
set_option maxRecDepth 1000000 in
set_option maxHeartbeats 2000000 in
theorem Fg (k:Nat) (h:k≤16) (w:World):Calls Tryz.prog 273 #[.int .u8 (k:Int)] w fun o w'=>o=.returned (.string (jd k))∧Below w.heap.size w w':=by
 have hb:=zba w (.cells aZ 311);have hT:=nJ w;have hc:∀w1:World,(w1.alloc (.cells aZ 311)).cell? ⟨w1.heap.size,k*4,none⟩=some (.string (jd k)):=fun w1=>(cell_of_row _ _ _ _ _ _ (heap_alloc_last w1 _)).trans (I7 k h)
 have h0:(0:Int)≤(k:Int):=by omega
 have h1:decide (17≤(k:Int))=false:=decide_eq_false (by omega);have h1':decide (17≤k)=false:=decide_eq_false (by omega);have h2:(k:Int)<17:=by omega
 have HT:=zhd hT;have HB:=zhd hb;clear hT hb;go_enter Tryz.func273,Tryz.ntmps273
 go_wp2_with fail
 refine HT.out.mono ?_;rintro o w1 ⟨rfl,rfl⟩;have hcc:=hc (w.alloc (.cells aZ 311));have HB2:=zhd (HB.out.alloc HB.out.size (.cells aZ 311));clear hc;generalize w.alloc (.cells aZ 311)=w1 at *;go_wp2_with (first
  | (refine aO (t:=311) rfl rfl (mM _) ?_)
  | (refine fU (t:=311) rfl _ _ rfl rfl rfl qE (by kernel_rfl) zN ?_)
  | fail)
 go_ret
 exact ⟨rfl,HB2.out⟩
set_option maxRecDepth 1000000 in
set_option maxHeartbeats 2000000 in
theorem Ff (k:Nat) (h:17≤k) (h':k≤255) (w:World):Calls Tryz.prog 273 #[.int .u8 (k:Int)] w fun o w'=>o=.returned (.string ⟨#[]⟩)∧Below w.heap.size w w':=by
 have hb:=zba w (.cells aZ 311);have hT:=nJ w;have h0:(0:Int)≤(k:Int):=by omega
 have h1:decide (17≤(k:Int))=true:=decide_eq_true (by omega);have h1':decide (17≤k)=true:=decide_eq_true (by omega);have h2:(k:Int)<256:=by omega
 have HT:=zhd hT;have HB:=zhd hb;clear hT hb;go_enter Tryz.func273,Tryz.ntmps273
 go_wp2_with fail
 refine HT.out.mono ?_;rintro o w1 ⟨rfl,rfl⟩;have HB2:=zhd (HB.out.alloc HB.out.size (.cells aZ 311));generalize w.alloc (.cells aZ 311)=w1 at *;go_wp2_with (first
  | (refine aO (t:=311) rfl rfl (mM _) ?_)
  | (refine fU (t:=311) rfl _ _ rfl rfl rfl qE (by kernel_rfl) zN ?_)
  | fail)
 go_ret
 exact ⟨rfl,HB2.out⟩
def iK (k:Nat):ByteArray:=if k≤16 then jd k else ⟨#[]⟩
theorem vM (k:Nat) (h:k≤255) (w:World):Calls Tryz.prog 273 #[.int .u8 (k:Int)] w fun o w'=>o=.returned (.string (iK k))∧Below w.heap.size w w':=by
 by_cases hk:k≤16
 ·rw [iK,if_pos hk];exact Fg k hk w
 ·rw [iK,if_neg hk];exact Ff k (by omega) h w
theorem lF (k:Nat):(iK k).toList.isEmpty=!qp (k:Int):=by
 unfold iK;by_cases hk:k≤16
 ·rw [if_pos hk,zD k hk,qp]
  by_cases h0:k=0
  ·subst h0;rfl
  ·rw [decide_eq_false h0,decide_eq_true (by omega:1≤(k:Int)∧(k:Int)≤16)];rfl
 ·rw [if_neg hk,qp,decide_eq_false (by omega:¬(1≤(k:Int)∧(k:Int)≤16)),ByteArray.toList_eq];rfl
set_option maxRecDepth 1000000 in
set_option maxHeartbeats 2000000 in
theorem IG (k:Nat) (h:k≤255) (w:World):Calls Tryz.prog 281 #[.int .u8 (k:Int)] w fun o w'=>o=.returned (.int .i64 (if qp (k:Int)=true then jw k else 0))∧Below w.heap.size w w':=by
 have HN:=zhd (vM k h w);have hE:=lF k;cases ho:qp (k:Int) with
 | false =>
  rw [ho] at hE;have hE':(iK k).toList=[]:=by simpa using hE
  generalize iK k=s at *;go_enter Tryz.func281,Tryz.ntmps281
  go_wp2_with fail
  refine HN.out.mono ?_;rintro o w1 ⟨rfl,hb1⟩;have HB1:=zhd hb1;clear hb1;go_wp2_with fail
  go_ret
  exact ⟨by simp,HB1.out⟩
 | true =>
  rw [ho] at hE;have hk:k≤16:=by have:=of_decide_eq_true ho;omega
  have hE':(!(iK k).toList.isEmpty)=true:=by rw [hE];rfl
  simp only [Bool.not_true] at hE;have hT:=fun W=>nJ W
  have hI:=yE k hk;have hF:=I8 k hk;generalize iK k=s at *;have HT:=zhd hT;clear hT;go_enter Tryz.func281,Tryz.ntmps281
  go_wp2_with fail
  refine HN.out.mono ?_;rintro o w1 ⟨rfl,hb1⟩;have HB1:=zhd hb1;clear hb1;go_wp2_with fail
  refine (HT.out _).mono ?_;rintro o w2 ⟨rfl,rfl⟩;have HB2:=zhd (HB1.out.alloc HB1.out.size (.cells aZ 311));generalize w1.alloc (.cells aZ 311)=w2 at *;go_wp2_with fail
  go_ret
  exact ⟨by simp,HB2.out⟩
theorem Dz (k:Nat):decide ((0:Int)<(if qp (k:Int)=true then jw k else 0))=om (k:Int):=by
 by_cases hk:k≤16
 ·refine rV (p:=fun k=>decide ((0:Int)<(if qp (k:Int)=true then jw k else 0))=om (k:Int)) k hk ?_ ?_ ?_ ?_ ?_ ?_ ?_ ?_ ?_ ?_ ?_ ?_ ?_ ?_ ?_ ?_ ?_ <;> rfl
 ·rw [qp,decide_eq_false (by omega:¬(1≤(k:Int)∧(k:Int)≤16)),om,decide_eq_false (by omega:¬(3≤(k:Int)∧(k:Int)≤16))];rfl
set_option maxRecDepth 1000000 in
theorem Er (k:Nat) (h:k≤255) (w:World):Calls Tryz.prog 274 #[.int .u8 (k:Int)] w fun o w'=>o=.returned (.bool (om (k:Int)))∧Below w.heap.size w w':=by
 have HN:=zhd (IG k h w);have hE:=Dz k;rw [←hE];clear hE;generalize (if qp (k:Int)=true then jw k else 0)=r at *;go_enter Tryz.func274,Tryz.ntmps274
 go_wp2_with fail
 refine HN.out.mono ?_;rintro o w1 ⟨rfl,hb1⟩;have HB1:=zhd hb1;clear hb1;go_wp2_with fail
 go_ret
 exact ⟨rfl,HB1.out⟩
def L9 (w:World) (r:Int) (o:Ending) (w':World):Prop:=∃er:Int,o=.returned (.tuple #[.int .i64 r,.int .i64 er])∧Below w.heap.size w w'
set_option maxRecDepth 1000000 in
set_option maxHeartbeats 2000000 in
theorem sP (k:Nat) (h:k≤255) (n:Int) (w:World):Calls Tryz.prog 261 #[.int .u8 (k:Int),.int .i64 n] w (L9 w (iL (k:Int) n)):=by
 have HN:=zhd (vM k h w);have hE:=lF k;unfold iL;cases ho:qp (k:Int) with
 | false =>
  rw [ho] at hE;have hE':(iK k).toList=[]:=by simpa using hE
  generalize iK k=s at *;go_enter Tryz.func261,Tryz.ntmps261
  go_wp2_with fail
  refine HN.out.mono ?_;rintro o w1 ⟨rfl,hb1⟩;have HB1:=zhd hb1;clear hb1;go_wp2_with fail
  go_returns
  exact ⟨_,rfl,HB1.out⟩
 | true =>
  rw [ho] at hE;have hk:k≤16:=by have:=of_decide_eq_true ho;omega
  have hE':(!(iK k).toList.isEmpty)=true:=by rw [hE];rfl
  simp only [Bool.not_true] at hE;have hM:=fun W=>Bj n W
  generalize iK k=s at *;have HM:=zhd hM;clear hM;cases hw:bG n with
  | false =>
   have e2:nY n=220:=by simp [nY,hw]
   rw [e2] at HM;generalize qh n=mw at *;go_enter Tryz.func261,Tryz.ntmps261
   go_wp2_with fail
   refine HN.out.mono ?_;rintro o w1 ⟨rfl,hb1⟩;have HB1:=zhd hb1;clear hb1;go_wp2_with fail
   refine (HM.out _).mono ?_;rintro o w2 ⟨rfl,rfl⟩;go_wp2_with fail
   go_returns
   exact ⟨_,rfl,HB1.out⟩
  | true =>
   have e2:nY n=0:=by simp [nY,hw]
   rw [e2] at HM;generalize qh n=mw at *;have hI:=yE k hk;have hF:=F6 k hk;have hT:=fun W=>nJ W
   have HT:=zhd hT;clear hT;cases ht:ji (k:Int) with
   | false =>
    simp only [ht] at hI hF;go_enter Tryz.func261,Tryz.ntmps261
    go_wp2_with fail
    refine HN.out.mono ?_;rintro o w1 ⟨rfl,hb1⟩;have HB1:=zhd hb1;clear hb1;go_wp2_with fail
    refine (HM.out _).mono ?_;rintro o w2 ⟨rfl,rfl⟩;go_wp2_with fail
    refine (HT.out _).mono ?_;rintro o w2 ⟨rfl,rfl⟩;have HB2:=zhd (HB1.out.alloc HB1.out.size (.cells aZ 311));generalize w1.alloc (.cells aZ 311)=w2 at *;go_wp2_with fail
    go_returns
    exact ⟨_,rfl,HB2.out⟩
   | true =>
    simp only [ht] at hI hF;go_enter Tryz.func261,Tryz.ntmps261
    go_wp2_with fail
    refine HN.out.mono ?_;rintro o w1 ⟨rfl,hb1⟩;have HB1:=zhd hb1;clear hb1;go_wp2_with fail
    refine (HM.out _).mono ?_;rintro o w2 ⟨rfl,rfl⟩;go_wp2_with fail
    refine (HT.out _).mono ?_;rintro o w2 ⟨rfl,rfl⟩;have HB2:=zhd (HB1.out.alloc HB1.out.size (.cells aZ 311));generalize w1.alloc (.cells aZ 311)=w2 at *;go_wp2_with fail
    go_returns
    exact ⟨_,rfl,HB2.out⟩
end
section
open Go Go.RowKit Go.Maps
def Ea (K:gp) (pm:Option Nat) (E:Env) (n:Int) (over:Bool) (m:Nat) (W0:World) (e:ae):Prop :=
 ∀w,Below m W0 w→m≤w.heap.size→jv K pm E n over w →
  Calls Tryz.prog 230 #[.pointer (some ⟨K.q,0,none⟩),e.val] w fun o w'=>o=.returned (.int .i64 (bu K.p E e))∧Below w.heap.size w w'
set_option maxRecDepth 1000000 in
theorem JW {K:gp} {pm:Option Nat} {E:Env} {n:Int} {over:Bool} {m:Nat} {W0:World} {e:ae} (row:RowOf m W0 e.sp 6 ae.cells e.subs) (IH:∀s∈e.subs,Ea K pm E n over m W0 s)
  (w:World) (hb:Below m W0 w) (hm:m≤w.heap.size) (hk:jv K pm E n over w) (B1 B0:Nat) (h1:w.heap[B1]? = some (.cells e.cells.toArray 30 (0,0))) (h0:w.heap[B0]? = some (.cells #[.pointer (some ⟨K.q,0,none⟩)] 242 (0,0)))
  (i:Nat) (hi:i≤2) :
  Calls Tryz.prog 260 #[.int .i64 i,.pointer (some ⟨B1,0,none⟩),.pointer (some ⟨B0,0,none⟩)] w fun o w'=>o=.returned (.int .i64 (bF K.p E e.subs i))∧Below w.heap.size w w':=by
 simp only [ae.cells,Sp.val] at h1;obtain ⟨-,-,-,-,-,c5⟩:=ag h1;have d0:=one_cell h0;have hcap:=row.few;clear h1 h0;by_cases hlt:i<e.subs.length
 ·obtain ⟨b,off,eA,hbn,hcell⟩:=(row.below hb).row (by omega)
  have hs:bF K.p E e.subs i=bu K.p E e.subs[i]:=by rw [bF,List.getElem?_eq_getElem hlt]
  rw [hs];have k0:w.cell? ⟨b,off+i*6,none⟩=some (.int .u8 e.subs[i].kind):=hcell i hlt 0 _ rfl;have k1:w.cell? ⟨b,off+i*6+1,none⟩=some (.int .u8 e.subs[i].op):=hcell i hlt 1 _ rfl;have k2:w.cell? ⟨b,off+i*6+2,none⟩=some (.int .u32 e.subs[i].value):=hcell i hlt 2 _ rfl;have k3:w.cell? ⟨b,off+i*6+3,none⟩=some (.int .i64 e.subs[i].width):=hcell i hlt 3 _ rfl;have k4:w.cell? ⟨b,off+i*6+4,none⟩=some (.string e.subs[i].name):=hcell i hlt 4 _ rfl;have k5:w.cell? ⟨b,off+i*6+5,none⟩=some (.slice e.subs[i].sp.at_ e.subs[i].subs.length e.subs[i].sp.cap):=hcell i hlt 5 _ rfl;have hbd:Below w.heap.size w w.drew:=(Below.refl _ _).drew;have hC:=IH _ (List.getElem_mem hlt) w.drew (hb.trans (hbd.mono hm)) hm (hk.new hbd);generalize e.subs[i]=x at *;simp only [ae.val,Sp.val] at hC;have HC:=zhd hC;have HBD:=zhd hbd;have hj0:(0:Int)≤(i:Int):=by omega
  have hj1:(i:Int)<(e.subs.length:Int):=by omega
  have hj2:decide (e.subs.length≤i)=false:=decide_eq_false (by omega);clear hcell hs hC IH row hk hb hbd;rw [eA] at c5;clear eA;go_enter Tryz.func260,Tryz.ntmps260
  go_wp2
  go_still_tail 6,(by kernel_rfl)
  change wpList _ _ _ _ _ w.drew;go_wp2_with fail
  refine HC.out.mono ?_;rintro o w1 ⟨rfl,hb1⟩;go_wp2_with fail
  go_ret
  exact ⟨rfl,HBD.out.trans hb1⟩
 ·have hs:bF K.p E e.subs i=0:=by rw [bF,List.getElem?_eq_none (by omega)]
  rw [hs];have hj2:decide (e.subs.length≤i)=true:=decide_eq_true (by omega);clear hs IH row hk hb hlt;go_enter Tryz.func260,Tryz.ntmps260
  go_wp2
  go_ret
  exact ⟨rfl,Below.refl _ _⟩
set_option maxRecDepth 1000000 in
set_option maxHeartbeats 4000000 in
theorem gU {K:gp} {pm:Option Nat} {E:Env} {n:Int} {over:Bool} {m:Nat} {W0:World} {e:ae} (h:iw m W0 e):Ea K pm E n over m W0 e:=by
 induction h with
 | mk e kk oo vv wd nm row subs ih =>
  intro w hb hm hk;have hwe:=rX K.p E e;have hb2:Below w.heap.size w ((w.alloc (.cells #[.pointer (some ⟨K.q,0,none⟩)] 242)).alloc (.cells #[.int .u8 e.kind,.int .u8 e.op,.int .u32 e.value,.int .i64 e.width,.string e.name,.slice e.sp.at_ e.subs.length e.sp.cap] 30)):=((Below.refl _ _).alloc (Nat.le_refl _) _).alloc (by simp) _;have hB1:=zan (w.alloc (.cells #[.pointer (some ⟨K.q,0,none⟩)] 242)) (.cells #[.int .u8 e.kind,.int .u8 e.op,.int .u32 e.value,.int .i64 e.width,.string e.name,.slice e.sp.at_ e.subs.length e.sp.cap] 30);rw [World.size_alloc] at hB1;have hB0:=(Below.heap_alloc (w.alloc (.cells #[.pointer (some ⟨K.q,0,none⟩)] 242)) (.cells #[.int .u8 e.kind,.int .u8 e.op,.int .u32 e.value,.int .i64 e.width,.string e.name,.slice e.sp.at_ e.subs.length e.sp.cap] 30) w.heap.size (by simp)).trans (zan w _);have hs2:((w.alloc (.cells #[.pointer (some ⟨K.q,0,none⟩)] 242)).alloc (.cells #[.int .u8 e.kind,.int .u8 e.op,.int .u32 e.value,.int .i64 e.width,.string e.name,.slice e.sp.at_ e.subs.length e.sp.cap] 30)).heap.size=w.heap.size+2:=by simp
  have HB1:=zhd hB1;have HB0:=zhd hB0;have HB2:=zhd hb2;have HS2:=zhd hs2;have HIH:=zhd ih;have HROW:=zhd row;have HWE:=zhd hwe;have HK:=zhd hk;have HB:=zhd hb;clear hB1 hB0 hb2 hs2 ih row subs hwe hk hb;simp only [ae.val,Sp.val];go_enter Tryz.func230,Tryz.ntmps230
  go_upto_region 1 with (fail)
  generalize (w.alloc (.cells #[.pointer (some ⟨K.q,0,none⟩)] 242)).alloc (.cells #[.int .u8 e.kind,.int .u8 e.op,.int .u32 e.value,.int .i64 e.width,.string e.name,.slice e.sp.at_ e.subs.length e.sp.cap] 30)=W2 at *;have hck:=HK.out.new HB2.out;have hbW:Below m W0 W2:=HB.out.trans (HB2.out.mono hm);have hlt2:w.heap.size+1<W2.heap.size:=by have:=HS2.out;omega
  obtain ⟨c0,c1,c2,c3,c4,c5⟩:=ag HB1.out;have d0:=one_cell HB0.out;have HCK:=zhd hck;have HBW:=zhd hbW;clear hck hbW;have hq1:=HCK.out.c1;have HOK:=zhd oo;clear oo kk vv wd;have fin:∀(r:Int) (o:Ending) (w':World),dP K.p E e.kind e.op e.width e.name (bF K.p E e.subs 0) (bF K.p E e.subs 1)=r→o=.returned (.int .i64 (Av r))→Below W2.heap.size W2 w'→o=.returned (.int .i64 (bu K.p E e))∧Below w.heap.size w w' :=
   fun r o w' h1 h2 h3=>⟨by rw [HWE.out,h1];exact h2,HB2.out.trans (h3.mono (by omega))⟩
  have FIN:=zhd fin;have SUB:Hid (∀(i:Nat) (W:World),i≤2→Below W2.heap.size W2 W→Calls Tryz.prog 260 #[.int .i64 i,.pointer (some ⟨w.heap.size+1,0,none⟩),.pointer (some ⟨w.heap.size,0,none⟩)] W fun o w'=>o=.returned (.int .i64 (bF K.p E e.subs i))∧Below W.heap.size W w') :=
   zhd fun i W hi hW=>JW HROW.out HIH.out W (HBW.out.trans (hW.mono (by omega))) (by have:=hW.size;omega) (HCK.out.new hW) _ _ ((hW.block _ hlt2).trans HB1.out) ((hW.block _ (by omega)).trans HB0.out) i hi
  clear fin;rcases (show e.kind=1∨e.kind=8∨e.kind=2∨e.kind=3∨e.kind=4∨e.kind=5∨e.kind=6∨e.kind=7∨(e.kind≠1∧e.kind≠8∧e.kind≠2∧e.kind≠3∧e.kind≠4∧e.kind≠5∧e.kind≠6∧e.kind≠7) by omega) with hkd | hkd | hkd | hkd | hkd | hkd | hkd | hkd | hkd
  case inl =>
   have hr:dP K.p E e.kind e.op e.width e.name (bF K.p E e.subs 0) (bF K.p E e.subs 1)=e.width:=by rw [hkd];rfl
   have HR:=zhd hr;rw [hkd] at c0;clear hkd hr;cases hw:bG e.width
   all_goals
    have HW:=zhd (congrArg (fun b:Bool=>if b=true then e.width else 0) hw);go_wp2_with (go_at_call 254;refine (bT _ _).mono ?_;rintro o9 w9 ⟨rfl,rfl⟩)
    go_ret
    exact FIN.out _ _ _ HR.out (congrArg (fun x=>Ending.returned (.int .i64 x)) HW.out.symm) (Below.refl _ _)
  case inr.inl =>
   have hr:dP K.p E e.kind e.op e.width e.name (bF K.p E e.subs 0) (bF K.p E e.subs 1)=e.width:=by rw [hkd];rfl
   have HR:=zhd hr;rw [hkd] at c0;clear hkd hr;cases hw:bG e.width
   all_goals
    have HW:=zhd (congrArg (fun b:Bool=>if b=true then e.width else 0) hw);go_wp2_with (go_at_call 254;refine (bT _ _).mono ?_;rintro o9 w9 ⟨rfl,rfl⟩)
    go_ret
    exact FIN.out _ _ _ HR.out (congrArg (fun x=>Ending.returned (.int .i64 x)) HW.out.symm) (Below.refl _ _)
  case inr.inr.inr.inr.inl =>
   have hr:dP K.p E e.kind e.op e.width e.name (bF K.p E e.subs 0) (bF K.p E e.subs 1)=K.p.width:=by rw [hkd];rfl
   have HR:=zhd hr;rw [hkd] at c0;clear hkd hr;cases hw:bG K.p.width
   all_goals
    have HW:=zhd (congrArg (fun b:Bool=>if b=true then K.p.width else 0) hw);go_wp2_with (go_at_call 254;refine (bT _ _).mono ?_;rintro o9 w9 ⟨rfl,rfl⟩)
    go_ret
    exact FIN.out _ _ _ HR.out (congrArg (fun x=>Ending.returned (.int .i64 x)) HW.out.symm) (Below.refl _ _)
  case inr.inr.inr.inr.inr.inr.inr.inl =>
   have hr:dP K.p E e.kind e.op e.width e.name (bF K.p E e.subs 0) (bF K.p E e.subs 1)=bF K.p E e.subs 1:=by rw [hkd];rfl
   have HR:=zhd hr;rw [hkd] at c0;have HSB:=zhd (SUB.out 1);clear hkd hr SUB;generalize bF K.p E e.subs 1=s1 at *;cases hw:bG s1
   all_goals
    have HW:=zhd (congrArg (fun b:Bool=>if b=true then s1 else 0) hw);go_wp2_with (first | (go_at_call 254;refine (bT _ _).mono ?_;rintro o9 w9 ⟨rfl,rfl⟩) | (go_at_call 260;refine (HSB.out _ (by omega) (Below.refl _ _)).mono ?_;rintro o8 w8 ⟨rfl,hb8⟩;have HB8:=zhd hb8;clear hb8) | fail)
    go_ret
    exact FIN.out _ _ _ HR.out (congrArg (fun x=>Ending.returned (.int .i64 x)) HW.out.symm) HB8.out
  case inr.inr.inr.inr.inr.inr.inr.inr =>
   have hr:dP K.p E e.kind e.op e.width e.name (bF K.p E e.subs 0) (bF K.p E e.subs 1)=0:=by
    unfold dP;rw [if_neg (by omega),if_neg (by omega),if_neg (by omega),if_neg (by omega),if_neg (by omega)]
   have HR:=zhd hr;have HW:Hid (0=Av 0):=zhd rfl;obtain ⟨h1,h8,h2,h3,h4,h5,h6,h7⟩:=hkd;have g1:(e.kind == 1)=false:=by simpa using h1
   have g2:(e.kind == 2)=false:=by simpa using h2
   have g3:(e.kind == 3)=false:=by simpa using h3
   have g4:(e.kind == 4)=false:=by simpa using h4
   have g5:(e.kind == 5)=false:=by simpa using h5
   have g6:(e.kind == 6)=false:=by simpa using h6
   have g7:(e.kind == 7)=false:=by simpa using h7
   have g8:(e.kind == 8)=false:=by simpa using h8
   have hw:bG 0=false:=rfl;clear h1 h2 h3 h4 h5 h6 h7 h8 hr;go_wp2_with (go_at_call 254;refine (bT _ _).mono ?_;rintro o9 w9 ⟨rfl,rfl⟩)
   go_ret
   exact FIN.out _ _ _ HR.out (congrArg (fun x=>Ending.returned (.int .i64 x)) HW.out) (Below.refl _ _)
  case inr.inr.inl =>
   have hr:dP K.p E e.kind e.op e.width e.name (bF K.p E e.subs 0) (bF K.p E e.subs 1)=if (aJ K.p E e.name).kind≠0∧((aJ K.p E e.name).kind=4↔(2:Int)=3) then (aJ K.p E e.name).width else 0:=by rw [hkd];rfl
   have HR:=zhd hr;have HF:=zhd (qa W2 HCK.out e.name nm);rw [hkd] at c0 HB1;clear hkd hr SUB;generalize aJ K.p E e.name=x at *;obtain ⟨xk,xw⟩:=x;simp only at HR HF;go_wp2_with fail
   refine HF.out.mono ?_;rintro o w1 ⟨rfl,hb1⟩;have HBN:=zhd (hb1.alloc hb1.size (.cells #[.int .u8 xk,.int .i64 xw] 264));obtain ⟨c0',-,-,-,-,-⟩:=ag ((HBN.out.block _ hlt2).trans HB1.out);clear hb1 c0 c1 c2 c3 c4 c5 d0 hq1;by_cases hx0:xk=0
   ·have HZ:Hid ((if xk≠0∧(xk=4↔(2:Int)=3) then xw else 0)=0):=zhd (if_neg (by omega))
    have HW:Hid (0=Av 0):=zhd rfl;subst hx0;have hw:bG 0=false:=rfl;go_wp2_with (go_at_call 254;refine (bT _ _).mono ?_;rintro o9 w9 ⟨rfl,rfl⟩)
    go_ret
    exact FIN.out _ _ _ (HR.out.trans HZ.out) (congrArg (fun x=>Ending.returned (.int .i64 x)) HW.out) HBN.out
   ·have g0:(xk == 0)=false:=by simpa using hx0
    have g0':(xk != 0)=true:=by simpa using hx0
    by_cases hx4:xk=4
    ·have HZ:Hid ((if xk≠0∧(xk=4↔(2:Int)=3) then xw else 0)=0):=zhd (if_neg (by omega))
     subst hx4;clear hx0;have HW:Hid (0=Av 0):=zhd rfl;have hw:bG 0=false:=rfl;go_wp2_with (go_at_call 254;refine (bT _ _).mono ?_;rintro o9 w9 ⟨rfl,rfl⟩)
     go_ret
     exact FIN.out _ _ _ (HR.out.trans HZ.out) (congrArg (fun x=>Ending.returned (.int .i64 x)) HW.out) HBN.out
    ·have HZ:Hid ((if xk≠0∧(xk=4↔(2:Int)=3) then xw else 0)=xw):=zhd (if_pos (by omega))
     have g4:(xk == 4)=false:=by simpa using hx4
     clear hx0 hx4;cases hw:bG xw
     all_goals
      have HW:=zhd (congrArg (fun b:Bool=>if b=true then xw else 0) hw);go_wp2_with (go_at_call 254;refine (bT _ _).mono ?_;rintro o9 w9 ⟨rfl,rfl⟩)
      go_ret
      exact FIN.out _ _ _ (HR.out.trans HZ.out) (congrArg (fun x=>Ending.returned (.int .i64 x)) HW.out.symm) HBN.out
  case inr.inr.inr.inl =>
   have hr:dP K.p E e.kind e.op e.width e.name (bF K.p E e.subs 0) (bF K.p E e.subs 1)=if (aJ K.p E e.name).kind≠0∧((aJ K.p E e.name).kind=4↔(3:Int)=3) then (aJ K.p E e.name).width else 0:=by rw [hkd];rfl
   have HR:=zhd hr;have HF:=zhd (qa W2 HCK.out e.name nm);rw [hkd] at c0 HB1;clear hkd hr SUB;generalize aJ K.p E e.name=x at *;obtain ⟨xk,xw⟩:=x;simp only at HR HF;go_wp2_with fail
   refine HF.out.mono ?_;rintro o w1 ⟨rfl,hb1⟩;have HBN:=zhd (hb1.alloc hb1.size (.cells #[.int .u8 xk,.int .i64 xw] 264));obtain ⟨c0',-,-,-,-,-⟩:=ag ((HBN.out.block _ hlt2).trans HB1.out);clear hb1 c0 c1 c2 c3 c4 c5 d0 hq1;by_cases hx0:xk=0
   ·have HZ:Hid ((if xk≠0∧(xk=4↔(3:Int)=3) then xw else 0)=0):=zhd (if_neg (by omega))
    have HW:Hid (0=Av 0):=zhd rfl;subst hx0;have hw:bG 0=false:=rfl;go_wp2_with (go_at_call 254;refine (bT _ _).mono ?_;rintro o9 w9 ⟨rfl,rfl⟩)
    go_ret
    exact FIN.out _ _ _ (HR.out.trans HZ.out) (congrArg (fun x=>Ending.returned (.int .i64 x)) HW.out) HBN.out
   ·have g0:(xk == 0)=false:=by simpa using hx0
    have g0':(xk != 0)=true:=by simpa using hx0
    by_cases hx4:xk=4
    ·have HZ:Hid ((if xk≠0∧(xk=4↔(3:Int)=3) then xw else 0)=xw):=zhd (if_pos (by omega))
     subst hx4;clear hx0;cases hw:bG xw
     all_goals
      have HW:=zhd (congrArg (fun b:Bool=>if b=true then xw else 0) hw);go_wp2_with (go_at_call 254;refine (bT _ _).mono ?_;rintro o9 w9 ⟨rfl,rfl⟩)
      go_ret
      exact FIN.out _ _ _ (HR.out.trans HZ.out) (congrArg (fun x=>Ending.returned (.int .i64 x)) HW.out.symm) HBN.out
    ·have HZ:Hid ((if xk≠0∧(xk=4↔(3:Int)=3) then xw else 0)=0):=zhd (if_neg (by omega))
     have g4:(xk == 4)=false:=by simpa using hx4
     clear hx0 hx4;have HW:Hid (0=Av 0):=zhd rfl;have hw:bG 0=false:=rfl;go_wp2_with (go_at_call 254;refine (bT _ _).mono ?_;rintro o9 w9 ⟨rfl,rfl⟩)
     go_ret
     exact FIN.out _ _ _ (HR.out.trans HZ.out) (congrArg (fun x=>Ending.returned (.int .i64 x)) HW.out) HBN.out
  case inr.inr.inr.inr.inr.inl =>
   have hr:dP K.p E e.kind e.op e.width e.name (bF K.p E e.subs 0) (bF K.p E e.subs 1)=iL e.op (bF K.p E e.subs 0):=by rw [hkd];rfl
   obtain ⟨k,hk⟩:∃k:Nat,e.op=(k:Int):=⟨e.op.toNat,by have:=HOK.out;omega⟩;have hk2:k≤255:=by have:=HOK.out;omega
   have HSB:=zhd (SUB.out 0);have HO:=zhd (fun W=>sP k hk2 (bF K.p E e.subs 0) W);have HR:=zhd (hr.trans (by rw [hk]:iL e.op (bF K.p E e.subs 0)=iL (k:Int) (bF K.p E e.subs 0)));rw [hk] at c1 HB1;rw [hkd] at c0 HB1;have HC1:Hid (∀W,Below W2.heap.size W2 W→W.cell? ⟨w.heap.size+1,1,none⟩=some (.int .u8 (k:Int))):=zhd fun W hW=>by
    obtain ⟨-,h,-,-,-,-⟩:=ag ((hW.block _ hlt2).trans HB1.out);exact h
   clear hkd hr SUB hk c2 c3 c4 c5 d0 hq1;generalize bF K.p E e.subs 0=s0 at *;generalize iL (k:Int) s0=r at *;have hbr:Below W2.heap.size W2 W2.drew:=(Below.refl _ _).drew;cases hw:bG r
   all_goals
    have HW:=zhd (congrArg (fun b:Bool=>if b=true then r else 0) hw);go_wp2_with fail
    go_region_held3 (fun w'=>w'.cell? ⟨w.heap.size+1,1,none⟩=some (.int .u8 (k:Int))∧Below W2.heap.size W2 w') (simp [*])
     (first
      | (go_at_call 260;refine (HSB.out _ (by omega) (by assumption)).mono ?_;rintro o8 w8 ⟨rfl,hb8⟩;have hb9:=Below.trans (by assumption:Below W2.heap.size W2 _) (hb8.mono (Below.size (by assumption)));have z1:=HC1.out _ hb9)
      | (go_at_call 261;refine (HO.out _).mono ?_;rintro o7 w7 ⟨er,rfl,hb7⟩;have hb10:=Below.trans (by assumption:Below W2.heap.size W2 _) (hb7.mono (Below.size (by assumption)));have z2:=HC1.out _ hb10)
      | fail)
    go_wp2_with (go_at_call 254;refine (bT _ _).mono ?_;rintro o9 w9 ⟨rfl,rfl⟩)
    go_ret
    exact FIN.out _ _ _ HR.out (congrArg (fun x=>Ending.returned (.int .i64 x)) HW.out.symm) hb10
  case inr.inr.inr.inr.inr.inr.inl =>
   have hr:dP K.p E e.kind e.op e.width e.name (bF K.p E e.subs 0) (bF K.p E e.subs 1)=iL e.op (bF K.p E e.subs 0):=by rw [hkd];rfl
   obtain ⟨k,hk⟩:∃k:Nat,e.op=(k:Int):=⟨e.op.toNat,by have:=HOK.out;omega⟩;have hk2:k≤255:=by have:=HOK.out;omega
   have HSB:=zhd (SUB.out 0);have HO:=zhd (fun W=>sP k hk2 (bF K.p E e.subs 0) W);have HR:=zhd (hr.trans (by rw [hk]:iL e.op (bF K.p E e.subs 0)=iL (k:Int) (bF K.p E e.subs 0)));rw [hk] at c1 HB1;rw [hkd] at c0 HB1;have HC1:Hid (∀W,Below W2.heap.size W2 W→W.cell? ⟨w.heap.size+1,1,none⟩=some (.int .u8 (k:Int))):=zhd fun W hW=>by
    obtain ⟨-,h,-,-,-,-⟩:=ag ((hW.block _ hlt2).trans HB1.out);exact h
   clear hkd hr SUB hk c2 c3 c4 c5 d0 hq1;generalize bF K.p E e.subs 0=s0 at *;generalize iL (k:Int) s0=r at *;have hbr:Below W2.heap.size W2 W2.drew:=(Below.refl _ _).drew;cases hw:bG r
   all_goals
    have HW:=zhd (congrArg (fun b:Bool=>if b=true then r else 0) hw);go_wp2_with fail
    go_region_held3 (fun w'=>w'.cell? ⟨w.heap.size+1,1,none⟩=some (.int .u8 (k:Int))∧Below W2.heap.size W2 w') (simp [*])
     (first
      | (go_at_call 260;refine (HSB.out _ (by omega) (by assumption)).mono ?_;rintro o8 w8 ⟨rfl,hb8⟩;have hb9:=Below.trans (by assumption:Below W2.heap.size W2 _) (hb8.mono (Below.size (by assumption)));have z1:=HC1.out _ hb9)
      | (go_at_call 261;refine (HO.out _).mono ?_;rintro o7 w7 ⟨er,rfl,hb7⟩;have hb10:=Below.trans (by assumption:Below W2.heap.size W2 _) (hb7.mono (Below.size (by assumption)));have z2:=HC1.out _ hb10)
      | fail)
    go_wp2_with (go_at_call 254;refine (bT _ _).mono ?_;rintro o9 w9 ⟨rfl,rfl⟩)
    go_ret
    exact FIN.out _ _ _ HR.out (congrArg (fun x=>Ending.returned (.int .i64 x)) HW.out.symm) hb10
end
end Go.Proofs.YtepacjkacjabbaaGreatDoor
