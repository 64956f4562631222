import Derived.Test.YtepacjkacjabbaaGreatDoorPAA
import Derived.Test.YtepacjkacjabbaaGreatDoorPAV
import Derived.Deep.DeepCutAuto
import Derived.Test.YtepacjkacjabbaaGreatDoorPAI
namespace Go.Proofs.YtepacjkacjabbaaGreatDoor
section
open Go Go.RowKit Go.Maps
theorem Ba (p:af) (l:List Int) (x:bn):sM p l x=if (decide (x.block<0) || decide (p.blocks≤x.block) || decide (x.block∈l))=true then 324 else if dV (bu p outside x.value) p.width=true then 322 else 0:=by
 unfold sM;have e1:(x.block<0∨x.block≥p.blocks∨x.block∈l)↔((decide (x.block<0) || decide (p.blocks≤x.block) || decide (x.block∈l))=true):=by simp [or_assoc]
 simp only [e1]
set_option maxRecDepth 1000000 in
set_option maxHeartbeats 16000000 in
theorem Jv {K:gp} {J Jx:List (Int × Int)→World→Prop} (hJ:bN 246 K.B J) (hJx:bN 246 K.B Jx) (hT:j6 K J Jx) (hH:aR K.p≤20000) (hN:eT K.p) (hn0:0<K.n₀) (hwt:eU K.p≤1125899906842624) {pm:Option Nat} (w:World) (hst:iU K J Jx pm outside [] w) (hmx:MxAt w) :
  Calls Tryz.prog 204 #[.pointer (some ⟨K.q,0,none⟩)] w fun o w'=>o=.returned (.tuple #[])∧(∃pm,iU K J Jx pm outside (bK K.p (bW (countP K.p))) w')∧bg K w w':=by
 obtain ⟨over,hk,hs⟩:=hst.ex;have hpart:=fun (W:World) (hW:Below w.heap.size w W)=>(hk.new hW).prog_part
 have HPART:=zhd hpart;have hb1:=zba w (.cells K.p.arr 35);have hbz:=zba w (.cells bH.arr 35);have hB:=zan w (.cells K.p.arr 35);have hqw:=hk.lt;have hqB:=hk.q;have hnB:=hk.n0;have hn0w:K.n₀≤w.heap.size:=by omega
 have hmaps:=hst.maps;have HB1:=zhd hb1;have HBZ:=zhd hbz;have HBX:=zhd hB;have HP:=zhd hk.prog;have hcl:=fG K.p (bW (countP K.p));have hcp:=wS K.p (bW (countP K.p));have hpg:=Bz hJ hJx hT (w.alloc (.cells K.p.arr 35)) (hst.new hJ hJx hb1) (by simp) hwt;obtain ⟨pe,hpe⟩:∃pe,gL K.p (bW (countP K.p))=pe:=⟨_,rfl⟩;rw [hpe] at hcp hpg;have HPG:=zhd hpg;obtain ⟨tot,htot⟩:∃l,bK K.p (bW (countP K.p))=l:=⟨_,rfl⟩;rw [htot] at hcp hcl ⊢;have HCP:=zhd hcp;have HCL:=zhd (show tot.length≤20000 by omega);have HMX:=zhd hmx;have HN:=zhd hN;have HMAPS:=zhd hmaps;clear hpart hb1 hbz hB hk hst hs hpg hpe htot hcp hcl hmx hwt hmaps hN;go_enter Tryz.func204,Tryz.ntmps204
 go_upto_region 1 with (first
  | (refine kQ rfl 35 _ rfl K.q 0 rfl K.p.arr _ (HPART.out _ (by first | exact Below.refl _ _ | exact HBZ.out)) Tryz.underlying35 rfl (aN K.p) ?_)
  | (refine aO (t:=35) rfl rfl (gm _) ?_)
  | (refine fU (t:=35) rfl _ _ rfl rfl rfl (aN K.p) rfl (jg K.p) ?_)
  | fail)
 generalize hW1:w.alloc (.cells K.p.arr 35)=W1 at *;generalize hv8:Value.agg K.p.arr=v8;clear hW1 hv8 HPART HBZ;have hmm:=@run_makeMap Tryz.prog;go_upto_region 2 with (first | (go_at_call 223;refine HPG.out.mono ?_;rintro o7 wA ⟨rfl,hta⟩) | fail)
 have hbxA:=hta.keeps.cells _ _ _ _ HBX.out rfl (by omega);have hszA:=hta.keeps.size;have hsz1:=HB1.out.size;have hF:uA K w w.heap.size wA.heap.size:=⟨Nat.le_refl _,Nat.lt_of_lt_of_le (zgs HBX.out).1 hszA,hqw,hqB,hn0w,HMAPS.out.1,HMAPS.out.2.1⟩;have hbm:=zba wA (.map #[] 0);have hA0:iG K J Jx w w.heap.size wA.heap.size ([pe]++pU K.p 0) (oF K.p 0) (wA.alloc (.map #[] 0)):=by
  have hs1:=hta.st.new hJ hJx hbm;have h3:=HMAPS.out.2.2;refine ⟨⟨pm,by simpa [pU] using hs1,fun e=>by have:=h3 _ e;have:=hF.hmb;omega⟩,((bg.of_below HB1.out hn0w).trans hta.keeps).trans (.of_below hbm (by omega)),(hbm.block _ hF.hmb).trans hbxA,⟨_,0,Nat.zero_le _,dD.made wA⟩⟩
 have HF:=zhd hF;have HA0:=zhd hA0;have hmbF:=hF.hmb;clear hta hbxA hF hbm hA0 HBX HB1 HMAPS HPG;generalize hWm:wA.alloc (.map #[] 0)=WM at *;obtain ⟨mb,hmb⟩:∃mb,wA.heap.size=mb:=⟨_,rfl⟩;rw [hmb] at HF HA0 hmbF;have c2:=aW HA0.out.box 2 (v:=.slice K.p.is.at_ K.p.inputs.length K.p.is.cap) rfl;have c3:=aW HA0.out.box 3 (v:=.slice K.p.gs.at_ K.p.ghosts.length K.p.gs.cap) rfl;have c4:=aW HA0.out.box 4 (v:=.slice K.p.vs.at_ K.p.vars.length K.p.vs.cap) rfl;have c5:=aW HA0.out.box 5 (v:=.slice K.p.as.at_ K.p.arrays.length K.p.as.cap) rfl;go_wp2_with fail
 go_loopw [28] (fun v wr=>∃j:Nat,j≤4∧v=.int .i64 j∧iG K J Jx w w.heap.size mb ([pe]++pU K.p j) (oF K.p j) wr) (fun v _=>4 - (intOf v).toNat)
 case atStart=>exact ⟨0,by omega,rfl,HA0.out⟩
 case round =>
  obtain ⟨j,hj,rfl,haj⟩:=hrel;have HAJ:=zhd haj;clear haj c2 c3 c4 c5 HA0;by_cases hjl:j<4
  ·have hI:∀W,(Instr.index 262 (.agg #[.slice K.p.is.at_ K.p.inputs.length K.p.is.cap,.slice K.p.gs.at_ K.p.ghosts.length K.p.gs.cap,.slice K.p.vs.at_ K.p.vars.length K.p.vs.cap,.slice K.p.as.at_ K.p.arrays.length K.p.as.cap]) (.int .i64 (j:Int))).run Tryz.prog W=.ok (.slice (DR K.p j).at_ (listAt K.p j).length (DR K.p j).cap) W:=by
    intro W;rcases (show j=0∨j=1∨j=2∨j=3 by omega) with rfl | rfl | rfl | rfl <;> kernel_rfl
   have hd0:=HP.out.listAt j;have hnm:∀d∈listAt K.p j,d.name.size≤4294967200:=fun d hd=>HN.out.decls d (by
    rcases (show j=0∨j=1∨j=2∨j=3 by omega) with rfl | rfl | rfl | rfl <;> simp only [listAt] at hd <;> simp [hd])
   have hds:=qW K.p j;have hbs:=xC K.p j;have hlen:(pU K.p j).length+(listAt K.p j).length≤20000:=by
    have e1:=mi K.p (j+1);rw [qW,List.length_append,fJ] at e1;have e2:(oF K.p (j+1)).length≤(oF K.p 4).length:=by
     rcases (show j=0∨j=1∨j=2∨j=3 by omega) with rfl | rfl | rfl | rfl <;> simp [oF,List.range,List.range.loop] <;> omega
    have e3:=mi K.p 4;have e4:=HCL.out;rw [HCP.out] at e4;simp only [List.length_append] at e4;omega
   have hje:((j:Int) == 3)=decide (j=3):=by rcases (show j=0∨j=1∨j=2∨j=3 by omega) with rfl | rfl | rfl | rfl <;> rfl
   have hbl:=mi K.p j;have HD0:=zhd hd0;have HNM:=zhd hnm;have HDS:=zhd hds;have HBS:=zhd hbs;have hll:=hd0.row.few;obtain ⟨jb,hjb⟩:∃b,decide (j=3)=b:=⟨_,rfl⟩;rw [hjb] at hje HDS;clear hd0 hnm hds hbs hjb;generalize listAt K.p j=l at *;generalize DR K.p j=sp at *;generalize pU K.p j=dc at *;generalize oF K.p j=bf at *;obtain ⟨wo,rfl⟩:∃y:World,y=wr:=⟨_,rfl⟩;have hj0:(0:Int)≤(j:Int):=by omega
   have hjb4:(j:Int)<4:=by omega
   go_wp2_with fail
   go_loopw [34] (fun v wr=>∃k:Nat,k≤l.length∧v=.int .i64 k∧iG K J Jx w w.heap.size mb (([pe]++dc)++bB K.p jb (l.take k) bf) (bf++(l.take k).map aG.name) wr) (fun v _=>l.length - (intOf v).toNat)
   case atStart=>exact ⟨0,Nat.zero_le _,rfl,by simpa [bB] using HAJ.out⟩
   case round =>
    obtain ⟨k,hk,rfl,hak⟩:=hrel;have HAK:=zhd hak;clear hak;by_cases hlt2:k<l.length
    ·obtain ⟨b2,off2,eA2,hbn2,hcell⟩:=(HD0.out.row.below HAK.out.keeps.low).row (by omega)
     have hmem:=List.getElem_mem hlt2;have hok:=HD0.out.ok _ hmem;have hdn:=HNM.out _ hmem;have k0:wr.cell? ⟨b2,off2+k*3,none⟩=some (.string l[k].name):=hcell k hlt2 0 _ rfl;have k1:wr.cell? ⟨b2,off2+k*3+1,none⟩=some (.int .i64 l[k].width):=hcell k hlt2 1 _ rfl;have k2:wr.cell? ⟨b2,off2+k*3+2,none⟩=some (.int .i64 l[k].size):=hcell k hlt2 2 _ rfl;have hts:l.take (k+1)=l.take k++[l[k]]:=List.take_succ_eq_append_getElem hlt2;have HTS:=zhd hts;generalize l[k]=d at *;have hsw:=HAK.out.keeps.size;have hba:=zba wr (.cells #[.string d.name,.int .i64 d.width,.int .i64 d.size] 50);have hB5:=zan wr (.cells #[.string d.name,.int .i64 d.width,.int .i64 d.size] 50);have hlt3:(bB K.p jb (l.take k) bf).length≤l.length:=by rw [fJ];exact List.length_take_le' _ _
     have hlt4:((l.take k).map aG.name).length≤l.length:=by rw [List.length_map];exact List.length_take_le' _ _
     have ha5:=HAK.out.new hJ hJx HF.out hba;obtain ⟨pm5,hst5,hpm5⟩:=ha5.st;obtain ⟨f5,n5,hn5,hbef5⟩:=ha5.bef;have hDC:=Ay hJ hJx hT _ hst5 (by simp only [List.length_append,List.length_cons,List.length_nil];omega) (HMX.out.below ha5.keeps.low hn0) hbef5 d hok hdn jb;simp only [aG.val] at hDC;have HDC:=zhd hDC;have HA5:=zhd ha5;have HPM5:=zhd hpm5;have HB5:=zhd hB5;have hs5:(wr.alloc (.cells #[.string d.name,.int .i64 d.width,.int .i64 d.size] 50)).heap.size=wr.heap.size+1:=by simp
     have hk0:(0:Int)≤(k:Int):=by omega
     have hk1:(k:Int)<(l.length:Int):=by omega
     clear hcell hts hDC hba hB5 hmem ha5 hst5 hpm5;rw [eA2];clear eA2;go_upto_region 10 with (first | (go_at_call 224;refine HDC.out.mono ?_;rintro o6 w6 ⟨rfl,ht6⟩;have HT6:=zhd ht6;clear ht6) | fail)
     clear k0 k1 k2;have ha6:=HA5.out.told HF.out HPM5.out HT6.out;have hB6:=HT6.out.keeps.cells _ _ _ _ HB5.out rfl (by omega);obtain ⟨c0,c1,c2⟩:=aQ hB6;obtain ⟨f6,n6,hn6,hbef6⟩:=ha6.bef;have hl1:=hbef6.look1 (s:=d.name) (by unfold maxLen;omega);obtain ⟨hcb0,hcb1⟩:=hbef6.bound d.name;simp only [List.length_append] at hn6;have hcb2:n6≤100000:=by omega
     obtain ⟨w8,hrun,hbef8,hturn⟩:=hbef6.store (s:=d.name) (by unfold maxLen;omega) (by omega);have ha8:=ha6.stored hJ hJx HF.out hturn (by simp only [List.length_append];exact hn6) hbef8;generalize (f6 d.name).getD 0=c at *;have HA8:=zhd ha8;clear ha6 hB6 hbef6 hbef8 hturn ha8 hbef5;go_wp2_with (refine dE rfl _ _ _ 119 rfl rfl rfl rfl hrun ?_)
     go_roundw
     case rel=>exact ⟨k+1,by omega,by go_num,by
      have h9:=HA8.out;rw [HTS.out,mq,List.map_append,←List.append_assoc,←List.append_assoc];exact h9⟩
     case measure=>simp [intOf];omega
    ·obtain rfl:k=l.length:=by omega
     have h9:=HAK.out;rw [List.take_length,List.append_assoc,←HDS.out,←HBS.out] at h9;have H9:=zhd h9;clear h9 HAK;go_wp2_with fail
     go_roundw
     case rel=>exact ⟨j+1,by omega,by go_num,H9.out⟩
     case measure=>simp [intOf];omega
  ·obtain rfl:j=4:=by omega
   rw [xA] at HAJ;have hcl:=HCL.out;rw [HCP.out] at hcl;simp only [List.length_append,List.length_cons,List.length_nil] at hcl;obtain ⟨w4,hw4⟩:∃y:World,y=wr:=⟨_,rfl⟩;subst hw4;obtain ⟨cs1,hcs1⟩:∃l,[pe]++pU K.p 4=l:=⟨_,rfl⟩;have hl1:cs1.length=1+(pU K.p 4).length:=by rw [←hcs1];simp;omega
   rw [hcs1] at HAJ HCP;obtain ⟨pm4,hst4,hpm4⟩:=HAJ.out.st;have hEX:=pY hJ hJx hT (pm:=pm4) (E:=outside) (wh:=1) HP.out.require cs1 1 w4 HAJ.out.keeps.low hst4 (by omega) (by omega);simp only [ae.val,Sp.val,Int.natCast_one] at hEX;have HEX:=zhd hEX;have HPM4:=zhd hpm4;have d6:=aW HAJ.out.box 6 (v:=.int .u8 K.p.require.kind) rfl;have d7:=aW HAJ.out.box 7 (v:=.int .u8 K.p.require.op) rfl;have d8:=aW HAJ.out.box 8 (v:=.int .u32 K.p.require.value) rfl;have d9:=aW HAJ.out.box 9 (v:=.int .i64 K.p.require.width) rfl;have d10:=aW HAJ.out.box 10 (v:=.string K.p.require.name) rfl;have d11:=aW HAJ.out.box 11 (v:=.slice K.p.require.sp.at_ K.p.require.subs.length K.p.require.sp.cap) rfl;clear hEX hst4 hpm4 hcs1 hWm hmb;go_upto_region 14 with (first | (go_at_call 225;refine HEX.out.mono ?_;clear HEX;rintro o6 w6 ⟨rfl,ht6⟩;have HT6:=zhd ht6;clear ht6) | fail)
   have ha6:=HAJ.out.told HF.out HPM4.out HT6.out;have e12:=aW ha6.box 12 (v:=.slice K.p.ns.at_ K.p.inits.length K.p.ns.cap) rfl;obtain ⟨cs2,hcs2⟩:∃l,cs1++fC K.p outside 1 K.p.require 1=l:=⟨_,rfl⟩;have hl2:cs2.length=cs1.length+(fC K.p outside 1 K.p.require 1).length:=by rw [←hcs2,List.length_append]
   rw [hcs2] at ha6 HCP;have HA6:=zhd ha6;have hil:=HP.out.irow.few;clear HAJ HPM4 HT6 d6 d7 d8 d9 d10 d11 ha6 hcs2;go_wp2_with fail
   go_loopw [58] (fun v wr=>∃k:Nat,k≤K.p.inits.length∧v=.int .i64 k∧iG K J Jx w w.heap.size mb (cs2++cO K.p (K.p.inits.take k) []) (cZ K.p) wr) (fun v _=>K.p.inits.length - (intOf v).toNat)
   case atStart=>exact ⟨0,Nat.zero_le _,rfl,by simpa [cO] using HA6.out⟩
   case round =>
    obtain ⟨k,hk,rfl,hak⟩:=hrel;have HAK:=zhd hak;clear hak e12;by_cases hlt2:k<K.p.inits.length
    ·obtain ⟨b2,off2,eA2,hbn2,hcell⟩:=(HP.out.irow.below HAK.out.keeps.low).row (by omega)
     have k0:wr.cell? ⟨b2,off2+k*7,none⟩=some (.int .i64 K.p.inits[k].block):=hcell k hlt2 0 _ rfl;have k1:wr.cell? ⟨b2,off2+k*7+1,none⟩=some (.int .u8 K.p.inits[k].value.kind):=hcell k hlt2 1 _ rfl;have k2:wr.cell? ⟨b2,off2+k*7+2,none⟩=some (.int .u8 K.p.inits[k].value.op):=hcell k hlt2 2 _ rfl;have k3:wr.cell? ⟨b2,off2+k*7+3,none⟩=some (.int .u32 K.p.inits[k].value.value):=hcell k hlt2 3 _ rfl;have k4:wr.cell? ⟨b2,off2+k*7+4,none⟩=some (.int .i64 K.p.inits[k].value.width):=hcell k hlt2 4 _ rfl;have k5:wr.cell? ⟨b2,off2+k*7+5,none⟩=some (.string K.p.inits[k].value.name):=hcell k hlt2 5 _ rfl;have k6:wr.cell? ⟨b2,off2+k*7+6,none⟩=some (.slice K.p.inits[k].value.sp.at_ K.p.inits[k].value.subs.length K.p.inits[k].value.sp.cap):=hcell k hlt2 6 _ rfl;have hts:K.p.inits.take (k+1)=K.p.inits.take k++[K.p.inits[k]]:=List.take_succ_eq_append_getElem hlt2;have hok:=HP.out.inits _ (List.getElem_mem hlt2);have HTS:=zhd hts;have hspl:(cO K.p (K.p.inits.take (k+1)) []).length≤(cO K.p K.p.inits []).length:=by
      have e1:K.p.inits=K.p.inits.take (k+1)++K.p.inits.drop (k+1):=(List.take_append_drop _ _).symm;rw [lq,lq]
      conv=>rhs;rw [e1]
      rw [List.map_append,List.sum_append];omega
     rw [hts,mE] at hspl;simp only [List.length_append,List.length_cons] at hspl;have HOK:=zhd hok;generalize K.p.inits[k]=x at *;have hsw:=HAK.out.keeps.size;have hba:=zba wr (.cells #[.int .i64 x.block,.int .u8 x.value.kind,.int .u8 x.value.op,.int .u32 x.value.value,.int .i64 x.value.width,.string x.value.name,.slice x.value.sp.at_ x.value.subs.length x.value.sp.cap] 149);have hB5:=zan wr (.cells #[.int .i64 x.block,.int .u8 x.value.kind,.int .u8 x.value.op,.int .u32 x.value.value,.int .i64 x.value.width,.string x.value.name,.slice x.value.sp.at_ x.value.subs.length x.value.sp.cap] 149);have ha5:=HAK.out.new hJ hJx HF.out hba;have hs5:(wr.alloc (.cells #[.int .i64 x.block,.int .u8 x.value.kind,.int .u8 x.value.op,.int .u32 x.value.value,.int .i64 x.value.width,.string x.value.name,.slice x.value.sp.at_ x.value.subs.length x.value.sp.cap] 149)).heap.size=wr.heap.size+1:=by simp
     have hk0:(0:Int)≤(k:Int):=by omega
     have hk1:(k:Int)<(K.p.inits.length:Int):=by omega
     have hie:=Ba K.p ((K.p.inits.take k).map bn.block) x;obtain ⟨ie,hie0⟩:∃c,sM K.p ((K.p.inits.take k).map bn.block) x=c:=⟨_,rfl⟩;have hin2:cO K.p (K.p.inits.take k++[x]) []=cO K.p (K.p.inits.take k) []++(ie::fC K.p outside 1 x.value 1):=by rw [mE,List.nil_append,hie0]
     have HIN2:=zhd hin2;rw [hie0] at hie;have HIE:=zhd hie;have HS5:=zhd hs5;have HA5:=zhd ha5;have HB5:=zhd hB5;have hcx:Hid (∀X,Below (wr.alloc (.cells #[.int .i64 x.block,.int .u8 x.value.kind,.int .u8 x.value.op,.int .u32 x.value.value,.int .i64 x.value.width,.string x.value.name,.slice x.value.sp.at_ x.value.subs.length x.value.sp.cap] 149)).heap.size (wr.alloc (.cells #[.int .i64 x.block,.int .u8 x.value.kind,.int .u8 x.value.op,.int .u32 x.value.value,.int .i64 x.value.width,.string x.value.name,.slice x.value.sp.at_ x.value.subs.length x.value.sp.cap] 149)) X→Calls Tryz.prog 226 #[.slice (some ⟨b2,off2,none⟩) k K.p.ns.cap,.func (.func 227) #[] #[.pointer (some ⟨wr.heap.size,0,none⟩)]] X fun o w'=>o=.returned (.bool (decide (x.block∈(K.p.inits.take k).map bn.block)))∧Below X.heap.size X w'):=zhd fun X hX=>by
      have hx:=(hX.block _ (zgs HB5.out).1).trans HB5.out;have hx0:X.cell? ⟨wr.heap.size,0,none⟩=some (.int .i64 x.block):=by simp [World.cell?,hx]
      have hlow:Below K.n₀ w X:=ha5.keeps.low.trans (hX.mono (by have:=ha5.keeps.size;omega));have:=wT X (HP.out.irow.below hlow) (by have:=hlow.size;omega) k (by omega) K.p.ns.cap wr.heap.size x.block hx0 (zgs hx).1;rw [eA2] at this;exact this
     clear hcell hts hB5 hok ha5 hie hie0 hin2 hba hs5;rw [eA2];have HEA2:=zhd eA2;clear eA2
     go_upto_block 6 with fail
     clear k0 k1 k2 k3 k4 k5 k6;generalize wr.alloc (.cells #[.int .i64 x.block,.int .u8 x.value.kind,.int .u8 x.value.op,.int .u32 x.value.value,.int .i64 x.value.width,.string x.value.name,.slice x.value.sp.at_ x.value.subs.length x.value.sp.cap] 149)=W5 at *;obtain ⟨pm5,hst5,hpm5⟩:=HA5.out.st;have HTELL:Hid (∀(c:Int) (X:World),Below W5.heap.size W5 X→Calls Tryz.prog 228 #[.pointer (some ⟨K.q,0,none⟩),.int .i64 c] X fun o w'=>o=.returned (.tuple #[])∧iG K J Jx w w.heap.size mb ((cs2++cO K.p (K.p.inits.take k) [])++[c]) (cZ K.p) w'∧w'.heap[wr.heap.size]? = some (.cells #[.int .i64 x.block,.int .u8 x.value.kind,.int .u8 x.value.op,.int .u32 x.value.value,.int .i64 x.value.width,.string x.value.name,.slice x.value.sp.at_ x.value.subs.length x.value.sp.cap] 149 (0,0))):=zhd fun c X hX=>by
      have hax:=HA5.out.new hJ hJx HF.out hX;have hx:=(hX.block _ (zgs HB5.out).1).trans HB5.out;refine (hT pm5 outside _ X c (hst5.new hJ hJx hX) (by simp only [List.length_append];omega)).mono ?_;rintro o w' ⟨rfl,ht⟩;exact ⟨rfl,hax.told HF.out hpm5 ht,ht.keeps.cells _ _ _ _ hx rfl (by omega)⟩
     have g0:W5.cell? ⟨wr.heap.size,0,none⟩=some (.int .i64 x.block):=by simp [World.cell?,HB5.out]
     have p0:=aW HA5.out.box 0 (v:=.int .i64 K.p.blocks) rfl;have p12:=aW HA5.out.box 12 (v:=.slice K.p.ns.at_ K.p.inits.length K.p.ns.cap) rfl;rw [HEA2.out] at p12;have hkl:(k:Int)≤(K.p.inits.length:Int):=by omega
     have hkc:(k:Int)≤(K.p.ns.cap:Int):=by have:=HP.out.irow.cap;omega
     have hcapb:=HP.out.irow.big;have hmi:K.p.ns.cap≤9223372036854775807:=by unfold maxLen at hcapb;omega
     clear hst5 hpm5 hcapb
     go_cut [] (fun wx=>iG K J Jx w w.heap.size mb ((cs2++cO K.p (K.p.inits.take k) [])++[ie]) (cZ K.p) wx∧wx.heap[wr.heap.size]? = some (.cells #[.int .i64 x.block,.int .u8 x.value.kind,.int .u8 x.value.op,.int .u32 x.value.value,.int .i64 x.value.width,.string x.value.name,.slice x.value.sp.at_ x.value.subs.length x.value.sp.cap] 149 (0,0)))
     case first=>as_aux_lemma =>
      obtain ⟨ib,hib⟩:∃ib,decide (x.block∈(K.p.inits.take k).map bn.block)=ib:=⟨_,rfl⟩;rw [hib] at hcx HIE;have HCX:=zhd (hcx.out W5 (Below.refl _ _));obtain ⟨df,hdf⟩:∃df,dV (bu K.p outside x.value) K.p.width=df:=⟨_,rfl⟩;rw [hdf] at HIE;have HDF0:=zhd hdf;clear hib hcx hdf;by_cases h1:x.block<0
      ·have hres:ie=324:=by rw [HIE.out];simp [h1]
       have HRES:=zhd hres;clear hres HCX;go_wp2_with (first | (go_at_call 228;refine (HTELL.out _ _ (Below.refl _ _)).mono ?_;rintro o9 w9 ⟨rfl,ha9,hx9⟩;have HA9:=zhd ha9;have HX9:=zhd hx9;clear ha9 hx9) | fail)
       go_meet
       case rel=>exact ⟨by rw [HRES.out];exact HA9.out,HX9.out⟩
      ·by_cases h2:K.p.blocks≤x.block
       ·have hres:ie=324:=by rw [HIE.out];simp [h2]
        have HRES:=zhd hres;clear hres HCX;go_wp2_with (first | (go_at_call 228;refine (HTELL.out _ _ (Below.refl _ _)).mono ?_;rintro o9 w9 ⟨rfl,ha9,hx9⟩;have HA9:=zhd ha9;have HX9:=zhd hx9;clear ha9 hx9) | fail)
        go_meet
        case rel=>exact ⟨by rw [HRES.out];exact HA9.out,HX9.out⟩
       ·have d1:decide (x.block<0)=false:=decide_eq_false h1
        have d2:decide (K.p.blocks≤x.block)=false:=decide_eq_false h2;rw [d1,d2] at HIE;cases ib with
        | true =>
         have hres:ie=324:=by rw [HIE.out];rfl
         have HRES:=zhd hres;clear hres h1 h2;go_wp2_with (first | (go_at_call 226;refine HCX.out.mono ?_;rintro o8 w8 ⟨rfl,hb8⟩;have HB8:=zhd hb8;clear hb8) | (go_at_call 228;refine (HTELL.out _ _ HB8.out).mono ?_;rintro o9 w9 ⟨rfl,ha9,hx9⟩;have HA9:=zhd ha9;have HX9:=zhd hx9;clear ha9 hx9) | fail)
         go_meet
         case rel=>exact ⟨by rw [HRES.out];exact HA9.out,HX9.out⟩
        | false =>
         go_upto_region 20 with (first | (go_at_call 226;refine HCX.out.mono ?_;rintro o8 w8 ⟨rfl,hb8⟩;have HB8:=zhd hb8;clear hb8) | fail)
         have HA8:=zhd (HA5.out.new hJ hJx HF.out HB8.out);have HBX8:=zhd ((HB8.out.block _ (zgs HB5.out).1).trans HB5.out);have HC:Hid (∀W,Below w8.heap.size w8 W→W.cell? ⟨wr.heap.size,1,none⟩=some (.int .u8 x.value.kind)∧W.cell? ⟨wr.heap.size,2,none⟩=some (.int .u8 x.value.op)∧W.cell? ⟨wr.heap.size,3,none⟩=some (.int .u32 x.value.value)∧W.cell? ⟨wr.heap.size,4,none⟩=some (.int .i64 x.value.width)∧W.cell? ⟨wr.heap.size,5,none⟩=some (.string x.value.name)∧W.cell? ⟨wr.heap.size,6,none⟩=some (.slice x.value.sp.at_ x.value.subs.length x.value.sp.cap)∧W.cell? ⟨w.heap.size,1,none⟩=some (.int .i64 K.p.width)):=zhd fun W hW=>by
          have hx:=(hW.block _ (zgs HBX8.out).1).trans HBX8.out;have hp:=(hW.block _ (zgs HA8.out.box).1).trans HA8.out.box;exact ⟨by simp [World.cell?,hx],by simp [World.cell?,hx],by simp [World.cell?,hx],by simp [World.cell?,hx],by simp [World.cell?,hx],by simp [World.cell?,hx],aW hp 1 rfl⟩
         have HW:Hid (∀W,Below w8.heap.size w8 W→Calls Tryz.prog 230 #[.pointer (some ⟨K.q,0,none⟩),x.value.val] W fun o w'=>o=.returned (.int .i64 (bu K.p outside x.value))∧Below W.heap.size W w'):=zhd fun W hW=>by
          obtain ⟨pm8,hst8,-⟩:=(HA8.out.new hJ hJx HF.out hW).st;obtain ⟨over8,hk8,-⟩:=hst8.ex;have hlow:Below K.n₀ w W:=HA8.out.keeps.low.trans (hW.mono (by have:=HA8.out.keeps.size;omega));exact gU HOK.out.value W hlow (by have:=hlow.size;omega) hk8
         simp only [ae.val,Sp.val] at HW;obtain ⟨v0,v1,v2,v3,v4,v5,v6⟩:=HC.out w8.drew (Below.refl _ _).drew;have hbd:Below w8.heap.size w8 w8.drew:=(Below.refl _ _).drew;generalize bu K.p outside x.value=wy at *;have hdf:=HDF0.out;cases df
         all_goals
          have hres:=HIE.out;simp only [Bool.or_false,Bool.false_eq_true,if_false,if_true] at hres;have HRES:=zhd hres;have HDF:=zhd (fun W=>(hdf ▸ iy wy K.p.width W:Calls Tryz.prog 229 #[.int .i64 wy,.int .i64 K.p.width] W fun o w'=>o=.returned (.bool _)∧W=w'));clear hdf hres HIE HCX g0 p0 p12 h1 h2
          go_region_held3 (fun W=>W.cell? ⟨wr.heap.size,1,none⟩=some (.int .u8 x.value.kind)∧W.cell? ⟨wr.heap.size,2,none⟩=some (.int .u8 x.value.op)∧W.cell? ⟨wr.heap.size,3,none⟩=some (.int .u32 x.value.value)∧W.cell? ⟨wr.heap.size,4,none⟩=some (.int .i64 x.value.width)∧W.cell? ⟨wr.heap.size,5,none⟩=some (.string x.value.name)∧W.cell? ⟨wr.heap.size,6,none⟩=some (.slice x.value.sp.at_ x.value.subs.length x.value.sp.cap)∧W.cell? ⟨w.heap.size,1,none⟩=some (.int .i64 K.p.width)∧Below w8.heap.size w8 W) (simp [*])
           (first
            | (go_at_call 230;refine (HW.out _ (by assumption)).mono ?_;rintro o7 w7 ⟨rfl,hb7⟩;have hb9:=Below.trans (by assumption:Below w8.heap.size w8 _) (hb7.mono (Below.size (by assumption)));obtain ⟨z0,z1,z2,z3,z4,z5,z6⟩:=HC.out _ hb9)
            | (go_at_call 229;refine (HDF.out _).mono ?_;rintro o6 w6 ⟨rfl,rfl⟩)
            | fail)
          go_wp2_with (first | (go_at_call 228;refine (HTELL.out _ _ (HB8.out.trans ((by assumption:Below w8.heap.size w8 _).mono HB8.out.size))).mono ?_;rintro o9 w9 ⟨rfl,ha9,hx9⟩;have HA9:=zhd ha9;have HX9:=zhd hx9;clear ha9 hx9) | fail)
          go_meet
          case rel=>exact ⟨by rw [HRES.out];exact HA9.out,HX9.out⟩
     case rest=>as_aux_lemma =>
      obtain ⟨ha9,hx9⟩:=hcut;obtain ⟨pm9,hst9,hpm9⟩:=ha9.st;have hEX:=pY hJ hJx hT (pm:=pm9) (E:=outside) (wh:=1) HOK.out.value ((cs2++cO K.p (K.p.inits.take k) [])++[ie]) 1 wc ha9.keeps.low hst9 (by simp only [List.length_append,List.length_cons,List.length_nil];omega) (by omega);simp only [ae.val,Sp.val,Int.natCast_one] at hEX;have HEX:=zhd hEX;have HA9:=zhd ha9;have HPM9:=zhd hpm9;have q1:wc.cell? ⟨wr.heap.size,1,none⟩=some (.int .u8 x.value.kind):=by simp [World.cell?,hx9]
      have q2:wc.cell? ⟨wr.heap.size,2,none⟩=some (.int .u8 x.value.op):=by simp [World.cell?,hx9]
      have q3:wc.cell? ⟨wr.heap.size,3,none⟩=some (.int .u32 x.value.value):=by simp [World.cell?,hx9]
      have q4:wc.cell? ⟨wr.heap.size,4,none⟩=some (.int .i64 x.value.width):=by simp [World.cell?,hx9]
      have q5:wc.cell? ⟨wr.heap.size,5,none⟩=some (.string x.value.name):=by simp [World.cell?,hx9]
      have q6:wc.cell? ⟨wr.heap.size,6,none⟩=some (.slice x.value.sp.at_ x.value.subs.length x.value.sp.cap):=by simp [World.cell?,hx9]
      clear ha9 hx9 hst9 hpm9 hEX HTELL g0 p0 p12 hcx;go_wp2_with (first | (go_at_call 225;refine HEX.out.mono ?_;rintro o7 w7 ⟨rfl,ht7⟩;have HT7:=zhd ht7;clear ht7) | fail)
      have HA7:=zhd (HA9.out.told HF.out HPM9.out HT7.out);go_roundw
      case rel=>exact ⟨k+1,by omega,by go_num,by
       have h9:=HA7.out;rw [HTS.out,HIN2.out]
       simpa using h9⟩
      case measure=>simp [intOf];omega
    ·obtain rfl:k=K.p.inits.length:=by omega
     rw [List.take_length] at HAK;obtain ⟨w5,hw5⟩:∃y:World,y=wr:=⟨_,rfl⟩;subst hw5;obtain ⟨cs3,hcs3⟩:∃l,cs2++cO K.p K.p.inits []=l:=⟨_,rfl⟩;have hl3:cs3.length=cs2.length+(cO K.p K.p.inits []).length:=by rw [←hcs3,List.length_append]
     rw [hcs3] at HAK HCP;have e13:=aW HAK.out.box 13 (v:=.slice K.p.rs.at_ K.p.procs.length K.p.rs.cap) rfl;have hpl:=oL hH;have hn4:(cZ K.p).length≤20000:=by
      have e3:=mi K.p 4;rw [xA] at e3;omega
     clear hcs3 HA6;go_wp2_with fail
     go_loopw [104] (fun v wr=>∃k:Nat,k≤K.p.procs.length∧v=.int .i64 k∧iG K J Jx w w.heap.size mb (cs3++bV K.p (K.p.procs.take k) 0 (cZ K.p)) (cZ K.p++(K.p.procs.take k).map aK.name) wr) (fun v _=>K.p.procs.length - (intOf v).toNat)
     case atStart=>exact ⟨0,Nat.zero_le _,rfl,by simpa [bV] using HAK.out⟩
     case round =>
      obtain ⟨k,hk,rfl,hak⟩:=hrel;have HAP:=zhd hak;clear hak e13;by_cases hlt2:k<K.p.procs.length
      ·obtain ⟨b2,off2,eA2,hbn2,hcell⟩:=(HP.out.prow.below HAP.out.keeps.low).row (by omega)
       have k0:wr.cell? ⟨b2,off2+k*3,none⟩=some (.string K.p.procs[k].name):=hcell k hlt2 0 _ rfl;have k1:wr.cell? ⟨b2,off2+k*3+1,none⟩=some (.slice K.p.procs[k].ps.at_ K.p.procs[k].params.length K.p.procs[k].ps.cap):=hcell k hlt2 1 _ rfl;have k2:wr.cell? ⟨b2,off2+k*3+2,none⟩=some (.slice K.p.procs[k].bs.at_ K.p.procs[k].body.length K.p.procs[k].bs.cap):=hcell k hlt2 2 _ rfl;have hts:K.p.procs.take (k+1)=K.p.procs.take k++[K.p.procs[k]]:=List.take_succ_eq_append_getElem hlt2;have hnq:=(HN.out.procs _ (List.getElem_mem hlt2)).1;have hspl:(bV K.p (K.p.procs.take (k+1)) 0 (cZ K.p)).length≤(bV K.p K.p.procs 0 (cZ K.p)).length:=by
        have e1:K.p.procs=K.p.procs.take (k+1)++K.p.procs.drop (k+1):=(List.take_append_drop _ _).symm;rw [lL,lL]
        conv=>rhs;rw [e1]
        rw [List.map_append,List.sum_append];omega
       have hps:bV K.p (K.p.procs.take k++[K.p.procs[k]]) 0 (cZ K.p)=bV K.p (K.p.procs.take k) 0 (cZ K.p)++jS K.p (cZ K.p++(K.p.procs.take k).map aK.name) k K.p.procs[k]:=by
        rw [sZ,List.length_take,Nat.min_eq_left hk,Nat.zero_add]
       rw [hts,hps] at hspl;simp only [List.length_append] at hspl;have hsw:=HAP.out.keeps.size;have hba:=zba wr (.cells #[.string K.p.procs[k].name,.slice K.p.procs[k].ps.at_ K.p.procs[k].params.length K.p.procs[k].ps.cap,.slice K.p.procs[k].bs.at_ K.p.procs[k].body.length K.p.procs[k].bs.cap] 54);have hB5:=zan wr (.cells #[.string K.p.procs[k].name,.slice K.p.procs[k].ps.at_ K.p.procs[k].params.length K.p.procs[k].ps.cap,.slice K.p.procs[k].bs.at_ K.p.procs[k].body.length K.p.procs[k].bs.cap] 54);have ha5:=HAP.out.new hJ hJx HF.out hba;obtain ⟨pm5,hst5,hpm5⟩:=ha5.st;obtain ⟨f5,n5,hn5,hbef5⟩:=ha5.bef;have hplen:=FI K.p [] (cZ K.p++(K.p.procs.take k).map aK.name) k K.p.procs[k];have hPC:=IA hJ hJx hT hH HN.out hn0 _ hst5 (HMX.out.below ha5.keeps.low hn0) k hlt2 (by rw [hplen,List.length_append];omega) hbef5;have HTS:=zhd hts;have HPS:=zhd hps;clear hpm5 hst5;generalize K.p.procs[k]=x at *;have HPC:=zhd hPC;have HA5:=zhd ha5;have HB5:=zhd hB5;have hs5:(wr.alloc (.cells #[.string x.name,.slice x.ps.at_ x.params.length x.ps.cap,.slice x.bs.at_ x.body.length x.bs.cap] 54)).heap.size=wr.heap.size+1:=by simp
       have hk0:(0:Int)≤(k:Int):=by omega
       have hk1:(k:Int)<(K.p.procs.length:Int):=by omega
       have hlt4:((K.p.procs.take k).map aK.name).length≤K.p.procs.length:=by rw [List.length_map];exact List.length_take_le' _ _
       clear hcell hts hps hPC hba hB5 ha5 hplen;rw [eA2];clear eA2;go_upto_region 28 with (first | (go_at_call 231;refine HPC.out.mono ?_;rintro o6 w6 ⟨rfl,ht6⟩;have HT6:=zhd ht6;clear ht6) | fail)
       clear k0 k1 k2;have ha6:=HA5.out.entered HF.out HT6.out;have hB6:=HT6.out.keeps.cells _ _ _ _ HB5.out rfl (by omega);obtain ⟨c0,c1,c2⟩:=aQ hB6;obtain ⟨f6,n6,hn6,hbef6⟩:=ha6.bef;have hl1:=hbef6.look1 (s:=x.name) (by unfold maxLen;omega);obtain ⟨hcb0,hcb1⟩:=hbef6.bound x.name;simp only [List.length_append] at hn6;have hcb2:n6≤100000:=by omega
       obtain ⟨w8,hrun,hbef8,hturn⟩:=hbef6.store (s:=x.name) (by unfold maxLen;omega) (by omega);have ha8:=ha6.stored hJ hJx HF.out hturn (by simp only [List.length_append];exact hn6) hbef8;generalize (f6 x.name).getD 0=c at *;have HA8:=zhd ha8;clear ha6 hB6 hbef6 hbef8 hturn ha8 hbef5;go_wp2_with (refine dE rfl _ _ _ 119 rfl rfl rfl rfl hrun ?_)
       go_roundw
       case rel=>exact ⟨k+1,by omega,by go_num,by
        have h9:=HA8.out;rw [HTS.out,HPS.out,List.map_append,←List.append_assoc,←List.append_assoc];exact h9⟩
       case measure=>simp [intOf];omega
      ·obtain rfl:k=K.p.procs.length:=by omega
       rw [List.take_length] at HAP;obtain ⟨w6,hw6⟩:∃y:World,y=wr:=⟨_,rfl⟩;subst hw6;obtain ⟨cs4,hcs4⟩:∃l,cs3++bV K.p K.p.procs 0 (cZ K.p)=l:=⟨_,rfl⟩;have hl4:cs4.length=cs3.length+(bV K.p K.p.procs 0 (cZ K.p)).length:=by rw [←hcs4,List.length_append]
       rw [hcs4] at HAP HCP;obtain ⟨pm6,hst6,hpm6⟩:=HAP.out.st;have hE0:outside.within≤1000000000:=by decide
       have hWK:=oV hJ hJx hT hH (pm:=pm6) hE0 HP.out.work cs4 1 w6 HAP.out.keeps.low hst6 (by omega) (by omega);simp only [Sp.val,Int.natCast_one] at hWK;have HWK:=zhd hWK;have HPM6:=zhd hpm6;have p14:=aW HAP.out.box 14 (v:=.slice K.p.ws.at_ K.p.work.length K.p.ws.cap) rfl;clear hst6 hpm6 hWK hcs4 HAK;go_upto_region 31 with (first | (go_at_call 232;refine HWK.out.mono ?_;clear HWK;rintro o7 w7 ⟨rfl,ht7⟩;have HT7:=zhd ht7;clear ht7) | fail)
       have ha7:=HAP.out.told HF.out HPM6.out HT7.out;obtain ⟨cs5,hcs5⟩:∃l,cs4++aH K.p outside K.p.work 1=l:=⟨_,rfl⟩;have hl5:cs5.length=cs4.length+(aH K.p outside K.p.work 1).length:=by rw [←hcs5,List.length_append]
       rw [hcs5] at ha7 HCP;have HA7:=zhd ha7;obtain ⟨pm7,hst7,hpm7⟩:=ha7.st;have hRK:=oV hJ hJx hT hH (pm:=pm7) hE0 HP.out.recover cs5 1 w7 ha7.keeps.low hst7 (by omega) (by omega);simp only [Sp.val,Int.natCast_one] at hRK;have HRK:=zhd hRK;have HPM7:=zhd hpm7;have p15:=aW ha7.box 15 (v:=.slice K.p.cs.at_ K.p.recover.length K.p.cs.cap) rfl;clear hst7 hpm7 hRK hcs5 HAP HPM6 HT7 p14 ha7;go_upto_region 32 with (first | (go_at_call 232;refine HRK.out.mono ?_;clear HRK;rintro o8 w8 ⟨rfl,ht8⟩;have HT8:=zhd ht8;clear ht8) | fail)
       have ha8:=HA7.out.told HF.out HPM7.out HT8.out;obtain ⟨cs6,hcs6⟩:∃l,cs5++aH K.p outside K.p.recover 1=l:=⟨_,rfl⟩;have hl6:cs6.length=cs5.length+(aH K.p outside K.p.recover 1).length:=by rw [←hcs6,List.length_append]
       rw [hcs6] at ha8 HCP;have HA8:=zhd ha8;obtain ⟨pm8,hst8,hpm8⟩:=ha8.st;have hIV:=pY hJ hJx hT (pm:=pm8) (E:=outside) (wh:=2) HP.out.invariant cs6 1 w8 ha8.keeps.low hst8 (by omega) (by omega);simp only [ae.val,Sp.val,Int.natCast_one] at hIV;have HIV:=zhd hIV;have HPM8:=zhd hpm8;have p16:=aW ha8.box 16 (v:=.int .u8 K.p.invariant.kind) rfl;have p17:=aW ha8.box 17 (v:=.int .u8 K.p.invariant.op) rfl;have p18:=aW ha8.box 18 (v:=.int .u32 K.p.invariant.value) rfl;have p19:=aW ha8.box 19 (v:=.int .i64 K.p.invariant.width) rfl;have p20:=aW ha8.box 20 (v:=.string K.p.invariant.name) rfl;have p21:=aW ha8.box 21 (v:=.slice K.p.invariant.sp.at_ K.p.invariant.subs.length K.p.invariant.sp.cap) rfl;clear hst8 hpm8 hIV hcs6 HA7 HPM7 HT8 p15 ha8;go_wp2_with (first | (go_at_call 225;refine HIV.out.mono ?_;clear HIV;rintro o9 w9 ⟨rfl,ht9⟩;have HT9:=zhd ht9;clear ht9) | fail)
       go_returns
       have ha9:=HA8.out.told HF.out HPM8.out HT9.out;rw [←HCP.out] at ha9;obtain ⟨pm9,hst9,-⟩:=ha9.st;exact ⟨rfl,⟨pm9,hst9⟩,ha9.keeps⟩
end
section
open Go Go.RowKit
def KT {α:Type} (F:Fence) (n:Nat) (P:Program) (g:Nat) (lb:Array Value) (encs:α→Array Value) (T:TypeId→Bool) (Tc:TypeId) (n₀:Nat) (S Sp:List α→Prop) (N:Nat) (w:World):Prop :=
 ∀(l:Nat) (J Jx:List α→World→Prop) (W:World),Below w.heap.size w W→bN Tc W.heap.size J→bN Tc W.heap.size Jx →
  (∀pre x W1,J pre W1→pre.length<N→YieldAt F (n - 1) P l (encs x) W1 fun e W' =>
   (e=.returned (.bool true)∧J (pre++[x]) W'∧ax T W.heap.size W1 W'∧Below n₀ W1 W')∨(e=.returned (.bool false)∧Jx (pre++[x]) W'∧ax T W.heap.size W1 W'∧Below n₀ W1 W')) →
  J [] W →
  CallsIn F n P g (#[.func (.yield l) #[] #[]]++lb) W fun e W'=>(∃v,e=.returned v)∧((∃xs,S xs∧J xs W')∨(∃pre,Sp pre∧Jx pre W'))
def Hu {α:Type} (T:TypeId→Bool) (B n₀:Nat) (I:List α→World→Prop) (Ix:Code→List α→World→Prop) (xs:List α) (W:World):Exit→Act→World→Prop
 | .normal,_,W'=>ax T B W W'∧Below n₀ W W'∧I xs W'
 | .ret,_,W'=>ax T B W W'∧Below n₀ W W'∧Ix .ret xs W'
 | .exit id,_,W'=>ax T B W W'∧Below n₀ W W'∧Ix (.exit id) xs W'
 | .goto t,_,W'=>ax T B W W'∧Below n₀ W W'∧Ix (.goto t) xs W'
 | _,_,_=>False
variable {F:Fence} {n:Nat} {P:Program} {w:World}
theorem nR {α:Type} {g:Operand} {ps:Array Tmp} {assign body:Code} {Q:Exit→Act→World→Prop} {a:Act} {w:World}
  (hro:F.round=none) (h1:F.depth.isSome=true→1≤n) {gf:Nat} {lb:Array Value} (hg:a.eval g=.func (.func gf) #[] lb) (hFg:F.fn gf) (eg:∀args w,(callFunc gf args).run P w=.ok (.enter gf args) w)
  {encs:α→Array Value} {T:TypeId→Bool} {n₀:Nat} {S Sp:List α→Prop} {N:Nat} {w0:World} {Tc:TypeId} (hseq:KT F (n - 1) P gf lb encs T Tc n₀ S Sp N w0) (hn₀:n₀≤w.heap.size) (hb0:Below w0.heap.size w0 w) (hps:∀x,(encs x).size=ps.size)
  (I:List α→World→Prop) (Ix:Code→List α→World→Prop) (hI:bN Tc w.heap.size I) (hIx:∀c,bN Tc w.heap.size (Ix c)) (h0:I [] w) (Ax:α→Act→World→Prop) (hAx:∀x a',bN Tc w.heap.size (fun (_:Unit) W=>Ax x a' W))
  (hassign:∀(l:Nat) (pre:List α) (x:α) (W:World) (K:Act→World→Prop),I pre W→(∀a' W',ax T w.heap.size W W'→Below n₀ W W'→I pre W'→Ax x a' W'→K a' W') →
   assign.wpIn (F.inRound l) (n - 1 - 1) P (Exit.then K (fun _ _ _=>False)) { tmps:=(ps.zip (encs x)).foldl (fun t (p,v)=>t.setIfInBounds p v) a.tmps,defers:=[] } W)
  (hbody:∀(l:Nat) (pre:List α) (x:α) (a':Act) (W:World),w.heap.size≤l→I pre W→Ax x a' W→pre.length<N→body.wpIn (F.inRound l) (n - 1 - 1) P (Hu T w.heap.size n₀ I Ix (pre++[x]) W) a' W)
  (hdone:∀(D:Nat) (xs:List α) (W:World),w.heap.size≤D→S xs→I xs W→W.heap[D]? = some (.deferred (some []))→Q .normal { a with defers:={ target:=.collected D,args:=#[] }::a.defers } W)
  (hstop:∀(D:Nat) (c:Code) (pre:List α) (W:World),w.heap.size≤D→Sp pre→Ix c pre W→W.heap[D]? = some (.deferred (some []))→c.wpIn F n P Q { a with defers:={ target:=.collected D,args:=#[] }::a.defers } W) :
  (Code.rangeFunc g ps assign body).wpIn F n P Q a w:=by
 refine wpIn_rangeFunc ?_;intro fn hfn;rw [hro];obtain ⟨rec,hrec⟩:∃rec:LoopState→Option Code→Loop,rec=fun st pe=>{ state:=st,pending:=pe,fn,tmps:=a.tmps,params:=ps,assign,body,defers:=w.heap.size }:=⟨_,rfl⟩
 obtain ⟨W1,hW1⟩:∃W1,(w.alloc (.deferred (some []))).alloc (.loop (rec .ready none))=W1:=⟨_,rfl⟩;have hL1:W1.heap[w.heap.size+1]? = some (.loop (rec .ready none)):=by
  rw [←hW1];have:=zan (w.alloc (.deferred (some []))) (.loop (rec .ready none));rwa [World.size_alloc] at this
 have hK1:W1.heap[w.heap.size]? = some (.deferred (some [])):=by
  rw [←hW1];exact (Below.heap_alloc _ _ _ (by simp)).trans (zan w _)
 have hI1:I [] W1:=by rw [←hW1];exact hI.alloc _ (hI.alloc _ h0)
 have hsz1:W1.heap.size=w.heap.size+2:=by rw [←hW1];simp
 have hbw:Below w.heap.size w W1:=by rw [←hW1];exact ((Below.refl _ w).alloc (Nat.le_refl _) _).alloc (by simp) _
 have hb1:Below w0.heap.size w0 W1:=hb0.trans (hbw.mono hb0.size);refine ⟨w.heap.size+1,[{ target:=.collected w.heap.size,args:=#[] }],W1,{ target:=.fn (.func gf) lb,args:=#[.func (.yield (w.heap.size+1)) #[] #[]] },W1,gf,
  #[.func (.yield (w.heap.size+1)) #[] #[]]++lb,W1,?_,?_,?_,?_,h1,?_⟩
 ·rw [←hW1,hrec];exact run_enterLoop_outer _ _ _ _ _
 ·simp only [resolve,hg]
  simp [go_sem]
 ·intro f' hf';simp [Target.leads] at hf';subst hf';exact hFg
 ·simp [invoke,go_sem,eg]
 ·have hrow:∀{A:World} {row:Option Nat},(∀r,row=some r→W1.heap.size≤r∧∃o:Obj,A.heap[r]? = some o∧(o.isCells=false∨∃cs fr,o=.cells cs Tc fr))→(∀r,row=some r→w.heap.size≤r∧∃o:Obj,A.heap[r]? = some o∧(o.isCells=false∨∃cs fr,o=.cells cs Tc fr)) :=
   fun hr r e=>⟨by have:=(hr r e).1;omega,(hr r e).2⟩
  have hstay:∀{A B:World} {row:Option Nat} {k:Nat} {o:Obj},k<W1.heap.size→A.heap[k]? = some o→A.grownBy B row→(∀r,row=some r→W1.heap.size≤r∧∃o:Obj,A.heap[r]? = some o∧(o.isCells=false∨∃cs fr,o=.cells cs Tc fr))→B.heap[k]? = some o :=
   fun {A B row k o} hk h hg' hr=>(hg'.block k (zgs h).1 (fun e=>by have:=(hr k e.symm).1;omega)).trans h
  refine (hseq (w.heap.size+1)
   (fun pre W=>I pre W∧W.heap[w.heap.size+1]? = some (.loop (rec .ready none))∧W.heap[w.heap.size]? = some (.deferred (some [])))
   (fun pre W=>∃c,Ix c pre W∧W.heap[w.heap.size+1]? = some (.loop (rec .done (some c)))∧W.heap[w.heap.size]? = some (.deferred (some [])))
   W1 hb1
   (fun s A B row hs hg' hr=>⟨hI s A B row hs.1 hg' (hrow hr),hstay (by omega) hs.2.1 hg' hr,hstay (by omega) hs.2.2 hg' hr⟩)
   (fun s A B row hs hg' hr=>by
    obtain ⟨c,hc,hl,hk⟩:=hs;exact ⟨c,hIx c s A B row hc hg' (hrow hr),hstay (by omega) hl hg' hr,hstay (by omega) hk hg' hr⟩)
   ?_ ⟨hI1,hL1,hK1⟩).mono ?_
  ·rintro pre x W ⟨hi,hl,hk⟩ hlen
   have hlt:w.heap.size+1<W.heap.size:=(zgs hl).1;have hy:=run_yield (P:=P) (args:=encs x) hl (by rw [hrec];exact hps x);rw [hrec] at hy;refine ⟨fn,_,assign,body,hy,roundIn_of_wpIn hfn (hassign _ pre x W _ hi ?_)⟩;clear hy;intro a' Wa hka hba hia hax
   replace hl:=hka.same _ _ (by omega) hl rfl
   replace hk:=hka.same _ _ (Nat.le_refl _) hk rfl
   replace hlt:w.heap.size+1<Wa.heap.size:=(zgs hl).1
   clear hi;refine ⟨_,run_beginRound hl (by rw [hrec]),?_⟩;have hl2:(Wa.putObj (w.heap.size+1) (.loop { rec .ready none with state:=.busy })).heap[w.heap.size+1]? = some (.loop { rec .ready none with state:=.busy }):=World.putObj_heap_same hlt;have hk2:(Wa.putObj (w.heap.size+1) (.loop { rec .ready none with state:=.busy })).heap[w.heap.size]? = some (.deferred (some [])):=(World.putObj_heap_other (by omega)).trans hk;refine wpIn_mono (hbody _ pre x a' _ (by omega) (hI.putObj _ hia (by omega) hl rfl) ((hAx x a').putObj (s:=()) _ hax (by omega) hl rfl) hlen) ?_;have fin:∀(jump:Option Code) (W3:World),ax T w.heap.size (Wa.putObj (w.heap.size+1) (.loop { rec .ready none with state:=.busy })) W3 →
     ∃W4,(Instr.endRound (w.heap.size+1) jump).run P W3=.ok (.bool jump.isNone) W4∧W4=W3.putObj (w.heap.size+1) (.loop (rec (if jump.isNone then .ready else .done) jump)) ∧
     W3.heap[w.heap.size+1]? = some (.loop { rec .ready none with state:=.busy }) ∧
     W4.heap[w.heap.size+1]? = some (.loop (rec (if jump.isNone then .ready else .done) jump))∧W4.heap[w.heap.size]? = some (.deferred (some []))∧ax T W1.heap.size W W4:=fun jump W3 hk3=>by
    have hl3:=hk3.same _ _ (by omega) hl2 rfl;have hr:=run_endRound (P:=P) jump hl3;rw [hrec] at hr;refine ⟨_,hr,by rw [hrec],by rw [hrec] at hl3;rw [hrec];exact hl3,?_,(World.putObj_heap_other (by omega)).trans (hk3.same _ _ (Nat.le_refl _) hk2 rfl),?_⟩
    ·rw [hrec];exact World.putObj_heap_same (zgs hl3).1
    ·exact ((hka.up (by omega)).trans (ax.put _ (by omega) hl rfl)).trans ((hk3.up (by omega)).trans (ax.put _ (by omega) hl3 rfl))
   rintro e a3 W3 hp;cases e with
   | normal =>
    obtain ⟨hk3,hb3,hi3⟩:=hp;obtain ⟨W4,hr,rfl,hl3,hl4,hk4,hkf⟩:=fin none W3 hk3;exact ⟨_,_,hr,.inl ⟨rfl,⟨hI.putObj _ hi3 (by omega) hl3 rfl,hl4,hk4⟩,hkf,(hba.trans ((bD Wa _ (by omega)).trans hb3)).trans (bD W3 _ (by omega))⟩⟩
   | ret =>
    obtain ⟨hk3,hb3,hi3⟩:=hp;obtain ⟨W4,hr,rfl,hl3,hl4,hk4,hkf⟩:=fin (some .ret) W3 hk3;exact ⟨_,_,hr,.inr ⟨rfl,⟨.ret,(hIx _).putObj _ hi3 (by omega) hl3 rfl,hl4,hk4⟩,hkf,(hba.trans ((bD Wa _ (by omega)).trans hb3)).trans (bD W3 _ (by omega))⟩⟩
   | exit id =>
    obtain ⟨hk3,hb3,hi3⟩:=hp;obtain ⟨W4,hr,rfl,hl3,hl4,hk4,hkf⟩:=fin (some (.exit id)) W3 hk3;exact ⟨_,_,hr,.inr ⟨rfl,⟨.exit id,(hIx _).putObj _ hi3 (by omega) hl3 rfl,hl4,hk4⟩,hkf,(hba.trans ((bD Wa _ (by omega)).trans hb3)).trans (bD W3 _ (by omega))⟩⟩
   | goto t =>
    obtain ⟨hk3,hb3,hi3⟩:=hp;obtain ⟨W4,hr,rfl,hl3,hl4,hk4,hkf⟩:=fin (some (.goto t)) W3 hk3;exact ⟨_,_,hr,.inr ⟨rfl,⟨.goto t,(hIx _).putObj _ hi3 (by omega) hl3 rfl,hl4,hk4⟩,hkf,(hba.trans ((bD Wa _ (by omega)).trans hb3)).trans (bD W3 _ (by omega))⟩⟩
   | panic ch=>exact hp.elim
   | outgrown=>exact hp.elim
  ·rintro e W2 ⟨⟨v,rfl⟩,(⟨xs,hS,hi,hl,hk⟩ | ⟨pre,hSp,c,hi,hl,hk⟩)⟩
   ·exact ⟨none,_,by have:=run_endLoop (P:=P) hl (by rw [hrec];simp);rw [hrec] at this;exact this,
     hdone w.heap.size xs _ (Nat.le_refl _) hS (hI.putObj _ hi (by omega) hl rfl) ((World.putObj_heap_other (by omega)).trans hk)⟩
   ·exact ⟨some c,_,by have:=run_endLoop (P:=P) hl (by rw [hrec];simp);rw [hrec] at this;exact this,
     hstop w.heap.size c pre _ (Nat.le_refl _) hSp ((hIx c).putObj _ hi (by omega) hl rfl) ((World.putObj_heap_other (by omega)).trans hk)⟩
end
end Go.Proofs.YtepacjkacjabbaaGreatDoor
