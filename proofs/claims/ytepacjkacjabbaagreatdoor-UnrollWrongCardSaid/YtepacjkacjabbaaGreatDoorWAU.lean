import Derived.Test.YtepacjkacjabbaaGreatDoorWAA
import Derived.Test.YtepacjkacjabbaaGreatDoorWAT
namespace Go.Proofs.YtepacjkacjabbaaGreatDoor
section
open Go Go.RowKit Go.Maps
structure Am (q n:Nat) (lv:Sp) (ls:List Int) (at_:Nat) (p:af) (M:gy) (W:World):Prop where
 base:mP q n lv ls at_ p M.prm W
 ok:M.ok
 std:M.N=std
 width:p.width=M.w
 inputs:p.inputs=gL M
 ghosts:p.ghosts=lI M
 vars:p.vars=wQ M
 irow:RowOf n (mask q W) p.is 3 aF.cells p.inputs
 grow:RowOf n (mask q W) p.gs 3 aF.cells p.ghosts
 vrow:RowOf n (mask q W) p.vs 3 aF.cells p.vars
theorem Am.next {q n:Nat} {lv:Sp} {ls:List Int} {at_ at':Nat} {p:af} {M:gy} {W W':World} (h:Am q n lv ls at_ p M W) (h0:mP q n lv ls at' p M.prm W') (hb:Below W.heap.size (mask q W) (mask q W')):Am q n lv ls at' p M W' :=
 have hb2:=hb.mono h.base.nW
 ⟨h0,h.ok,h.std,h.width,h.inputs,h.ghosts,h.vars,h.irow.below hb2,h.grow.below hb2,h.vrow.below hb2⟩
theorem Am.on {q n:Nat} {lv:Sp} {ls:List Int} {at_:Nat} {p:af} {M:gy} {W W':World} (h:Am q n lv ls at_ p M W) (hb:Below W.heap.size W W'):Am q n lv ls at_ p M W':=h.next (h.base.on hb) (ai h.base.box_lt hb)
theorem dB {q B b:Nat} {W W':World} (h:Below B (mask q W) (mask q W')) (hb:b<B) (hq:b≠q):W'.heap[b]? = W.heap[b]? := by
 have:=h.block b hb
 rwa [bg hq,bg hq] at this
theorem dC {α:Type} {k B q:Nat} {enc:α→List Value} {t:TypeId} {v:Value} {l:List α} {W W':World} (h:aG B W t k enc v l) (hb:Below W.heap.size (mask q W) (mask q W')) (hq:q<B):aG B W' t k enc v l :=
 h.kept fun g _ _ _ hh=>dB hb (zgs hh).1 (by omega)
theorem mP.low {q n:Nat} {lv:Sp} {ls:List Int} {at_:Nat} {p:af} {prm:Bool} {W W':World} (h:mP q n lv ls at_ p prm W) (hb:Below n W W'):mP q n lv ls at_ p prm W' :=
 ⟨(hb.block _ h.qn).trans h.box,h.le,h.few,h.list.below (ai h.box_lt hb),h.byte,h.qn,Nat.le_trans h.nW hb.size⟩
def nG (M:gy):List aF:=if M.prm=true then [⟨xB,M.w,0⟩] else []
def qg (M:gy) (wh:Int):List aF:=gL M++((if wh=1 then [] else lI M)++(if wh=0 then wQ M++nG M else []))
theorem IM (M:gy) (wh:Int):qg M wh=(kG M wh).map fun x=>⟨x.1,x.2.width,0⟩:=by
 unfold qg kG;have e:gL M=(iE M).map fun x=>⟨x.1,x.2.width,0⟩:=by unfold gL iE;rw [List.map_take];rfl
 rw [e,List.map_append,List.map_append]
 congr 1
 congr 1
 ·split <;> rfl
 ·unfold nG xQ
  split
  ·rw [List.map_append]
   congr 1
   split <;> rfl
  ·rfl
def dV (l:List aF) (wd:Int):List ByteArray:=(l.filter fun d=>decide (d.width=wd)).map aF.name
theorem BX {M:gy} {wh wd:Int} {s:ByteArray} (h:s∈dV (qg M wh) wd):∃t,(s,t)∈kG M wh∧t.width=wd:=by
 unfold dV at h;obtain ⟨d,hd,rfl⟩:=List.mem_map.1 h;rw [List.mem_filter,decide_eq_true_eq,IM] at hd;obtain ⟨⟨s,t⟩,hx,rfl⟩:=List.mem_map.1 hd.1;exact ⟨t,hx,hd.2⟩
theorem uM (l:List aF) (d:aF) (wd:Int):dV (l++[d]) wd=dV l wd++(if d.width=wd then [d.name] else []):=by
 unfold dV;rw [List.filter_append,List.map_append]
 congr 1
 by_cases h:d.width=wd
 ·rw [if_pos h];simp [h]
 ·rw [if_neg h];simp [h]
def encS (s:ByteArray):List Value:=[.string s]
theorem F8 (M:gy) (wh:Int):(qg M wh).length≤7:=by
 unfold qg gL lI wQ nG;simp only [List.length_append,List.length_take,List.length_cons,List.length_nil]
 repeat' split
 all_goals simp
 all_goals omega
theorem xE (l:List aF) (wd:Int):(dV l wd).length≤l.length:=by
 unfold dV;rw [List.length_map];exact List.length_filter_le _ _
theorem GY {M:gy} (h:M.N=std) {wh:Int} {x:ByteArray × cK} (hx:x∈kG M wh):x.1.size≤16:=by
 have h0:=sF hx;have hall:∀s∈[std.i,std.j,std.g,std.h,std.v,std.c,xB],s.size≤16:=by decide
 refine hall _ ?_;unfold kG at h0;simp only [List.mem_append] at h0;rcases h0 with h1 | h1 | h1
 ·have h3:=List.mem_of_mem_take h1
  simp [h] at h3;rcases h3 with rfl | rfl <;> simp
 ·simp [dx,h] at h1
  rcases h1 with rfl | rfl <;> simp
 ·simp only [if_true,iq,xQ,h,List.mem_cons,List.mem_append,List.not_mem_nil,or_false] at h1
  rcases h1 with (rfl | rfl) | h1
  ·simp
  ·simp
  ·split at h1
   ·simp at h1;subst h1;simp
   ·cases h1
theorem aG.far {α:Type} {k B b:Nat} {enc:α→List Value} {e t:TypeId} {v:Value} {l:List α} {w W':World} {cs:Array Value} {fr:Nat × Nat} (h:aG B w e k enc v l) (hg:w.grownBy W' v.ownBlock) (hb:w.heap[b]? = some (.cells cs t fr)) (hne:t≠e):W'.heap[b]? = some (.cells cs t fr) :=
 (hg.block b (zgs hb).1 (fun eq=>by
  obtain ⟨_,cs2,fr2,hh2⟩:=h.own_type eq.symm;rw [hb] at hh2;cases hh2;exact hne rfl)).trans hb
def zX:Array Value:=#[.int .u8 0,.int .u8 0,.int .u32 0,.int .i64 0,.string ⟨#[]⟩,.slice none 0 0]
theorem aM (a b c d:Int) (s:ByteArray) (x:Value):(Tryz.prog.info? 30).map (·.size)=some (#[Value.int .u8 a,.int .u8 b,.int .u32 c,.int .i64 d,.string s,x]:Array Value).size:=by kernel_rfl
theorem dH (a b c d:Int) (s:ByteArray) (A:Option Addr) (n cp:Nat):(#[Value.int .u8 a,.int .u8 b,.int .u32 c,.int .i64 d,.string s,.slice A n cp]:Array Value).all (·.oneCell')=true:=by kernel_rfl
theorem Ku (kn:Nat) (wd:Int) (hk:(kn:Int)<8) (h:1≤wd∧wd≤3):0≤bits BinOp.and IntKind.u32 (kn:Int) ((2 ^ wd.toNat - 1) % 4294967296)∧bits BinOp.and IntKind.u32 (kn:Int) ((2 ^ wd.toNat - 1) % 4294967296)<2 ^ wd.toNat∧bits BinOp.and IntKind.u32 (kn:Int) ((2 ^ wd.toNat - 1) % 4294967296)≤4294967295:=by
 have hw:wd=1∨wd=2∨wd=3:=by omega
 have hk2:kn=0∨kn=1∨kn=2∨kn=3∨kn=4∨kn=5∨kn=6∨kn=7:=by omega
 rcases hw with rfl | rfl | rfl <;> rcases hk2 with rfl | rfl | rfl | rfl | rfl | rfl | rfl | rfl <;> decide
theorem mi {wd:Int} (h:1≤wd∧wd≤3):(Lit.int .i64 wd).wf=true:=by
 have hw3:wd=1∨wd=2∨wd=3:=by omega
 rcases hw3 with rfl | rfl | rfl <;> decide
theorem AJ (W:World) (s:ByteArray) (hs:s.size≤maxLen):iG 0 W (bP s) :=
 .mk _ (show (0:Int)≤2∧(2:Int)≤255 by decide) (show (0:Int)≤0∧(0:Int)≤255 by decide) (show (0:Int)≤0∧(0:Int)≤4294967295 by decide) (show (Lit.int .i64 0).wf=true by decide) hs RowOf.nil (fun _ h=>absurd h (by simp [bP,ae.subs]))
theorem Kz:∀x:ByteArray,∀u∈encS x,u.oneCell'=true:=by
 intro x u hu;simp [encS] at hu;rw [hu];rfl
set_option maxRecDepth 1000000 in
set_option maxHeartbeats 4000000 in
theorem bW (q n:Nat) (lv:Sp) (ls:List Int) (at_:Nat) (p:af) (M:gy) (w:World) (h:Am q n lv ls at_ p M w) (wd wh:Int) (hwd:1≤wd∧wd≤3) :
  Calls Tryz.prog 156 #[.pointer (some ⟨q,0,none⟩),.int .i64 wd,.int .i64 wh] w fun o w'=>∃(e:ae) (at':Nat),o=.returned e.val∧WX M wh 0 wd e∧(∀W:World,iG 0 W e)∧mP q n lv ls at' p M.prm w'∧Below w.heap.size (mask q w) (mask q w'):=by
 have hq:=h.base.box_lt;have hb0:=zba w (.cells #[.int .u8 0,.int .u8 0,.int .u32 0,.int .i64 0,.string ⟨#[]⟩,.slice none 0 0] 30);have hx0:=zan w (.cells #[.int .u8 0,.int .u8 0,.int .u32 0,.int .i64 0,.string ⟨#[]⟩,.slice none 0 0] 30);have hlt0:=(zgs hx0).1;have H0:=h.on hb0;have hcl:=lq (w.alloc (.cells #[.int .u8 0,.int .u8 0,.int .u32 0,.int .i64 0,.string ⟨#[]⟩,.slice none 0 0] 30)) p.is p.inputs n H0.irow.unmask (by rw [h.inputs];unfold gL;simp;omega);have c4:=H0.base.cell 4 rfl;simp only [Sp.val] at c4;have H:=zhd h;have HCL:=zhd hcl;have HB0:=zhd hb0;have HX0:=zhd hx0;clear h H0 hcl hb0 hx0;go_enter Tryz.func156,Tryz.ntmps156
 go_wp2_with fail
 refine HCL.out.mono ?_;rintro o w1 ⟨⟨v,rfl,hown⟩,hb1⟩;have HO1:=zhd (hown.less (Nat.le_of_lt hlt0));have HB1:=zhd (HB0.out.trans (hb1.mono (Nat.le_of_lt hlt0)));have HX1:=zhd ((hb1.block _ hlt0).trans HX0.out);clear hown hb1 HCL HX0 HB0 c4 hlt0
 go_upto_if 19 with fail
 go_cut [8] (fun s8 wx=>aG w.heap.size wx 50 3 aF.cells s8 (p.inputs++(if wh=1 then [] else p.ghosts))∧Below w.heap.size w wx∧wx.heap[w.heap.size]? = some (.cells #[.int .u8 0,.int .u8 0,.int .u32 0,.int .i64 0,.string ⟨#[]⟩,.slice none 0 0] 30 (0,0)))
 case first =>
  by_cases h1:wh=1
  ·have hd:(wh != 1)=false:=by simp [h1]
   have HIF:Hid ((if wh=1 then [] else p.ghosts)=[]):=zhd (if_pos h1);clear h1;go_wp2_with fail
   go_meet
   case rel=>exact ⟨by rw [HIF.out,List.append_nil];exact HO1.out,HB1.out,HX1.out⟩
  ·have hd:(wh != 1)=true:=by simp [h1]
   have HIF:Hid ((if wh=1 then [] else p.ghosts)=p.ghosts):=zhd (if_neg h1);clear h1;have H1:=H.out.on HB1.out;have c5:=H1.base.cell 5 rfl;simp only [Sp.val] at c5;have HR:=zhd H1.grow.unmask;have HLN:Hid (p.inputs.length+p.ghosts.length≤1000000):=zhd (by rw [H1.inputs,H1.ghosts];unfold gL lI;simp;omega);clear H1;go_wp2_with (first | (at_builtin;refine cu rfl (.tmp 20) (.tmp 25) 24 rfl Ju (fun _=>rfl) rH v p.inputs rfl HO1.out p.gs p.ghosts rfl HR.out HLN.out HB1.out.size ?_) | fail)
   intro v2 w2 hown2 hg2 hat2;have HO2:=zhd hown2;have HB2:=zhd (HO1.out.below hg2 (Nat.le_refl _) HB1.out HB1.out.size);have HX2:=zhd (HO1.out.far hg2 HX1.out (by decide));clear hown2 hg2 hat2;go_wp2_with fail
   go_meet
   case rel=>exact ⟨by rw [HIF.out];exact HO2.out,HB2.out,HX2.out⟩
 case rest =>
  obtain ⟨ho2,hb2,hx2⟩:=hcut;have HO2:=zhd ho2;have HB2:=zhd hb2;have HX2:=zhd hx2;clear ho2 hb2 hx2 HO1 HB1 HX1;have HL:Hid (qg M wh=p.inputs++(if wh=1 then [] else p.ghosts)++(if wh=0 then p.vars++nG M else [])):=zhd (by rw [H.out.inputs,H.out.ghosts,H.out.vars,List.append_assoc];rfl);have HLL:Hid ((p.inputs++(if wh=1 then [] else p.ghosts)).length≤4):=zhd (by rw [H.out.inputs,H.out.ghosts];unfold gL lI;split <;> simp <;> omega);obtain ⟨pre,hpre⟩:∃l,p.inputs++(if wh=1 then [] else p.ghosts)=l:=⟨_,rfl⟩;rw [hpre] at HL HLL HO2;clear hpre
  go_upto_if 28 with fail
  go_cut [8] (fun s8 wx=>aG w.heap.size wx 50 3 aF.cells s8 (qg M wh)∧Below w.heap.size w wx∧wx.heap[w.heap.size]? = some (.cells #[.int .u8 0,.int .u8 0,.int .u32 0,.int .i64 0,.string ⟨#[]⟩,.slice none 0 0] 30 (0,0)))
  case first =>
   by_cases h0:wh=0
   ·have hd:(wh == 0)=true:=by simp [h0]
    have HIF:Hid (qg M wh=pre++(p.vars++nG M)):=zhd (by rw [HL.out,if_pos h0]);clear h0 HL;have H1:=H.out.on HB2.out;have c6:=H1.base.cell 6 rfl;have c3:=H1.base.cell 3 rfl;have c24:=H1.base.cell 24 rfl;simp only [Sp.val] at c6;have HR:=zhd H1.vrow.unmask;have HWD:=zhd H1.width;have HLN:Hid (pre.length+p.vars.length≤1000000):=zhd (by have:=HLL.out;rw [H1.vars];unfold wQ;simp;omega);clear H1 c3 c24;go_wp2_with (first | (at_builtin;refine cu rfl (.tmp 29) (.tmp 34) 24 rfl Ju (fun _=>rfl) rH _ pre rfl HO2.out p.vs p.vars rfl HR.out HLN.out HB2.out.size ?_) | fail)
    intro v3 w3 hown3 hg3 hat3;have HO3:=zhd hown3;have HB3:=zhd (HO2.out.below hg3 (Nat.le_refl _) HB2.out HB2.out.size);have HX3:=zhd (HO2.out.far hg3 HX2.out (by decide));clear hown3 hg3 hat3 HR c6;have H3:=H.out.on HB3.out;have c3:=H3.base.cell 3 rfl;have c24:=H3.base.cell 24 rfl;clear H3;cases hp:M.prm with
    | false =>
     rw [hp] at c24;have HPD:Hid (nG M=[]):=zhd (by unfold nG;rw [hp];rfl);go_wp2_with fail
     go_meet
     case rel=>exact ⟨by rw [HIF.out,HPD.out,List.append_nil];exact HO3.out,HB3.out,HX3.out⟩
    | true =>
     rw [hp] at c24;have HPD:Hid (nG M=[⟨xB,p.width,0⟩]):=zhd (by unfold nG;rw [hp,HWD.out];rfl);have hbA:=zba w3 (.cells #[.string xB,.int .i64 p.width,.int .i64 0] 50);have HRA:=zhd (row_one (enc:=aF.cells) (x:=⟨xB,p.width,0⟩) (k:=3) (zan w3 (.cells #[.string xB,.int .i64 p.width,.int .i64 0] 50)));have HOA:=zhd (HO3.out.on hbA);have HBA:=zhd (HB3.out.trans (hbA.mono HB3.out.size));have HXA:=zhd ((hbA.block _ (zgs HX3.out).1).trans HX3.out);have HVL:Hid (p.vars.length=2):=zhd (by rw [H.out.vars];rfl);have HLN2:Hid ((pre++p.vars).length+1≤1000000):=zhd (by have:=HLL.out;rw [List.length_append,HVL.out];omega);clear hbA HO3 HB3 HX3 HLN;go_wp2_with (first | (at_builtin;refine cu rfl (.tmp 40) (.tmp 47) 24 rfl Ju (fun _=>rfl) rH _ (pre++p.vars) rfl HOA.out ⟨some ⟨w3.heap.size,0,none⟩,1⟩ [⟨xB,p.width,0⟩] rfl HRA.out HLN2.out HBA.out.size ?_) | fail)
     intro v4 w4 hown4 hg4 hat4;have HO4:=zhd hown4;have HB4:=zhd (HOA.out.below hg4 (Nat.le_refl _) HBA.out HBA.out.size);have HX4:=zhd (HOA.out.far hg4 HXA.out (by decide));clear hown4 hg4 hat4;go_wp2_with fail
     go_meet
     case rel=>exact ⟨by rw [HIF.out,HPD.out];exact HO4.out,HB4.out,HX4.out⟩
   ·have hd:(wh == 0)=false:=by simp [h0]
    have HIF:Hid (qg M wh=pre):=zhd (by rw [HL.out,if_neg h0,List.append_nil]);clear h0 HL;go_wp2_with fail
    go_meet
    case rel=>exact ⟨by rw [HIF.out];exact HO2.out,HB2.out,HX2.out⟩
  case rest =>
   obtain ⟨ho3,hb3,hx3⟩:=hcut;have hlen:=F8 M wh;have HLE:=zhd (fun s=>BX (M:=M) (wh:=wh) (wd:=wd) (s:=s));obtain ⟨A8,c8,rfl⟩:=ho3.form;have HO3:=zhd ho3;have HB3:=zhd hb3;have HX3:=zhd hx3;clear ho3 hb3 hx3 HO2 HB2 HX2 HL HLL;generalize qg M wh=D at *;go_wp2_with fail
   go_loopw [7,51] (fun s7 s51 wr=>∃j:Nat,j≤D.length∧s51=.int .i64 j∧aG w.heap.size wr 9 1 encS s7 (dV (D.take j) wd)∧aG w.heap.size wr 50 3 aF.cells (.slice A8 D.length c8) D∧Below w.heap.size w wr∧wr.heap[w.heap.size]? = some (.cells #[.int .u8 0,.int .u8 0,.int .u32 0,.int .i64 0,.string ⟨#[]⟩,.slice none 0 0] 30 (0,0))) (fun _ s51 _=>D.length - (intOf s51).toNat)
   case atStart=>exact ⟨0,Nat.zero_le _,rfl,aG.nil,HO3.out,HB3.out,HX3.out⟩
   case round =>
    obtain ⟨j,hj,rfl,ho7,ho8,hbr,hxr⟩:=hrel;clear HO3 HB3 HX3;have HO7:=zhd ho7;have HO8:=zhd ho8;have HBR:=zhd hbr;have HXR:=zhd hxr;by_cases hlt:j<D.length
    ·obtain ⟨g,eA,hg1,hg2,hc⟩:=ho8.cell (fun _=>rfl) hlt
     cases eA
     have k0:=hc 0 (.string (D[j]).name) rfl;have k1:=hc 1 (.int .i64 (D[j]).width) rfl;have k2:=hc 2 (.int .i64 (D[j]).size) rfl;simp only [Nat.add_zero] at k0;have HTK:Hid (D.take (j+1)=D.take j++[D[j]]):=zhd (List.take_succ_eq_append_getElem hlt);have HNL:Hid ((dV (D.take j) wd).length≤7):=zhd (by have h1:=xE (D.take j) wd;have h2:(D.take j).length≤D.length:=List.length_take_le' _ _;omega);obtain ⟨A7,c7,rfl⟩:=ho7.form;clear ho7 ho8 hbr hxr hc;generalize D[j]=d at *;have hba:=zba wr (.cells #[.string d.name,.int .i64 d.width,.int .i64 d.size] 50);by_cases he:d.width=wd
     ·have hd:(d.width == wd)=true:=by simp [he]
      have HNM:Hid (dV (D.take (j+1)) wd=dV (D.take j) wd++[d.name]):=zhd (by rw [HTK.out,uM,if_pos he]);have hbb:Below wr.heap.size wr ((wr.alloc (.cells #[.string d.name,.int .i64 d.width,.int .i64 d.size] 50)).alloc (.cells #[.string d.name] 9)):=hba.alloc (by simp) _;have HRS:=zhd (row_one (enc:=encS) (x:=d.name) (k:=1) (zan (wr.alloc (.cells #[.string d.name,.int .i64 d.width,.int .i64 d.size] 50)) (.cells #[.string d.name] 9)));simp only [World.size_alloc] at HRS;have HO7b:=zhd (HO7.out.on hbb);have HO8b:=zhd (HO8.out.on hbb);have HBRb:=zhd (HBR.out.trans (hbb.mono HBR.out.size));have HXRb:=zhd ((hbb.block _ (zgs HXR.out).1).trans HXR.out);clear he hba hbb HTK HO7 HO8 HBR HXR;go_wp2_with (first | (at_builtin;refine cu rfl (.tmp 59) (.tmp 62) 40 rfl MQ (fun _=>rfl) Kz _ (dV (D.take j) wd) rfl HO7b.out ⟨some ⟨wr.heap.size+1,0,none⟩,1⟩ [d.name] rfl HRS.out (by have:=HNL.out;simp;omega) HBRb.out.size ?_) | fail)
      intro v9 w9 hown9 hg9 hat9;have HO9:=zhd hown9;have HB9:=zhd (HO7b.out.below hg9 (Nat.le_refl _) HBRb.out HBRb.out.size);have HX9:=zhd (HO7b.out.far hg9 HXRb.out (by decide));have HD9:=zhd (HO8b.out.other HO7b.out hg9 (by decide));clear hown9 hg9 hat9;go_wp2_with fail
      go_roundw
      case rel =>
       exact ⟨j+1,by omega,by go_num,by rw [HNM.out];exact HO9.out,HD9.out,HB9.out,HX9.out⟩
      case measure=>simp [intOf];omega
     ·have hd:(d.width == wd)=false:=by simp [he]
      have HNM:Hid (dV (D.take (j+1)) wd=dV (D.take j) wd):=zhd (by rw [HTK.out,uM,if_neg he,List.append_nil]);have HO7b:=zhd (HO7.out.on hba);have HO8b:=zhd (HO8.out.on hba);have HBRb:=zhd (HBR.out.trans (hba.mono HBR.out.size));have HXRb:=zhd ((hba.block _ (zgs HXR.out).1).trans HXR.out);clear he hba HTK HO7 HO8 HBR HXR;go_wp2_with fail
      go_roundw
      case rel =>
       exact ⟨j+1,by omega,by go_num,by rw [HNM.out];exact HO7b.out,HO8b.out,HBRb.out,HXRb.out⟩
      case measure=>simp [intOf];omega
    ·have hjD:j=D.length:=by omega
     have HO7e:=zhd (show aG w.heap.size wr 9 1 encS _ (dV D wd) from by rw [hjD,List.take_length] at ho7;exact ho7);clear ho7 ho8 hbr hxr hjD HO7 HO8 hj;have HMR:=zhd (H.out.on HBR.out);have HNX:=zhd (bZ q n lv ls at_ p M.prm wr HMR.out.base 8 (by decide) (by decide));go_wp2_with fail
     refine HNX.out.mono ?_;clear HNX HMR;rintro o w5 ⟨k,at',rfl,hk0,hk8,hm5,hb5⟩;have hqr:q<wr.heap.size:=Nat.lt_of_lt_of_le hq HBR.out.size;have HM5:=zhd hm5;have HB5:=zhd ((ai hq HBR.out).trans (hb5.mono HBR.out.size));have HX5:=zhd ((dB hb5 (zgs HXR.out).1 (by omega)).trans HXR.out);have ho5:=dC HO7e.out hb5 hq;have hs5:w.heap.size≤w5.heap.size:=by have:=HB5.out.size;rw [iP,iP] at this;exact this
     have hnl:(dV D wd).length≤7:=Nat.le_trans (xE D wd) hlen;have HNW:=zhd H.out.base.nW;clear hm5 hb5 HO7e HBR HXR;obtain ⟨A7,c7,rfl⟩:=ho5.form;obtain ⟨kn,rfl⟩:=Int.eq_ofNat_of_zero_le hk0;by_cases hyes:2<kn∧0<(dV D wd).length
     ·obtain ⟨h2,h0⟩:=hyes
      have hd1:decide ((2:Int)<(kn:Int))=true:=decide_eq_true (by omega);have hd2:decide ((0:Int)<((dV D wd).length:Int))=true:=decide_eq_true (by omega);have hlt:kn % (dV D wd).length<(dV D wd).length:=Nat.mod_lt _ h0;obtain ⟨g,eA,hg1,hg2,hc⟩:=ho5.cell (fun _=>rfl) hlt;cases eA
      have k0:=hc 0 (.string ((dV D wd)[kn % (dV D wd).length])) rfl;simp only [Nat.add_zero,Nat.mul_one] at k0;obtain ⟨t,ht,htw⟩:=HLE.out _ (List.getElem_mem hlt);have HS16:=zhd (GY H.out.std ht);have HWX:=zhd (WX.var (d:=0) ht);rw [htw] at HWX;generalize (dV D wd)[kn % (dV D wd).length]=s at *;generalize (dV D wd).length=L at *;clear hc HLE ho5 htw ht;go_wp2_with fail
      refine (qY _ _).mono ?_;rintro o w6 ⟨rfl,hb6⟩;have HX6:=zhd ((hb6.block _ (zgs HX5.out).1).trans HX5.out);have HB6:=zhd hb6;clear hb6 HX5;go_wp2_with (first | (refine wpList_store_row rfl 30 _ _ rfl w.heap.size #[.int .u8 2,.int .u8 0,.int .u32 0,.int .i64 0,.string s,.slice none 0 0] (by rfl) (by rfl) 30 zX HX6.out (aM _ _ _ _ _ _) (by rfl) (dH _ _ _ _ _ _ _ _) ?_) | fail)
      have hbox:=setRow_heap w6 w.heap.size _ #[.int .u8 2,.int .u8 0,.int .u32 0,.int .i64 0,.string s,.slice none 0 0] 30 (0,0) HX6.out;have hb7:=Go.below_setRow (HB6.out.mono hs5) (Nat.le_refl _) #[.int .u8 2,.int .u8 0,.int .u32 0,.int .i64 0,.string s,.slice none 0 0];exact bodyPost_ret (results_cell_row rfl _ _ w.heap.size 30 _ (0,0) _ rfl hbox Tryz.underlying30 rfl (by kernel_rfl)) rfl ⟨bP s,at',rfl,HWX.out,fun W=>AJ W s (by have:=HS16.out;simp only [maxLen];omega),HM5.out.low (hb7.mono HNW.out),HB5.out.trans (ai (by omega) hb7)⟩
     ·have hbits:=Ku kn wd hk8 hwd
      have HWX:Hid (WX M wh 0 wd (aR (bits BinOp.and IntKind.u32 (kn:Int) ((2 ^ wd.toNat - 1) % 4294967296)) wd)):=zhd (WX.num hbits.1 hbits.2.1 hwd.1 (by omega));have HNX:Hid (∀W:World,iG 0 W (aR (bits BinOp.and IntKind.u32 (kn:Int) ((2 ^ wd.toNat - 1) % 4294967296)) wd)):=zhd (fun _=>by
       exact .mk _ (show (0:Int)≤1∧(1:Int)≤255 by decide) (show (0:Int)≤0∧(0:Int)≤255 by decide) ⟨hbits.1,hbits.2.2⟩ (mi hwd) (show (0:Nat)≤maxLen by decide) RowOf.nil (fun _ h=>absurd h (by simp [aR,ae.subs])))
      have hway:(decide ((2:Int)<(kn:Int))=true∧decide (0<(dV D wd).length)=false∧¬0<(dV D wd).length)∨decide ((2:Int)<(kn:Int))=false:=by
       by_cases h2:2<kn
       ·exact .inl ⟨decide_eq_true (by omega),decide_eq_false (by omega),by omega⟩
       ·exact .inr (decide_eq_false (by omega))
      clear hbits hyes HLE ho5 hnl;rcases hway with ⟨hd1,hd2,hd3⟩ | hd1
      all_goals
       go_wp2_with fail
       generalize bits BinOp.and IntKind.u32 (kn:Int) ((2 ^ wd.toNat - 1) % 4294967296)=x at *;refine (pG _ _ _).mono ?_;rintro o w6 ⟨rfl,hb6⟩;have HX6:=zhd ((hb6.block _ (zgs HX5.out).1).trans HX5.out);have HB6:=zhd hb6;clear hb6 HX5;go_wp2_with (first | (refine wpList_store_row rfl 30 _ _ rfl w.heap.size #[.int .u8 1,.int .u8 0,.int .u32 x,.int .i64 wd,.string ⟨#[]⟩,.slice none 0 0] (by rfl) (by rfl) 30 zX HX6.out (aM _ _ _ _ _ _) (by rfl) (dH _ _ _ _ _ _ _ _) ?_) | fail)
       have hbox:=setRow_heap w6 w.heap.size _ #[.int .u8 1,.int .u8 0,.int .u32 x,.int .i64 wd,.string ⟨#[]⟩,.slice none 0 0] 30 (0,0) HX6.out;have hb7:=Go.below_setRow (HB6.out.mono hs5) (Nat.le_refl _) #[.int .u8 1,.int .u8 0,.int .u32 x,.int .i64 wd,.string ⟨#[]⟩,.slice none 0 0];have HBZ:=HB5.out.trans (ai (by omega) hb7);refine bodyPost_ret (results_cell_row rfl _ _ w.heap.size 30 _ (0,0) _ rfl hbox Tryz.underlying30 rfl (by kernel_rfl)) rfl ⟨aR x wd,at',rfl,HWX.out,HNX.out,HM5.out.low (hb7.mono HNW.out),HBZ⟩
end
section
open Go Go.RowKit Go.Maps
structure zB (q n:Nat) (lv:Sp) (ls:List Int) (at_:Nat) (p:af) (M:gy) (wh d:Int) (w W:World):Prop where
 base:Am q n lv ls at_ p M W
 old:q<w.heap.size
 oldn:n≤w.heap.size
 low:Below w.heap.size (mask q w) (mask q W)
 cm:W.heap[w.heap.size]? = some (.cells #[.pointer (some ⟨q,0,none⟩)] 143 (0,0))
 cw:W.heap[w.heap.size+1]? = some (.cells #[.int .i64 wh] 3 (0,0))
 cd:W.heap[w.heap.size+1+1]? = some (.cells #[.int .i64 d] 3 (0,0))
 cr:W.heap[w.heap.size+1+1+1]? = some (.cells zX 30 (0,0))
section
variable {q n:Nat} {lv:Sp} {ls:List Int} {at_ at':Nat} {p:af} {M:gy} {wh d:Int} {w W W':World}
theorem zB.size (h:zB q n lv ls at_ p M wh d w W):w.heap.size+4≤W.heap.size:=by
 have:=(zgs h.cr).1;omega
theorem zB.next (h:zB q n lv ls at_ p M wh d w W) (h0:mP q n lv ls at' p M.prm W') (hb:Below W.heap.size (mask q W) (mask q W')):zB q n lv ls at' p M wh d w W':=by
 have hs:=h.size;have ho:=h.old;exact ⟨h.base.next h0 hb,ho,h.oldn,h.low.trans (hb.mono (by omega)),(dB hb (by omega) (by omega)).trans h.cm,(dB hb (by omega) (by omega)).trans h.cw,(dB hb (by omega) (by omega)).trans h.cd,(dB hb (by omega) (by omega)).trans h.cr⟩
theorem zB.on (h:zB q n lv ls at_ p M wh d w W) (hb:Below W.heap.size W W'):zB q n lv ls at_ p M wh d w W':=h.next (h.base.base.on hb) (ai h.base.base.box_lt hb)
theorem zB.boxm (h:zB q n lv ls at_ p M wh d w W):W.cell? ⟨w.heap.size,0,none⟩=some (.pointer (some ⟨q,0,none⟩)):=by simp [World.cell?,h.cm]
theorem zB.boxw (h:zB q n lv ls at_ p M wh d w W):W.cell? ⟨w.heap.size+1,0,none⟩=some (.int .i64 wh):=by simp [World.cell?,h.cw]
theorem zB.boxd (h:zB q n lv ls at_ p M wh d w W):W.cell? ⟨w.heap.size+1+1,0,none⟩=some (.int .i64 d):=by simp [World.cell?,h.cd]
theorem zB.fin (h:zB q n lv ls at_ p M wh d w W) (cs:Array Value):(W.setRow (w.heap.size+1+1+1) cs).heap[w.heap.size+1+1+1]? = some (.cells cs 30 (0,0))∧mP q n lv ls at_ p M.prm (W.setRow (w.heap.size+1+1+1) cs)∧Below w.heap.size (mask q w) (mask q (W.setRow (w.heap.size+1+1+1) cs)):=by
 have hs:=h.size;have hb:=Go.below_setRow (Below.refl w.heap.size W) (show w.heap.size≤w.heap.size+1+1+1 by omega) cs;exact ⟨setRow_heap _ _ _ _ _ _ h.cr,h.base.base.low (hb.mono h.oldn),h.low.trans (ai h.base.base.box_lt hb)⟩
end
theorem WX.rise {M:gy} {wh:Int} {wd:Int} {e:ae} (h:WX M wh 0 wd e) (d:Nat):WX M wh d wd e:=by
 cases h with
 | num h1 h2 h3 h4=>exact .num h1 h2 h3 h4
 | var h1=>exact .var h1
def rF (d:Nat):Prop:=∀(q n:Nat) (lv:Sp) (ls:List Int) (at_:Nat) (p:af) (M:gy) (w:World),Am q n lv ls at_ p M w→∀(wd wh:Int),1≤wd∧wd≤3 →
 Calls Tryz.prog 99 #[.pointer (some ⟨q,0,none⟩),.int .i64 wd,.int .i64 wh,.int .i64 d] w fun o w'=>∃(e:ae) (at':Nat),o=.returned (.agg #[.int .u8 e.kind,.int .u8 e.op,.int .u32 e.value,.int .i64 e.width,.string e.name,.slice e.sp.at_ e.subs.length e.sp.cap])∧WX M wh d wd e∧aU w.heap.size w' e∧mP q n lv ls at' p M.prm w'∧Below w.heap.size (mask q w) (mask q w')
def Ml (d:Nat):Prop:=∀(q n:Nat) (lv:Sp) (ls:List Int) (at_:Nat) (p:af) (M:gy) (wh:Int) (w W:World),zB q n lv ls at_ p M wh ((d:Int)+1) w W→∀(wd:Int),1≤wd∧wd≤3 →
 Calls Tryz.prog 157 #[.int .i64 wd,.pointer (some ⟨w.heap.size,0,none⟩),.pointer (some ⟨w.heap.size+1,0,none⟩),.pointer (some ⟨w.heap.size+1+1,0,none⟩)] W fun o w'=>∃(e:ae) (at':Nat),o=.returned (.agg #[.int .u8 e.kind,.int .u8 e.op,.int .u32 e.value,.int .i64 e.width,.string e.name,.slice e.sp.at_ e.subs.length e.sp.cap])∧WX M wh d wd e∧aU (w.heap.size+4) w' e∧zB q n lv ls at' p M wh ((d:Int)+1) w w'∧Below W.heap.size (mask q W) (mask q w')
set_option maxHeartbeats 1000000 in
theorem LX {d:Nat} (hd10:d≤10) (hE:rF d):Ml d:=by
 intro q n lv ls at_ p M wh w W h wd hwd;have hb0:=zba W (.cells zX 30);have h1:=h.on hb0;have c1:=h1.boxm;have c2:=h1.boxw;have c3:=h1.boxd;have hx0:=zan W (.cells zX 30);have hEX:=hE q n lv ls at_ p M _ h1.base wd wh hwd;have HEX:=zhd hEX;have HX0:=zhd hx0;have HB0:=zhd hb0;have H:=zhd h;clear hE h h1 hEX hx0 hb0;unfold zX at *;go_enter Tryz.func157,Tryz.ntmps157
 go_wp2_with fail
 refine HEX.out.mono ?_;rintro o w1 ⟨e,at',rfl,hwx,hnx,hmk,hb1⟩;have hlt0:=(zgs HX0.out).1;have hq:=H.out.base.base.box_lt;have hsz:(W.alloc (.cells #[.int .u8 0,.int .u8 0,.int .u32 0,.int .i64 0,.string ⟨#[]⟩,.slice none 0 0] 30)).heap.size=W.heap.size+1:=by simp
 have HX1:=zhd ((dB hb1 hlt0 (by omega)).trans HX0.out);have HB1:=zhd ((ai hq HB0.out).trans (hb1.mono (by omega)));have HWX:=zhd hwx;rw [hsz] at hnx;have HNX:=zhd hnx;have HMK:=zhd hmk;have hs1:W.heap.size≤w1.heap.size:=bS HB1.out;clear hwx hnx hmk hb1 hsz HEX;go_wp2_with (first | (refine wpList_store_row rfl 30 _ _ rfl W.heap.size #[.int .u8 e.kind,.int .u8 e.op,.int .u32 e.value,.int .i64 e.width,.string e.name,.slice e.sp.at_ e.subs.length e.sp.cap] (by rfl) (by rfl) 30 zX HX1.out (aM _ _ _ _ _ _) (by rfl) (dH _ _ _ _ _ _ _ _) ?_) | fail)
 have hbox:=setRow_heap w1 W.heap.size _ #[.int .u8 e.kind,.int .u8 e.op,.int .u32 e.value,.int .i64 e.width,.string e.name,.slice e.sp.at_ e.subs.length e.sp.cap] 30 (0,0) HX1.out;have hb2:=Go.below_setRow (Below.refl W.heap.size w1) (Nat.le_refl _) #[.int .u8 e.kind,.int .u8 e.op,.int .u32 e.value,.int .i64 e.width,.string e.name,.slice e.sp.at_ e.subs.length e.sp.cap];have hbz:=HB1.out.trans (ai (by omega) hb2);have hos:=H.out.size;exact bodyPost_ret (results_cell_row rfl _ _ W.heap.size 30 _ (0,0) _ rfl hbox Tryz.underlying30 rfl (aM _ _ _ _ _ _)) rfl ⟨e,at',rfl,HWX.out,(HNX.out.set (Nat.lt_succ_self _)).less (by omega),H.out.next (HMK.out.low (hb2.mono (by have:=H.out.oldn;omega))) hbz,hbz⟩
end
end Go.Proofs.YtepacjkacjabbaaGreatDoor
