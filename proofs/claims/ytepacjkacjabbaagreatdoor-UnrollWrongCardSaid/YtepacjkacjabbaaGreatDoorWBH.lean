import Derived.Test.YtepacjkacjabbaaGreatDoorWAA
import Derived.Test.YtepacjkacjabbaaGreatDoorWBG
import Derived.Maps.OwnIn
import Derived.WalkMore
namespace Go.Proofs.YtepacjkacjabbaaGreatDoor
section
open Go Go.RowKit Go.Maps
attribute [local go_sem] Oper.semAt_some
theorem ax.grownU {T:TypeId→Bool} {B:Nat} {W W':World} {row:Option Nat} {t:TypeId} (hg:W.grownBy W' row) (hr:∀r,row=some r→∃cs fr,W.heap[r]? = some (.cells cs t fr)) (ht:T t=false):ax T B W W' :=
 ⟨hg.size,fun k o _ hk ho=>(hg.block k (zgs hk).1 (fun e=>by
  obtain ⟨cs,fr,h⟩:=hr k e.symm;rw [h] at hk;cases hk;cases ho)).trans hk,fun k cs t' fr hk h2=>(hg.block k (zgs hk).1 (fun e=>by
  obtain ⟨cs',fr',h⟩:=hr k e.symm;rw [h] at hk;cases hk;rw [ht] at h2;cases h2)).trans hk⟩
theorem LJ:(Tryz.prog.info? 5).map (fun i=>(i.zero,i.size,i.bytes))=some (some (.int .u8 0),1,1):=by kernel_rfl
def vK (x:Int):List Value:=[.int .u8 x]
def qc (l:List aa):List Int:=(l.filter fun s=>decide (s.kind=3∨s.kind=4∨s.kind=5)).map aa.kind
theorem KR (l:List aa):qc (l.flatMap aa.pre)=qF l:=rfl
theorem wE {l:List aa} {s:aa} (h:s.kind=3∨s.kind=4∨s.kind=5):qc (l++[s])=qc l++[s.kind]:=by
 unfold qc;rw [List.filter_append,List.map_append];simp [h]
theorem Kq {l:List aa} {s:aa} (h:¬(s.kind=3∨s.kind=4∨s.kind=5)):qc (l++[s])=qc l:=by
 unfold qc;rw [List.filter_append,List.map_append];simp [h]
theorem Dh (l:List aa):(qc l).length≤l.length:=by
 unfold qc;rw [List.length_map];exact List.length_filter_le _ _
theorem I5 {p:af} (hr:dM p) (hw:bD p≤20000):ay (aZ p.work)≤20000∧ay (aZ p.recover)≤20000:=by
 have hl:=hr.right.loops;have h1:=Ab p.work hl.1;have h2:=Ab p.recover hl.2;unfold bD at hw;rcases Bl hl.1 with ⟨e1,k1⟩ | ⟨e1,k1⟩ <;> rcases Bl hl.2 with ⟨e2,k2⟩ | ⟨e2,k2⟩ <;> omega
theorem wO (l:List aa):(l.flatMap aa.pre).length≤ay l:=by
 have h1:=sj (l.flatMap aa.pre);have h2:(l.flatMap aa.pre).length≤iy (l.flatMap aa.pre):=by
  unfold iy;exact lD _ (fun s=>by omega) _
 unfold ay;omega
set_option maxRecDepth 10000000 in
set_option maxHeartbeats 64000000 in
theorem KL (w:World) (p:af) (hp:fe w.heap.size w p) (hn0:0<w.heap.size) (hmx:MxAt w) (hr:dM p) (hi:p.inits=[]) (hwt:bD p≤20000) (hdt:gV p≤1000) :
  Calls Tryz.prog 46 #[.agg p.arr] w fun o w'=>∃sp:Sp,o=.returned (.tuple #[.slice sp.at_ (qF (aZ p.work)).length sp.cap,.int .i64 0])∧RowOf w'.heap.size w' sp 1 vK (qF (aZ p.work))∧Below w.heap.size w w':=by
 have hb1:=zba w (.cells p.arr 35);have hB:=zan w (.cells p.arr 35);have HUN:=zhd (mV _ p (hp.on hb1) (Nat.lt_of_lt_of_le hn0 hb1.size) (hmx.below hb1 hn0) hr hi hwt hdt);have HFW:=zhd (I5 hr hwt);have harrs:=aB p;have HB:=zhd hB;have HB1:=zhd hb1;clear hB hb1 hp hmx hr hi hwt hdt;generalize p.arr=arr at *;refine (callsIn_wide (n:=5)).1 ?_;refine callsIn_of_wp_marks Tryz.func46 rfl trivial ?_ rfl;simp only [Tryz.ntmps46,List.size_toArray,List.length_cons,List.length_nil,Nat.reduceAdd,Nat.reduceSub,Array.replicate_succ,Array.replicate_zero,List.push_toArray,List.append_toArray,List.nil_append,List.cons_append];refine wpIn_wide.2 ?_;go_wp2_with (first | (refine wpList_load_row rfl 35 _ rfl w.heap.size rfl 35 _ (0,0) _ HB.out Tryz.underlying35 rfl harrs ?_) | fail)
 refine HUN.out.mono ?_;rintro o w2 ⟨q,rfl,hbare,hrd,hb2⟩;have hq0:=zan w2 (.cells aD.arr 35);have HQ0:=zhd hq0;have HA2:Hid (Below w2.heap.size w2 (w2.alloc (.cells aD.arr 35))):=zhd ((Below.refl _ _).alloc (Nat.le_refl _) _);have HBARE:=zhd hbare;have HRD:=zhd hrd;have HB2:=zhd (HB1.out.trans (hb2.mono HB1.out.size));clear hq0 hbare hrd hb2 HUN;go_upto_region 4 with (first
  | (refine aC (t:=35) rfl rfl (bU _) ?_)
  | (refine wpList_store_row rfl 35 _ _ rfl w2.heap.size q.arr (by rfl) (by rfl) 35 aD.arr HQ0.out (aB _) (by kernel_rfl) (eD _) ?_)
  | fail)
 have hb3:Below w2.heap.size w2 ((w2.alloc (.cells aD.arr 35)).setRow w2.heap.size q.arr):=below_setRow HA2.out (Nat.le_refl _);have hq3:Bx w2.heap.size ((w2.alloc (.cells aD.arr 35)).setRow w2.heap.size q.arr) q:=setRow_heap _ _ _ _ _ _ HQ0.out;have hs3:((w2.alloc (.cells aD.arr 35)).setRow w2.heap.size q.arr).heap.size=w2.heap.size+1:=by rw [size_setRow];simp
 generalize (w2.alloc (.cells aD.arr 35)).setRow w2.heap.size q.arr=w3 at *;have hb4:=zba w3 (.cells #[.slice none 0 0] 22);have hx4:Boxed (w3.alloc (.cells #[.slice none 0 0] 22)) w3.heap.size 22 (.slice none 0 0):=Boxed.new w3 _ _;have hq4:Bx w2.heap.size (w3.alloc (.cells #[.slice none 0 0] 22)) q:=hq3.on hb4;have c14:=hq4.cell 14 rfl;simp only [Sp.val] at c14;have hs4:(w3.alloc (.cells #[.slice none 0 0] 22)).heap.size=w3.heap.size+1:=by simp
 have HX4:=zhd hx4;have HB4:=zhd (hb3.trans (hb4.mono (by omega)));clear hb3 hq3 hb4 hx4 hq4;go_wp2_with fail
 generalize w3.alloc (.cells #[.slice none 0 0] 22)=w4 at *;refine (nC q.ws q.work.length w4).mono ?_;rintro o w5 ⟨rfl,rfl⟩;have hb5:=zba w4 (.cells #[.slice q.ws.at_ q.work.length q.ws.cap] 33);have hx5:=zan w4 (.cells #[.slice q.ws.at_ q.work.length q.ws.cap] 33);have hs5:(w4.alloc (.cells #[.slice q.ws.at_ q.work.length q.ws.cap] 33)).heap.size=w4.heap.size+1:=by simp
 have HX5:=zhd hx5;have HB5:=zhd (HB4.out.trans (hb5.mono (by omega)));have HV5:=zhd (HX4.out.alloc (.cells #[.slice q.ws.at_ q.work.length q.ws.cap] 33));clear hb5 hx5 HX4 HB4 c14;generalize hw5:w4.alloc (.cells #[.slice q.ws.at_ q.work.length q.ws.cap] 33)=w5 at *;go_wp2_with fail
 have hbw:q.work.map ag=(aZ p.work).map ag:=congrArg af.work HBARE.out;have hfw:(q.work.flatMap aa.pre).length≤20000:=by
  have h1:=wO q.work;have h2:ay q.work=ay (aZ p.work):=by rw [←eQ,hbw,eQ]
  have h3:=HFW.out.1;omega
 have HOPS:Hid (qF q.work=qF (aZ p.work)):=zhd (zm hbw);have HSEQ:=zhd fun n=>nu q.ws q.work HRD.out.work n w5 (w2.heap.size+1+1) HB5.out (by have:=HB5.out.size;omega) (by have h:=HX5.out;rw [hs4,hs3] at h;exact h)
 have hsz5:w5.heap.size=w2.heap.size+3:=by rw [hs5,hs4,hs3]
 have HV5':Hid (Boxed w5 (w2.heap.size+1) 22 (.slice none 0 0)):=zhd (by have h:=HV5.out;rw [hs3] at h;exact h);obtain ⟨i0,hi,hz0,hz1,hz2⟩:=kL LJ;clear HX5 HV5 hbw hw5 hs3 hs4 hs5;refine (wpIn_wide (n:=5)).1 ?_;refine bB (T:=TW) (n₀:=w2.heap.size) rfl (fun h=>by cases h) (gf:=165) (lb:=#[.pointer (some ⟨w2.heap.size+1+1,0,none⟩)]) rfl trivial (enters_of Tryz.func165 (by kernel_rfl) rfl)
  (HSEQ.out _) (by omega) (Below.refl _ _) (fun _=>rfl)
  (fun pre W=>∃v,Boxed W (w2.heap.size+1) 22 v∧aG w2.heap.size W 5 1 vK v (qc pre)∧Below w2.heap.size w2 W∧w5.heap.size≤W.heap.size)
  (fun _ _ _=>False)
  ?hI ?hIx ⟨_,HV5'.out,aG.nil,HB5.out,Nat.le_refl _⟩
  (fun y a' W=>∃b7,W.heap[b7]? = some (.cells #[.int .u8 y.kind,.string y.name,.slice y.es.at_ y.exprs.length y.es.cap,.int .i64 y.bound,.slice y.ts.at_ y.thn.length y.ts.cap,.slice y.os.at_ y.els.length y.os.cap] 43 (0,0))∧a'={ tmps:=#[.agg arr,.pointer (some ⟨w.heap.size,0,none⟩),.slice none 0 0,.int .i64 0,.pointer (some ⟨w2.heap.size,0,none⟩),.int .i64 0,.pointer (some ⟨w2.heap.size+1,0,none⟩),.pointer (some ⟨b7,0,none⟩),.tuple #[.agg q.arr,.int .i64 0],.agg arr,.tuple #[.agg q.arr,.int .i64 0],.agg q.arr,.int .i64 0,.int .i64 0,.bool false,undef,.pointer (some ⟨w2.heap.size,14,none⟩),.slice q.ws.at_ q.work.length q.ws.cap,.func (.func 165) #[] #[.pointer (some ⟨w2.heap.size+1+1,0,none⟩)],.agg #[.int .u8 y.kind,.string y.name,.slice y.es.at_ y.exprs.length y.es.cap,.int .i64 y.bound,.slice y.ts.at_ y.thn.length y.ts.cap,.slice y.os.at_ y.els.length y.os.cap],undef,undef,undef,undef,undef,undef,undef,undef,undef,undef,undef,undef],defers:=[] })
  ?hAx ?assign ?body ?done ?stop
 case hI =>
  rintro s X' Y rw ⟨v,h1,h2,h3,h4⟩ hg hr;have hcl:∀(k:Nat) (cs:Array Value) (t:TypeId) (fr:Nat × Nat),X'.heap[k]? = some (Obj.cells cs t fr)→Y.heap[k]? = X'.heap[k]? := fun k cs t fr hk=>hg.block k (zgs hk).1 (fun e=>by
   obtain ⟨_,o,ho,hc⟩:=hr k e.symm;rw [hk] at ho;cases ho
   cases hc)
  exact ⟨v,(hcl _ _ _ _ h1).trans h1,h2.kept fun k cs fr _ hk=>hcl k cs _ fr hk,h3.grown hg h3.size (fun q hq=>by have:=(hr q hq).1;omega),Nat.le_trans h4 hg.size⟩
 case hIx=>rintro c s X' Y rw h;cases h
 case hAx =>
  rintro y a' _ X' Y rw ⟨b7,h1,h2⟩ hg hr;refine ⟨b7,(hg.block b7 (zgs h1).1 (fun e'=>?_)).trans h1,h2⟩;obtain ⟨_,o',ho,hc⟩:=hr b7 e'.symm;rw [h1] at ho;cases ho
  cases hc
 case assign =>
  rintro l2 pre y Wc K ⟨v,h1,h2,h3,h4⟩ hK;simp only [aa.val,Sp.val] at hK ⊢;have hba:=zba Wc (.cells #[.int .u8 y.kind,.string y.name,.slice y.es.at_ y.exprs.length y.es.cap,.int .i64 y.bound,.slice y.ts.at_ y.thn.length y.ts.cap,.slice y.os.at_ y.els.length y.os.cap] 43)
  gi_wp2
  exact hK _ _ (ax.of_below hba) (hba.mono (by omega)) ⟨v,(hba.block _ (zgs h1).1).trans h1,h2.on hba,h3.trans (hba.mono (by omega)),Nat.le_trans h4 hba.size⟩ ⟨_,zan _ _,rfl⟩
 case body =>
  rintro l2 pre y a' Wc hl2 ⟨v,h1,h2,h3,h4⟩ ⟨b7,hb7,rfl⟩ hlen hsp;obtain ⟨q0,q1,q2,q3,q4,q5⟩:=ah hb7;obtain ⟨A,cc,rfl⟩:=h2.form;have cB:=one_cell h1;have hol:=Dh pre;have hpl:pre.length≤20000:=by omega
  have hba:=zba Wc (.cells #[.int .u8 y.kind] 5);have hnew:=zan Wc (.cells #[.int .u8 y.kind] 5);have HCELL:Hid (∀j u,(vK y.kind)[j]? = some u→(Wc.alloc (.cells #[.int .u8 y.kind] 5)).cell? ((⟨Wc.heap.size,0,none⟩:Addr).add j)=some u):=zhd fun j u hj=>by
   rw [Addr.add_lit];simp only [World.cell?,Nat.zero_add,hnew];have e2:(#[Value.int .u8 y.kind]:Array Value)[j]? = some u:=by simpa [vK] using hj
   exact e2
  have HONE:Hid (∀u∈vK y.kind,u.oneCell'=true):=zhd (by intro u hu;simp [vK] at hu;rw [hu];rfl);have HSZ:Hid (w2.heap.size≤Wc.heap.size):=zhd (by omega);have HR2:=zhd (h2.on hba);have HBX:=zhd ((hba.block _ (zgs h1).1).trans h1);have HBA2:=zhd hba;have H3:=zhd h3;have H2:=zhd h2;have H1:=zhd h1;have H4:=zhd h4;by_cases hm:y.kind=3∨y.kind=4∨y.kind=5
  ·have HM:=zhd hm
   clear h1 h2 h3 hb7 hba hnew hlen hsp q1 q2 q3 q4 q5 h4;rcases hm with k | k | k
   ·have g3:(y.kind == 3)=true:=by simp [k]
    clear k
    gi_wp2_with (first | (gi_at_builtin;refine wpListIn_append_own_at _ rfl _ _ 22 rfl w2.heap.size 5 i0 (.int .u8 0) 1 1 Tryz.underlying22 hi hz0 hz1 hz2 rfl (by decide) _ _ _ rfl HR2.out ⟨Wc.heap.size,0,none⟩ 1 1 (vK y.kind) rfl rfl HCELL.out HONE.out (by simp only [maxLen];omega) (by omega) (by have:=HSZ.out;simp;omega) ?_) | fail)
    intro v2 wz hown2 hg2 hnil hat;have how:aG w2.heap.size wz 5 1 vK v2 (qc (pre++[y])):=by
     rw [wE HM.out];unfold aG;rw [List.length_append,List.flatMap_append];exact hown2
    obtain ⟨A2,c2,rfl⟩:=how.form;have HOW:=zhd how;have hne:some (w2.heap.size+1)≠(Value.slice A (qc pre).length cc).ownBlock:=fun e=>by
     obtain ⟨_,cs,fr,hh⟩:=HR2.out.own_type e.symm;rw [HBX.out] at hh;cases hh
    have hlt:=(zgs HBX.out).1;have hbz:=(hg2.block _ hlt hne).trans HBX.out;have hk2:ax TW w5.heap.size Wc wz:=(ax.of_below HBA2.out).trans (ax.grownU hg2 (fun r e=>(HR2.out.own_type e).2) rfl);have hl2:Below w2.heap.size Wc wz:=HR2.out.below hg2 (Nat.le_refl _) (HBA2.out.mono HSZ.out) (Nat.le_trans HSZ.out HBA2.out.size);have f2:wz.frozen? ⟨w2.heap.size+1,0,none⟩=false:=by simp [World.frozen?,hbz]
    have cz:=one_cell hbz;have HK2:=zhd hk2;have HL2:=zhd hl2;have HBZ:=zhd hbz;have HSG:=zhd hg2.size;clear how hown2 hg2 hnil hat hne hbz hk2 hl2
    gi_wp2
    exact ⟨HK2.out.trans (ax.set (a:=⟨w2.heap.size+1,0,none⟩) HBZ.out rfl _),HL2.out.setCell (p:=⟨w2.heap.size+1,0,none⟩) (by show w2.heap.size≤w2.heap.size+1;omega) _,_,(show Boxed wz (w2.heap.size+1) 22 _ from HBZ.out).set _,
     HOW.out.kept (fun k cs fr _ hk=>Below.heap_setCell _ _ _ k (fun e=>by
      have e2:k=w2.heap.size+1:=e;rw [e2,HBZ.out] at hk;cases hk)),
     H3.out.trans (HL2.out.setCell (p:=⟨w2.heap.size+1,0,none⟩) (by show w2.heap.size≤w2.heap.size+1;omega) _),by have:=HSG.out;have:=HBA2.out.size;have:=H4.out;simp only [World.size_setCell];omega⟩
   ·have g3:(y.kind == 3)=false:=by simp [k]
    have g4:(y.kind == 4)=true:=by simp [k]
    clear k
    gi_wp2_with (first | (gi_at_builtin;refine wpListIn_append_own_at _ rfl _ _ 22 rfl w2.heap.size 5 i0 (.int .u8 0) 1 1 Tryz.underlying22 hi hz0 hz1 hz2 rfl (by decide) _ _ _ rfl HR2.out ⟨Wc.heap.size,0,none⟩ 1 1 (vK y.kind) rfl rfl HCELL.out HONE.out (by simp only [maxLen];omega) (by omega) (by have:=HSZ.out;simp;omega) ?_) | fail)
    intro v2 wz hown2 hg2 hnil hat;have how:aG w2.heap.size wz 5 1 vK v2 (qc (pre++[y])):=by
     rw [wE HM.out];unfold aG;rw [List.length_append,List.flatMap_append];exact hown2
    obtain ⟨A2,c2,rfl⟩:=how.form;have HOW:=zhd how;have hne:some (w2.heap.size+1)≠(Value.slice A (qc pre).length cc).ownBlock:=fun e=>by
     obtain ⟨_,cs,fr,hh⟩:=HR2.out.own_type e.symm;rw [HBX.out] at hh;cases hh
    have hlt:=(zgs HBX.out).1;have hbz:=(hg2.block _ hlt hne).trans HBX.out;have hk2:ax TW w5.heap.size Wc wz:=(ax.of_below HBA2.out).trans (ax.grownU hg2 (fun r e=>(HR2.out.own_type e).2) rfl);have hl2:Below w2.heap.size Wc wz:=HR2.out.below hg2 (Nat.le_refl _) (HBA2.out.mono HSZ.out) (Nat.le_trans HSZ.out HBA2.out.size);have f2:wz.frozen? ⟨w2.heap.size+1,0,none⟩=false:=by simp [World.frozen?,hbz]
    have cz:=one_cell hbz;have HK2:=zhd hk2;have HL2:=zhd hl2;have HBZ:=zhd hbz;have HSG:=zhd hg2.size;clear how hown2 hg2 hnil hat hne hbz hk2 hl2
    gi_wp2
    exact ⟨HK2.out.trans (ax.set (a:=⟨w2.heap.size+1,0,none⟩) HBZ.out rfl _),HL2.out.setCell (p:=⟨w2.heap.size+1,0,none⟩) (by show w2.heap.size≤w2.heap.size+1;omega) _,_,(show Boxed wz (w2.heap.size+1) 22 _ from HBZ.out).set _,
     HOW.out.kept (fun k cs fr _ hk=>Below.heap_setCell _ _ _ k (fun e=>by
      have e2:k=w2.heap.size+1:=e;rw [e2,HBZ.out] at hk;cases hk)),
     H3.out.trans (HL2.out.setCell (p:=⟨w2.heap.size+1,0,none⟩) (by show w2.heap.size≤w2.heap.size+1;omega) _),by have:=HSG.out;have:=HBA2.out.size;have:=H4.out;simp only [World.size_setCell];omega⟩
   ·have g3:(y.kind == 3)=false:=by simp [k]
    have g4:(y.kind == 4)=false:=by simp [k]
    have g5:(y.kind == 5)=true:=by simp [k]
    clear k
    gi_wp2_with (first | (gi_at_builtin;refine wpListIn_append_own_at _ rfl _ _ 22 rfl w2.heap.size 5 i0 (.int .u8 0) 1 1 Tryz.underlying22 hi hz0 hz1 hz2 rfl (by decide) _ _ _ rfl HR2.out ⟨Wc.heap.size,0,none⟩ 1 1 (vK y.kind) rfl rfl HCELL.out HONE.out (by simp only [maxLen];omega) (by omega) (by have:=HSZ.out;simp;omega) ?_) | fail)
    intro v2 wz hown2 hg2 hnil hat;have how:aG w2.heap.size wz 5 1 vK v2 (qc (pre++[y])):=by
     rw [wE HM.out];unfold aG;rw [List.length_append,List.flatMap_append];exact hown2
    obtain ⟨A2,c2,rfl⟩:=how.form;have HOW:=zhd how;have hne:some (w2.heap.size+1)≠(Value.slice A (qc pre).length cc).ownBlock:=fun e=>by
     obtain ⟨_,cs,fr,hh⟩:=HR2.out.own_type e.symm;rw [HBX.out] at hh;cases hh
    have hlt:=(zgs HBX.out).1;have hbz:=(hg2.block _ hlt hne).trans HBX.out;have hk2:ax TW w5.heap.size Wc wz:=(ax.of_below HBA2.out).trans (ax.grownU hg2 (fun r e=>(HR2.out.own_type e).2) rfl);have hl2:Below w2.heap.size Wc wz:=HR2.out.below hg2 (Nat.le_refl _) (HBA2.out.mono HSZ.out) (Nat.le_trans HSZ.out HBA2.out.size);have f2:wz.frozen? ⟨w2.heap.size+1,0,none⟩=false:=by simp [World.frozen?,hbz]
    have cz:=one_cell hbz;have HK2:=zhd hk2;have HL2:=zhd hl2;have HBZ:=zhd hbz;have HSG:=zhd hg2.size;clear how hown2 hg2 hnil hat hne hbz hk2 hl2
    gi_wp2
    exact ⟨HK2.out.trans (ax.set (a:=⟨w2.heap.size+1,0,none⟩) HBZ.out rfl _),HL2.out.setCell (p:=⟨w2.heap.size+1,0,none⟩) (by show w2.heap.size≤w2.heap.size+1;omega) _,_,(show Boxed wz (w2.heap.size+1) 22 _ from HBZ.out).set _,
     HOW.out.kept (fun k cs fr _ hk=>Below.heap_setCell _ _ _ k (fun e=>by
      have e2:k=w2.heap.size+1:=e;rw [e2,HBZ.out] at hk;cases hk)),
     H3.out.trans (HL2.out.setCell (p:=⟨w2.heap.size+1,0,none⟩) (by show w2.heap.size≤w2.heap.size+1;omega) _),by have:=HSG.out;have:=HBA2.out.size;have:=H4.out;simp only [World.size_setCell];omega⟩
  ·have HM:=zhd hm
   have g3:(y.kind == 3)=false:=by simp;omega
   have g4:(y.kind == 4)=false:=by simp;omega
   have g5:(y.kind == 5)=false:=by simp;omega
   clear h1 h2 h3 hb7 hba hnew hlen hsp q1 q2 q3 q4 q5 h4 hm HR2 HBX
   gi_wp2
   exact ⟨ax.refl _ _ _,Below.refl _ _,_,H1.out,by rw [Kq HM.out];exact H2.out,H3.out,H4.out⟩
 case done =>
  rintro Dq ys Wd hD rfl ⟨v,h1,h2,h3,h4⟩ hK;have cB:=one_cell h1;obtain ⟨A,cc,rfl⟩:=h2.form;have HKD:=zhd hK;have H2:=zhd h2;have H3:=zhd h3;clear hK h1 h2 h3;go_wp2_with fail
  refine ⟨by simp,.inl ⟨_,_,rfl,run_takeDeferred HKD.out,?_⟩⟩;have own:=H2.out.kept (W':=Wd.putObj Dq (.deferred none)) (fun k cs fr _ hk=>World.putObj_heap_other (fun e=>by rw [e,HKD.out] at hk;cases hk));have hfl:=Dh (q.work.flatMap aa.pre);obtain ⟨sp,e,hrw,_⟩:=own.row (fun _=>rfl) (by omega);have hops:=HOPS.out;rw [←KR] at hops;unfold Sp.val at e;refine ⟨_,results_tmp2 rfl _ _ _,sp,?_,?_,HB2.out.trans ((H3.out.trans (bT _ _ (by omega))).mono HB2.out.size)⟩
  ·rw [←hops]
   exact congrArg (fun v=>Ending.returned (.tuple #[v,.int .i64 0])) e
  ·rw [←hops]
   exact hrw
 case stop=>rintro Dq c pre Wd hD _ h;cases h
end
end Go.Proofs.YtepacjkacjabbaaGreatDoor
