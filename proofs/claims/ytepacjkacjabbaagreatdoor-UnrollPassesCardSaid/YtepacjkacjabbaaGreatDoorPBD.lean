import Derived.Test.YtepacjkacjabbaaGreatDoorPAA
import Derived.Test.YtepacjkacjabbaaGreatDoorPBB
import Derived.Test.YtepacjkacjabbaaGreatDoorPAX
import Derived.Test.YtepacjkacjabbaaGreatDoorPAV
import Derived.Test.YtepacjkacjabbaaGreatDoorPBC
import Derived.Test.YtepacjkacjabbaaGreatDoorPAG
import Derived.Test.YtepacjkacjabbaaGreatDoorPAH
namespace Go.Proofs.YtepacjkacjabbaaGreatDoor
section
open Go Go.RowKit Go.Maps
theorem uo {a:Act} (h:a.tmps.size=94) (hd:a.defers=[]):∃F:Nat→Value,(∀i:Nat,F i=a.eval (.tmp i))∧a=⟨(F 0::F 1::F 2::F 3::F 4::F 5::F 6::F 7::F 8::F 9::F 10::F 11::F 12::F 13::F 14::F 15::F 16::F 17::F 18::F 19::F 20::F 21::F 22::F 23::F 24::F 25::F 26::F 27::F 28::F 29::F 30::F 31::F 32::F 33::F 34::F 35::F 36::F 37::F 38::F 39::F 40::F 41::F 42::F 43::F 44::F 45::F 46::F 47::F 48::F 49::F 50::F 51::F 52::F 53::F 54::F 55::F 56::F 57::F 58::F 59::F 60::F 61::F 62::F 63::F 64::F 65::F 66::F 67::F 68::F 69::F 70::F 71::F 72::F 73::F 74::F 75::F 76::F 77::F 78::F 79::F 80::F 81::F 82::F 83::F 84::F 85::F 86::F 87::F 88::F 89::F 90::F 91::F 92::F 93::[]).toArray,[]⟩:=⟨fun i=>a.eval (.tmp i),fun _=>rfl,mf h hd⟩
theorem A7 {p:af} (h:aR p≤20000):(p.inputs.length≤1000000∧p.ghosts.length≤1000000∧p.vars.length≤1000000∧p.arrays.length≤1000000)∧p.require.pre.length≤1000000∧p.invariant.pre.length≤1000000∧ay p.work≤1000000∧ay p.recover≤1000000:=by
 unfold aR at h;refine ⟨⟨?_,?_,?_,?_⟩,?_,?_,?_,?_⟩ <;> omega
theorem wC {W:World} {g:Nat} {cs:Array Value} {ty:TypeId} {fr:Nat × Nat} (h:W.heap[g]? = some (.cells cs ty fr)) (ds:Array Value):(W.setRow g ds).heap[g]? = some (.cells ds ty fr):=setRow_heap _ _ _ _ _ _ h
theorem Br {α:Type} {k lo:Nat} {enc:α→List Value} {e:TypeId} {W:World} {sp:Sp} {l:List α} (h:aI lo W e k enc (.slice sp.at_ l.length sp.cap) l) (h0:l=[]) {n:Nat} {W':World}:RowOf n W' sp k enc l:=by
 subst h0;rcases h.2 with ⟨hv,_⟩ | ⟨g,cap,cur,hv,h1,h2,h3,h4,h5,h6⟩
 ·cases sp
  injection hv with e1 e2 e3;simp only at e1 e3;rw [e1,e3];exact RowOf.nil
 ·cases sp
  injection hv with e1 e2 e3;simp only at e1 e3;rw [e1,e3];exact ⟨Nat.zero_le _,h4,Nat.zero_le _,fun h=>absurd h (by simp)⟩
theorem nz {lo g:Nat} {W:World} {cs:Array Value} {sp:Sp} {l:List aa} (h:bQ lo W sp l) (hg:g<lo):bQ lo (W.setRow g cs) sp l :=
 ⟨by rw [size_setRow];exact h.1.cells (ry hg),fun s hs=>(h.2 s hs).set hg⟩
theorem jW.cells {n:Nat} {W W':World} {p:af} (h:jW n W p) (hc:∀(a:Addr) (u:Value),a.block<n→W.cell? a=some u→W'.cell? a=some u):jW n W' p:=by
 obtain ⟨b1,b2,b3,b4,b5,b6,b7,b8,b9,b10,b11,b12,b13,b14⟩:=h;have ts:∀{sp:Sp} {l:List aa},bX n W sp l→bX n W' sp l:=fun h=>⟨h.row.cells hc,fun t ht=>(h.ok t ht).cells hc⟩
 exact ⟨b1,b2,⟨b3.row.cells hc,b3.ok⟩,⟨b4.row.cells hc,b4.ok⟩,⟨b5.row.cells hc,b5.ok⟩,⟨b6.row.cells hc,b6.ok⟩,b7.cells hc,b8.cells hc,fun x hx=>⟨(b9 x hx).block,(b9 x hx).value.cells hc⟩,b10.cells hc,fun x hx=>by
  obtain ⟨c1,c2,c3⟩:=b11 x hx;exact ⟨c1,⟨c2.row.cells hc,c2.ok⟩,ts c3⟩,ts b12,ts b13,b14.cells hc⟩
theorem qx {α:Type} {k lo g:Nat} {enc:α→List Value} {e:TypeId} {W:World} {cs:Array Value} {v:Value} {l:List α} (h:aI lo W e k enc v l) (hg:g<lo):aI lo (W.setRow g cs) e k enc v l :=
 h.kept fun b _ _ hb _=>setRow_other _ _ _ _ (by omega)
theorem qw {lo:Nat} {W:World} {sp:Sp} {l:List aG} (h:aI lo W 50 3 aG.cells (.slice sp.at_ l.length sp.cap) l) (hl:l.length≤1000000):RowOf W.heap.size (dK lo W) sp 3 aG.cells l:=by
 obtain ⟨sp',e,hr,hb⟩:=h.row (fun _=>rfl) (by omega);have:sp'=sp:=by
  obtain ⟨a1,c1⟩:=sp;obtain ⟨a2,c2⟩:=sp';unfold Sp.val at e;injection e with e1 e2 e3;simp only at e1 e3;rw [e1,e3]
 subst this;exact hr.low' fun a ha=>(hb a ha).1
set_option maxRecDepth 10000000 in
set_option maxHeartbeats 64000000 in
theorem EI (w:World) (p:af) (hp:jW w.heap.size w p) (hl:aR p≤20000) (hi:p.inits=[]) (hq:p.procs=[]) :
  Calls Tryz.prog 84 #[.agg p.arr] w fun o w'=>∃p':af,o=.returned (.agg p'.arr)∧aD p'=aD p∧jW w'.heap.size (dK w.heap.size w') p'∧Below w.heap.size w w':=by
 obtain ⟨hB1,hZ1,hsz1,hb1⟩:=gY w (.cells p.arr 35) (.cells bH.arr 35);have hLT:Calls Tryz.prog 112 #[.agg p.arr] ((w.alloc (.cells p.arr 35)).alloc (.cells bH.arr 35)) _:=vJ _ p (hp.on hb1) (by have:=nL p;omega);rw [decide_eq_true (show countP p≤20000 by rw [kC hl];omega)] at hLT;have harrs:=aN p;have HP:=zhd hp;have HL:=zhd (A7 hl);have HI:=zhd hi;have HQ:=zhd hq;have HLT:=zhd hLT;have HB:=zhd hB1;have HZ:=zhd hZ1;have HB1:=zhd hb1;clear hLT hB1 hZ1 hb1 hp hl hi hq;obtain ⟨arr,harr⟩:∃arr,arr=p.arr:=⟨_,rfl⟩;have HARR:=zhd harr;rw [←harr] at HLT HB HZ HB1 harrs hsz1 ⊢;clear harr;go_enter Tryz.func84,Tryz.ntmps84
 go_wp2_with (first
  | (refine wpList_load_row rfl 35 _ rfl (w.heap.size) rfl 35 _ (0,0) _ HB.out Tryz.underlying35 rfl harrs ?_)
  | (refine aO (t:=35) rfl rfl (gm _) ?_)
  | fail)
 refine HLT.out.mono ?_;rintro o w2 ⟨rfl,hb2⟩;generalize (w.alloc (.cells arr 35)).alloc (.cells bH.arr 35)=w1 at *;have hx2:Bx w.heap.size w2 p:=by unfold Bx;rw [←HARR.out];exact (hb2.block _ (zgs HB.out).1).trans HB.out
 have hz2:=(hb2.block _ (zgs HZ.out).1).trans HZ.out;have hB2:=HB1.out.trans (hb2.mono HB1.out.size);have hs2:w.heap.size+2≤w2.heap.size:=by have:=hb2.size;omega
 have HX2:=zhd hx2;have HZ2:=zhd hz2;have HB2:=zhd hB2;clear hx2 hz2 hB2 hb2 HB HZ HB1 HLT;go_upto_region 3 with fail
 refine Code.wp_mono ?_ (fV (C':=.region 3 opsC3 true) (by kernel_rfl) (KY rfl w.heap.size (w.heap.size+2) w.heap.size p (by omega) hs2 (Nat.le_refl _) rfl (HP.out.below HB2.out) HL.out.1 HX2.out));rintro e a9 w3 ⟨rfl,hsz9,hd9,hsm9,hm3,i1,g1,v1,a1,hx3,y0,y1,y2,y3⟩;obtain ⟨F,hF,rfl⟩:=uo hsz9 hd9;have g1:F 1=.pointer (some ⟨w.heap.size,0,none⟩):=(hF 1).trans (au ((hsm9 1 rfl).trans rfl));have g2:F 2=.pointer (some ⟨w.heap.size+1,0,none⟩):=(hF 2).trans (au ((hsm9 2 rfl).trans rfl));rw [g1,g2];clear hF g1 g2 hsz9 hd9 hsm9;have hs3:=hm3.size;have HX3:=zhd hx3;have HZ3:=zhd ((hm3.heap (b:=w.heap.size+1) (by omega) (by omega)).trans HZ2.out);have HB3:=zhd (HB2.out.trans (hm3.below (Nat.le_refl _) (by omega)));have HY0:=zhd (y0.1 rfl);have HY1:=zhd (y1.1 rfl);have HY2:=zhd (y2.1 rfl);have HY3:=zhd (y3.1 rfl);clear hm3 hx3 y0 y1 y2 y3 HX2 HZ2 HB2;go_upto_region 4 with fail
 refine Code.wp_mono ?_ (fV (C':=.region 4 opsC4 true) (by kernel_rfl) (KZ rfl w.heap.size (w.heap.size+2) w.heap.size { p with is:=i1,gs:=g1,vs:=v1,«as»:=a1 } (by omega) (by omega) (Nat.le_refl _) rfl (HP.out.irow.below HB3.out) (HP.out.prow.below HB3.out) ⟨by show p.inits.length≤_;rw [HI.out];exact Nat.zero_le _,by show p.procs.length≤_;rw [HQ.out];exact Nat.zero_le _⟩ HX3.out));rintro e a9 w4 ⟨rfl,hsz9,hd9,hsm9,hm4,n1,r1,hx4,y0,y1⟩;obtain ⟨G,hG,rfl⟩:=uo hsz9 hd9;have g1:G 1=.pointer (some ⟨w.heap.size,0,none⟩):=(hG 1).trans (au ((hsm9 1 rfl).trans rfl));have g2:G 2=.pointer (some ⟨w.heap.size+1,0,none⟩):=(hG 2).trans (au ((hsm9 2 rfl).trans rfl));rw [g1,g2];clear hG g1 g2 hsz9 hd9 hsm9;have hs4:=hm4.size;have hx4':Bx w.heap.size w4 { p with is:=i1,gs:=g1,vs:=v1,«as»:=a1,ns:=n1,rs:=r1 }:=hx4;have HX4:=zhd hx4';have HN4:=zhd (y0.1 rfl);have HR4:=zhd (y1.1 rfl);have HZ4:=zhd ((hm4.heap (b:=w.heap.size+1) (by omega) (by omega)).trans HZ3.out);have HB4:=zhd (HB3.out.trans (hm4.below (Nat.le_refl _) (by omega)));have HU0:=zhd (HY0.out.onM hm4 (by omega));have HU1:=zhd (HY1.out.onM hm4 (by omega));have HU2:=zhd (HY2.out.onM hm4 (by omega));have HU3:=zhd (HY3.out.onM hm4 (by omega));have c12:w4.cell? ⟨w.heap.size,12,none⟩=some (.slice n1.at_ 0 n1.cap):=by have h:=hx4'.cell 12 rfl;rw [HI.out] at h;exact h
 have c13:w4.cell? ⟨w.heap.size,13,none⟩=some (.slice r1.at_ 0 r1.cap):=by have h:=hx4'.cell 13 rfl;rw [HQ.out] at h;exact h
 clear hm4 hx4 hx4' y0 y1 HX3 HZ3 HB3 HY0 HY1 HY2 HY3;go_wp2_with fail
 refine wp_loop_rounds 1 ?_;rw [rounds_succ];go_wp2_with fail
 refine wp_loop_rounds 1 ?_;rw [rounds_succ];go_upto_region 15 with fail
 clear c12 c13;refine Code.wp_mono ?_ (fV (C':=.region 15 opsC15 true) (by kernel_rfl) (Kz rfl w.heap.size (w.heap.size+2) w.heap.size { p with is:=i1,gs:=g1,vs:=v1,«as»:=a1,ns:=n1,rs:=r1 } (by omega) (by omega) (Nat.le_refl _) rfl ⟨ny (τ:=id) (fun s hs=>hs) (ni w.heap.size w4) p.require (HP.out.require.stays HB4.out) HL.out.2.1,ny (τ:=id) (fun s hs=>hs) (ni w.heap.size w4) p.invariant (HP.out.invariant.stays HB4.out) HL.out.2.2.1⟩ HX4.out));rintro e a9 w5 ⟨rfl,hsz9,hd9,hsm9,hm5,e1,e2,hx5,y0,y1⟩;obtain ⟨H,hH,rfl⟩:=uo hsz9 hd9;have g1:H 1=.pointer (some ⟨w.heap.size,0,none⟩):=(hH 1).trans (au ((hsm9 1 rfl).trans rfl));have g2:H 2=.pointer (some ⟨w.heap.size+1,0,none⟩):=(hH 2).trans (au ((hsm9 2 rfl).trans rfl));rw [g1,g2];clear hH g1 g2 hsz9 hd9 hsm9;have hs5:=hm5.size;have hx5':Bx w.heap.size w5 { p with is:=i1,gs:=g1,vs:=v1,«as»:=a1,ns:=n1,rs:=r1,require:=e1,invariant:=e2 }:=hx5;have HX5:=zhd hx5';have HZ5:=zhd ((hm5.heap (b:=w.heap.size+1) (by omega) (by omega)).trans HZ4.out);have HB5:=zhd (HB4.out.trans (hm5.below (Nat.le_refl _) (by omega)));have HV0:=zhd (HU0.out.onM hm5 (by omega));have HV1:=zhd (HU1.out.onM hm5 (by omega));have HV2:=zhd (HU2.out.onM hm5 (by omega));have HV3:=zhd (HU3.out.onM hm5 (by omega));have HE1:=zhd (y0.1 rfl);have HE2:=zhd (y1.1 rfl);clear hm5 hx5 hx5' y0 y1 HX4 HZ4 HB4 HU0 HU1 HU2 HU3;go_upto_region 16 with fail
 refine Code.wp_mono ?_ (fV (C':=.region 16 opsC16 true) (by kernel_rfl) (KA rfl w.heap.size (w.heap.size+2) w.heap.size { p with is:=i1,gs:=g1,vs:=v1,«as»:=a1,ns:=n1,rs:=r1,require:=e1,invariant:=e2 } (by omega) (by omega) (Nat.le_refl _) rfl ⟨jR (τ:=id) (fun s hs=>hs) (ni w.heap.size w5) p.ws p.work (HP.out.work.below HB5.out) HL.out.2.2.2.1,jR (τ:=id) (fun s hs=>hs) (ni w.heap.size w5) p.cs p.recover (HP.out.recover.below HB5.out) HL.out.2.2.2.2⟩ HX5.out));rintro e a9 w6 ⟨rfl,hsz9,hd9,hsm9,hm6,s1,l1,s2,l2,hx6,y0,y1⟩;obtain ⟨I,hI,rfl⟩:=uo hsz9 hd9;have g1:I 1=.pointer (some ⟨w.heap.size,0,none⟩):=(hI 1).trans (au ((hsm9 1 rfl).trans rfl));have g2:I 2=.pointer (some ⟨w.heap.size+1,0,none⟩):=(hI 2).trans (au ((hsm9 2 rfl).trans rfl));rw [g1,g2];clear hI g1 g2 hsz9 hd9 hsm9;obtain ⟨pf,hpf⟩:∃pf:af,pf={ p with is:=i1,gs:=g1,vs:=v1,«as»:=a1,ns:=n1,rs:=r1,require:=e1,invariant:=e2,ws:=s1,work:=l1,cs:=s2,recover:=l2 }:=⟨_,rfl⟩;have hx6':Bx w.heap.size w6 pf:=by rw [hpf];exact hx6
 have HX6:=zhd hx6';have HZ6:=zhd ((hm6.heap (b:=w.heap.size+1) (by omega) (by omega)).trans HZ5.out);have HB6:=zhd (HB5.out.trans (hm6.below (Nat.le_refl _) (by omega)));have HV0:=zhd (HV0.out.onM hm6 (by omega));have HV1:=zhd (HV1.out.onM hm6 (by omega));have HV2:=zhd (HV2.out.onM hm6 (by omega));have HV3:=zhd (HV3.out.onM hm6 (by omega));have HE1:=zhd (And.intro HE1.out.1 (HE1.out.2.on hm6 (by omega)));have HE2:=zhd (And.intro HE2.out.1 (HE2.out.2.on hm6 (by omega)));have HT1:=zhd (y0.1 rfl);have HT2:=zhd (y1.1 rfl);have HPF:=zhd hpf;clear hm6 hx6 hx6' y0 y1 HX5 HZ5 HB5 hpf;go_upto_region 17 with fail
 go_wp2_with (first
  | (refine wpList_load_row rfl 35 _ rfl w.heap.size rfl 35 _ (0,0) _ HX6.out Tryz.underlying35 rfl (aN _) ?_)
  | (refine wpList_store_row rfl 35 _ _ rfl (w.heap.size+1) pf.arr (by rfl) (by rfl) 35 bH.arr HZ6.out (aN _) (by kernel_rfl) (jg _) ?_)
  | fail)
 have hse:(w6.setRow (w.heap.size+1) pf.arr).heap[w.heap.size+1]? = some (.cells pf.arr 35 (0,0)):=wC HZ6.out pf.arr;refine bodyPost_ret (results_cell_row rfl _ _ (w.heap.size+1) 35 _ (0,0) _ rfl hse Tryz.underlying35 rfl (aN _)) rfl ⟨pf,rfl,?_,?_,below_setRow HB6.out (Nat.le_succ _)⟩
 ·rw [HPF.out]
  unfold aD;simp only [HE1.out.1,HE2.out.1,HT1.out.1,HT2.out.1]
 ·have hP:=HP.out
  have hL:=HL.out;have q0:=qw (qx (g:=w.heap.size+1) (cs:=pf.arr) HV0.out (by omega)) hL.1.1;have q1:=qw (qx (g:=w.heap.size+1) (cs:=pf.arr) HV1.out (by omega)) hL.1.2.1;have q2:=qw (qx (g:=w.heap.size+1) (cs:=pf.arr) HV2.out (by omega)) hL.1.2.2.1;have q3:=qw (qx (g:=w.heap.size+1) (cs:=pf.arr) HV3.out (by omega)) hL.1.2.2.2;have r1:=(HE1.out.2.set (g:=w.heap.size+1) (cs:=pf.arr) (by omega));have r2:=(HE2.out.2.set (g:=w.heap.size+1) (cs:=pf.arr) (by omega));have t1:=(nz (g:=w.heap.size+1) (cs:=pf.arr) HT1.out.2 (by omega));have t2:=(nz (g:=w.heap.size+1) (cs:=pf.arr) HT2.out.2 (by omega));have n1':=Br HN4.out HI.out (n:=(w6.setRow (w.heap.size+1) pf.arr).heap.size) (W':=dK (w.heap.size+2) (w6.setRow (w.heap.size+1) pf.arr));have n2':=Br HR4.out HQ.out (n:=(w6.setRow (w.heap.size+1) pf.arr).heap.size) (W':=dK (w.heap.size+2) (w6.setRow (w.heap.size+1) pf.arr));have hpf:=HPF.out;refine jW.cells (W:=dK (w.heap.size+2) (w6.setRow (w.heap.size+1) pf.arr)) ?_ (lv (by omega));generalize w6.setRow (w.heap.size+1) pf.arr=wf at *;subst hpf;obtain ⟨b1,b2,b3,b4,b5,b6,b7,b8,b9,b10,b11,b12,b13,b14⟩:=hP;exact ⟨b1,b2,⟨q0,b3.ok⟩,⟨q1,b4.ok⟩,⟨q2,b5.ok⟩,⟨q3,b6.ok⟩,r1,n1',fun x hx=>absurd hx (by show ¬x∈p.inits;rw [HI.out];simp),n2',fun x hx=>absurd hx (by show ¬x∈p.procs;rw [HQ.out];simp),⟨t1.1,t1.2⟩,⟨t2.1,t2.2⟩,r2⟩
end
section
open Go Go.RowKit
structure Ch (w wr:World) (l:List aa) (k:Nat) (A:Option Addr) (c:Nat) (cur:List aa):Prop where
 own:aI w.heap.size wr 43 6 aa.cells (.slice A cur.length c) cur
 new:∀s,s∈cur→dH w.heap.size (Value.slice A cur.length c).ownBlock wr s
 low:Below w.heap.size w wr
 eq:cur.map ah=(aX (l.take k)).map ah
section
variable {w wr W':World} {l cur:List aa} {k:Nat} {A:Option Addr} {c:Nat}
theorem Ch.start:Ch w w l 0 none 0 []:=⟨aI.nil,fun _ h=>absurd h (by simp),Below.refl _ _,rfl⟩
theorem Ch.on (h:Ch w wr l k A c cur) (hb:Below wr.heap.size wr W'):Ch w W' l k A c cur :=
 ⟨h.own.on hb,fun s hs=>(h.new s hs).below hb,h.low.trans (hb.mono h.low.size),h.eq⟩
theorem Ch.len (h:Ch w wr l k A c cur) (hk:k≤l.length):cur.length=k:=by
 have:=congrArg List.length h.eq;rw [List.length_map,List.length_map,lN,List.length_map,List.length_take] at this;omega
theorem Ch.old (h:Ch w wr l k A c cur):∀b,(Value.slice A cur.length c).ownBlock=some b→b<wr.heap.size:=h.own.old_block
theorem Ch.push (h:Ch w wr l k A c cur) (hk:k<l.length) {y:aa} (hy:dH w.heap.size (Value.slice A cur.length c).ownBlock wr y) (hbare:ah y=ah (uh l[k])) {v':Value} (ho:aI w.heap.size W' 43 6 aa.cells v' (cur++[y])) (hg:wr.grownBy W' (Value.slice A cur.length c).ownBlock) (hat:v'.ownBlock=(Value.slice A cur.length c).ownBlock∨v'.ownBlock=some wr.heap.size) :
  ∃A' c',v'=.slice A' (cur++[y]).length c'∧Ch w W' l (k+1) A' c' (cur++[y]):=by
 obtain ⟨A',c',rfl⟩:=ho.form;refine ⟨A',c',rfl,ho,fun s hs=>?_,h.own.below hg (Nat.le_refl _) h.low h.low.size,?_⟩
 ·rcases List.mem_append.1 hs with h1 | h1
  ·exact (h.new s h1).grow hg hat
  ·rw [List.mem_singleton] at h1
   subst h1;exact hy.grow hg hat
 ·rw [List.map_append,h.eq,lN,lN,List.take_succ_eq_append_getElem hk,List.map_append,List.map_append,List.map_cons,List.map_cons,List.map_cons,hbare]
  rfl
theorem Ch.done (h:Ch w wr l k A c cur) (hk:k=l.length):cur.map ah=(aX l).map ah:=by
 have:=h.eq
 rwa [hk,List.take_length] at this
end
theorem lG {lo:Nat} {W:World} {A:Option Addr} {c:Nat} {l:List aa} (h:aI lo W 43 6 aa.cells (.slice A l.length c) l) (hs:∀s,s∈l→iE lo W s) (hl:l.length≤1000000):bQ lo W ⟨A,c⟩ l:=by
 obtain ⟨sp,e,hr,hb⟩:=h.row (fun _=>rfl) (by omega);have:sp=⟨A,c⟩:=by
  unfold Sp.val at e;injection e with e1 e2 e3;rw [e1,e3]
 subst this;exact ⟨hr.low' fun a ha=>(hb a ha).1,hs⟩
theorem iE.tox' {lo:Nat} {g:Option Nat} {W W':World} {s:aa} (h:iE lo W s) (hb:Below W.heap.size W W') (hg:∀b,g=some b→W.heap.size≤b):dH lo g W' s :=
 (eu.cells h fun p u hp hc=>by
  obtain ⟨h1,h2⟩:=az.1 hc;exact dZ.2 ⟨h1,fun e=>by have:=hg _ e;omega,(hb.cell hp).trans h2⟩).more hb.size
theorem aI.from {α:Type} {k B:Nat} {enc:α→List Value} {e:TypeId} {v:Value} {l:List α} {W:World} (h:aI B W e k enc v l):∀b,v.ownBlock=some b→B≤b:=fun _ hb=>(h.own_type hb).1
theorem Gb {ex:List ae} {e e':ae} {th th':List aa} (hx:ex=[e]) (he:av e'=av e) (ht:th'.map ah=th.map ah) (es ts:Sp):ah (.mk 6 ⟨#[]⟩ es [e'] 0 ts th' Sp.none [])=ah (fT ex th):=by
 subst hx;unfold fT;rw [bC,bC];simp [he,ht]
end
section
open Go Go.RowKit
section
variable {P:Program} {ops:Array Oper} {Q:Exit→Act→World→Prop}
def l8 (dst:Nat→Option Nat) (S:(Nat→Bool)→World→Prop) (Pv:(Nat→Bool)→Nat→Value→World→Prop) (i:Nat) (L:Nat→Bool) (a:Act) (w:World) (a':Act) (w':World):Prop :=
 ∃v,a'=a.put (dst i) v∧(dst i=none→v=undef)∧Pv (jr L i) i v w'∧S (jr L i) w'∧∀j u,j≠i→L j=true→u=dQ a (dst j)→Pv L j u w→Pv (jr L i) j u w'
def Kq (P:Program) (Q:Exit→Act→World→Prop) (ops:Array Oper) (n:Nat) (dst:Nat→Option Nat) (S:(Nat→Bool)→World→Prop) (Pv:(Nat→Bool)→Nat→Value→World→Prop) (a0:Act) (i:Nat) (o:Oper):Prop :=
 ∀(L:Nat→Bool) (a:Act) (w:World),L i=false→S L w→(∀j,(ops[j]?.any fun o'=>iW o' i)=true→L j=false)→(∀t:Nat,(∀i,i<n→dst i≠some t)→a.eval (.tmp t)=a0.eval (.tmp t))→(∀j,iW o j=true→L j=true∧Pv L j (dQ a (dst j)) w) →
  match o.guard with
  | none=>o.wp P a w (l8 dst S Pv i L a w) Q
  | some (g,b)=>∃b',dQ a (dst g)=.bool b'∧(b'=b→o.wp P a w (l8 dst S Pv i L a w) Q)∧(b'≠b→l8 dst S Pv i L a w (a.put (dst i) undef) w)
theorem rY {id n sz:Nat} {dst:Nat→Option Nat} {a0:Act} {w0:World} (hm:P.follows .mixedOrders=true) (hB:jC ops n sz dst=true) (ha:a0.tmps.size=sz)
  (S:(Nat→Bool)→World→Prop) (Pv:(Nat→Bool)→Nat→Value→World→Prop)
  (hall:jV (fun i o=>Kq P Q ops n dst S Pv a0 i o) 0 ops.toList)
  (hs:S (fun _=>false) w0.drew)
  (hdone:∀(L:Nat→Bool) (a:Act) (w:World),S L w→a.tmps.size=a0.tmps.size→a.defers=a0.defers→(∀t:Nat,(∀i,i<n→dst i≠some t)→a.eval (.tmp t)=a0.eval (.tmp t))→(∀i,i<n→L i=true∧Pv L i (dQ a (dst i)) w)→Q .normal a w):(Code.region id ops true).wp P Q a0 w0:=by
 unfold jC at hB;simp only [Bool.and_eq_true,List.all_eq_true,List.mem_range,decide_eq_true_eq] at hB;obtain ⟨hsz,hB⟩:=hB;have hop:∀i o,ops[i]? = some o→i<n∧(∀g b,o.guard=some (g,b)→g<i∧iW o g=true)∧o.dst=dst i∧(∀d,dst i=some d→d<sz)∧(∀e∈o.after,Region.binds .any e=true→e.on<i)∧∀j,j<n→dst i≠none→dst i=dst j→j=i:=by
  intro i o ho;have hi:i<n:=by rw [←hsz];exact (zgs ho).1
  have h1:=hB i hi;rw [ho] at h1;simp only [Bool.and_eq_true,List.all_eq_true,List.mem_range,Bool.or_eq_true,beq_iff_eq,Bool.not_eq_true',decide_eq_true_eq] at h1;obtain ⟨⟨⟨⟨h2,h3⟩,h3'⟩,h4⟩,h5⟩:=h1;refine ⟨hi,fun g b hg=>?_,vS h3,fun d hd=>?_,fun e he hb=>?_,fun j hj hne he=>?_⟩
  ·simp only [hg,Bool.and_eq_true,decide_eq_true_eq] at h2
   exact h2
  ·simpa [hd] using h3'
  ·have:=h4 e (by simpa using he)
   simpa [hb] using this
  ·rcases h5 j hj with (h | h) | h
   ·exact h
   ·exact absurd (by simpa using h) hne
   ·rw [←he] at h
    cases hd:dst i with
    | none=>exact absurd hd hne
    | some d=>rw [hd] at h;simp [vR] at h
 refine kr hm (fun listed a w=>listed.size=ops.size∧(∀(j:Nat) (o':Oper),ops[j]? = some o'→gP listed j=true→∀e∈o'.after,Region.binds .any e=true→gP listed e.on=true)∧S (gP listed) w∧a.tmps.size=a0.tmps.size∧a.defers=a0.defers∧(∀t:Nat,(∀i,i<n→dst i≠some t)→a.eval (.tmp t)=a0.eval (.tmp t))∧∀i,i<n→gP listed i=true→Pv (gP listed) i (dQ a (dst i)) w) ?_ ?_ ⟨by simp,fun j o' _ h=>?_,?_,rfl,rfl,fun _ _=>rfl,fun i _ h=>?_⟩
 ·rintro listed a w i ⟨hls,hcl,hS,hsa,hde,hsm,hv⟩ hr
  obtain ⟨h0,o,ho,haft⟩:=mem_ready.1 hr;obtain ⟨hi,hg,hd,hlt,hbk,hinj⟩:=hop i o ho;have hi2:i<listed.size:=by rw [hls,hsz];exact hi
  have hfi:gP listed i=false:=by
   unfold gP;simp [Array.getD,hi2] at h0 ⊢;exact h0
  have hbeh:∀j,(ops[j]?.any fun o'=>iW o' i)=true→gP listed j=false:=fun j hj=>by
   cases hoj:ops[j]? with
   | none=>rw [hoj] at hj;cases hj
   | some oj =>
    rw [hoj] at hj;simp only [Option.any_some] at hj;unfold iW at hj;simp only [List.any_eq_true,Bool.and_eq_true] at hj;obtain ⟨e,he,hbb,hej⟩:=hj;obtain rfl:=Nat.eq_of_beq_eq_true hej;cases hlj:gP listed j with
    | false=>rfl
    | true =>
     have:=hcl j oj hoj hlj e (by simpa using he) hbb;rw [hfi] at this;cases this
  have hstep:=hall.all i o ho (gP listed) a w hfi hS hbeh hsm fun j hj=>by
   unfold iW at hj;simp only [List.any_eq_true,Bool.and_eq_true] at hj;obtain ⟨e,he,hbb,hej⟩:=hj;obtain rfl:=Nat.eq_of_beq_eq_true hej;have h2:=haft e (by simpa using he) hbb;exact ⟨h2,hv e.on (Nat.lt_trans (hbk e (by simpa using he) hbb) hi) h2⟩
  have hfin:∀a' w',l8 dst S Pv i (gP listed) a w a' w'→(listed.setIfInBounds i true).size=ops.size∧(∀(j:Nat) (o':Oper),ops[j]? = some o'→gP (listed.setIfInBounds i true) j=true→∀e∈o'.after,Region.binds .any e=true→gP (listed.setIfInBounds i true) e.on=true)∧S (gP (listed.setIfInBounds i true)) w'∧a'.tmps.size=a0.tmps.size∧a'.defers=a0.defers∧(∀t:Nat,(∀i,i<n→dst i≠some t)→a'.eval (.tmp t)=a0.eval (.tmp t))∧∀j,j<n→gP (listed.setIfInBounds i true) j=true→Pv (gP (listed.setIfInBounds i true)) j (dQ a' (dst j)) w':=by
   rintro a' w' ⟨v,rfl,hun,hp,hs',hk⟩;rw [zi hi2] at *;refine ⟨by simpa using hls,fun j oj hoj hl e he hb=>?_,hs',by rw [size_put];exact hsa,by cases dst i <;> exact hde,fun t ht=>?_,fun j hj hl=>?_⟩
   ·by_cases hei:e.on=i
    ·rw [hei];exact aC
    ·rw [ai hei]
     by_cases hji:j=i
     ·subst hji
      rw [ho] at hoj;cases hoj
      exact haft e he hb
     ·rw [ai hji] at hl
      exact hcl j oj hoj hl e he hb
   ·rw [←hsm t ht]
    cases hdi:dst i with
    | none=>rfl
    | some d=>exact aA fun hne=>ht i hi (by rw [hdi,hne])
   ·by_cases hij:j=i
    ·subst hij
     cases hdi:dst j with
     | none=>rw [hdi] at hun;rw [hun rfl] at hp;exact hp
     | some d =>
      show Pv _ j ((a.put (some d) v).eval (.tmp d)) _;rw [eval_put_same (by rw [hsa,ha];exact hlt d hdi)];exact hp
    ·rw [ai hij] at hl
     have h2:=hk j _ hij hl rfl (hv j hj hl);cases hdj:dst j with
     | none=>rw [hdj] at h2;exact h2
     | some d =>
      rw [hdj] at h2;cases hdi:dst i with
      | none=>exact h2
      | some d2 =>
       show Pv _ j ((a.put (some d2) v).eval (.tmp d)) _;rw [aA (fun hne=>hij (hinj j hj (by rw [hdi];simp) (by rw [hdi,hdj,hne])))];exact h2
  unfold wpOp;simp only [ho];cases hgd:o.guard with
  | none =>
   rw [hgd] at hstep;rw [if_pos (by simp [Region.wanted,hgd])];exact .inl (Oper.wp_mono hfin hstep)
  | some gb =>
   obtain ⟨g,b⟩:=gb;rw [hgd] at hstep;obtain ⟨b',hev,hy,hn⟩:=hstep;have hgi:=(hg g b hgd).1;have hgo:g<ops.size:=by rw [hsz];omega
   have hgd2:=(hop g ops[g] (Array.getElem?_eq_getElem hgo)).2.2.1;have hyi:yielded ops a.tmps g=some b':=by
    unfold yielded;rw [Array.getElem?_eq_getElem hgo];cases hdg:dst g with
    | none=>rw [hdg] at hev;cases hev
    | some d =>
     rw [hdg] at hev;simp only [Option.bind_some,hgd2,hdg,wI (show a.eval (.tmp d)=.bool b' from hev)]
   by_cases hbb:b'=b
   ·rw [if_pos (by simp [Region.wanted,hgd,hyi,hbb])]
    exact .inl (Oper.wp_mono hfin (hy hbb))
   ·rw [if_neg (by simp [Region.wanted,hgd,hyi,hbb])]
    rw [hd];exact hfin _ _ (hn hbb)
 ·rintro listed a w ⟨hls,hcl,hS,hsa,hde,hsm,hv⟩ hr
  have hall2:=rE hls (fun i o ho e he hb=>(hop i o ho).2.2.2.2.1 e he hb) hr;exact hdone (gP listed) a w hS hsa hde hsm fun i hi=>⟨hall2 i (by rw [hsz];exact hi),hv i hi (hall2 i (by rw [hsz];exact hi))⟩
 ·simp [gP,Array.getD] at h
 ·have:gP (Array.replicate ops.size false)=fun _=>false:=by funext j;simp [gP,Array.getD]
  rw [this];exact hs
 ·simp [gP,Array.getD] at h
end
end
section
open Go Go.RowKit
section
variable (P:Program) (Q:Exit→Act→World→Prop) (ops:Array Oper) (keep:Nat→Bool) (a0:Act) (S:(Nat→Bool)→World→Prop) (R:Nat→(Nat→Bool)→Act→World→World→Prop)
def kT (k:Nat) (d:Option Nat) (Pk:PV) (L:Nat→Bool) (a:Act) (w:World) (a':Act) (w':World):Prop :=
 ∃v,a'=a.put d v∧(d=none→v=undef)∧Pk (jr L k) v w'∧S (jr L k) w'∧R k L a w w'
def J8 (Ps:pQ) (k:Nat) (o:Oper) (Pk:PV):Prop:=∀(L:Nat→Bool) (a:Act) (w:World),ku ops keep a0 S Ps k o L a w →
  match o.guard with
  | none=>o.wp P a w (kT S R k o.dst Pk L a w) Q
  | some (g,b)=>∃b',dQ a (gW Ps g).1=.bool b'∧(b'=b→o.wp P a w (kT S R k o.dst Pk L a w) Q)∧(b'≠b→kT S R k o.dst Pk L a w (a.put o.dst undef) w)
def D9 (k:Nat) (d:Option Nat) (Pk:PV):Prop:=∀(i:Nat) (L:Nat→Bool) (a:Act) (w w':World),i≠k→L k=true→R i L a w w'→Pk L (dQ a d) w→Pk (jr L i) (dQ a d) w'
def aV:Nat→pQ→List Oper→Prop
 | k,Ps,[]=>∀(L:Nat→Bool) (a:Act) (w:World),(∀i,i<k→L i=true)→D8 keep a0 S Ps L a w→Q .normal a w
 | k,Ps,o::rest=>∃Pk,D9 R k o.dst Pk∧J8 P Q ops keep a0 S R Ps k o Pk∧aV (k+1) ((k,o.dst,Pk)::Ps) rest
end
section
variable {P:Program} {Q:Exit→Act→World→Prop} {ops:Array Oper} {keep:Nat→Bool} {a0:Act} {S:(Nat→Bool)→World→Prop} {R:Nat→(Nat→Bool)→Act→World→World→Prop}
theorem aV.all:∀(rest:List Oper) (k:Nat) (Ps:pQ),aV P Q ops keep a0 S R k Ps rest →
  ∃Ex:pQ,(∀x,x∈Ex→k≤x.1∧x.1<k+rest.length∧gW (Ex++Ps) x.1=x.2)∧(∀(L:Nat→Bool) (a:Act) (w:World),(∀i,i<k+rest.length→L i=true)→D8 keep a0 S (Ex++Ps) L a w→Q .normal a w) ∧
   ∀(i:Nat) (o:Oper),rest[i]? = some o→∃(Pk:PV) (Pi:pQ),gW (Ex++Ps) (k+i)=(o.dst,Pk)∧D9 R (k+i) o.dst Pk∧J8 P Q ops keep a0 S R Pi (k+i) o Pk∧∀j,j<k+i→gW Pi j=gW (Ex++Ps) j
 | [],k,Ps,h=>⟨[],by simp,h,by simp⟩
 | o::rest,k,Ps,h=>by
  obtain ⟨Pk,h1,h2,h3⟩:=h;obtain ⟨Ex,g1,g2,g3⟩:=aV.all rest (k+1) _ h3;have e:Ex++(k,o.dst,Pk)::Ps=(Ex++[(k,o.dst,Pk)])++Ps:=by simp
  have hk:gW (Ex++(k,o.dst,Pk)::Ps) k=(o.dst,Pk):=by
   rw [nk (k:=k+1) (fun x hx=>(g1 x hx).1) (Nat.lt_succ_self k)];exact vK
  rw [e] at g1 g2 g3 hk;have e2:k+1+rest.length=k+(o::rest).length:=by simp;omega
  rw [e2] at g2;refine ⟨Ex++[(k,o.dst,Pk)],fun x hx=>?_,g2,fun i o' ho=>?_⟩
  ·rcases List.mem_append.1 hx with hx | hx
   ·have:=g1 x hx
    simp only [List.length_cons];exact ⟨by omega,by omega,this.2.2⟩
   ·obtain rfl:=List.mem_singleton.1 hx
    simp only [List.length_cons];exact ⟨Nat.le_refl _,by omega,hk⟩
  ·match i with
   | 0 =>
    simp only [List.getElem?_cons_zero,Option.some.injEq] at ho;subst ho;refine ⟨Pk,Ps,hk,h1,h2,fun j hj=>?_⟩;refine (nk (k:=k) (fun x hx=>?_) hj).symm;rcases List.mem_append.1 hx with hx | hx
    ·have:=(g1 x hx).1;omega
    ·obtain rfl:=List.mem_singleton.1 hx;exact Nat.le_refl _
   | i+1 =>
    obtain ⟨Pk',Pi,t1,t2,t3,t4⟩:=g3 i o' (by simpa using ho);rw [show k+1+i=k+(i+1) by omega] at t1 t2 t3 t4;exact ⟨Pk',Pi,t1,t2,t3,t4⟩
theorem kR {id n sz:Nat} {w0:World} (hm:P.follows .mixedOrders=true) (hB:dR ops n sz keep=true) (ha:a0.tmps.size=sz)
  (S:(Nat→Bool)→World→Prop) (R:Nat→(Nat→Bool)→Act→World→World→Prop) (hs:S (fun _=>false) w0.drew) (h:aV P Q ops keep a0 S R 0 [] ops.toList):(Code.region id ops true).wp P Q a0 w0:=by
 unfold dR at hB;rw [Bool.and_eq_true,List.all_eq_true] at hB;obtain ⟨hB,hkp⟩:=hB;obtain ⟨Ex,h1,h2,h3⟩:=aV.all _ _ _ h;rw [List.append_nil] at h1 h2 h3;simp only [Nat.zero_add] at h1 h2 h3;have hdst:∀i o,ops[i]? = some o→nW ops i=o.dst:=fun i o ho=>by unfold nW;rw [ho];rfl
 have hn:ops.size=n:=by unfold jC at hB;rw [Bool.and_eq_true] at hB;simpa using hB.1
 have hlk:∀i o,ops[i]? = some o→(gW Ex i).1=o.dst:=fun i o ho=>by
  obtain ⟨Pk,Pi,t1,_⟩:=h3 i o (by simpa using ho);rw [t1]
 refine rY hm hB ha S (fun L i v w=>(gW Ex i).2 L v w) ?_ hs ?_
 ·refine jV.of fun i o ho=>?_
  intro L a w hL hS hbeh hsm haft;obtain ⟨Pk,Pi,t1,t2,t3,t4⟩:=h3 i o (by simpa using ho);have hdi:=hdst i o ho;have hnow:ku ops keep a0 S Pi i o L a w:=⟨hL,hS,hbeh,fun t ht=>by
    have:=hsm t fun j hj he=>by
     have hj2:j<ops.size:=by rw [hn];exact hj
     have hd:=hdst j ops[j] (Array.getElem?_eq_getElem hj2);rw [hd] at he;have:=hkp ops[j] (by simp);rw [he] at this;simp only [ht] at this;cases this
    simpa [Act.eval] using this,uq t4 _ fun e he hb=>?_⟩
  ·have hstep:=t3 L a w hnow
   have hl:∀a' w',kT S R i o.dst Pk L a w a' w'→l8 (nW ops) S (fun L i v w=>(gW Ex i).2 L v w) i L a w a' w':=by
    rintro a' w' ⟨v,e1,e2,e3,e4,e5⟩;rw [←hdi] at e1 e2;refine ⟨v,e1,e2,by show (gW Ex i).2 _ _ _;rw [t1];exact e3,e4,fun j u hji hj he hu=>?_⟩;by_cases hjn:j<ops.size
    ·obtain ⟨Pj,_,u1,u2,_⟩:=h3 j ops[j] (by simp [hjn])
     show (gW Ex j).2 _ _ _
     replace hu:(gW Ex j).2 _ _ _:=hu
     rw [u1] at hu ⊢;rw [hdst j ops[j] (Array.getElem?_eq_getElem hjn)] at he;subst he;exact u2 i L a w w' (Ne.symm hji) hj e5 hu
    ·have:(gW Ex j)=(none,fun _ _ _=>True):=kH fun x hx e=>hjn (by have:=(h1 x hx).2.1;rw [e] at this;simpa using this)
     show (gW Ex j).2 _ _ _;rw [this]
     trivial
   cases hg:o.guard with
   | none =>
    rw [hg] at hstep;exact Oper.wp_mono hl hstep
   | some gb =>
    obtain ⟨g,b⟩:=gb;rw [hg] at hstep;obtain ⟨b',s1,s2,s3⟩:=hstep;have hgi:g<i:=by
     unfold jC at hB;simp only [Bool.and_eq_true,List.all_eq_true,List.mem_range] at hB;have hi:i<n:=by rw [←hn];exact (zgs ho).1
     have:=hB.2 i hi;rw [ho] at this;simp only [hg,Bool.and_eq_true,decide_eq_true_eq] at this;exact this.1.1.1.1.1
    have hgs:g<ops.size:=Nat.lt_trans hgi (zgs ho).1;refine ⟨b',?_,fun e=>Oper.wp_mono hl (s2 e),fun e=>?_⟩
    ·rw [t4 g hgi,hlk g ops[g] (Array.getElem?_eq_getElem hgs),←hdst g ops[g] (Array.getElem?_eq_getElem hgs)] at s1
     exact s1
    ·rw [hdi]
     exact hl _ _ (s3 e)
  ·have hbf:iW o e.on=true:=by
    unfold iW;rw [List.any_eq_true];exact ⟨e,he,by rw [hb,Bool.true_and];exact Nat.beq_refl _⟩
   obtain ⟨g1,g2⟩:=haft e.on hbf;have hlt:e.on<i:=by
    unfold jC at hB;simp only [Bool.and_eq_true,List.all_eq_true,List.mem_range] at hB;have hi:i<n:=by rw [←hn];exact (zgs ho).1
    have:=hB.2 i hi;rw [ho] at this;simp only [Bool.and_eq_true,List.all_eq_true] at this;have:=this.1.2 e (by simpa using he)
    simpa [hb] using this
   have hes:e.on<ops.size:=Nat.lt_trans hlt (zgs ho).1;refine ⟨hlt,g1,?_⟩;rw [hlk e.on ops[e.on] (Array.getElem?_eq_getElem hes),←hdst e.on ops[e.on] (Array.getElem?_eq_getElem hes)];exact g2
 ·intro L a w hS hsz hde hsm hv
  refine h2 L a w (fun i hi=>(hv i (by rw [←hn];simpa using hi)).1) ⟨hS,⟨hsz,hde,fun t ht=>?_⟩,fun j=>?_⟩
  ·have:=hsm t fun j hj he=>by
    have hj2:j<ops.size:=by rw [hn];exact hj
    have hd:=hdst j ops[j] (Array.getElem?_eq_getElem hj2);rw [hd] at he;have:=hkp ops[j] (by simp);rw [he] at this;simp only [ht] at this;cases this
   simpa [Act.eval] using this
  ·by_cases hj:j<n
   ·have hjs:j<ops.size:=by rw [hn];exact hj
    have:=(hv j hj).2;rw [hdst _ _ (Array.getElem?_eq_getElem hjs),←hlk _ _ (Array.getElem?_eq_getElem hjs)] at this;exact this
   ·have hx:∀x,x∈Ex→x.1≠j:=fun x hx e=>hj (by have:=(h1 x hx).2.1;rw [e] at this;rw [←hn];simpa using this)
    rw [kH hx]
    trivial
section
variable {k:Nat} {Ps:pQ} {o:Oper} {rest:List Oper}
theorem aV.exact {c:Value} {d:Nat} (hg:o.guard=none) (hd:o.dst=some d) (hS:∀L w,S L w→S (jr L k) w) (hR:∀L a w,R k L a w w)
  (h:∀(L:Nat→Bool) (a:Act) (w:World),ku ops keep a0 S Ps k o L a w→(execOp a.eval o).run P w=.ok (.value c) w)
  (t:aV P Q ops keep a0 S R (k+1) ((k,o.dst,eZ c)::Ps) rest):aV P Q ops keep a0 S R k Ps (o::rest):=by
 refine ⟨eZ c,fun _ _ _ _ _ _ _ _ h=>h,fun L a w hn=>?_,t⟩;rw [hg];exact Oper.wp_value (h L a w hn) ⟨c,rfl,fun e=>by rw [hd] at e;(cases e),rfl,hS L w hn.world,hR L a w⟩
theorem aV.any (Pk:PV) (hg:o.guard=none) (hst:D9 R k o.dst Pk)
  (h:∀(L:Nat→Bool) (a:Act) (w:World),ku ops keep a0 S Ps k o L a w→o.wp P a w (kT S R k o.dst Pk L a w) Q)
  (t:aV P Q ops keep a0 S R (k+1) ((k,o.dst,Pk)::Ps) rest):aV P Q ops keep a0 S R k Ps (o::rest):=by
 refine ⟨Pk,hst,fun L a w hn=>?_,t⟩;rw [hg];exact h L a w hn
theorem aV.guarded (Pk:PV) {g:Nat} {b:Bool} (hg:o.guard=some (g,b)) (hst:D9 R k o.dst Pk)
  (h:∀(L:Nat→Bool) (a:Act) (w:World),ku ops keep a0 S Ps k o L a w→∃b',dQ a (gW Ps g).1=.bool b'∧(b'=b→o.wp P a w (kT S R k o.dst Pk L a w) Q)∧(b'≠b→kT S R k o.dst Pk L a w (a.put o.dst undef) w))
  (t:aV P Q ops keep a0 S R (k+1) ((k,o.dst,Pk)::Ps) rest):aV P Q ops keep a0 S R k Ps (o::rest):=by
 refine ⟨Pk,hst,fun L a w hn=>?_,t⟩;rw [hg];exact h L a w hn
theorem aV.call {c:Value} {d:Nat} {f:FuncId} {args:Array Value} (hg:o.guard=none) (hd:o.dst=some d) (hS:∀L w w',S L w→Below w.heap.size w w'→S (jr L k) w') (hR:∀L a w w',Below w.heap.size w w'→R k L a w w')
  (h:∀(L:Nat→Bool) (a:Act) (w:World),ku ops keep a0 S Ps k o L a w→(execOp a.eval o).run P w=.ok (.enter f args) w∧Calls P f args w fun e w'=>e=.returned c∧Below w.heap.size w w')
  (t:aV P Q ops keep a0 S R (k+1) ((k,o.dst,eZ c)::Ps) rest):aV P Q ops keep a0 S R k Ps (o::rest):=by
 refine ⟨eZ c,fun _ _ _ _ _ _ _ _ h=>h,fun L a w hn=>?_,t⟩;rw [hg];obtain ⟨h1,h2⟩:=h L a w hn;refine Oper.wp_enter h1 (h2.mono ?_);rintro e w' ⟨rfl,hb⟩;exact ⟨c,rfl,c,rfl,fun e=>by rw [hd] at e;(cases e),rfl,hS L w w' hn.world hb,hR L a w w' hb⟩
theorem aV.exactG {c:Value} {d g:Nat} {b:Bool} (hg:o.guard=some (g,b)) (hd:o.dst=some d) (hS:∀L w,S L w→S (jr L k) w) (hR:∀L a w,R k L a w w)
  (hb:∀(L:Nat→Bool) (a:Act) (w:World),ku ops keep a0 S Ps k o L a w→dQ a (gW Ps g).1=.bool b)
  (h:∀(L:Nat→Bool) (a:Act) (w:World),ku ops keep a0 S Ps k o L a w→(execOp a.eval o).run P w=.ok (.value c) w)
  (t:aV P Q ops keep a0 S R (k+1) ((k,o.dst,eZ c)::Ps) rest):aV P Q ops keep a0 S R k Ps (o::rest):=by
 refine ⟨eZ c,fun _ _ _ _ _ _ _ _ h=>h,fun L a w hn=>?_,t⟩;rw [hg];exact ⟨b,hb L a w hn,fun _=>Oper.wp_value (h L a w hn) ⟨c,rfl,fun e=>by rw [hd] at e;(cases e),rfl,hS L w hn.world,hR L a w⟩,fun e=>absurd rfl e⟩
theorem aV.callG {c:Value} {d g:Nat} {b:Bool} {f:FuncId} {args:Array Value} (hg:o.guard=some (g,b)) (hd:o.dst=some d) (hS:∀L w w',S L w→Below w.heap.size w w'→S (jr L k) w') (hR:∀L a w w',Below w.heap.size w w'→R k L a w w')
  (hb:∀(L:Nat→Bool) (a:Act) (w:World),ku ops keep a0 S Ps k o L a w→dQ a (gW Ps g).1=.bool b)
  (h:∀(L:Nat→Bool) (a:Act) (w:World),ku ops keep a0 S Ps k o L a w→(execOp a.eval o).run P w=.ok (.enter f args) w∧Calls P f args w fun e w'=>e=.returned c∧Below w.heap.size w w')
  (t:aV P Q ops keep a0 S R (k+1) ((k,o.dst,eZ c)::Ps) rest):aV P Q ops keep a0 S R k Ps (o::rest):=by
 refine ⟨eZ c,fun _ _ _ _ _ _ _ _ h=>h,fun L a w hn=>?_,t⟩;rw [hg];refine ⟨b,hb L a w hn,fun _=>?_,fun e=>absurd rfl e⟩;obtain ⟨h1,h2⟩:=h L a w hn;refine Oper.wp_enter h1 (h2.mono ?_);rintro e w' ⟨rfl,hb⟩;exact ⟨c,rfl,c,rfl,fun e=>by rw [hd] at e;(cases e),rfl,hS L w w' hn.world hb,hR L a w w' hb⟩
end
end
end
end Go.Proofs.YtepacjkacjabbaaGreatDoor
