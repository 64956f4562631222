import Derived.Test.YtepacjkacjabbaaGreatDoorPAA
import Derived.Test.YtepacjkacjabbaaGreatDoorPBE
import Derived.Test.YtepacjkacjabbaaGreatDoorPAX
import Derived.Test.YtepacjkacjabbaaGreatDoorPAG
import Derived.Laws.Rows
import Derived.Laws.Tables
import Derived.Laws.CopyOwn
namespace Go.Proofs.YtepacjkacjabbaaGreatDoor
section
open Go Go.RowKit Go.Maps
theorem uN {s:aa} {e:ae} (h:s.exprs=[e]):s.exprs.length=1:=by rw [h];rfl
set_option maxRecDepth 1000000 in
set_option maxHeartbeats 8000000 in
theorem Jd {n0:Nat} {W0:World} (s:aa) (hr:eu n0 W0 s) (e:ae) (hx:s.exprs=[e]) (hl:e.pre.length≤20000):Kt n0 W0 s:=by
 intro g ts th lo w hb0 hn hlo hg hrow;obtain ⟨b,off,eA,hlt,hc⟩:=((hr.xs.row).below hb0).row (show 0<s.exprs.length by rw [hx];exact Nat.one_pos);have hlen:=uN hx;have he:iw n0 W0 e:=hr.xs.ok e (by rw [hx];exact List.mem_singleton.2 rfl);have hc0:∀r u,e.cells[r]? = some u→w.cell? ⟨b,off+r,none⟩=some u:=fun r u hu=>by
  have h2:=hc 0 (by rw [hx];exact Nat.one_pos) r u (by have h3:s.exprs[0]'(by rw [hx];exact Nat.one_pos)=e:=(by simp [hx]);rw [h3];exact hu)
  rwa [Nat.zero_mul,Nat.add_zero] at h2
 obtain ⟨hS2,hZ2,hs2,hb2⟩:=gY w (.cells #[.int .u8 s.kind,.string s.name,.slice s.es.at_ s.exprs.length s.es.cap,.int .i64 s.bound,.slice s.ts.at_ s.thn.length s.ts.cap,.slice s.os.at_ s.els.length s.os.cap] 43) (.cells #[.int .u8 0,.string ⟨#[]⟩,.slice none 0 0,.int .i64 0,.slice none 0 0,.slice none 0 0] 43);have hbl:b<w.heap.size:=Nat.lt_of_lt_of_le hlt hn;have hcz:∀r u,e.cells[r]? = some u→((w.alloc (.cells #[.int .u8 s.kind,.string s.name,.slice s.es.at_ s.exprs.length s.es.cap,.int .i64 s.bound,.slice s.ts.at_ s.thn.length s.ts.cap,.slice s.os.at_ s.els.length s.os.cap] 43)).alloc (.cells #[.int .u8 0,.string ⟨#[]⟩,.slice none 0 0,.int .i64 0,.slice none 0 0,.slice none 0 0] 43)).cell? ⟨b,off+r,none⟩=some u:=fun r u hu=>(hb2.cell (p:=⟨b,off+r,none⟩) hbl).trans (hc0 r u hu)
 have HC:=zhd (yY ((w.alloc (.cells #[.int .u8 s.kind,.string s.name,.slice s.es.at_ s.exprs.length s.es.cap,.int .i64 s.bound,.slice s.ts.at_ s.thn.length s.ts.cap,.slice s.os.at_ s.els.length s.os.cap] 43)).alloc (.cells #[.int .u8 0,.string ⟨#[]⟩,.slice none 0 0,.int .i64 0,.slice none 0 0,.slice none 0 0] 43)) e ((he.stays (hb0.trans (hb2.mono hn))).more (by have:=hb2.size;omega)) hl);have HROW:=zhd hrow;have HX:=zhd hx;have HLO:=zhd hlo;have HG:=zhd hg;clear hr hb0 hc hc0 he hrow hx hlt hl;rw [eA,hlen];rw [eA,hlen] at hS2 hZ2 hs2 hb2 hcz HC;have k0:=hcz 0 _ rfl;have k1:=hcz 1 _ rfl;have k2:=hcz 2 _ rfl;have k3:=hcz 3 _ rfl;have k4:=hcz 4 _ rfl;have k5:=hcz 5 _ rfl;rw [Nat.add_zero] at k0;simp only [Sp.val] at k5;have HB2:=zhd hb2;have HS2:=zhd hs2;have HZ2:=zhd hZ2;obtain ⟨s0,s1,s2,s3,s4,s5⟩:=ag hS2;have one_lt:(0:Int)<1:=by decide
 clear hcz hb2 hs2 hZ2 hS2 eA hlen;go_enter Tryz.func160,Tryz.ntmps160
 go_upto_region 1 with fail
 generalize (w.alloc _).alloc _=W2 at *;go_wp2_with fail
 refine HC.out.mono ?_;rintro o w3 ⟨e',rfl,hbare,hnew,hb3⟩;obtain ⟨wa,hwa⟩:∃wa,wa=w3.alloc (.cells #[.int .u8 e'.kind,.int .u8 e'.op,.int .u32 e'.value,.int .i64 e'.width,.string e'.name,.slice e'.sp.at_ e'.subs.length e'.sp.cap] 30):=⟨_,rfl⟩;have hba:Below w3.heap.size w3 wa:=by rw [hwa];exact (Below.refl _ _).alloc (Nat.le_refl _) _
 have hz3:=(hba.block _ (Nat.lt_of_lt_of_le (zgs HZ2.out).1 hb3.size)).trans ((hb3.block _ (zgs HZ2.out).1).trans HZ2.out);have hre:wa.heap[w3.heap.size]? = some (.cells #[.int .u8 e'.kind,.int .u8 e'.op,.int .u32 e'.value,.int .i64 e'.width,.string e'.name,.slice e'.sp.at_ e'.subs.length e'.sp.cap] 30 (0,0)):=by rw [hwa];exact zan _ _
 have hsa:w3.heap.size<wa.heap.size:=(zgs hre).1;have hs3:=hb3.size;rw [hwa] at hz3;obtain ⟨z0,z1,z2,z3,z4,z5⟩:=ag hz3;have fz:∀j,(w3.alloc (.cells #[.int .u8 e'.kind,.int .u8 e'.op,.int .u32 e'.value,.int .i64 e'.width,.string e'.name,.slice e'.sp.at_ e'.subs.length e'.sp.cap] 30)).frozen? ⟨w.heap.size+1,j,none⟩=false:=fun j=>by simp [World.frozen?,hz3]
 have f0:=fz 0;have f1:=fz 1;have f2:=fz 2;have f3:=fz 3;have f4:=fz 4;have f5:=fz 5;have HZ3:=zhd hz3;have HBA:=zhd hba;have HB3:=zhd hb3;have HNEW:=zhd hnew;have HBARE:=zhd hbare;have HRE:=zhd hre;have HWA:=zhd hwa;clear fz hz3 hba hb3 hnew hbare hre hwa s0 s1 s2 s3 s4 s5 k0 k1 k2 k3 k4 k5;go_wp2_with fail
 have hz:=HZ3.out;have hB:=HB2.out;have hbA:Below w.heap.size w wa:=(hB.trans (HB3.out.mono hB.size)).trans (HBA.out.mono (by have:=hB.size;omega));rw [←HWA.out] at hz;rw [←HWA.out];have hrowE:=row_one (enc:=ae.cells) (x:=e') (k:=6) HRE.out;have hs2:=HS2.out;have fin:∀wf,wf=six wa (w.heap.size+1) 0 (.int .u8 6) (.string ⟨#[]⟩) (.slice (some ⟨w3.heap.size,0,none⟩) 1 1) (.int .i64 0) (.slice ts.at_ th.length ts.cap) (.slice none 0 0)→dH lo g wf (.mk 6 ⟨#[]⟩ ⟨some ⟨w3.heap.size,0,none⟩,1⟩ [e'] 0 ts th Sp.none [])∧Below w.heap.size w wf:=by
  intro wf hwf;have hbf:Below w.heap.size w wf:=by rw [hwf];exact je hbA (Nat.le_succ _) _ _ _ _ _ _ _
  have hsz:wf.heap.size=wa.heap.size:=by rw [hwf];exact jm _ _ _ _ _ _ _ _ _
  have hheap:∀k,k≠w.heap.size+1→wf.heap[k]? = wa.heap[k]? := fun k hk=>by rw [hwf];exact iM _ _ _ _ _ _ _ _ _ hk
  have hlo:=HLO.out;have hg:=HG.out;have hcell:∀(p:Addr) u,p.block≠w.heap.size+1→w.heap.size≤p.block→wa.cell? p=some u→(dK lo (gK g wf)).cell? p=some u:=fun p u h1 h2 hc=>dZ.2 ⟨by omega,fun e=>by have:=hg _ e;omega,(World.cell?_of_block (hheap _ h1)).trans hc⟩
  refine ⟨?_,hbf⟩;refine .mk _ (show (0:Int)≤6∧(6:Int)≤255 by decide) (show (Lit.int .i64 0).wf=true by decide) (show (0:Nat)≤maxLen by decide) ⟨hrowE.cap,hrowE.big,hrowE.few,fun h0=>?_⟩ (fun x hxm=>?_) (HROW.out.below hbf).1 (HROW.out.below hbf).2 RowOf.nil (fun _ h=>absurd h (by simp [aa.els]))
  ·obtain ⟨b',off',e1,h1,h2⟩:=hrowE.row h0
   cases e1
   exact ⟨_,_,rfl,by rw [hsz];exact h1,fun j hj r u hu=>hcell _ _ (by show w3.heap.size≠_;omega) (by show _≤w3.heap.size;omega) (h2 j hj r u hu)⟩
  ·rw [List.mem_singleton.1 hxm]
   refine (iw.cells HNEW.out fun p u hp hc=>?_).more (show w3.heap.size≤wf.heap.size by omega);obtain ⟨h1,h2⟩:=az.1 hc;exact hcell p u (by omega) (by omega) ((HBA.out.cell hp).trans h2)
 exact bodyPost_ret (results_cell_row rfl _ _ (w.heap.size+1) 43 _ (0,0) _ rfl (nH hz _ _ _ _ _ _) Tryz.underlying43 rfl (wE _ _ _ _ _ _)) rfl ⟨.mk 6 ⟨#[]⟩ ⟨some ⟨w3.heap.size,0,none⟩,1⟩ [e'] 0 ts th Sp.none [],rfl,Gb HX.out HBARE.out rfl _ _,fin _ rfl⟩
end
section
open Go Go.RowKit Go.Maps
theorem yQ {a:Act} (h:a.tmps.size=68) (hd:a.defers=[]):∃F:Nat→Value,(∀i:Nat,F i=a.eval (.tmp i))∧a=⟨(F 0::F 1::F 2::F 3::F 4::F 5::F 6::F 7::F 8::F 9::F 10::F 11::F 12::F 13::F 14::F 15::F 16::F 17::F 18::F 19::F 20::F 21::F 22::F 23::F 24::F 25::F 26::F 27::F 28::F 29::F 30::F 31::F 32::F 33::F 34::F 35::F 36::F 37::F 38::F 39::F 40::F 41::F 42::F 43::F 44::F 45::F 46::F 47::F 48::F 49::F 50::F 51::F 52::F 53::F 54::F 55::F 56::F 57::F 58::F 59::F 60::F 61::F 62::F 63::F 64::F 65::F 66::F 67::[]).toArray,[]⟩:=⟨fun i=>a.eval (.tmp i),fun _=>rfl,mf h hd⟩
theorem vI {α:Type} (f:α→α):∀(n:Nat) (x:α),kG f (n+1) x=f (kG f n x)
 | 0,_=>rfl
 | n+1,x=>by
  show kG f (n+1) (f x)=f (kG f n (f x));exact vI f n (f x)
theorem Fb {ex:List ae} {th:List aa} {y z:aa} (h:ah y=ah z):ah (fT ex (th++[y]))=ah (fT ex (th++[z])):=by
 rw [dI,dI,List.map_append,List.map_append,List.map_cons,List.map_cons,h]
theorem JJ {s x:aa} (hl:dY s=false) (hx:ah x=ah (.mk s.kind s.name s.es s.exprs s.bound Sp.none [] Sp.none [])) (ts os:Sp) {th el:List aa} (h1:th.map ah=(aX s.thn).map ah) (h2:el.map ah=(aX s.els).map ah):ah (.mk x.kind x.name x.es x.exprs x.bound ts th os el)=ah (uh s):=by
 have e1:=congrArg aa.kind hx;have e2:=congrArg aa.name hx;have e3:=congrArg aa.exprs hx;have e4:=congrArg aa.bound hx;rw [bC] at e1 e2 e3 e4;rw [gD] at e1;rw [jL] at e2;rw [gB] at e3;rw [jl] at e4;simp only [aa.kind,aa.name,aa.exprs,aa.bound] at e1 e2 e3 e4;rw [zP hl,bC,bC,h1,h2];simp only [aa.kind,aa.name,aa.exprs,aa.bound,e1,e2,e3,e4]
theorem dH.onM {lo bx:Nat} {W W':World} {s:aa} (h:dH lo (some bx) W s) (hm:Mk bx W W'):dH lo (some bx) W' s :=
 (eu.cells h fun p u hp hc=>by
  obtain ⟨h1,h2,h3⟩:=dZ.1 hc;exact dZ.2 ⟨h1,h2,(hm.cell (fun e=>h2 (by rw [e])) hp).trans h3⟩).more hm.size
theorem Ia {l:List aa} {y:aa} (h:l.map ah=[y].map ah):∃x,l=[x]∧ah x=ah y:=by
 cases l with
 | nil=>exact absurd h (by simp)
 | cons x l =>
  cases l with
  | nil=>exact ⟨x,rfl,by simpa using h⟩
  | cons z l=>exact absurd h (by simp)
theorem F5 (s:aa):ay [.mk s.kind s.name s.es s.exprs s.bound Sp.none [] Sp.none []]≤ay [s]:=by
 have e:ay []=0:=rfl;rw [bR,bR];simp only [aa.exprs,aa.thn,aa.els,e];omega
theorem JV {n:Nat} {W:World} {s:aa} (h:eu n W s):eu n W (.mk s.kind s.name s.es s.exprs s.bound Sp.none [] Sp.none []):=by
 cases h with
 | mk _ k b nm er ex tr th orow el=>exact .mk _ k b nm er ex RowOf.nil (fun _ h=>absurd h (by simp [aa.thn])) RowOf.nil (fun _ h=>absurd h (by simp [aa.els]))
theorem Fh {lo:Nat} {W:World} {x:aa} (h:iE lo W x) {ts os:Sp} {th el:List aa} (ht:bQ lo W ts th) (ho:bQ lo W os el):iE lo W (.mk x.kind x.name x.es x.exprs x.bound ts th os el):=by
 cases h with
 | mk _ k b nm er ex tr thh orow ell=>exact yj er ex ht ho k b nm
set_option maxRecDepth 10000000 in
set_option maxHeartbeats 64000000 in
theorem wJ {n0:Nat} {W0:World} (sp:Sp) (l:List aa) (hr:bX n0 W0 sp l) (hw:ay l≤20000) (hlo:∀s∈l,∀x∈s.pre,aM x) (ih:∀s∈l,uI n0 W0 s.ts s.thn∧uI n0 W0 s.os s.els):uI n0 W0 sp l:=by
 intro w hw0 hn0;have HRD:=zhd ((hr.below hw0).more hn0);have HHW:=zhd fun (i:Nat) (hi:i<l.length)=>Nat.le_trans (bM l _ (List.getElem_mem hi)) hw
 have HLO:=zhd fun (i:Nat) (hi:i<l.length)=>hlo _ (List.getElem_mem hi)
 have HIH:=zhd fun (i:Nat) (hi:i<l.length)=>ih _ (List.getElem_mem hi)
 have HLEN:Hid (l.length≤20000):=zhd (Nat.le_trans (fo l) hw);have HRS:=zhd fun (i:Nat) (hi:i<l.length)=>hr.ok _ (List.getElem_mem hi)
 have HW0:=zhd hw0;have hcap:=HRD.out.row.cap;have hbig:=HRD.out.row.big;clear hr hw hlo ih hw0;go_enter Tryz.func101,Tryz.ntmps101
 go_wp2_with fail
 go_loopw [3,11] (fun s3 s11 wr=>∃(k:Nat) (A:Option Addr) (c:Nat) (cur:List aa),k≤l.length∧s11=.int .i64 (k:Nat)∧s3=.slice A cur.length c∧Ch w wr l k A c cur) (fun _ s11 _=>l.length - (intOf s11).toNat)
 case atStart=>exact ⟨0,none,0,[],Nat.zero_le _,rfl,rfl,Ch.start⟩
 case round =>
  obtain ⟨k,A,c,cur,hk,rfl,rfl,hu⟩:=hrel;have HU:=zhd hu;have HUL:=zhd (hu.len hk);by_cases hlt:k<l.length
  ·obtain ⟨b,off,eA,hbn,hcell⟩:=(HRD.out.row.below hu.low).row (by omega)
   have HRSk:=zhd (HRS.out k hlt);have HHWk:=zhd (HHW.out k hlt);have HLOk:=zhd (HLO.out k hlt);have HIHk:=zhd (HIH.out k hlt);have k0:wr.cell? ⟨b,off+k*6,none⟩=some (.int .u8 l[k].kind):=hcell k hlt 0 _ rfl;have k1:wr.cell? ⟨b,off+k*6+1,none⟩=some (.string l[k].name):=hcell k hlt 1 _ rfl;have k2:wr.cell? ⟨b,off+k*6+2,none⟩=some (.slice l[k].es.at_ l[k].exprs.length l[k].es.cap):=hcell k hlt 2 _ rfl;have k3:wr.cell? ⟨b,off+k*6+3,none⟩=some (.int .i64 l[k].bound):=hcell k hlt 3 _ rfl;have k4:wr.cell? ⟨b,off+k*6+4,none⟩=some (.slice l[k].ts.at_ l[k].thn.length l[k].ts.cap):=hcell k hlt 4 _ rfl;have k5:wr.cell? ⟨b,off+k*6+5,none⟩=some (.slice l[k].os.at_ l[k].els.length l[k].os.cap):=hcell k hlt 5 _ rfl;obtain ⟨s,hse⟩:∃s,l[k]=s:=⟨_,rfl⟩;rw [hse] at k0 k1 k2 k3 k4 k5 HRSk HHWk HLOk HIHk;have HSE:=zhd hse;have HEA:=zhd eA;have hba:=zba wr (.cells #[.int .u8 s.kind,.string s.name,.slice s.es.at_ s.exprs.length s.es.cap,.int .i64 s.bound,.slice s.ts.at_ s.thn.length s.ts.cap,.slice s.os.at_ s.els.length s.os.cap] 43);have HBA:=zhd hba;have HS5:=zhd (zan wr (.cells #[.int .u8 s.kind,.string s.name,.slice s.es.at_ s.exprs.length s.es.cap,.int .i64 s.bound,.slice s.ts.at_ s.thn.length s.ts.cap,.slice s.os.at_ s.els.length s.os.cap] 43));have hlowr:=HW0.out.trans (hu.low.mono hn0);have hwr:=hu.low.size;have HRT5:=zhd ((HRSk.out.stays (hlowr.trans (hba.mono (by omega)))).more (n₁:=(wr.alloc (.cells #[.int .u8 s.kind,.string s.name,.slice s.es.at_ s.exprs.length s.es.cap,.int .i64 s.bound,.slice s.ts.at_ s.thn.length s.ts.cap,.slice s.os.at_ s.els.length s.os.cap] 43)).heap.size) (by have:=hba.size;omega));have HLOWR:=zhd hlowr;clear hcell hse hba hu hlowr;rw [eA];clear eA;go_upto_region 6 with fail
   clear k0 k1 k2 k3 k4 k5;generalize wr.alloc (.cells #[.int .u8 s.kind,.string s.name,.slice s.es.at_ s.exprs.length s.es.cap,.int .i64 s.bound,.slice s.ts.at_ s.thn.length s.ts.cap,.slice s.os.at_ s.els.length s.os.cap] 43)=W5 at *;obtain ⟨x0,x1,x2,x3,x4,x5⟩:=ag HS5.out;have hLP:=qg W5 s HRT5.out HHWk.out;cases hlb:dY s with
   | false =>
    rw [hlb] at hLP;have HLP:=zhd hLP;have HLB:=zhd hlb;clear hLP hlb;go_wp2_with fail
    refine HLP.out.mono ?_;rintro o W6 ⟨rfl,hb6⟩;clear x0 x1 x2 x3 x4 x5 HLP;have hbl5:=(zgs HS5.out).1;have HS6:=zhd ((hb6.block _ hbl5).trans HS5.out);obtain ⟨x0,x1,x2,x3,x4,x5⟩:=ag HS6.out;have hbl6:=(zgs HS6.out).1;have hB6:Below wr.heap.size wr W6:=HBA.out.trans (hb6.mono HBA.out.size);have hB06:Below n0 W0 W6:=HLOWR.out.trans (hB6.mono (by omega));have hB7:=zba W6 (.cells #[.int .u8 s.kind,.string s.name,.slice s.es.at_ s.exprs.length s.es.cap,.int .i64 s.bound,.slice none 0 0,.slice none 0 0] 43);have hr7:=row_one (enc:=aa.cells) (x:=(.mk s.kind s.name s.es s.exprs s.bound Sp.none [] Sp.none []:aa)) (k:=6) (zan W6 (.cells #[.int .u8 s.kind,.string s.name,.slice s.es.at_ s.exprs.length s.es.cap,.int .i64 s.bound,.slice none 0 0,.slice none 0 0] 43));have hsz7:(W6.alloc (.cells #[.int .u8 s.kind,.string s.name,.slice s.es.at_ s.exprs.length s.es.cap,.int .i64 s.bound,.slice none 0 0,.slice none 0 0] 43)).heap.size=W6.heap.size+1:=by simp
    have hCP:=wX (W6.alloc (.cells #[.int .u8 s.kind,.string s.name,.slice s.es.at_ s.exprs.length s.es.cap,.int .i64 s.bound,.slice none 0 0,.slice none 0 0] 43)) ⟨some ⟨W6.heap.size,0,none⟩,1⟩ [.mk s.kind s.name s.es s.exprs s.bound Sp.none [] Sp.none []] ⟨hr7,fun t ht=>by rw [List.mem_singleton.1 ht];exact (JV (HRSk.out.stays (hB06.trans (hB7.mono (by omega))))).more (by omega)⟩ (Nat.le_trans (F5 s) HHWk.out);have HCP:=zhd hCP;have HB7:=zhd (hB6.trans (hB7.mono (by omega)));have hS7:=(hB7.block _ hbl6).trans HS6.out;have HS7:=zhd hS7;clear hb6 hbl5 hB6 hB06 hB7 hr7 hCP hS7;go_wp2_with fail
    clear x0 x1 x2 x3 x4 x5;generalize W6.alloc (.cells #[.int .u8 s.kind,.string s.name,.slice s.es.at_ s.exprs.length s.es.cap,.int .i64 s.bound,.slice none 0 0,.slice none 0 0] 43)=W7 at *;refine HCP.out.mono ?_;rintro o W8 ⟨⟨A',c'⟩,l',rfl,hb',hnew,hb8⟩;obtain ⟨x,rfl,hx⟩:=Ia hb';obtain ⟨b',off',e',hlt',hc'⟩:=hnew.1.row Nat.one_pos;have e2:A'=some ⟨b',off',none⟩:=e';subst e2;have k0:W8.cell? ⟨b',off',none⟩=some (.int .u8 x.kind):=(az.1 (hc' 0 Nat.one_pos 0 _ rfl)).2;have k1:W8.cell? ⟨b',off'+1,none⟩=some (.string x.name):=(az.1 (hc' 0 Nat.one_pos 1 _ rfl)).2;have k2:W8.cell? ⟨b',off'+2,none⟩=some (.slice x.es.at_ x.exprs.length x.es.cap):=(az.1 (hc' 0 Nat.one_pos 2 _ rfl)).2;have k3:W8.cell? ⟨b',off'+3,none⟩=some (.int .i64 x.bound):=(az.1 (hc' 0 Nat.one_pos 3 _ rfl)).2;have k4:W8.cell? ⟨b',off'+4,none⟩=some (.slice x.ts.at_ x.thn.length x.ts.cap):=(az.1 (hc' 0 Nat.one_pos 4 _ rfl)).2;have k5:W8.cell? ⟨b',off'+5,none⟩=some (.slice x.os.at_ x.els.length x.os.cap):=(az.1 (hc' 0 Nat.one_pos 5 _ rfl)).2;have one_lt:(0:Int)<1:=by decide
    have hxN:=hnew.2 x (List.mem_singleton.2 rfl);have HXN:=zhd hxN;have HX:=zhd hx;have hs8:=hb8.size;have HB8:=zhd (HB7.out.trans (hb8.mono (by omega)));have HS8:=zhd ((hb8.block _ (by omega)).trans HS7.out);have hB9:=zba W8 (.cells #[.int .u8 x.kind,.string x.name,.slice x.es.at_ x.exprs.length x.es.cap,.int .i64 x.bound,.slice x.ts.at_ x.thn.length x.ts.cap,.slice x.os.at_ x.els.length x.os.cap] 43);have HB9:=zhd hB9;have HX9:=zhd (zan W8 (.cells #[.int .u8 x.kind,.string x.name,.slice x.es.at_ x.exprs.length x.es.cap,.int .i64 x.bound,.slice x.ts.at_ x.thn.length x.ts.cap,.slice x.os.at_ x.els.length x.os.cap] 43));have hsz9:(W8.alloc (.cells #[.int .u8 x.kind,.string x.name,.slice x.es.at_ x.exprs.length x.es.cap,.int .i64 x.bound,.slice x.ts.at_ x.thn.length x.ts.cap,.slice x.os.at_ x.els.length x.os.cap] 43)).heap.size=W8.heap.size+1:=by simp
    clear hb' hnew e' hc' hxN hx hb8 hB9 HCP;simp only [List.length_singleton];go_upto_region 8 with fail
    clear k0 k1 k2 k3 k4 k5 one_lt;generalize W8.alloc (.cells #[.int .u8 x.kind,.string x.name,.slice x.es.at_ x.exprs.length x.es.cap,.int .i64 x.bound,.slice x.ts.at_ x.thn.length x.ts.cap,.slice x.os.at_ x.els.length x.os.cap] 43)=W9 at *;have hlow9:=HLOWR.out.trans ((HB8.out.trans (HB9.out.mono (by omega))).mono (show n0≤wr.heap.size by omega));refine Code.wp_mono ?_ (fV (C':=.region 8 opsU8 true) (by kernel_rfl) (LH rfl wr.heap.size W8.heap.size (W8.heap.size+1) n0 W0 s x _ _ (Nat.lt_succ_self _) (by omega) (by omega) (by omega) rfl rfl ((HB9.out.block _ (by omega)).trans HS8.out) HX9.out hlow9 (by have h1:=HHWk.out;rw [bR] at h1;have:=fo s.thn;omega) (by have h1:=HHWk.out;rw [bR] at h1;have:=fo s.els;omega) HIHk.out.1 HIHk.out.2));clear hlow9;rintro e a9 W10 ⟨rfl,hsz9',hd9,hsm9,hm,v4,v5,hx10,q4,q5⟩;obtain ⟨A4,c4,l4,rfl,hb4,hn4⟩:=q4 rfl;obtain ⟨A5,c5,l5,rfl,hb5,hn5⟩:=q5 rfl;have hsz9a:=hsz9';obtain ⟨F,hF,rfl⟩:=yQ hsz9a hd9;have g0:F 0=.slice (some ⟨b,off,none⟩) l.length sp.cap:=(hF 0).trans (au ((hsm9 0 rfl).trans rfl));have g1:F 1=undef:=(hF 1).trans (au ((hsm9 1 rfl).trans rfl));have g2:F 2=.slice none 0 0:=(hF 2).trans (au ((hsm9 2 rfl).trans rfl));have g3:F 3=.slice A cur.length c:=(hF 3).trans (au ((hsm9 3 rfl).trans rfl));have g4:F 4=.func (.func 160) #[] #[]:=(hF 4).trans (au ((hsm9 4 rfl).trans rfl));have g5:F 5=undef:=(hF 5).trans (au ((hsm9 5 rfl).trans rfl));have g6:F 6=.pointer (some ⟨wr.heap.size,0,none⟩):=(hF 6).trans (au ((hsm9 6 rfl).trans rfl));have g7:F 7=.pointer (some ⟨W8.heap.size,0,none⟩):=(hF 7).trans (au ((hsm9 7 rfl).trans rfl));have g9:F 9=.slice (some ⟨b,off,none⟩) l.length sp.cap:=(hF 9).trans (au ((hsm9 9 rfl).trans rfl));have g10:F 10=.int .i64 (l.length:Nat):=(hF 10).trans (au ((hsm9 10 rfl).trans rfl));have g11:F 11=.int .i64 (k:Nat):=(hF 11).trans (au ((hsm9 11 rfl).trans rfl));have g67:F 67=undef:=(hF 67).trans (au ((hsm9 67 rfl).trans rfl));rw [g0,g1,g2,g3,g4,g5,g6,g7,g9,g10,g11,g67];clear hF g0 g1 g2 g3 g4 g5 g6 g7 g9 g10 g11 g67 hsz9a hd9 hsm9;have hyb:=JJ HLB.out HX.out ⟨A4,c4⟩ ⟨A5,c5⟩ hb4 hb5;have hs10:=hm.size;have hxT:=((HXN.out.tox' HB9.out (g:=some W8.heap.size) (fun b e=>by cases e;exact Nat.le_refl _)).onM hm).newT;have hyN:=Fh (hxT.less (show wr.heap.size≤W7.heap.size by omega)) (ts:=⟨A4,c4⟩) (os:=⟨A5,c5⟩) (hn4.less (by omega)) (hn5.less (by omega));have hB10:Below wr.heap.size wr W10:=(HB8.out.trans (HB9.out.mono (by omega))).trans (hm.below (by omega) (by omega));have hu10:=HU.out.on hB10;have hyX:=hyN.tox HU.out.old (show w.heap.size≤wr.heap.size from hwr);obtain ⟨x0,x1,x2,x3,x4,x5⟩:=ag hx10;have HYB:=zhd hyb;have hba2:=zba W10 (.cells #[.int .u8 x.kind,.string x.name,.slice x.es.at_ x.exprs.length x.es.cap,.int .i64 x.bound,.slice A4 l4.length c4,.slice A5 l5.length c5] 43);have HRS:=zhd (row_one (enc:=aa.cells) (x:=(.mk x.kind x.name x.es x.exprs x.bound ⟨A4,c4⟩ l4 ⟨A5,c5⟩ l5:aa)) (k:=6) (zan W10 (.cells #[.int .u8 x.kind,.string x.name,.slice x.es.at_ x.exprs.length x.es.cap,.int .i64 x.bound,.slice A4 l4.length c4,.slice A5 l5.length c5] 43)));have HUA:=zhd (hu10.on hba2);have HYA:=zhd (hyX.below hba2);have HLN:Hid (cur.length+1≤1000000):=zhd (by have:=HLEN.out;have:=HUL.out;omega);have HSZ:Hid (w.heap.size≤(W10.alloc (.cells #[.int .u8 x.kind,.string x.name,.slice x.es.at_ x.exprs.length x.es.cap,.int .i64 x.bound,.slice A4 l4.length c4,.slice A5 l5.length c5] 43)).heap.size):=zhd HUA.out.low.size;clear hba2 hu10 hyX;go_wp2_with (first
     | (at_builtin;refine iP rfl (.tmp 39) (.tmp 41) 33 rfl IY (fun _=>rfl) qo _ cur rfl HUA.out.own ⟨some ⟨W10.heap.size,0,none⟩,1⟩ [(.mk x.kind x.name x.es x.exprs x.bound ⟨A4,c4⟩ l4 ⟨A5,c5⟩ l5:aa)] rfl HRS.out HLN.out HSZ.out ?_)
     | fail)
    intro v2 w2 hown2 hg2 hat2;obtain ⟨A2,c2,rfl,hu2⟩:=HUA.out.push hlt HYA.out (by rw [HSE.out];exact HYB.out) hown2 hg2 (by rw [World.size_alloc];exact hat2);have HU2:=zhd hu2;clear hown2 hg2 hat2 hu2;have hw:wrap64 ((k:Int)+1)=(k:Int)+1:=IntWalk.wrap64_in _ ⟨by omega,by have:=HLEN.out;omega⟩;have hms:l.length - ((k:Int)+1).toNat<l.length - (k:Int).toNat:=by clear hw;omega
    go_wp2_with fail
    rw [hw];go_roundw
    case rel=>first | exact ⟨k+1,A2,c2,_,hlt,by first | rfl | (rw [hw];rfl) | go_num,rfl,HU2.out⟩ | ((repeat apply Exists.intro);exact ⟨⟨k+1,A2,c2,_,hlt,by first | rfl | (rw [hw];rfl) | go_num,rfl,HU2.out⟩,rfl⟩)
    case measure=>first | exact hms | (rw [hw];exact hms) | (simp only [intOf];exact hms) | (simp only [intOf,hw];exact hms) | (simp [intOf];omega)
   | true =>
    rw [hlb] at hLP;have HLP:=zhd hLP;have HLB:=zhd hlb;clear hLP hlb;have hk7:=mG HLB.out;obtain ⟨hbd1,hbd2,hxl,-⟩:=(aM.own HLOk.out) hk7;obtain ⟨ex,hex⟩:=List.length_eq_one_iff.1 hxl;have HWN:=zhd (Jd s HRSk.out ex hex (by
     have h1:=HHWk.out;rw [bR,hex] at h1;have h2:aF [ex]=ex.pre.length:=by unfold aF;simp
     omega))
    have HTL:Hid (s.thn.length≤900000):=zhd (by have h1:=HHWk.out;rw [bR] at h1;have:=fo s.thn;omega);obtain ⟨Bn,hBn⟩:=Int.eq_ofNat_of_zero_le (show 0≤s.bound by omega);have HBN:=zhd hBn;have hBn16:Bn≤16:=by omega
    clear hk7 hxl hex hBn hbd1 hbd2;go_wp2_with fail
    refine HLP.out.mono ?_;rintro o W6 ⟨rfl,hb6⟩;clear x0 x1 x2 x3 x4 x5 HLP;have hbl5:=(zgs HS5.out).1;have HS6:=zhd ((hb6.block _ hbl5).trans HS5.out);have hbl6:=(zgs HS6.out).1;have hB6:Below wr.heap.size wr W6:=HBA.out.trans (hb6.mono HBA.out.size);have HB6:=zhd hB6;have HB06:Hid (Below n0 W0 W6):=zhd (HLOWR.out.trans (hB6.mono (by omega)));clear hb6 hbl5 hB6;go_upto_region 10 with fail
    refine Code.wp_mono ?_ (fV (C':=.region 10 opsU10 true) (by kernel_rfl) (Lf rfl wr.heap.size n0 W0 s rfl rfl HS6.out HB06.out (by omega) HWN.out));rintro e a9 W7 ⟨rfl,hsz9,hd9,hsm9,hnb,hb7⟩;obtain ⟨b8,h8,hlo8,hlt8,-,hf8⟩:=hnb;obtain ⟨y,hy1,hy2,hy3⟩:=hf8 rfl;obtain ⟨F,hF,rfl⟩:=yQ hsz9 hd9;have g0:F 0=.slice (some ⟨b,off,none⟩) l.length sp.cap:=(hF 0).trans (au ((hsm9 0 rfl).trans rfl));have g1:F 1=undef:=(hF 1).trans (au ((hsm9 1 rfl).trans rfl));have g2:F 2=.slice none 0 0:=(hF 2).trans (au ((hsm9 2 rfl).trans rfl));have g3:F 3=.slice A cur.length c:=(hF 3).trans (au ((hsm9 3 rfl).trans rfl));have g4:F 4=.func (.func 160) #[] #[]:=(hF 4).trans (au ((hsm9 4 rfl).trans rfl));have g5:F 5=undef:=(hF 5).trans (au ((hsm9 5 rfl).trans rfl));have g6:F 6=.pointer (some ⟨wr.heap.size,0,none⟩):=(hF 6).trans (au ((hsm9 6 rfl).trans rfl));have g8:F 8=.pointer (some ⟨b8,0,none⟩):=(hF 8).trans (au (h8));have g9:F 9=.slice (some ⟨b,off,none⟩) l.length sp.cap:=(hF 9).trans (au ((hsm9 9 rfl).trans rfl));have g10:F 10=.int .i64 (l.length:Nat):=(hF 10).trans (au ((hsm9 10 rfl).trans rfl));have g11:F 11=.int .i64 (k:Nat):=(hF 11).trans (au ((hsm9 11 rfl).trans rfl));have g67:F 67=undef:=(hF 67).trans (au ((hsm9 67 rfl).trans rfl));rw [g0,g1,g2,g3,g4,g5,g6,g8,g9,g10,g11,g67];clear hF g0 g1 g2 g3 g4 g5 g6 g8 g9 g10 g11 g67 hsz9 hd9 hsm9;have HLB0:Hid (LastB W6.heap.size b8 W7 y):=zhd ⟨hy1,hy3⟩;have HY2:=zhd hy2;have HB7:=zhd hb7;have HS7:=zhd ((hb7.block _ hbl6).trans HS6.out);obtain ⟨x0,x1,x2,x3,x4,x5⟩:=ag HS7.out;rw [HBN.out] at x3;clear hy1 hy2 hy3 hf8 hb7 hlt8 x0 x1 x2 x4 x5;go_wp2_with fail
    obtain ⟨wo,rfl⟩:∃wo,wo=wr:=⟨wr,rfl⟩;go_loopw [50] (fun s50 wr=>∃(j:Nat) (y:aa),j≤Bn∧s50=.int .i64 (j:Nat)∧ah y=ah (kG (fun last=>fT s.exprs (aX s.thn++[last])) j (fT s.exprs [dh]))∧LastB W6.heap.size b8 wr y∧Below W6.heap.size W6 wr) (fun s50 _=>Bn - (intOf s50).toNat)
    case atStart=>exact ⟨0,y,Nat.zero_le _,rfl,HY2.out,HLB0.out,HB7.out⟩
    case round =>
     obtain ⟨j,y,hj,rfl,hyb,hyl,hbx⟩:=hrel;clear HY2 HLB0 HB7;have HYB:=zhd hyb;have HYL:=zhd hyl;have HBX:=zhd hbx;clear x3 hyb hyl hbx;by_cases hjl:j<Bn
     ·go_upto_region 13 with fail
      refine Code.wp_mono ?_ (fV (C':=.region 13 opsU13 true) (by kernel_rfl) (Lg rfl wo.heap.size b8 n0 W6.heap.size W0 s y rfl rfl rfl ((HBX.out.block _ hbl6).trans HS6.out) HYL.out (HB06.out.trans (HBX.out.mono (by omega))) (by have:=HBX.out.size;omega) HBX.out.size HTL.out HIHk.out.1 HWN.out));rintro e a9 wy ⟨rfl,hsz9,hd9,hsm9,hm,y',hy',hl'⟩;obtain ⟨G,hG,rfl⟩:=yQ hsz9 hd9;have g0:G 0=.slice (some ⟨b,off,none⟩) l.length sp.cap:=(hG 0).trans (au ((hsm9 0 rfl).trans rfl));have g1:G 1=undef:=(hG 1).trans (au ((hsm9 1 rfl).trans rfl));have g2:G 2=.slice none 0 0:=(hG 2).trans (au ((hsm9 2 rfl).trans rfl));have g3:G 3=.slice A cur.length c:=(hG 3).trans (au ((hsm9 3 rfl).trans rfl));have g4:G 4=.func (.func 160) #[] #[]:=(hG 4).trans (au ((hsm9 4 rfl).trans rfl));have g5:G 5=undef:=(hG 5).trans (au ((hsm9 5 rfl).trans rfl));have g6:G 6=.pointer (some ⟨wo.heap.size,0,none⟩):=(hG 6).trans (au ((hsm9 6 rfl).trans rfl));have g7:G 7=F 7:=(hG 7).trans (au ((hsm9 7 rfl).trans rfl));have g8:G 8=.pointer (some ⟨b8,0,none⟩):=(hG 8).trans (au ((hsm9 8 rfl).trans rfl));have g9:G 9=.slice (some ⟨b,off,none⟩) l.length sp.cap:=(hG 9).trans (au ((hsm9 9 rfl).trans rfl));have g10:G 10=.int .i64 (l.length:Nat):=(hG 10).trans (au ((hsm9 10 rfl).trans rfl));have g11:G 11=.int .i64 (k:Nat):=(hG 11).trans (au ((hsm9 11 rfl).trans rfl));have g12:G 12=F 12:=(hG 12).trans (au ((hsm9 12 rfl).trans rfl));have g13:G 13=F 13:=(hG 13).trans (au ((hsm9 13 rfl).trans rfl));have g14:G 14=F 14:=(hG 14).trans (au ((hsm9 14 rfl).trans rfl));have g15:G 15=F 15:=(hG 15).trans (au ((hsm9 15 rfl).trans rfl));have g16:G 16=F 16:=(hG 16).trans (au ((hsm9 16 rfl).trans rfl));have g17:G 17=F 17:=(hG 17).trans (au ((hsm9 17 rfl).trans rfl));have g18:G 18=F 18:=(hG 18).trans (au ((hsm9 18 rfl).trans rfl));have g19:G 19=F 19:=(hG 19).trans (au ((hsm9 19 rfl).trans rfl));have g20:G 20=F 20:=(hG 20).trans (au ((hsm9 20 rfl).trans rfl));have g21:G 21=F 21:=(hG 21).trans (au ((hsm9 21 rfl).trans rfl));have g22:G 22=F 22:=(hG 22).trans (au ((hsm9 22 rfl).trans rfl));have g23:G 23=F 23:=(hG 23).trans (au ((hsm9 23 rfl).trans rfl));have g24:G 24=F 24:=(hG 24).trans (au ((hsm9 24 rfl).trans rfl));have g25:G 25=F 25:=(hG 25).trans (au ((hsm9 25 rfl).trans rfl));have g26:G 26=F 26:=(hG 26).trans (au ((hsm9 26 rfl).trans rfl));have g27:G 27=F 27:=(hG 27).trans (au ((hsm9 27 rfl).trans rfl));have g28:G 28=F 28:=(hG 28).trans (au ((hsm9 28 rfl).trans rfl));have g29:G 29=F 29:=(hG 29).trans (au ((hsm9 29 rfl).trans rfl));have g30:G 30=F 30:=(hG 30).trans (au ((hsm9 30 rfl).trans rfl));have g31:G 31=F 31:=(hG 31).trans (au ((hsm9 31 rfl).trans rfl));have g32:G 32=F 32:=(hG 32).trans (au ((hsm9 32 rfl).trans rfl));have g33:G 33=F 33:=(hG 33).trans (au ((hsm9 33 rfl).trans rfl));have g34:G 34=F 34:=(hG 34).trans (au ((hsm9 34 rfl).trans rfl));have g35:G 35=F 35:=(hG 35).trans (au ((hsm9 35 rfl).trans rfl));have g36:G 36=F 36:=(hG 36).trans (au ((hsm9 36 rfl).trans rfl));have g37:G 37=F 37:=(hG 37).trans (au ((hsm9 37 rfl).trans rfl));have g38:G 38=F 38:=(hG 38).trans (au ((hsm9 38 rfl).trans rfl));have g39:G 39=F 39:=(hG 39).trans (au ((hsm9 39 rfl).trans rfl));have g40:G 40=F 40:=(hG 40).trans (au ((hsm9 40 rfl).trans rfl));have g41:G 41=F 41:=(hG 41).trans (au ((hsm9 41 rfl).trans rfl));have g42:G 42=F 42:=(hG 42).trans (au ((hsm9 42 rfl).trans rfl));have g43:G 43=F 43:=(hG 43).trans (au ((hsm9 43 rfl).trans rfl));have g44:G 44=F 44:=(hG 44).trans (au ((hsm9 44 rfl).trans rfl));have g45:G 45=F 45:=(hG 45).trans (au ((hsm9 45 rfl).trans rfl));have g46:G 46=F 46:=(hG 46).trans (au ((hsm9 46 rfl).trans rfl));have g47:G 47=F 47:=(hG 47).trans (au ((hsm9 47 rfl).trans rfl));have g48:G 48=.pointer (some ⟨wo.heap.size,3,none⟩):=(hG 48).trans (au ((hsm9 48 rfl).trans rfl));have g49:G 49=.int .i64 (Bn:Nat):=(hG 49).trans (au ((hsm9 49 rfl).trans rfl));have g50:G 50=.int .i64 (j:Nat):=(hG 50).trans (au ((hsm9 50 rfl).trans rfl));have g62:G 62=F 62:=(hG 62).trans (au ((hsm9 62 rfl).trans rfl));have g63:G 63=F 63:=(hG 63).trans (au ((hsm9 63 rfl).trans rfl));have g64:G 64=F 64:=(hG 64).trans (au ((hsm9 64 rfl).trans rfl));have g65:G 65=F 65:=(hG 65).trans (au ((hsm9 65 rfl).trans rfl));have g66:G 66=F 66:=(hG 66).trans (au ((hsm9 66 rfl).trans rfl));have g67:G 67=undef:=(hG 67).trans (au ((hsm9 67 rfl).trans rfl));rw [g0,g1,g2,g3,g4,g5,g6,g7,g8,g9,g10,g11,g12,g13,g14,g15,g16,g17,g18,g19,g20,g21,g22,g23,g24,g25,g26,g27,g28,g29,g30,g31,g32,g33,g34,g35,g36,g37,g38,g39,g40,g41,g42,g43,g44,g45,g46,g47,g48,g49,g50,g62,g63,g64,g65,g66,g67];clear hG g0 g1 g2 g3 g4 g5 g6 g7 g8 g9 g10 g11 g12 g13 g14 g15 g16 g17 g18 g19 g20 g21 g22 g23 g24 g25 g26 g27 g28 g29 g30 g31 g32 g33 g34 g35 g36 g37 g38 g39 g40 g41 g42 g43 g44 g45 g46 g47 g48 g49 g50 g62 g63 g64 g65 g66 g67 hsz9 hd9 hsm9;have HYB2:Hid (ah y'=ah (kG (fun last=>fT s.exprs (aX s.thn++[last])) (j+1) (fT s.exprs [dh]))):=zhd (by rw [vI];exact hy'.trans (Fb HYB.out));have HYL2:=zhd hl';have HBX2:=zhd (HBX.out.trans (hm.below hlo8 (zgs HYL.out.1).1));clear hy' hl' hm;have hw:wrap64 ((j:Int)+1)=(j:Int)+1:=IntWalk.wrap64_in _ ⟨by omega,by omega⟩;have hms:Bn - ((j:Int)+1).toNat<Bn - (j:Int).toNat:=by clear hw;omega
      go_wp2_with fail
      rw [hw];go_roundw
      case rel=>first | exact ⟨j+1,y',hjl,by first | rfl | (rw [hw];rfl) | go_num,HYB2.out,HYL2.out,HBX2.out⟩ | ((repeat apply Exists.intro);exact ⟨⟨j+1,y',hjl,by first | rfl | (rw [hw];rfl) | go_num,HYB2.out,HYL2.out,HBX2.out⟩,rfl⟩)
      case measure=>first | exact hms | (rw [hw];exact hms) | (simp only [intOf];exact hms) | (simp only [intOf,hw];exact hms) | (simp [intOf];omega)
     ·obtain rfl:j=Bn:=by omega
      have hyb:=HYB.out;have hyN:=HYL.out.2.newT;have hs10:=HBX.out.size;have hB10:Below wo.heap.size wo wr:=HB6.out.trans (HBX.out.mono (by omega));have hu10:=HU.out.on hB10;have hyX:=hyN.tox (fun b e=>by have:=HU.out.old b e;omega) (show w.heap.size≤W6.heap.size by omega);obtain ⟨x0,x1,x2,x3,x4,x5⟩:=ag HYL.out.1;have HYB3:Hid (ah y=ah (uh s)):=zhd (by
       rw [qH HLB.out,HBN.out,hyb]
       rfl)
      have hba2:=zba wr (.cells #[.int .u8 y.kind,.string y.name,.slice y.es.at_ y.exprs.length y.es.cap,.int .i64 y.bound,.slice y.ts.at_ y.thn.length y.ts.cap,.slice y.os.at_ y.els.length y.os.cap] 43);have HRS:=zhd (row_one (enc:=aa.cells) (x:=y) (k:=6) (zan wr (.cells #[.int .u8 y.kind,.string y.name,.slice y.es.at_ y.exprs.length y.es.cap,.int .i64 y.bound,.slice y.ts.at_ y.thn.length y.ts.cap,.slice y.os.at_ y.els.length y.os.cap] 43)));have HUA:=zhd (hu10.on hba2);have HYA:=zhd (hyX.below hba2);have HLN:Hid (cur.length+1≤1000000):=zhd (by have:=HLEN.out;have:=HUL.out;omega);have HSZ:Hid (w.heap.size≤(wr.alloc (.cells #[.int .u8 y.kind,.string y.name,.slice y.es.at_ y.exprs.length y.es.cap,.int .i64 y.bound,.slice y.ts.at_ y.thn.length y.ts.cap,.slice y.os.at_ y.els.length y.os.cap] 43)).heap.size):=zhd HUA.out.low.size;clear hba2 hu10 hyX;go_wp2_with (first
       | (at_builtin;refine iP rfl (.tmp 62) (.tmp 64) 33 rfl IY (fun _=>rfl) qo _ cur rfl HUA.out.own ⟨some ⟨wr.heap.size,0,none⟩,1⟩ [y] rfl HRS.out HLN.out HSZ.out ?_)
       | fail)
      intro v2 w2 hown2 hg2 hat2;obtain ⟨A2,c2,rfl,hu2⟩:=HUA.out.push hlt HYA.out (by rw [HSE.out];exact HYB3.out) hown2 hg2 (by rw [World.size_alloc];exact hat2);have HU2:=zhd hu2;clear hown2 hg2 hat2 hu2;have hw:wrap64 ((k:Int)+1)=(k:Int)+1:=IntWalk.wrap64_in _ ⟨by omega,by have:=HLEN.out;omega⟩;have hms:l.length - ((k:Int)+1).toNat<l.length - (k:Int).toNat:=by clear hw;omega
      go_wp2_with fail
      rw [hw];go_roundw
      case rel=>first | exact ⟨k+1,A2,c2,_,hlt,by first | rfl | (rw [hw];rfl) | go_num,rfl,HU2.out⟩ | ((repeat apply Exists.intro);exact ⟨⟨k+1,A2,c2,_,hlt,by first | rfl | (rw [hw];rfl) | go_num,rfl,HU2.out⟩,rfl⟩)
      case measure=>first | exact hms | (rw [hw];exact hms) | (simp only [intOf];exact hms) | (simp only [intOf,hw];exact hms) | (simp [intOf];omega)
  ·obtain rfl:k=l.length:=by omega
   have hdone:=HU.out.done rfl;have HD:=zhd hdone;clear hdone;go_wp2_with fail
   go_ret
   exact ⟨A,c,cur,rfl,HD.out,HU.out.own,HU.out.new,HU.out.low⟩
theorem Et {n0:Nat} {W0:World} (sp:Sp) (l:List aa) (hr:bX n0 W0 sp l) (hw:ay l≤20000) (hlo:∀x∈l.flatMap aa.pre,aM x):uI n0 W0 sp l:=by
 have one:∀s:aa,eu n0 W0 s→ay [s]≤20000→(∀x∈s.pre,aM x)→uI n0 W0 s.ts s.thn∧uI n0 W0 s.os s.els:=fun s hr=>by
  induction hr with
  | mk s k b n er ex tr th orow el ih1 ih2 =>
   intro hl hx;rw [bR] at hl;exact ⟨wJ s.ts s.thn ⟨tr,th⟩ (by omega) (aM.thn hx) fun t ht=>ih1 t ht (Nat.le_trans (bM _ t ht) (by omega)) (aM.thn hx t ht),wJ s.os s.els ⟨orow,el⟩ (by omega) (aM.els hx) fun t ht=>ih2 t ht (Nat.le_trans (bM _ t ht) (by omega)) (aM.els hx t ht)⟩
 exact wJ sp l hr hw (fun s hs x hx=>hlo x (List.mem_flatMap.2 ⟨s,hs,hx⟩)) fun s hs=>one s (hr.ok s hs) (Nat.le_trans (bM l s hs) hw) fun x hx=>hlo x (List.mem_flatMap.2 ⟨s,hs,hx⟩)
end
section
open Go Go.RowKit Go.Maps
set_option maxRecDepth 100000 in
theorem FM (w:World) (p:af) (hp:jW w.heap.size w p) (hn0:0<w.heap.size) (hN:eT p) (hwt:eU p≤1125899906842624) (hmx:MxAt w) :
  Calls Tryz.prog 51 #[.agg p.arr] w fun o w'=>o=.returned (.bool (decide ((eD p).2=0)))∧Below w.heap.size w w':=by
 have hb1:=zba w (.cells p.arr 35);have hB:=zan w (.cells p.arr 35);have hCK:=EH _ p (hp.on hb1) (Nat.lt_of_lt_of_le hn0 hb1.size) hN hwt (hmx.below hb1 hn0);have harrs:=aN p;rw [ut] at hCK;generalize eD p=ck at *;have HCK:=zhd hCK;have HB:=zhd hB;have HB1:=zhd hb1;clear hCK hB hb1;generalize p.arr=arr at *;by_cases e:ck.2=0
 ·have hd:decide (ck.2=0)=true:=decide_eq_true e
  have he:(ck.2 == 0)=true:=by simpa using e
  rw [hd];clear hd e;go_enter Tryz.func51,Tryz.ntmps51
  go_wp2_with (first | (refine wpList_load_row rfl 35 _ rfl w.heap.size rfl 35 _ (0,0) _ HB.out Tryz.underlying35 rfl harrs ?_) | (go_at_call 108;refine HCK.out.mono ?_;rintro o2 w2 ⟨rfl,hb2⟩;have HB2:=zhd hb2;clear hb2) | fail)
  go_ret
  exact ⟨rfl,HB1.out.trans (HB2.out.mono HB1.out.size)⟩
 ·have hd:decide (ck.2=0)=false:=decide_eq_false e
  have he:(ck.2 == 0)=false:=by simpa using e
  rw [hd];clear hd e;go_enter Tryz.func51,Tryz.ntmps51
  go_wp2_with (first | (refine wpList_load_row rfl 35 _ rfl w.heap.size rfl 35 _ (0,0) _ HB.out Tryz.underlying35 rfl harrs ?_) | (go_at_call 108;refine HCK.out.mono ?_;rintro o2 w2 ⟨rfl,hb2⟩;have HB2:=zhd hb2;clear hb2) | fail)
  go_ret
  exact ⟨rfl,HB1.out.trans (HB2.out.mono HB1.out.size)⟩
end
section
open Go Go.RowKit Go.Maps
theorem Hq (n:Nat):((n:Int) == 0)=decide (n=0):=by
 rw [Bool.eq_iff_iff,beq_iff_eq,decide_eq_true_eq];omega
set_option maxRecDepth 100000 in
theorem oQ (w:World) (p:af) (hp:jW w.heap.size w p) (hn0:0<w.heap.size) (hN:eT p) (hwt:eU p≤1125899906842624) (hmx:MxAt w) :
  Calls Tryz.prog 102 #[.agg p.arr] w fun o w'=>o=.returned (.bool (decide ((eD p).2=0∧p.procs.length=0)))∧Below w.heap.size w w':=by
 have hb1:=zba w (.cells p.arr 35);have hB:=zan w (.cells p.arr 35);have hCK:=FM _ p (hp.on hb1) (Nat.lt_of_lt_of_le hn0 hb1.size) hN hwt (hmx.below hb1 hn0);have h13:p.arr[13]? = some (.slice p.rs.at_ p.procs.length p.rs.cap):=rfl;have harrs:=aN p;generalize eD p=ck at *;have HCK:=zhd hCK;have HB:=zhd hB;have HB1:=zhd hb1;clear hCK hB hb1;generalize p.arr=arr at *;by_cases e:ck.2=0
 ·have hd:decide (ck.2=0)=true:=decide_eq_true e
  have he:decide (ck.2=0∧p.procs.length=0)=decide (p.procs.length=0):=by simp [e]
  rw [he];rw [hd] at HCK;clear hd e he;go_enter Tryz.func102,Tryz.ntmps102
  go_wp2_with (first | (refine wpList_load_row rfl 35 _ rfl w.heap.size rfl 35 _ (0,0) _ HB.out Tryz.underlying35 rfl harrs ?_) | fail)
  refine HCK.out.mono ?_;rintro o2 w2 ⟨rfl,hb2⟩;have HB2:=zhd hb2;have hbx:=(hb2.block _ (zgs HB.out).1).trans HB.out;have c13:w2.cell? ⟨w.heap.size,13,none⟩=some (.slice p.rs.at_ p.procs.length p.rs.cap):=by simp [World.cell?,hbx,h13]
  clear hb2 hbx;go_wp2_with fail
  go_ret
  exact ⟨congrArg (fun b=>Ending.returned (.bool b)) (Hq p.procs.length),HB1.out.trans (HB2.out.mono HB1.out.size)⟩
 ·have hd:decide (ck.2=0)=false:=decide_eq_false e
  have he:decide (ck.2=0∧p.procs.length=0)=false:=by simp [e]
  rw [he];rw [hd] at HCK;clear hd e he;go_enter Tryz.func102,Tryz.ntmps102
  go_wp2_with (first | (refine wpList_load_row rfl 35 _ rfl w.heap.size rfl 35 _ (0,0) _ HB.out Tryz.underlying35 rfl harrs ?_) | fail)
  refine HCK.out.mono ?_;rintro o2 w2 ⟨rfl,hb2⟩;have HB2:=zhd hb2;clear hb2;go_wp2_with fail
  go_ret
  exact ⟨rfl,HB1.out.trans (HB2.out.mono HB1.out.size)⟩
end
end Go.Proofs.YtepacjkacjabbaaGreatDoor
