import Derived.Test.YtepacjkacjabbaaGreatDoorPAA
import Derived.Test.YtepacjkacjabbaaGreatDoorPAH
import Derived.Test.YtepacjkacjabbaaGreatDoorPAZ
namespace Go.Proofs.YtepacjkacjabbaaGreatDoor
section
open Go Go.RowKit Go.Maps
def sj (lo hi:Nat) (W:World) (s:aa):Prop:=eu hi (dK lo W) s
section
variable {lo hi hi':Nat} {W W':World} {s:aa}
theorem sj.keep (h:sj lo hi W s) (hk:∀b,lo≤b→b<hi→W'.heap[b]? = W.heap[b]?):sj lo hi W' s :=
 eu.cells h fun p _ hp hc=>by
  obtain ⟨h1,h2⟩:=az.1 hc;exact az.2 ⟨h1,(World.cell?_of_block (hk _ h1 hp)).trans h2⟩
theorem sj.raise (h:sj lo hi W s) (h2:hi≤hi'):sj lo hi' W s:=eu.more h h2
theorem aI.same {α:Type} {enc:α→List Value} {B k n c:Nat} {t:TypeId} {sa:Option Addr} {l:List α} (h:aI B W t k enc (.slice sa n c) l) (hk:∀a,sa=some a→W'.heap[a.block]? = W.heap[a.block]?):aI B W' t k enc (.slice sa n c) l:=by
 obtain ⟨hlen,ho⟩:=h;refine ⟨hlen,?_⟩;rcases ho with h0 | ⟨g,cap,cur,hv,h1,h2,h3⟩
 ·exact .inl h0
 ·injection hv with e1 e2 e3
  exact .inr ⟨g,cap,cur,by rw [e1,e2,e3],h1,(hk _ e1).trans h2,h3⟩
end
structure si (γ η:nS) (w W:World) (l:List aa) (sp:Sp) (sa:Option Addr) (sc lo hi k:Nat) (row cur:List aa):Prop where
 low:Below w.heap.size w W
 hlo:w.heap.size≤lo
 hhi:lo≤hi
 hiW:hi≤W.heap.size
 at_:∀a,sa=some a→a.block<lo
 own:aI w.heap.size W 43 6 aa.cells (.slice sa l.length sc) row
 len:cur.length=l.length
 done:∀i (h:i<l.length) (h':i<cur.length),i<k→Ko γ η l[i] cur[i]∧sj lo hi W cur[i]
 todo:∀i (h:i<l.length) (h':i<cur.length),k≤i→cur[i]=l[i]
section
variable {γ η:nS} {w W W':World} {l:List aa} {sp:Sp} {sa:Option Addr} {sc lo hi k:Nat} {row cur:List aa}
theorem si.keep (h:si γ η w W l sp sa sc lo hi k row cur) (hb:Below hi W W'):si γ η w W' l sp sa sc lo hi k row cur :=
 ⟨h.low.trans (hb.mono (Nat.le_trans h.hlo h.hhi)),h.hlo,h.hhi,Nat.le_trans h.hiW hb.size,h.at_,h.own.same fun a ha=>hb.block _ (Nat.lt_of_lt_of_le (h.at_ a ha) h.hhi),h.len,fun i h1 h2 h3=>⟨(h.done i h1 h2 h3).1,(h.done i h1 h2 h3).2.keep fun b _ hb2=>hb.block b hb2⟩,h.todo⟩
theorem si.on (h:si γ η w W l sp sa sc lo hi k row cur) (hb:Below W.heap.size W W'):si γ η w W' l sp sa sc lo hi k row cur:=h.keep (hb.mono h.hiW)
theorem si.raise (h:si γ η w W l sp sa sc lo hi k row cur):si γ η w W l sp sa sc lo W.heap.size k row cur :=
 ⟨h.low,h.hlo,Nat.le_trans h.hhi h.hiW,Nat.le_refl _,h.at_,h.own,h.len,fun i h1 h2 h3=>⟨(h.done i h1 h2 h3).1,(h.done i h1 h2 h3).2.raise h.hiW⟩,h.todo⟩
theorem si.put {g r:Nat} {v:Value} {x:aa} (h:si γ η w W l sp (some ⟨g,0,none⟩) sc lo hi k row cur) (hg:w.heap.size≤g) (hrl:row.length=l.length) (hk:k<l.length) (hr:r<6) (hx:((row[k]'(by omega)).cells).set r v=x.cells) :
  si γ η w (W.setCell ⟨g,k*6+r,none⟩ v) l sp (some ⟨g,0,none⟩) sc lo hi k (row.set k x) cur:=by
 have hgl:g<lo:=h.at_ _ rfl;refine ⟨h.low.setCell (p:=⟨g,k*6+r,none⟩) hg v,h.hlo,h.hhi,by rw [World.size_setCell];exact h.hiW,h.at_,h.own.put1 (fun _=>rfl) (by omega) hr hx,h.len,fun i h1 h2 h3=>⟨(h.done i h1 h2 h3).1,(h.done i h1 h2 h3).2.keep fun b hb _=>Below.heap_setCell _ _ _ _ (show b≠g by omega)⟩,h.todo⟩
theorem si.next {x:aa} (h:si γ η w W l sp sa sc lo hi k (cur.set k x) cur) (hk:k<l.length) (hr:Ko γ η l[k] x) (hx:sj lo W.heap.size W x):si γ η w W l sp sa sc lo W.heap.size (k+1) (cur.set k x) (cur.set k x):=by
 have h':=h.raise;refine ⟨h'.low,h'.hlo,h'.hhi,h'.hiW,h'.at_,h'.own,by rw [List.length_set];exact h.len,fun i h1 h2 h3=>?_,fun i h1 h2 h3=>?_⟩
 ·by_cases hi:i=k
  ·subst hi
   rw [List.getElem_set_self];exact ⟨hr,hx⟩
  ·rw [List.getElem_set_ne (Ne.symm hi)]
   exact h'.done i h1 (by rw [h.len];exact h1) (by omega)
 ·rw [List.getElem_set_ne (by omega)]
  exact h.todo i h1 (by rw [h.len];exact h1) (by omega)
end
structure Gh (γ:nS) (W:World) (bx:Nat) (s:aa) (ea:Option Addr) (ec lo2 k2:Nat) (cur2:List ae):Prop where
 ebox:W.heap[bx]? = some (.cells #[.int .u8 s.kind,.string s.name,.slice s.es.at_ s.exprs.length s.es.cap,.int .i64 s.bound,.slice s.ts.at_ s.thn.length s.ts.cap,.slice s.os.at_ s.els.length s.os.cap] 43 (0,0))
 hbx:bx<lo2
 lo2W:lo2≤W.heap.size
 at_:∀a,ea=some a→bx<a.block∧a.block<lo2
 own:aI (bx+1) W 30 6 ae.cells (.slice ea s.exprs.length ec) cur2
 len:cur2.length=s.exprs.length
 done:∀i (h:i<s.exprs.length) (h':i<cur2.length),i<k2→Co γ s.exprs[i] cur2[i]∧gM lo2 W cur2[i]
 todo:∀i (h:i<s.exprs.length) (h':i<cur2.length),k2≤i→cur2[i]=s.exprs[i]
section
variable {γ:nS} {W W':World} {bx:Nat} {s:aa} {ea:Option Addr} {ec lo2 k2:Nat} {cur2:List ae}
theorem Gh.keep (h:Gh γ W bx s ea ec lo2 k2 cur2) (hs:W.heap.size≤W'.heap.size) (hk:∀b,bx≤b→b<W.heap.size→W'.heap[b]? = W.heap[b]?):Gh γ W' bx s ea ec lo2 k2 cur2 :=
 ⟨(hk _ (Nat.le_refl _) (zgs h.ebox).1).trans h.ebox,h.hbx,Nat.le_trans h.lo2W hs,h.at_,h.own.same fun a ha=>hk _ (Nat.le_of_lt (h.at_ a ha).1) (Nat.lt_of_lt_of_le (h.at_ a ha).2 h.lo2W),h.len,fun i h1 h2 h3=>⟨(h.done i h1 h2 h3).1,iw.more (iw.cells (h.done i h1 h2 h3).2 fun p u hp hc=>by
   obtain ⟨c1,c2⟩:=az.1 hc;exact az.2 ⟨c1,(World.cell?_of_block (hk _ (Nat.le_trans (Nat.le_of_lt h.hbx) c1) hp)).trans c2⟩) hs⟩,h.todo⟩
theorem Gh.on (h:Gh γ W bx s ea ec lo2 k2 cur2) (hb:Below W.heap.size W W'):Gh γ W' bx s ea ec lo2 k2 cur2:=h.keep hb.size fun b _ hb2=>hb.block b hb2
theorem Gh.put {g:Nat} (h:Gh γ W bx s (some ⟨g,0,none⟩) ec lo2 k2 cur2) (hk:k2<s.exprs.length) {x:ae} (hr:Co γ s.exprs[k2] x) (hx:gM lo2 W x) :
  Gh γ (six W g (k2*6) (.int .u8 x.kind) (.int .u8 x.op) (.int .u32 x.value) (.int .i64 x.width) (.string x.name) (.slice x.sp.at_ x.subs.length x.sp.cap)) bx s (some ⟨g,0,none⟩) ec lo2 (k2+1) (cur2.set k2 x):=by
 obtain ⟨hg1,hg2⟩:=h.at_ _ rfl
 dsimp only at hg1 hg2
 refine ⟨(iM _ _ _ _ _ _ _ _ _ (by omega)).trans h.ebox,h.hbx,by rw [jm];exact h.lo2W,h.at_,h.own.put6 (fun _=>rfl) (by rw [h.len];exact hk) rfl,by rw [List.length_set];exact h.len,fun i h1 h2 h3=>?_,fun i h1 h2 h3=>?_⟩
 ·by_cases hi:i=k2
  ·subst hi
   rw [List.getElem_set_self];exact ⟨hr,qD hx hg2 _ _ _ _ _ _ _⟩
  ·rw [List.getElem_set_ne (Ne.symm hi)]
   have:=h.done i h1 (by rw [h.len];exact h1) (by omega);exact ⟨this.1,qD this.2 hg2 _ _ _ _ _ _ _⟩
 ·rw [List.getElem_set_ne (by omega)]
  exact h.todo i h1 (by rw [h.len];exact h1) (by omega)
end
theorem bQ.keep {lo:Nat} {W W':World} {sp:Sp} {l:List aa} (h:bQ lo W sp l) (hs:W.heap.size≤W'.heap.size) (hk:∀b,lo≤b→b<W.heap.size→W'.heap[b]? = W.heap[b]?):bQ lo W' sp l:=by
 have hc:∀p u,p.block<W.heap.size→(dK lo W).cell? p=some u→(dK lo W').cell? p=some u:=fun p u hp h1=>by
  obtain ⟨h2,h3⟩:=az.1 h1;exact az.2 ⟨h2,(World.cell?_of_block (hk _ h2 hp)).trans h3⟩
 exact ⟨(h.1.cells hc).more hs,fun s hs2=>eu.more (eu.cells (h.2 s hs2) hc) hs⟩
theorem bQ.on' {lo:Nat} {W W':World} {sp:Sp} {l:List aa} (h:bQ lo W sp l) (hb:Below W.heap.size W W'):bQ lo W' sp l:=h.keep hb.size fun b _ hb2=>hb.block b hb2
def LU (η:nS) (s:aa) (es:Sp) (ex:List ae) (ts:Sp) (th:List aa) (os:Sp) (el:List aa):aa:=.mk s.kind (η s.kind s.name) es ex s.bound ts th os el
section
variable {γ η:nS} {w W:World} {l:List aa} {sp:Sp} {g sc lo bx k:Nat} {cur:List aa} {s:aa} {ea:Option Addr} {ec lo2:Nat} {cur2:List ae} {nm1:ByteArray} {tsp osp:Sp} {tl ol:List aa}
theorem si.fin (h:si γ η w W l sp (some ⟨g,0,none⟩) sc lo bx k (cur.set k (.mk s.kind nm1 ⟨ea,ec⟩ s.exprs s.bound s.ts s.thn s.os s.els)) cur) (he:Gh γ W bx s ea ec lo2 s.exprs.length cur2)
  (hnt:bQ lo W tsp tl) (hne:bQ lo W osp ol) (hrt:oC γ η s.thn tl) (hre:oC γ η s.els ol) (hnm:η s.kind s.name=nm1) (hk:k<l.length) (hs:l[k]=s) (hg:w.heap.size≤g) (hη:∀k s,s.size≤maxLen→(η k s).size≤maxLen) (hrd:eu w.heap.size w s) :
  ∃(cur':List aa) (hi':Nat),si γ η w ((W.setCell ⟨g,k*6+4,none⟩ (.slice tsp.at_ tl.length tsp.cap)).setCell ⟨g,k*6+5,none⟩ (.slice osp.at_ ol.length osp.cap)) l sp (some ⟨g,0,none⟩) sc lo hi' (k+1) cur' cur':=by
 have hgl:g<lo:=h.at_ _ rfl;have hlb:=h.hhi;have hkc:k<cur.length:=by rw [h.len];exact hk
 have h1:=h.put (r:=4) (v:=.slice tsp.at_ tl.length tsp.cap) (x:=.mk s.kind nm1 ⟨ea,ec⟩ s.exprs s.bound tsp tl s.os s.els) hg (by rw [List.length_set];exact h.len) hk (by decide) (by rw [List.getElem_set_self];rfl);rw [List.set_set] at h1;have h2:=h1.put (r:=5) (v:=.slice osp.at_ ol.length osp.cap) (x:=LU η s ⟨ea,ec⟩ cur2 tsp tl osp ol) hg (by rw [List.length_set];exact h.len) hk (by decide) (by
  rw [List.getElem_set_self];have e:(LU η s ⟨ea,ec⟩ cur2 tsp tl osp ol).cells=[.int .u8 s.kind,.string (η s.kind s.name),.slice ea cur2.length ec,.int .i64 s.bound,.slice tsp.at_ tl.length tsp.cap,.slice osp.at_ ol.length osp.cap]:=rfl;rw [e,he.len,hnm]
  rfl)
 rw [List.set_set] at h2;have hkeep:∀b,lo≤b→((W.setCell ⟨g,k*6+4,none⟩ (.slice tsp.at_ tl.length tsp.cap)).setCell ⟨g,k*6+5,none⟩ (.slice osp.at_ ol.length osp.cap)).heap[b]? = W.heap[b]? := fun b hb=>(Below.heap_setCell _ _ _ _ (show b≠g by omega)).trans (Below.heap_setCell _ _ _ _ (show b≠g by omega))
 have hsz:W.heap.size≤((W.setCell ⟨g,k*6+4,none⟩ (.slice tsp.at_ tl.length tsp.cap)).setCell ⟨g,k*6+5,none⟩ (.slice osp.at_ ol.length osp.cap)).heap.size:=by simp
 have he2:=he.keep hsz fun b hb _=>hkeep b (by omega)
 have hnt2:=hnt.keep hsz fun b hb _=>hkeep b hb
 have hne2:=hne.keep hsz fun b hb _=>hkeep b hb
 refine ⟨_,_,h2.next hk ?_ ?_⟩
 ·rw [hs]
  cases s with
  | mk kd nm es ex b ts th os el=>exact Ko.mk (Cq.of he.len fun i h1 h2=>(he.done i h1 h2 h1).1) hrt hre
 ·obtain ⟨r1,r2,r3,r4⟩:=(match hrd with | .mk _ a b c d _ _ _ _ _=>⟨a,b,c,d⟩:_∧_∧_∧_)
  refine .mk _ r1 r2 ?_ (he2.own.low (B2:=lo) (fun _=>rfl) (by rw [he.len];exact r4.few) (by omega)) (fun e hm=>?_) hnt2.1 hnt2.2 hne2.1 hne2.2
  ·show (η s.kind s.name).size≤maxLen
   exact hη _ _ r3
  ·obtain ⟨i,hi,rfl⟩:=List.getElem_of_mem hm
   have hi2:i<s.exprs.length:=by rw [←he.len];exact hi
   exact (he2.done i hi2 hi hi2).2.less (by have:=he.hbx;omega)
end
end
section
open Go Go.RowKit Go.Maps
def iH (F:Nat) (bs:Array Value) (τ:ByteArray→ByteArray) (n0:Nat) (W0:World) (sp:Sp) (l:List aa):Prop:=∀W,Below n0 W0 W→n0≤W.heap.size →
 Calls Tryz.prog 151 #[.slice sp.at_ l.length sp.cap,.func (.func F) #[] bs] W fun o w'=>∃(sp':Sp) (l':List aa),o=.returned (.slice sp'.at_ l'.length sp'.cap)∧oC (tX τ) (tT τ) l l'∧bQ W.heap.size w' sp' l'∧Below W.heap.size W w'
inductive Gq (F:Nat) (bs:Array Value) (s:aa):Array Value→Bool→Prop
 | th:Gq F bs s #[.slice s.ts.at_ s.thn.length s.ts.cap,.func (.func F) #[] bs] true
 | el:Gq F bs s #[.slice s.os.at_ s.els.length s.os.cap,.func (.func F) #[] bs] false
theorem I4 (s:aa):aa.mk s.kind s.name s.es s.exprs s.bound s.ts s.thn s.os s.els=s:=by cases s;rfl
set_option maxRecDepth 1000000 in
set_option maxHeartbeats 8000000 in
theorem Hr (F:Nat) (bs:Array Value) (τ:ByteArray→ByteArray) (hτ:∀s,s.size≤maxLen→(τ s).size≤maxLen) (n0:Nat) (W0:World) (hT:uH F bs τ n0 W0) (sp:Sp) (l:List aa) (hr:bX n0 W0 sp l) (hfew:l.length≤1000000) (hfx:∀s,s∈l→s.exprs.length≤1000000)
  (hxs:∀s,s∈l→∀e,e∈s.exprs→xx F bs τ n0 W0 e) (ih:∀s,s∈l→iH F bs τ n0 W0 s.ts s.thn∧iH F bs τ n0 W0 s.os s.els):iH F bs τ n0 W0 sp l:=by
 intro w hw0 hn0;have HRD:=zhd ((hr.below hw0).more hn0);have HFX:=zhd fun (i:Nat) (hi:i<l.length)=>hfx _ (List.getElem_mem hi)
 have HXS:=zhd fun (i:Nat) (hi:i<l.length) (e:ae) (he:e∈(l[i]).exprs) (W:World) (hW:Below w.heap.size w W)=>hxs _ (List.getElem_mem hi) e he W (hw0.trans (hW.mono hn0)) (Nat.le_trans hn0 hW.size)
 have HTH:=zhd fun (i:Nat) (hi:i<l.length) (W:World) (hW:Below w.heap.size w W)=>(ih _ (List.getElem_mem hi)).1 W (hw0.trans (hW.mono hn0)) (Nat.le_trans hn0 hW.size)
 have HEL:=zhd fun (i:Nat) (hi:i<l.length) (W:World) (hW:Below w.heap.size w W)=>(ih _ (List.getElem_mem hi)).2 W (hw0.trans (hW.mono hn0)) (Nat.le_trans hn0 hW.size)
 have HFEW:=zhd hfew;have hen:=hT.1;have HT:=zhd fun (W:World) (hW:Below w.heap.size w W)=>hT.2 W (hw0.trans (hW.mono hn0)) (Nat.le_trans hn0 hW.size)
 have hcap:=HRD.out.row.cap;have hbig:=HRD.out.row.big;clear hr hfx hxs ih hw0 hfew hT;go_enter Tryz.func151,Tryz.ntmps151
 go_wp2_with fail
 refine (Au w sp l w.heap.size HRD.out.row HFEW.out).mono ?_;rintro o W1 ⟨⟨⟨sa,sc⟩,rfl,hown,_⟩,hb1⟩;have HST:Hid (si (tX τ) (tT τ) w W1 l sp sa sc W1.heap.size W1.heap.size 0 l l):=zhd ⟨hb1,hb1.size,Nat.le_refl _,Nat.le_refl _,fun a ha=>by subst ha;exact (World.ownsRow.lt hown _ rfl).2,hown,rfl,fun i _ _ h=>absurd h (Nat.not_lt_zero _),fun i _ _ _=>rfl⟩;have hwlo:w.heap.size≤W1.heap.size:=hb1.size;clear hown hb1 hcap hbig;generalize W1.heap.size=lo at *;go_wp2_with fail
 go_loopw [14] (fun s14 wr=>∃k cur hi,k≤l.length∧s14=.int .i64 (k:Nat)∧si (tX τ) (tT τ) w wr l sp sa sc lo hi k cur cur) (fun s14 _=>l.length - (intOf s14).toNat)
 case atStart=>exact ⟨0,l,_,Nat.zero_le _,rfl,HST.out⟩
 case round =>
  obtain ⟨k,cur,hi,hk,rfl,hx⟩:=hrel;clear HST;by_cases hlt:k<l.length
  ·obtain ⟨g,hA,hg2,hgl,hc⟩:=hx.own.cell (fun _=>rfl) (j:=k) (by rw [hx.len];exact hlt)
   subst hA;rw [hx.todo k hlt (by rw [hx.len];exact hlt) (Nat.le_refl _)] at hc;obtain ⟨s,hse⟩:∃x,l[k]=x:=⟨_,rfl⟩;rw [hse] at hc;have HSE:=zhd hse;have HRS:=zhd (HRD.out.ok _ (List.getElem_mem hlt));rw [hse] at HRS;have HFX':=zhd (HFX.out k hlt);have HXS':=zhd (HXS.out k hlt);have HTH':=zhd (HTH.out k hlt);have HEL':=zhd (HEL.out k hlt);rw [hse] at HFX' HXS' HTH' HEL';clear hse;have c0:wr.cell? ⟨g,k*6,none⟩=some (.int .u8 s.kind):=hc 0 _ rfl;have c1:wr.cell? ⟨g,k*6+1,none⟩=some (.string s.name):=hc 1 _ rfl;have c2:wr.cell? ⟨g,k*6+2,none⟩=some (.slice s.es.at_ s.exprs.length s.es.cap):=hc 2 _ rfl;have c3:wr.cell? ⟨g,k*6+3,none⟩=some (.int .i64 s.bound):=hc 3 _ rfl;have c4:wr.cell? ⟨g,k*6+4,none⟩=some (.slice s.ts.at_ s.thn.length s.ts.cap):=hc 4 _ rfl;have c5:wr.cell? ⟨g,k*6+5,none⟩=some (.slice s.os.at_ s.els.length s.os.cap):=hc 5 _ rfl;have HX:=zhd hx.raise;have hbA:=(Below.refl wr.heap.size wr).alloc (Nat.le_refl _) (.cells #[.int .u8 s.kind,.string s.name,.slice s.es.at_ s.exprs.length s.es.cap,.int .i64 s.bound,.slice s.ts.at_ s.thn.length s.ts.cap,.slice s.os.at_ s.els.length s.os.cap] 43);have HX5:=zhd (hx.raise.on hbA);have HA5:=zhd (zan wr (.cells #[.int .u8 s.kind,.string s.name,.slice s.es.at_ s.exprs.length s.es.cap,.int .i64 s.bound,.slice s.ts.at_ s.thn.length s.ts.cap,.slice s.os.at_ s.els.length s.os.cap] 43));have hwr:wr.heap.size<(wr.alloc (.cells #[.int .u8 s.kind,.string s.name,.slice s.es.at_ s.exprs.length s.es.cap,.int .i64 s.bound,.slice s.ts.at_ s.thn.length s.ts.cap,.slice s.os.at_ s.els.length s.os.cap] 43)).heap.size:=by simp
   have hgw:g<wr.heap.size:=hgl;clear hc hx hbA;go_upto_region 5 with fail
   clear c0 c2 c3 c4 c5 HX;generalize wr.alloc (.cells #[.int .u8 s.kind,.string s.name,.slice s.es.at_ s.exprs.length s.es.cap,.int .i64 s.bound,.slice s.ts.at_ s.thn.length s.ts.cap,.slice s.os.at_ s.els.length s.os.cap] 43)=W5 at *;generalize hbx:wr.heap.size=bx at *;obtain ⟨a0,a1,a2,a3,a4,a5⟩:=ag HA5.out;obtain ⟨nm1,hnm1⟩:∃x,tT τ s.kind s.name=x:=⟨_,rfl⟩;have HNM1:=zhd hnm1
   go_cut [26] (fun s26 wx=>s26=.bool (decide (s.kind=1∨s.kind=2))∧W5=wx)
   case first =>
    by_cases k1:s.kind=1
    ·have g1:(s.kind == 1)=true:=by simp [k1]
     have HD:Hid (decide (s.kind=1∨s.kind=2)=true):=zhd (decide_eq_true (.inl k1));clear k1;go_wp2_with fail
     go_meet
     case rel=>exact ⟨by rw [HD.out],rfl⟩
    ·have g1:(s.kind == 1)=false:=by simp [k1]
     by_cases k2:s.kind=2
     ·have g2:(s.kind == 2)=true:=by simp [k2]
      have HD:Hid (decide (s.kind=1∨s.kind=2)=true):=zhd (decide_eq_true (.inr k2));clear k1 k2;go_wp2_with fail
      go_meet
      case rel=>exact ⟨by rw [HD.out],rfl⟩
     ·have g2:(s.kind == 2)=false:=by simp [k2]
      have HD:Hid (decide (s.kind=1∨s.kind=2)=false):=zhd (decide_eq_false (fun h=>h.elim k1 k2));clear k1 k2;go_wp2_with fail
      go_meet
      case rel=>exact ⟨by rw [HD.out],rfl⟩
   case rest =>
    obtain ⟨h26,rfl⟩:=hcut;have H26:=zhd h26;clear h26;have HX1:Hid (si (tX τ) (tT τ) w W5 l sp (some ⟨g,0,none⟩) sc lo bx k cur cur):=HX5
    go_upto_if 26 with fail
    go_cut [34] (fun _ wx=>si (tX τ) (tT τ) w wx l sp (some ⟨g,0,none⟩) sc lo bx k (cur.set k (.mk s.kind nm1 s.es s.exprs s.bound s.ts s.thn s.os s.els)) cur∧wx.heap[bx]? = some (.cells #[.int .u8 s.kind,.string s.name,.slice s.es.at_ s.exprs.length s.es.cap,.int .i64 s.bound,.slice s.ts.at_ s.thn.length s.ts.cap,.slice s.os.at_ s.els.length s.os.cap] 43 (0,0)))
    case first =>
     have hck:∀h,cur[k]'h=s:=fun h=>by rw [HX1.out.todo k hlt h (Nat.le_refl _),HSE.out]
     by_cases hb:s.kind=1∨s.kind=2
     ·have HD:Hid (decide (s.kind=1∨s.kind=2)=true):=zhd (decide_eq_true hb)
      have e26:=H26.out;rw [HD.out] at e26;subst e26;obtain ⟨g',hA',_,_,hc⟩:=HX1.out.own.cell (fun _=>rfl) (j:=k) (by rw [HX1.out.len];exact hlt);cases hA'
      have y1:=hc 1 _ rfl;have f1:=HX1.out.own.frozen (k*6+1);have e1:τ s.name=nm1:=by rw [←HNM1.out];exact (if_pos hb).symm
      have HCN:=zhd (HT.out W5 HX1.out.low s.name (match HRS.out with | .mk _ _ _ c _ _ _ _ _ _=>c));rw [e1] at HCN;have HPUT:=zhd (HX1.out.put (r:=1) (v:=.string nm1) (x:=.mk s.kind nm1 s.es s.exprs s.bound s.ts s.thn s.os s.els) hg2 HX1.out.len hlt (by decide) (by rw [hck];rfl));have hgb:bx≠g:=by omega
      clear hb H26 HD hck hc e1;go_wp2_with fail
      refine HCN.out.mono ?_;rintro o w' ⟨rfl,rfl⟩;go_wp2_with fail
      go_meet
      case rel=>exact ⟨HPUT.out,(Below.heap_setCell _ _ _ _ hgb).trans HA5.out⟩
     ·have HD:Hid (decide (s.kind=1∨s.kind=2)=false):=zhd (decide_eq_false hb)
      have e26:=H26.out;rw [HD.out] at e26;subst e26;have HSM:Hid (cur.set k (.mk s.kind nm1 s.es s.exprs s.bound s.ts s.thn s.os s.els)=cur):=zhd (by
       have e1:s.name=nm1:=by rw [←HNM1.out];exact (if_neg hb).symm
       rw [←e1,I4];have hkc:k<cur.length:=by rw [HX1.out.len];exact hlt
       have:=List.set_getElem_self hkc;rw [hck hkc] at this;exact this)
      clear hb H26 HD hck;go_wp2_with fail
      go_meet
      case rel=>exact ⟨by rw [HSM.out];exact HX1.out,HA5.out⟩
    case rest =>
     obtain ⟨hx6,hbx6⟩:=hcut;have HX6:=zhd hx6;have HB6:=zhd hbx6;obtain ⟨b0,b1,b2,b3,b4,b5⟩:=ag hbx6;have HEROW:=zhd (RowOf.more (RowOf.below HRS.out.xs.row hx6.low) hx6.low.size);clear hx6 hbx6 HX1 HX5 HA5 H26 a0 a1 a2 a3 a4 a5;go_wp2_with fail
     refine (sH wc s.es s.exprs wc.heap.size HEROW.out HFX'.out).mono ?_;clear HEROW;rintro o W7 ⟨⟨⟨ea,ec⟩,rfl,heown,_⟩,hb7⟩;have HX7:=zhd (HX6.out.on hb7);have HB7:=zhd ((hb7.block _ (zgs HB6.out).1).trans HB6.out);have hl7:=(zgs HB6.out).1;have hgb:bx≠g:=by omega
     obtain ⟨g',hA',_,_,hc⟩:=HX7.out.own.cell (fun _=>rfl) (j:=k) (by rw [List.length_set,HX7.out.len];exact hlt);cases hA'
     have y2:=hc 2 _ rfl;have f2:=HX7.out.own.frozen (k*6+2);have hs7:(W7.setCell ⟨g,k*6+2,none⟩ (.slice ea s.exprs.length ec)).heap.size=W7.heap.size:=by simp
     have HX8:Hid (si (tX τ) (tT τ) w (W7.setCell ⟨g,k*6+2,none⟩ (.slice ea s.exprs.length ec)) l sp (some ⟨g,0,none⟩) sc lo bx k (cur.set k (.mk s.kind nm1 ⟨ea,ec⟩ s.exprs s.bound s.ts s.thn s.os s.els)) cur):=zhd (by
      have h:=HX7.out.put (r:=2) (v:=.slice ea s.exprs.length ec) (x:=(.mk s.kind nm1 ⟨ea,ec⟩ s.exprs s.bound s.ts s.thn s.os s.els)) hg2 (by rw [List.length_set];exact HX7.out.len) hlt (by decide) (by simp [aa.cells,aa.kind,aa.name,aa.es,aa.exprs,aa.bound,aa.ts,aa.thn,aa.os,aa.els,Sp.val])
      rwa [List.set_set] at h)
     have HE8:Hid (Gh (tX τ) (W7.setCell ⟨g,k*6+2,none⟩ (.slice ea s.exprs.length ec)) bx s ea ec W7.heap.size 0 s.exprs):=zhd ⟨(Below.heap_setCell _ _ _ _ hgb).trans HB7.out,Nat.lt_of_lt_of_le hl7 hb7.size,by rw [hs7];exact Nat.le_refl _,fun a ha=>by subst ha;have h1:=World.ownsRow.lt heown _ rfl;exact ⟨Nat.lt_of_lt_of_le hl7 h1.1,h1.2⟩,
      (heown.less (show bx+1≤wc.heap.size from hl7)).same fun a ha=>by subst ha;exact Below.heap_setCell _ _ _ _ (by have h1:=World.ownsRow.lt heown _ rfl;have h2:wc.heap.size≤a.block:=h1.1;show a.block≠g;omega),rfl,fun i _ _ h=>absurd h (Nat.not_lt_zero _),fun i _ _ _=>rfl⟩
     obtain ⟨e0,e1,e2,e3,e4,e5⟩:=ag HE8.out.ebox;clear hc heown hb7 hs7;go_upto_region 9 with fail
     generalize W7.heap.size=lo2 at *;generalize W7.setCell ⟨g,k*6+2,none⟩ (.slice ea s.exprs.length ec)=W8 at *;clear y2 f2 e0 e1 e2 e3 e4 e5 HX7 HB7 HX6 HB6 hl7 b0 b1 b2 b3 b4 b5;go_loopw [45] (fun s45 wx=>∃k2 cur2,k2≤s.exprs.length∧s45=.int .i64 (k2:Nat)∧si (tX τ) (tT τ) w wx l sp (some ⟨g,0,none⟩) sc lo bx k (cur.set k (.mk s.kind nm1 ⟨ea,ec⟩ s.exprs s.bound s.ts s.thn s.os s.els)) cur∧Gh (tX τ) wx bx s ea ec lo2 k2 cur2) (fun s45 _=>s.exprs.length - (intOf s45).toNat)
     case atStart=>exact ⟨0,s.exprs,Nat.zero_le _,rfl,HX8.out,HE8.out⟩
     case round =>
      obtain ⟨k2,cur2,hk2,rfl,hx9,he9⟩:=hrel;clear HX8 HE8;by_cases hlt2:k2<s.exprs.length
      ·obtain ⟨be,oe,eA,hbe,hce⟩:=HRS.out.xs.row.row (by omega)
       obtain ⟨e,hee⟩:∃x,s.exprs[k2]=x:=⟨_,rfl⟩;have hce2:=hce k2 hlt2;rw [hee] at hce2;have HEE:=zhd hee;have HCALL:=zhd (HXS'.out e (by rw [←hee];exact List.getElem_mem hlt2));have hlow:=hx9.low;have x0:wr.cell? ⟨be,oe+k2*6,none⟩=some (.int .u8 e.kind):=(hlow.cell (p:=⟨be,_,none⟩) hbe).trans (hce2 0 _ rfl);have x1:wr.cell? ⟨be,oe+k2*6+1,none⟩=some (.int .u8 e.op):=(hlow.cell (p:=⟨be,_,none⟩) hbe).trans (hce2 1 _ rfl);have x2:wr.cell? ⟨be,oe+k2*6+2,none⟩=some (.int .u32 e.value):=(hlow.cell (p:=⟨be,_,none⟩) hbe).trans (hce2 2 _ rfl);have x3:wr.cell? ⟨be,oe+k2*6+3,none⟩=some (.int .i64 e.width):=(hlow.cell (p:=⟨be,_,none⟩) hbe).trans (hce2 3 _ rfl);have x4:wr.cell? ⟨be,oe+k2*6+4,none⟩=some (.string e.name):=(hlow.cell (p:=⟨be,_,none⟩) hbe).trans (hce2 4 _ rfl);have x5:wr.cell? ⟨be,oe+k2*6+5,none⟩=some (.slice e.sp.at_ e.subs.length e.sp.cap):=(hlow.cell (p:=⟨be,_,none⟩) hbe).trans (hce2 5 _ rfl);have hbA:=(Below.refl wr.heap.size wr).alloc (Nat.le_refl _) (.cells #[.int .u8 e.kind,.int .u8 e.op,.int .u32 e.value,.int .i64 e.width,.string e.name,.slice e.sp.at_ e.subs.length e.sp.cap] 30);have HX10:=zhd (hx9.on hbA);have HE10:=zhd (he9.on hbA);have HA10:=zhd (zan wr (.cells #[.int .u8 e.kind,.int .u8 e.op,.int .u32 e.value,.int .i64 e.width,.string e.name,.slice e.sp.at_ e.subs.length e.sp.cap] 30));obtain ⟨ga,hA2,hga,hgal,hcx⟩:=he9.own.cell (fun _=>rfl) (j:=k2) (by rw [he9.len];exact hlt2);subst hA2;clear hee hce hce2 hlow hbA hcx hx9 he9;go_upto_region 11 with fail
       generalize wr.alloc (.cells #[.int .u8 e.kind,.int .u8 e.op,.int .u32 e.value,.int .i64 e.width,.string e.name,.slice e.sp.at_ e.subs.length e.sp.cap] 30)=W10 at *;have hck:∀W,si (tX τ) (tT τ) w W l sp (some ⟨g,0,none⟩) sc lo bx k (cur.set k (.mk s.kind nm1 ⟨some ⟨ga,0,none⟩,ec⟩ s.exprs s.bound s.ts s.thn s.os s.els)) cur→W.cell? ⟨g,k*6+2,none⟩=some (.slice (some ⟨ga,0,none⟩) s.exprs.length ec):=fun W h=>by
        obtain ⟨g',hA',_,_,hc⟩:=h.own.cell (fun _=>rfl) (j:=k) (by rw [List.length_set,h.len];exact hlt);cases hA'
        exact hc 2 _ (by rw [List.getElem_set_self];rfl)
       have HCK:=zhd hck;obtain ⟨a0,a1,a2,a3,a4,a5⟩:=ag HA10.out;have HX11:=zhd (HX10.out.on (Below.refl _ _).drew);have HE11:=zhd (HE10.out.on (Below.refl _ _).drew);have y2a:=HCK.out _ HX11.out;have hgb:bx≠g:=by omega
       clear x0 x1 x2 x3 x4 x5 HX10 HE10 HA10 hck;go_region_with (go_at_call 149;refine (HCALL.out W10.drew HX11.out.low).mono ?_;rintro o W6 ⟨e1,rfl,hren,hnew,hb⟩;have HX12:=zhd (HX11.out.on hb);have HE12:=zhd (HE11.out.on hb);have HR6:=zhd hren;have HN6:=zhd (hnew.less HE11.out.lo2W);have y2b:=HCK.out _ HX12.out;obtain ⟨g',hA',_,_,hc⟩:=HE12.out.own.cell (fun _=>rfl) (j:=k2) (by rw [HE12.out.len];exact hlt2);cases hA';have z0:=hc 0 _ rfl;rw [Nat.add_zero] at z0;have z1:=hc 1 _ rfl;have z2:=hc 2 _ rfl;have z3:=hc 3 _ rfl;have z4:=hc 4 _ rfl;have z5:=hc 5 _ rfl;have fz:=fun j=>HE12.out.own.frozen j;have f0:=fz (k2*6);have f1:=fz (k2*6+1);have f2:=fz (k2*6+2);have f3:=fz (k2*6+3);have f4:=fz (k2*6+4);have f5:=fz (k2*6+5);clear hren hnew hb hc fz)
       all_goals
        have hw:wrap64 ((k2:Int)+1)=(k2:Int)+1:=IntWalk.wrap64_in _ ⟨by omega,by have:=HFX'.out;omega⟩;have hbg:bx≤ga:=Nat.le_of_succ_le hga;have hms:s.exprs.length - ((k2:Int)+1).toNat<s.exprs.length - (k2:Int).toNat:=by clear hw;omega
        go_wp2_with fail
        have HEA:=zhd eA;clear eA;rw [←HEA.out];go_roundw
        case rel=>exact ⟨k2+1,cur2.set k2 e1,hlt2,by first | rfl | (rw [hw];rfl) | go_num,HX12.out.keep (je (Below.refl bx W6) hbg _ _ _ _ _ _ _),HE12.out.put hlt2 (by rw [HEE.out];exact HR6.out) HN6.out⟩
        case measure=>first | exact hms | (rw [hw];exact hms) | (simp only [intOf];exact hms) | (simp only [intOf,hw];exact hms) | (simp [intOf];omega)
      ·obtain rfl:k2=s.exprs.length:=Nat.le_antisymm hk2 (Nat.le_of_not_lt hlt2)
       have HALL:Hid (∀W,Below w.heap.size w W→∀args b,Gq F bs s args b→Calls Tryz.prog 151 args W fun o w'=>∃(sp':Sp) (l':List aa),o=.returned (.slice sp'.at_ l'.length sp'.cap)∧oC (tX τ) (tT τ) (if b=true then s.thn else s.els) l'∧bQ W.heap.size w' sp' l'∧Below W.heap.size W w'):=zhd fun W hW args b h=>by
        cases h with
        | th=>exact HTH'.out W hW
        | el=>exact HEL'.out W hW
       have HCK:Hid (∀W,si (tX τ) (tT τ) w W l sp (some ⟨g,0,none⟩) sc lo bx k (cur.set k (.mk s.kind nm1 ⟨ea,ec⟩ s.exprs s.bound s.ts s.thn s.os s.els)) cur→W.cell? ⟨g,k*6+4,none⟩=some (.slice s.ts.at_ s.thn.length s.ts.cap)∧W.cell? ⟨g,k*6+5,none⟩=some (.slice s.os.at_ s.els.length s.os.cap)):=zhd fun W h=>by
        obtain ⟨g',hA',_,_,hc⟩:=h.own.cell (fun _=>rfl) (j:=k) (by rw [List.length_set,h.len];exact hlt);cases hA'
        exact ⟨hc 4 _ (by rw [List.getElem_set_self];rfl),hc 5 _ (by rw [List.getElem_set_self];rfl)⟩
       have HXc:=zhd (hx9.on (Below.refl _ _).drew);have HEc:=zhd (he9.on (Below.refl _ _).drew);obtain ⟨a0,a1,a2,a3,a4,a5⟩:=ag he9.ebox;have p4:=(HCK.out _ hx9).1;have p5:=(HCK.out _ hx9).2;have hgb:bx≠g:=by omega
       have M1:Hid (0=0):=zhd rfl;clear hx9 he9 hk2 hlt2;go_upto_region 13 with fail
       go_region_with (first
        | (clear M1;go_at_call 151;refine (HALL.out _ HXc.out.low _ true (by with_reducible exact .th)).mono ?_;rintro o WT ⟨tsp,tl,rfl,hren,hnew,hb⟩;have HXn:=zhd (HXc.out.on hb);have HEn:=zhd (HEc.out.on hb);have HRT:=zhd hren;have HNT:=zhd (hnew.less (Nat.le_trans HXc.out.hhi HXc.out.hiW));clear HXc HEc hren hnew hb;have HXc:=HXn;have HEc:=HEn;clear HXn HEn;have w4:=(ag HEc.out.ebox).2.2.2.2.1;have w5:=(ag HEc.out.ebox).2.2.2.2.2;have q4:=(HCK.out _ HXc.out).1;have q5:=(HCK.out _ HXc.out).2;have f4:=HXc.out.own.frozen (k*6+4);have f5:=HXc.out.own.frozen (k*6+5))
        | (clear M1;go_at_call 151;refine (HALL.out _ HXc.out.low _ false (by with_reducible exact .el)).mono ?_;rintro o WE ⟨osp,ol,rfl,hren,hnew,hb⟩;have HXn:=zhd (HXc.out.on hb);have HEn:=zhd (HEc.out.on hb);have HRE:=zhd hren;have HNE:=zhd (hnew.less (Nat.le_trans HXc.out.hhi HXc.out.hiW));clear HXc HEc hren hnew hb;have HXc:=HXn;have HEc:=HEn;clear HXn HEn;have w4:=(ag HEc.out.ebox).2.2.2.2.1;have w5:=(ag HEc.out.ebox).2.2.2.2.2;have q4:=(HCK.out _ HXc.out).1;have q5:=(HCK.out _ HXc.out).2;have f4:=HXc.out.own.frozen (k*6+4);have f5:=HXc.out.own.frozen (k*6+5))
        | (go_at_call 151;refine (HALL.out _ HXc.out.low _ true (by with_reducible exact .th)).mono ?_;rintro o WT ⟨tsp,tl,rfl,hren,hnew,hb⟩;have HNE2:=zhd (HNE.out.on' hb);clear HNE;have HNE:=HNE2;clear HNE2;have HXn:=zhd (HXc.out.on hb);have HEn:=zhd (HEc.out.on hb);have HRT:=zhd hren;have HNT:=zhd (hnew.less (Nat.le_trans HXc.out.hhi HXc.out.hiW));clear HXc HEc hren hnew hb;have HXc:=HXn;have HEc:=HEn;clear HXn HEn;have w4:=(ag HEc.out.ebox).2.2.2.2.1;have w5:=(ag HEc.out.ebox).2.2.2.2.2;have q4:=(HCK.out _ HXc.out).1;have q5:=(HCK.out _ HXc.out).2;have f4:=HXc.out.own.frozen (k*6+4);have f5:=HXc.out.own.frozen (k*6+5))
        | (go_at_call 151;refine (HALL.out _ HXc.out.low _ false (by with_reducible exact .el)).mono ?_;rintro o WE ⟨osp,ol,rfl,hren,hnew,hb⟩;have HNT2:=zhd (HNT.out.on' hb);clear HNT;have HNT:=HNT2;clear HNT2;have HXn:=zhd (HXc.out.on hb);have HEn:=zhd (HEc.out.on hb);have HRE:=zhd hren;have HNE:=zhd (hnew.less (Nat.le_trans HXc.out.hhi HXc.out.hiW));clear HXc HEc hren hnew hb;have HXc:=HXn;have HEc:=HEn;clear HXn HEn;have w4:=(ag HEc.out.ebox).2.2.2.2.1;have w5:=(ag HEc.out.ebox).2.2.2.2.2;have q4:=(HCK.out _ HXc.out).1;have q5:=(HCK.out _ HXc.out).2;have f4:=HXc.out.own.frozen (k*6+4);have f5:=HXc.out.own.frozen (k*6+5))
        | fail)
       all_goals
        obtain ⟨cur',hi',hfin⟩:=HXc.out.fin HEc.out HNT.out HNE.out (by simpa using HRT.out) (by simpa using HRE.out) HNM1.out hlt HSE.out hg2 (fun k s hs=>by unfold tT;split;exact hτ s hs;exact hs) HRS.out;have hw:wrap64 ((k:Int)+1)=(k:Int)+1:=IntWalk.wrap64_in _ ⟨by omega,by have:=HFEW.out;omega⟩;have hms:l.length - ((k:Int)+1).toNat<l.length - (k:Int).toNat:=by clear hw;omega
        have HF:=zhd hfin;clear hfin;go_wp2_with fail
        go_roundw
        case rel=>first | exact ⟨k+1,cur',hi',hlt,by first | rfl | (rw [hw];rfl) | go_num,HF.out⟩ | ((repeat apply Exists.intro);exact ⟨⟨k+1,cur',hi',hlt,by first | rfl | (rw [hw];rfl) | go_num,HF.out⟩,rfl⟩)
        case measure=>first | exact hms | (rw [hw];exact hms) | (simp only [intOf];exact hms) | (simp only [intOf,hw];exact hms) | (simp [intOf];omega)
  ·obtain rfl:k=l.length:=Nat.le_antisymm hk (Nat.le_of_not_lt hlt)
   have HX:=zhd hx;clear hx hk hlt;go_wp2_with fail
   go_ret
   refine ⟨⟨sa,sc⟩,cur,by rw [HX.out.len];rfl,oC.of HX.out.len fun i h1 h2=>(HX.out.done i h1 h2 h1).1,⟨HX.out.own.low (fun _=>rfl) (by rw [HX.out.len];exact HRD.out.row.few) (Nat.le_refl _),fun x hm=>?_⟩,HX.out.low⟩;obtain ⟨i,hi2,rfl⟩:=List.getElem_of_mem hm;have hi3:i<l.length:=by rw [←HX.out.len];exact hi2
   exact iE.less ((HX.out.done i hi3 hi2 hi3).2.raise HX.out.hiW) HX.out.hlo
end
section
open Go Go.RowKit Go.Maps
section
variable {F:Nat} {bs:Array Value} {τ:ByteArray→ByteArray} (hτ:∀s,s.size≤maxLen→(τ s).size≤maxLen) {n0:Nat} {W0:World} (hT:uH F bs τ n0 W0)
include hτ hT
theorem vP (sp:Sp) (l:List aa) (hr:bX n0 W0 sp l) (hl:ay l≤1000000) (ih:∀s,s∈l→ay [s]≤1000000→iH F bs τ n0 W0 s.ts s.thn∧iH F bs τ n0 W0 s.os s.els):iH F bs τ n0 W0 sp l:=by
 have hx:∀s,s∈l→aF s.exprs≤1000000:=fun s hs=>by
  have h1:=bM l s hs;rw [bR] at h1;omega
 refine Hr F bs τ hτ n0 W0 hT sp l hr (Nat.le_trans (fo l) hl) (fun s hs=>Nat.le_trans (uy s.exprs) (hx s hs)) (fun s hs e he=>ny hτ hT e ((hr.ok s hs).xs.ok e he) (Nat.le_trans (vw he) (hx s hs))) fun s hs=>ih s hs (Nat.le_trans (bM l s hs) hl)
theorem H8 (s:aa) (hr:eu n0 W0 s):ay [s]≤1000000→iH F bs τ n0 W0 s.ts s.thn∧iH F bs τ n0 W0 s.os s.els:=by
 induction hr with
 | mk s k b n er ex tr th orow el ih1 ih2 =>
  intro hl;rw [bR] at hl;exact ⟨vP hτ hT s.ts s.thn ⟨tr,th⟩ (by omega) ih1,vP hτ hT s.os s.els ⟨orow,el⟩ (by omega) ih2⟩
theorem jR (sp:Sp) (l:List aa) (hr:bX n0 W0 sp l) (hl:ay l≤1000000):iH F bs τ n0 W0 sp l :=
 vP hτ hT sp l hr hl fun s hs h=>H8 hτ hT s (hr.ok s hs) h
end
theorem nI:tX id=Hw:=by funext k n;unfold tX Hw;split <;> rfl
theorem zM:tT id=Hw:=by funext k n;unfold tT Hw;split <;> rfl
theorem Ky {l:List aa} (hl:ay l≤20000):bS (l.flatMap aa.pre) 0≤20000:=by
 unfold ay at hl;rw [jE _ 0 (by omega)];omega
set_option maxRecDepth 1000000 in
set_option maxHeartbeats 4000000 in
theorem wX (w:World) (sp:Sp) (l:List aa) (h:bX w.heap.size w sp l) (hl:ay l≤20000) :
  Calls Tryz.prog 162 #[.slice sp.at_ l.length sp.cap] w fun o w'=>∃(sp':Sp) (l':List aa),o=.returned (.slice sp'.at_ l'.length sp'.cap)∧l'.map ah=l.map ah∧bQ w.heap.size w' sp' l'∧Below w.heap.size w w':=by
 have hC:=cK w sp l 0 h (by omega);simp only [Sp.val] at hC;have hL:=fun W=>iC (bS (l.flatMap aa.pre) 0) W
 rw [decide_eq_true (Ky hl)] at hL;have HC:=zhd hC;have HL:=zhd hL;have HN:=zhd (jR (τ:=id) (fun s hs=>hs) (ni w.heap.size w) sp l h (by omega));clear hC hL h hl;go_enter Tryz.func162,Tryz.ntmps162
 go_wp2_with fail
 refine HC.out.mono ?_;rintro o w1 ⟨rfl,hb1⟩;go_wp2_with fail
 refine (HL.out _).mono ?_;rintro o w2 ⟨rfl,rfl⟩;go_wp2_with fail
 refine (HN.out _ hb1 hb1.size).mono ?_;rintro o w3 ⟨sp',l',rfl,hsm,hnew,hb3⟩;rw [nI,zM] at hsm;go_wp2_with fail
 go_ret
 exact ⟨sp',l',rfl,hsm.same,hnew.less hb1.size,hb1.trans (hb3.mono hb1.size)⟩
theorem Jy {e:ae} (hl:e.pre.length≤20000):dF e.pre.length 0≤20000:=by
 rw [mZ (by omega)];omega
set_option maxRecDepth 1000000 in
set_option maxHeartbeats 4000000 in
theorem yY (w:World) (e:ae) (h:iw w.heap.size w e) (hl:e.pre.length≤20000) :
  Calls Tryz.prog 161 #[.agg #[.int .u8 e.kind,.int .u8 e.op,.int .u32 e.value,.int .i64 e.width,.string e.name,.slice e.sp.at_ e.subs.length e.sp.cap]] w fun o w'=>∃e':ae,o=.returned (.agg #[.int .u8 e'.kind,.int .u8 e'.op,.int .u32 e'.value,.int .i64 e'.width,.string e'.name,.slice e'.sp.at_ e'.subs.length e'.sp.cap])∧av e'=av e∧gM w.heap.size w' e'∧Below w.heap.size w w':=by
 have hC:∀W,Below w.heap.size w W→Calls Tryz.prog 86 #[.agg #[.int .u8 e.kind,.int .u8 e.op,.int .u32 e.value,.int .i64 e.width,.string e.name,.slice e.sp.at_ e.subs.length e.sp.cap],.int .i64 0] W fun o w'=>o=.returned (.int .i64 (dF e.pre.length 0))∧Below W.heap.size W w':=fun W hW=>fZ W e 0 ((h.stays hW).more hW.size) (by omega)
 have hL:=fun W=>iC (dF e.pre.length 0) W
 rw [decide_eq_true (Jy hl)] at hL;have HC:=zhd hC;have HL:=zhd hL;have HN:=zhd (ny (τ:=id) (fun s hs=>hs) (ni w.heap.size w) e h (by omega));clear hC hL h hl;go_enter Tryz.func161,Tryz.ntmps161
 go_wp2_with fail
 obtain ⟨hx2,hz2,hs2,hb2⟩:=gY w (.cells #[.int .u8 e.kind,.int .u8 e.op,.int .u32 e.value,.int .i64 e.width,.string e.name,.slice e.sp.at_ e.subs.length e.sp.cap] 30) (.cells #[.int .u8 0,.int .u8 0,.int .u32 0,.int .i64 0,.string ⟨#[]⟩,.slice none 0 0] 30);refine (HC.out _ hb2).mono ?_;rintro o w1 ⟨rfl,hb1⟩;have hb1w:=hb2.trans (hb1.mono hb2.size);have hx1:=(hb1.block _ (zgs hx2).1).trans hx2;have hz1:=(hb1.block _ (zgs hz2).1).trans hz2;clear hx2 hz2 hs2 hb2 hb1;obtain ⟨x0,x1,x2,x3,x4,x5⟩:=ag hx1;have HZ1:=zhd hz1;have HB1:=zhd hb1w;clear hx1 hz1 hb1w;go_wp2_with fail
 refine (HL.out _).mono ?_;rintro o w2 ⟨rfl,rfl⟩;go_wp2_with fail
 refine (HN.out _ HB1.out HB1.out.size).mono ?_;rintro o w3 ⟨e',rfl,hsm,hnew,hb3⟩;rw [nI] at hsm;have hz3:=(hb3.block _ (zgs HZ1.out).1).trans HZ1.out;obtain ⟨z0,z1,z2,z3,z4,z5⟩:=ag hz3;have fz:∀j,w3.frozen? ⟨w.heap.size+1,j,none⟩=false:=fun j=>by simp [World.frozen?,hz3]
 have f0:=fz 0;have f1:=fz 1;have f2:=fz 2;have f3:=fz 3;have f4:=fz 4;have f5:=fz 5;have HZ3:=zhd hz3;have HSM:=zhd hsm;have HNEW:=zhd hnew;have HB3:=zhd (HB1.out.trans (hb3.mono HB1.out.size));have hlt:=(zgs HZ1.out).1;clear fz hz3 hsm hnew hb3 x0 x1 x2 x3 x4 x5;go_wp2_with fail
 refine bodyPost_ret (results_cell_row rfl _ _ (w.heap.size+1) 30 _ (0,0) _ rfl (nH HZ3.out _ _ _ _ _ _) Tryz.underlying30 rfl (vo _ _ _ _ _ _)) rfl ⟨e',rfl,HSM.out.same,?_,je HB3.out (by omega) _ _ _ _ _ _ _⟩;exact (qD HNEW.out hlt _ _ _ _ _ _ _).less HB1.out.size
end
end Go.Proofs.YtepacjkacjabbaaGreatDoor
