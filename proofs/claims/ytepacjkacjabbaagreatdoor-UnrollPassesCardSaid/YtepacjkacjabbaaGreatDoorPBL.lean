import Derived.Test.YtepacjkacjabbaaGreatDoorPBK
import Derived.Test.YtepacjkacjabbaaGreatDoorPAZ
import Derived.Deep.Slices
import Derived.Deep.Fields
namespace Go.Proofs.YtepacjkacjabbaaGreatDoor
section
open Go Go.RowKit Go.WideShapes Go.ChangeShapes
theorem uR:Tryz.prog.cellsOf 30=6:=by kernel_rfl
theorem uQ:Tryz.prog.cellsOf 43=6:=by kernel_rfl
theorem Ak:Tryz.prog.bytesOf 30=56:=by kernel_rfl
theorem Aj:Tryz.prog.bytesOf 43=104:=by kernel_rfl
theorem xE:Tryz.prog.cellsOf 5=1:=by kernel_rfl
theorem ED:Tryz.prog.cellsOf 25=1:=by kernel_rfl
theorem EG:Tryz.prog.cellsOf 27=1:=by kernel_rfl
theorem Ao:Tryz.prog.cellsOf 3=1:=by kernel_rfl
theorem Ap:Tryz.prog.cellsOf 9=1:=by kernel_rfl
theorem xG:Tryz.prog.cellsOf 28=1:=by kernel_rfl
theorem EF:Tryz.prog.cellsOf 33=1:=by kernel_rfl
section
variable {H:Type} {enc:TypeId × Value→H} {W:World}
theorem tJ {P:Program} {e:TypeId}:∀{l:List (DataW H)} {d:DataW H},d∈l→∀z∈d.weights P e,z∈DataW.weightsAll P e l
 | x::l,d,hd,z,hz=>by
  rw [DataW.weightsAll];rcases List.mem_cons.1 hd with rfl | hd
  ·exact List.mem_append_left _ hz
  ·exact List.mem_append_right _ (tJ hd z hz)
theorem j4 {α:Type} {ec:α→List Value} {k:Nat} {tS tE:TypeId} (ht:Tryz.prog.underlying tS=some (.slice tE)) (hk:Tryz.prog.cellsOf tE=k) (hk0:0<k) (hlen:∀x,(ec x).length=k) (hby:32≤Tryz.prog.bytesOf tE)
  {Q:α→Prop} {fuel:Nat} {cs:List Value} {x:DataW H × List MemPlace} (h:DataW.trod enc Tryz.prog W 0 (fun _=>true) true fuel tS cs=some x) (hw:∀z∈x.1.weights Tryz.prog tS,z≤reachBytes)
  (hel:∀n,n<fuel→∀cs' y,DataW.trod enc Tryz.prog W 0 (fun _=>true) true n tE cs'=some y→(∀z∈y.1.weights Tryz.prog tE,z≤reachBytes)→∃a:α,cs'=ec a∧Q a) :
  ∃(sp:Sp) (l:List α),cs=[sp.val l.length]∧RowOf W.heap.size W sp k ec l∧∀a∈l,Q a:=by
 rcases DataW.trod_slice ht h with ⟨rfl,rfl⟩ | ⟨a,len,cap,elems,rest,n,rfl,rfl,rfl,-,hl,hm,hlen2,hi,hsp,-⟩
 ·exact ⟨Sp.none,[],rfl,RowOf.nil,fun _ h=>by cases h⟩
 ·have hrl:=(hsp rfl).1
  have hw2:=hw;rw [DataW.weights.eq_5,ht] at hw2
  dsimp only at hw2
  have hcap:cap≤4398046511104:=by
   have h1:=hw2 _ (List.mem_cons_self ..);rw [List.length_map,List.length_map,hlen2,hrl] at h1;have h2:len+(cap - len)=cap:=by omega
   rw [h2] at h1;unfold reachBytes at h1;have h3:cap*32≤cap*Tryz.prog.bytesOf tE:=Nat.mul_le_mul_left _ hby
   omega
  have hone:∀i,i<len→∃y:α,Q y∧W.cells? 0 (a.add (i*k)) k=some (ec y):=by
   intro i hil;have h1:=hi i hil;rw [hk,List.getElem?_eq_getElem (by omega)] at h1;obtain ⟨cs',h2,h3⟩:=Option.bind_eq_some_iff.1 h1;obtain ⟨y,rfl,hy⟩:=hel n (Nat.lt_succ_self _) cs' _ h3 fun z hz=>hw2 z (List.mem_cons_of_mem _ (List.mem_append_left _ (tJ (List.mem_map_of_mem (List.getElem_mem (by omega))) z hz)))
   exact ⟨y,hy,h2⟩
  have hT:∀m:Nat,m≤len→∃l:List α,l.length=m∧(∀y∈l,Q y)∧∀i (h:i<l.length),W.cells? 0 (a.add (i*k)) k=some (ec l[i]):=by
   intro m;induction m with
   | zero=>exact fun _=>⟨[],rfl,fun _ h=>(by cases h),fun i h=>absurd h (Nat.not_lt_zero _)⟩
   | succ m ih =>
    intro hm;obtain ⟨l,h1,h2,h3⟩:=ih (by omega);obtain ⟨y,hy,hc⟩:=hone m (by omega);refine ⟨l++[y],by simp [h1],fun z hz=>?_,fun i hi=>?_⟩
    ·rcases List.mem_append.1 hz with hz | hz
     ·exact h2 z hz
     ·rw [List.mem_singleton.1 hz];exact hy
    ·by_cases e:i<l.length
     ·rw [List.getElem_append_left e];exact h3 i e
     ·have:i=m:=by simp at hi;omega
      subst this;rw [List.getElem_append_right (by omega)]
      simpa [h1] using hc
  obtain ⟨l,h1,h2,h3⟩:=hT len (Nat.le_refl _);refine ⟨⟨some a,cap⟩,l,by rw [h1];rfl,⟨by rw [h1];exact hl,hm,by omega,fun h0=>?_⟩,h2⟩;have c0:=h3 0 h0;obtain ⟨-,-,hat⟩:=World.cells?_some c0;have hl0:=hlen l[0];have g0:=hat 0 hk0;rw [List.getElem?_eq_getElem (by omega)] at g0;have hspot:a.spot=none:=by
   have:=World.cell?_spot g0
   simpa [Addr.add] using this
  obtain ⟨b,off,spot⟩:=a;simp only at hspot;subst hspot;rw [Nat.zero_mul,add_plain,add_plain] at g0;refine ⟨b,off,rfl,?_,fun j hj r u hu=>?_⟩
  ·rcases Nat.lt_or_ge b W.heap.size with h1 | h1
   ·exact h1
   ·simp [World.cell?,Array.getElem?_eq_none h1] at g0
  ·obtain ⟨-,-,hat⟩:=World.cells?_some (h3 j hj)
   have hr:r<k:=by
    have:=(List.getElem?_eq_some_iff.1 hu).1;rw [hlen] at this;exact this
   have:=hat r hr;rw [add_plain,add_plain] at this;exact this.trans hu
theorem I9 {fuel:Nat} {P:Program} {t:TypeId} {fs:Array Field} {cs:List Value} {x:DataW H × List MemPlace} (ht:P.underlying t=some (.struct fs)) (h:DataW.trod enc P W 0 (fun _=>true) true fuel t cs=some x) (hw:∀z∈x.1.weights P t,z≤reachBytes) :
  ∃(xs:List (DataW H × List MemPlace)) (n:Nat),fuel=n+1∧cs.length=P.cellsOf t∧xs.length=fs.size∧(∀(i:Nat) (f:Field),fs[i]? = some f→DataW.trod enc P W 0 (fun _=>true) true n f.type ((cs.drop f.offset).take (P.cellsOf f.type))=xs[i]?)∧∀z∈DataW.weightsEach P (fs.toList.map (·.type)) (xs.map (·.1)),z≤reachBytes:=by
 obtain ⟨xs,n,h1,rfl,h3,h4,h5⟩:=DataW.trod_struct ht h;refine ⟨xs,n,h1,h3,h4,h5,?_⟩;rw [DataW.weights.eq_6,ht] at hw;exact hw
theorem oq {P:Program} {t:TypeId} {s:ByteArray} (h:∀z∈(DataW.lit (H:=H) (.string s.data.toList)).weights P t,z≤reachBytes):s.size≤140737488355328:=by
 have h1:=h s.data.toList.length (by rw [DataW.weights.eq_1];exact List.mem_singleton.2 rfl);have:s.data.toList.length=s.size:=by simp
 unfold reachBytes at h1;omega
set_option maxRecDepth 100000 in
theorem GR:∀(fuel:Nat) (cs:List Value) (x:DataW H × List MemPlace),DataW.trod enc Tryz.prog W 0 (fun _=>true) true fuel 30 cs=some x→(∀z∈x.1.weights Tryz.prog 30,z≤reachBytes) →
  ∃e:ae,cs=e.cells∧(iw W.heap.size W e∧pO e):=by
 intro fuel;induction fuel using Nat.strongRecOn with
 | _ fuel ih =>
  intro cs x h hw;obtain ⟨xs,n,rfl,hl,hxl,hfd,hw2⟩:=I9 Tryz.underlying30 h hw;rw [uR] at hl
  match cs,hl with
  | [c0,c1,c2,c3,c4,c5],_ =>
   match xs,hxl with
   | [y0,y1,y2,y3,y4,y5],_ =>
    have h0:DataW.trod enc Tryz.prog W 0 (fun _=>true) true n 5 (List.take (Tryz.prog.cellsOf 5) (List.drop 0 [c0,c1,c2,c3,c4,c5]))=some y0:=hfd 0 _ rfl;have h1:DataW.trod enc Tryz.prog W 0 (fun _=>true) true n 25 (List.take (Tryz.prog.cellsOf 25) (List.drop 1 [c0,c1,c2,c3,c4,c5]))=some y1:=hfd 1 _ rfl;have h2:DataW.trod enc Tryz.prog W 0 (fun _=>true) true n 27 (List.take (Tryz.prog.cellsOf 27) (List.drop 2 [c0,c1,c2,c3,c4,c5]))=some y2:=hfd 2 _ rfl;have h3:DataW.trod enc Tryz.prog W 0 (fun _=>true) true n 3 (List.take (Tryz.prog.cellsOf 3) (List.drop 3 [c0,c1,c2,c3,c4,c5]))=some y3:=hfd 3 _ rfl;have h4:DataW.trod enc Tryz.prog W 0 (fun _=>true) true n 9 (List.take (Tryz.prog.cellsOf 9) (List.drop 4 [c0,c1,c2,c3,c4,c5]))=some y4:=hfd 4 _ rfl;have h5:DataW.trod enc Tryz.prog W 0 (fun _=>true) true n 28 (List.take (Tryz.prog.cellsOf 28) (List.drop 5 [c0,c1,c2,c3,c4,c5]))=some y5:=hfd 5 _ rfl;rw [xE] at h0;rw [ED] at h1;rw [EG] at h2;rw [Ao] at h3;rw [Ap] at h4;rw [xG] at h5;obtain ⟨k,e0,rfl,w0⟩:=DataW.trod_int Tryz.underlying5 (show DataW.trod enc Tryz.prog W 0 (fun _=>true) true n 5 [c0]=some y0 from h0);obtain ⟨o,e1,rfl,w1⟩:=DataW.trod_int Tryz.underlying25 (show DataW.trod enc Tryz.prog W 0 (fun _=>true) true n 25 [c1]=some y1 from h1);obtain ⟨v,e2,rfl,w2⟩:=DataW.trod_int Tryz.underlying27 (show DataW.trod enc Tryz.prog W 0 (fun _=>true) true n 27 [c2]=some y2 from h2);obtain ⟨wd,e3,rfl,w3⟩:=DataW.trod_int Tryz.underlying3 (show DataW.trod enc Tryz.prog W 0 (fun _=>true) true n 3 [c3]=some y3 from h3);obtain ⟨nm,e4,rfl,w4⟩:=DataW.trod_string Tryz.underlying9 (show DataW.trod enc Tryz.prog W 0 (fun _=>true) true n 9 [c4]=some y4 from h4);have hwn:=oq (P:=Tryz.prog) (t:=9) (H:=H) (s:=nm) fun z hz=>hw2 z (List.mem_append_right _ (List.mem_append_right _ (List.mem_append_right _ (List.mem_append_right _ (List.mem_append_left _ hz)))))
    obtain ⟨sp,l,e5,hrow,hQ⟩:=j4 (ec:=ae.cells) (k:=6) (Q:=fun e=>iw W.heap.size W e∧pO e) Tryz.underlying28 uR (by decide) (fun _=>rfl) (by rw [Ak];decide) (show DataW.trod enc Tryz.prog W 0 (fun _=>true) true n 28 [c5]=some y5 from h5)
     (fun z hz=>hw2 z (List.mem_append_right _ (List.mem_append_right _ (List.mem_append_right _ (List.mem_append_right _ (List.mem_append_right _ (List.mem_append_left _ hz)))))))
     fun m hm cs' y hy hyw=>ih m (by omega) cs' y hy hyw
    injection e0 with e0;injection e1 with e1;injection e2 with e2;injection e3 with e3;injection e4 with e4;injection e5 with e5;subst e0 e1 e2 e3 e4 e5;refine ⟨.mk k o v wd nm sp l,rfl,.mk _ (bounds_u8 w0) (bounds_u8 w1) (bounds_u32 w2) w3 w4 hrow fun s hs=>(hQ s hs).1,fun y hy=>?_⟩;rw [ae.pre_eq] at hy;rcases List.mem_cons.1 hy with rfl | hy
    ·exact hwn
    ·obtain ⟨s,hs,hy⟩:=List.mem_flatMap.1 hy
     exact (hQ s hs).2 y hy
set_option maxRecDepth 100000 in
theorem IZ:∀(fuel:Nat) (cs:List Value) (x:DataW H × List MemPlace),DataW.trod enc Tryz.prog W 0 (fun _=>true) true fuel 43 cs=some x→(∀z∈x.1.weights Tryz.prog 43,z≤reachBytes) →
  ∃s:aa,cs=s.cells∧(eu W.heap.size W s∧kV s):=by
 intro fuel;induction fuel using Nat.strongRecOn with
 | _ fuel ih =>
  intro cs x h hw;obtain ⟨xs,n,rfl,hl,hxl,hfd,hw2⟩:=I9 Tryz.underlying43 h hw;rw [uQ] at hl
  match cs,hl with
  | [c0,c1,c2,c3,c4,c5],_ =>
   match xs,hxl with
   | [y0,y1,y2,y3,y4,y5],_ =>
    have h0:DataW.trod enc Tryz.prog W 0 (fun _=>true) true n 5 (List.take (Tryz.prog.cellsOf 5) (List.drop 0 [c0,c1,c2,c3,c4,c5]))=some y0:=hfd 0 _ rfl;have h1:DataW.trod enc Tryz.prog W 0 (fun _=>true) true n 9 (List.take (Tryz.prog.cellsOf 9) (List.drop 1 [c0,c1,c2,c3,c4,c5]))=some y1:=hfd 1 _ rfl;have h2:DataW.trod enc Tryz.prog W 0 (fun _=>true) true n 28 (List.take (Tryz.prog.cellsOf 28) (List.drop 2 [c0,c1,c2,c3,c4,c5]))=some y2:=hfd 2 _ rfl;have h3:DataW.trod enc Tryz.prog W 0 (fun _=>true) true n 3 (List.take (Tryz.prog.cellsOf 3) (List.drop 3 [c0,c1,c2,c3,c4,c5]))=some y3:=hfd 3 _ rfl;have h4:DataW.trod enc Tryz.prog W 0 (fun _=>true) true n 33 (List.take (Tryz.prog.cellsOf 33) (List.drop 4 [c0,c1,c2,c3,c4,c5]))=some y4:=hfd 4 _ rfl;have h5:DataW.trod enc Tryz.prog W 0 (fun _=>true) true n 33 (List.take (Tryz.prog.cellsOf 33) (List.drop 5 [c0,c1,c2,c3,c4,c5]))=some y5:=hfd 5 _ rfl;rw [xE] at h0;rw [Ap] at h1;rw [xG] at h2;rw [Ao] at h3;rw [EF] at h4 h5;obtain ⟨k,e0,rfl,w0⟩:=DataW.trod_int Tryz.underlying5 (show DataW.trod enc Tryz.prog W 0 (fun _=>true) true n 5 [c0]=some y0 from h0);obtain ⟨nm,e1,rfl,w1⟩:=DataW.trod_string Tryz.underlying9 (show DataW.trod enc Tryz.prog W 0 (fun _=>true) true n 9 [c1]=some y1 from h1);obtain ⟨bd,e3,rfl,w3⟩:=DataW.trod_int Tryz.underlying3 (show DataW.trod enc Tryz.prog W 0 (fun _=>true) true n 3 [c3]=some y3 from h3);have hwn:=oq (P:=Tryz.prog) (t:=9) (H:=H) (s:=nm) fun z hz=>hw2 z (List.mem_append_right _ (List.mem_append_left _ hz))
    obtain ⟨es,ex,e2,hrx,hQx⟩:=j4 (ec:=ae.cells) (k:=6) (Q:=fun e=>iw W.heap.size W e∧pO e) Tryz.underlying28 uR (by decide) (fun _=>rfl) (by rw [Ak];decide) (show DataW.trod enc Tryz.prog W 0 (fun _=>true) true n 28 [c2]=some y2 from h2)
     (fun z hz=>hw2 z (List.mem_append_right _ (List.mem_append_right _ (List.mem_append_left _ hz))))
     fun m hm cs' y hy hyw=>GR m cs' y hy hyw
    obtain ⟨ts,th,e4,hrt,hQt⟩:=j4 (ec:=aa.cells) (k:=6) (Q:=fun e=>eu W.heap.size W e∧kV e) Tryz.underlying33 uQ (by decide) (fun _=>rfl) (by rw [Aj];decide) (show DataW.trod enc Tryz.prog W 0 (fun _=>true) true n 33 [c4]=some y4 from h4)
     (fun z hz=>hw2 z (List.mem_append_right _ (List.mem_append_right _ (List.mem_append_right _ (List.mem_append_right _ (List.mem_append_left _ hz))))))
     fun m hm cs' y hy hyw=>ih m (by omega) cs' y hy hyw
    obtain ⟨os,el,e5,hro,hQo⟩:=j4 (ec:=aa.cells) (k:=6) (Q:=fun e=>eu W.heap.size W e∧kV e) Tryz.underlying33 uQ (by decide) (fun _=>rfl) (by rw [Aj];decide) (show DataW.trod enc Tryz.prog W 0 (fun _=>true) true n 33 [c5]=some y5 from h5)
     (fun z hz=>hw2 z (List.mem_append_right _ (List.mem_append_right _ (List.mem_append_right _ (List.mem_append_right _ (List.mem_append_right _ (List.mem_append_left _ hz)))))))
     fun m hm cs' y hy hyw=>ih m (by omega) cs' y hy hyw
    injection e0 with e0;injection e1 with e1;injection e2 with e2;injection e3 with e3;injection e4 with e4;injection e5 with e5;subst e0 e1 e2 e3 e4 e5;refine ⟨.mk k nm es ex bd ts th os el,rfl,.mk _ (bounds_u8 w0) w3 w1 hrx (fun s hs=>(hQx s hs).1) hrt (fun s hs=>(hQt s hs).1) hro (fun s hs=>(hQo s hs).1),fun y hy=>?_⟩;rw [aa.pre_eq] at hy;rcases List.mem_cons.1 hy with rfl | hy
    ·exact ⟨hwn,fun e he=>(hQx e he).2⟩
    ·rcases List.mem_append.1 hy with hy | hy
     ·obtain ⟨s,hs,hy⟩:=List.mem_flatMap.1 hy
      exact (hQt s hs).2 y hy
     ·obtain ⟨s,hs,hy⟩:=List.mem_flatMap.1 hy
      exact (hQo s hs).2 y hy
set_option maxRecDepth 100000 in
theorem stmt_of_arg {base:Nat} {v:Value} {d:DataW H} {p:List MemPlace} (hval:Value.okWide Tryz.prog W .any base 43 v) (h:DataW.Trod enc Tryz.prog W 0 (fun _=>true) true 43 v d p) (hw:∀z∈d.weights Tryz.prog 43,z≤reachBytes) :
  ∃s:aa,v=.agg #[.int .u8 s.kind,.string s.name,.slice s.es.at_ s.exprs.length s.es.cap,.int .i64 s.bound,.slice s.ts.at_ s.thn.length s.ts.cap,.slice s.os.at_ s.els.length s.os.cap]∧eu W.heap.size W s∧kV s:=by
 obtain ⟨cs,rfl,_⟩:=okWide_struct Tryz.underlying43 hval;obtain ⟨fuel,hf⟩:=h;obtain ⟨s,he,h1,h2⟩:=IZ fuel _ _ hf hw;refine ⟨s,?_,h1,h2⟩;have:cs=s.cells.toArray:=by
  rw [←he];exact (Array.toArray_toList ..).symm
 rw [this]
 rfl
end
end
end Go.Proofs.YtepacjkacjabbaaGreatDoor
