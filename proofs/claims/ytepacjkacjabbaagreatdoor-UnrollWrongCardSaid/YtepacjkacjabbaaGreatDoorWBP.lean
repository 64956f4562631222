import Derived.Test.YtepacjkacjabbaaGreatDoorWAI
import Derived.Test.YtepacjkacjabbaaGreatDoorRows
import Derived.Test.YtepacjkacjabbaaGreatDoorProg
import Derived.WalkKit
import Derived.ProofKit
import Derived.OpenShut
import Derived.Below
import Derived.Test.YtepacjkacjabbaaGreatDoorWAT
namespace Go.Proofs.YtepacjkacjabbaaGreatDoor
section
open Go Go.RowKit Go.Maps
theorem MxAt.pos {W:World} (h:MxAt W):0<W.heap.size:=by
 obtain ⟨m,hm⟩:=h;rcases Nat.eq_zero_or_pos W.heap.size with h0 | h0
 ·have:W.heap[0]? = none:=by simp [h0]
  simp [World.cell?,this] at hm
 ·exact h0
theorem MxAt.shaped {W:World} (h:W.ShapedOpen Tryz.prog):MxAt W:=Tryz.laysM144.s1_3 W h
theorem K9 {H:Type} {P:Program} {t:TypeId} {ts:List TypeId} {s:ByteArray} {r:List (DataW H)} (h:(DataW.weightsEach P (t::ts) (DataW.lit (.string s.data.toList)::r)).all (·≤reachBytes)=true):s.size≤140737488355328:=by
 simp only [DataW.weightsEach,DataW.weights,List.cons_append,List.nil_append,List.all_cons,Bool.and_eq_true,decide_eq_true_eq] at h;have h1:=h.1;have:s.data.toList.length=s.size:=by simp
 rw [this] at h1;unfold reachBytes at h1;omega
end
section
open Go Go.RowKit Go.WideShapes Go.ChangeShapes
section
variable {H:Type} {enc:TypeId × Value→H} {P:Program}
theorem post_below {f:Func} {s:ChangeSpec} {apart fresh handsOn again:Bool} {W W':World} {args:Array Value} {v:Value} {ds gs:List (DataW H)} {bf pa pv:List MemPlace}
  (hW:DataW.Whole enc P f.params.toList s.vars apart W args.toList ds gs bf)
  (hres:∀(b:Nat) (sp:Nat→Bool) (hd:Bool),DataW.TrodAll enc P W' b sp hd f.resultTypes.toList (v.resultList f.resultTypes.size) (s.fn H (ds++gs)).results [])
  (hargs:∀sp:Nat→Bool,(∀x∈bf,sp x.block=true)→DataW.TrodAll enc P W' 0 sp true f.params.toList args.toList (s.fn H (ds++gs)).args pa)
  (hvars:∀sp:Nat→Bool,(∀x∈bf,sp x.block=true)→DataW.TrodVars enc P W' sp s.vars (s.fn H (ds++gs)).vars pv)
  (hps:bf=pa++pv) (hb:Below W.heap.size W W')
  (hok:∀(j:Nat) (t:TypeId) (r:Value),f.resultTypes[j]? = some t→(v.resultList f.resultTypes.size)[j]? = some r→Value.okWide P W' .any 0 t r) :
  s.post enc P f apart fresh handsOn again W args v W':=by
 have hlt:∀x∈bf,x.block<W.heap.size:=fun x hx=>hW.lt x hx
 have hold:∀x∈bf,(fun b=>decide (b<W.heap.size)) x.block=true:=fun x hx=>by simpa using hlt x hx
 refine ⟨ds,gs,bf,[],pa,pv,hW,hres _ _ _,hargs _ hold,hvars _ hold,World.keptBut_mono (fun x hx=>⟨hx,?_⟩) (hb.frame (·∈bf)),fun _=>?_⟩
 ·rw [hps,List.mem_append] at hx
  exact Or.inr hx
 ·obtain ⟨_,_,_,_,_,hz,hn⟩:=hW
  refine ⟨hok,_,_,([]++pa)++pv,⟨[]++pa,pv,trodAll_append (hargs _ (fun _ _=>rfl)) (hres _ _ _),hvars _ (fun _ _=>rfl),rfl,?_,?_⟩,?_⟩
  ·intro b off hx
   have hin:MemPlace.cell b off∈bf:=by rw [hps];simpa using hx
   rw [hb.frozen (hlt _ hin)];exact hz b off hin
  ·intro ha
   have:=hn ha;rw [hps] at this
   simpa using this
  ·intro x hx _
   rw [hps]
   simpa using hx
end
end
section
open Go Go.RowKit Go.WideShapes Go.ChangeShapes
theorem K4:Tryz.prog.cellsOf 5=1:=by kernel_rfl
theorem JI {z:Int} (h:(Lit.int .u8 z).wf=true):0≤z∧z≤255:=by
 have:=(bounds_u8 (by simpa [Lit.wf] using h));omega
set_option maxRecDepth 100000 in
theorem bytes_of_arg {H:Type} {enc:TypeId × Value→H} {W:World} {base:Nat} {v:Value} {d:DataW H} {p:List MemPlace}
  (hval:Value.okWide Tryz.prog W .any base 22 v) (h:DataW.Trod enc Tryz.prog W 0 (fun _=>true) true 22 v d p) :
  ∃(lv:Sp) (len:Nat) (ls:List Int),v=.slice lv.at_ len lv.cap∧ls.length=min len 200∧len≤maxLen∧len≤lv.cap∧lv.cap≤maxLen∧RowOf W.heap.size W lv 1 encU ls∧∀x∈ls,0≤x∧x≤255:=by
 obtain ⟨a0,len,cap,rfl⟩:=okWide_slice Tryz.underlying22 hval;obtain ⟨fuel,hf⟩:=h;rcases open_ints Tryz.underlying22 Tryz.underlying5 K4 hf with ⟨hcs,hx⟩ | ⟨a,len',cap',zs,hcs,_,hl,hm,hz,hx,hcell,hwz⟩
 ·injection hcs with e
  injection e with e1 e2 e3;subst e1 e2 e3;exact ⟨Sp.none,0,[],rfl,rfl,Nat.zero_le _,Nat.le_refl _,Nat.zero_le _,RowOf.nil,fun _ h=>by cases h⟩
 ·injection hcs with e
  injection e with e1 e2 e3;subst e1 e2 e3;simp only [if_true] at hz;refine ⟨⟨some a,cap⟩,len,zs.take (min len 200),rfl,by rw [List.length_take];omega,by omega,by dsimp only;omega,by dsimp only;omega,⟨by rw [List.length_take];dsimp only;omega,by dsimp only;omega,by rw [List.length_take];omega,fun h0=>?_⟩,fun z hz=>JI (hwz z (List.mem_of_mem_take hz))⟩;have h1:0<zs.length:=by rw [List.length_take] at h0;omega
  obtain ⟨b,off,rfl,hc⟩:=Go.ints_at hcell h1;have hb:b<W.heap.size:=by
   have:=hc 0 h1;rcases Nat.lt_or_ge b W.heap.size with h1 | h1
   ·exact h1
   ·simp [World.cell?,Array.getElem?_eq_none h1] at this
  refine ⟨b,off,rfl,hb,fun j hj r u hu=>?_⟩;have hj':j<zs.length:=by rw [List.length_take] at hj;omega
  cases r with
  | zero =>
   have e:u=.int .u8 zs[j]:=by simpa [encU] using hu.symm
   rw [e];have h2:=hc j hj'
   simpa [hj'] using h2
  | succ r=>simp [encU] at hu
end
end Go.Proofs.YtepacjkacjabbaaGreatDoor
