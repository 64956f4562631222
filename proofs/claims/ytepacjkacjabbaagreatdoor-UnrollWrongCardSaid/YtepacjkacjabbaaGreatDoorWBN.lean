import Derived.Test.YtepacjkacjabbaaGreatDoorWAF
import Derived.ArgAppend
namespace Go.Proofs.YtepacjkacjabbaaGreatDoor
section
open Go Go.RowKit
section
variable {P:Program} {α:Type} {k:Nat} {enc:α→List Value} {w:World}
theorem vI {t ty e:TypeId} (hE:nK P t e k) (hk:∀x,(enc x).length=k) (h1:∀x:α,∀u∈enc x,u.oneCell'=true) {n0:Nat} {s0:Sp} {l:List α} (h0:RowOf n0 w s0 k enc l) (hfull:s0.cap=l.length)
  {n:Nat} {sp:Sp} {l2:List α} (hr:RowOf n w sp k enc l2) (h2:0<l2.length) (hlen:l.length+l2.length≤1000000) :
  ∃v' w',(Builtin.append_ #[t,t] ty #[.slice s0.at_ l.length s0.cap,.slice sp.at_ l2.length sp.cap]).run P w=.ok v' w'∧aG w.heap.size w' e k enc v' (l++l2)∧Below w.heap.size w w':=by
 obtain ⟨i,z,bytes,ht,hi,hz,hsz,hby,hbb,hzs,hk0⟩:=hE;obtain ⟨b2,off2,e2,_,hnews⟩:=hr.news hk h2;have hbytes:(l.length+l2.length)*bytes≤140737488355328:=by
  have:=Nat.mul_le_mul hlen hbb;omega
 have fin:∀v' w',w'.ownsRow w.heap.size e k v' (l.length+l2.length) (l.flatMap enc++l2.flatMap enc)→w.grownBy w' none→aG w.heap.size w' e k enc v' (l++l2)∧Below w.heap.size w w':=fun v' w' h3 h4=>by
  refine ⟨?_,⟨h4.os,h4.tape,h4.output,h4.size,fun b hb=>h4.block b hb (by simp)⟩⟩;unfold aG;rw [List.length_append,List.flatMap_append];exact h3
 rw [e2,hfull];by_cases hl:0<l.length
 ·obtain ⟨b,off,e1,_,holds⟩:=h0.news hk hl
  rw [e1];obtain ⟨v',w',hrun,h3,h4⟩:=run_append_arg_grows (P:=P) (w:=w) t ty e i z k bytes ht hi hz hsz hby hzs hk0 ⟨b,off,none⟩ l.length l.length (l.flatMap enc) (fw hk l) holds ⟨b2,off2,none⟩ l2.length sp.cap (l2.flatMap enc) (fw hk l2) hnews (by omega) (by simp only [maxLen];omega) hbytes;exact ⟨v',w',hrun,fin v' w' h3 h4⟩
 ·obtain rfl:l=[]:=List.eq_nil_of_length_eq_zero (by omega)
  cases hat:s0.at_ with
  | none =>
   obtain ⟨v',w',hrun,h3,h4,_⟩:=run_append_own (P:=P) (w:=w) w.heap.size t ty e i z k bytes ht hi hz hsz hby hzs hk0 (.slice none 0 0) 0 [] (World.ownsRow_nil w _ e k) ⟨b2,off2,none⟩ l2.length sp.cap (l2.flatMap enc) (fw hk l2) hnews (lm h1 l2) (by simp only [maxLen];simp at hlen;omega) (by simpa using hbytes) (Nat.le_refl _);exact ⟨v',w',hrun,fin v' w' (by simpa using h3) h4⟩
  | some b =>
   obtain ⟨v',w',hrun,h3,h4⟩:=run_append_arg_grows (P:=P) (w:=w) t ty e i z k bytes ht hi hz hsz hby hzs hk0 b 0 0 [] (by simp) (fun j u h=>by simp at h) ⟨b2,off2,none⟩ l2.length sp.cap (l2.flatMap enc) (fw hk l2) hnews (by omega) (by simp only [maxLen];simp at hlen;omega) (by simpa using hbytes);exact ⟨v',w',hrun,fin v' w' (by simpa using h3) h4⟩
theorem qB {ops:Array Oper} {rest:List Oper} {o:Oper} {a:Act} {Q:Exit→Act→World→Prop} (hgd:o.guard=none) (s x:Operand) (t:TypeId)
  (ho:o.op=.call { callee:=.builtin .append,args:=#[s,x],argTypes:=#[t,t] }) {e:TypeId} (hE:nK P t e k) (hk:∀x,(enc x).length=k) (h1:∀x:α,∀u∈enc x,u.oneCell'=true) {n0:Nat} (s0:Sp) (l:List α) (hs:a.eval s=.slice s0.at_ l.length s0.cap) (h0:RowOf n0 w s0 k enc l) (hfull:s0.cap=l.length)
  {n:Nat} (sp:Sp) (l2:List α) (hx:a.eval x=.slice sp.at_ l2.length sp.cap) (hr:RowOf n w sp k enc l2) (h2:0<l2.length) (hlen:l.length+l2.length≤1000000)
  (h:∀v' w',aG w.heap.size w' e k enc v' (l++l2)→Below w.heap.size w w'→wpList P ops Q rest (a.put o.dst v') w'):wpList P ops Q (o::rest) a w :=
 wpList_plain hgd fun _ hK=>by
  obtain ⟨v',w',hrun,h3,h4⟩:=vI (P:=P) (ty:=o.type) hE hk h1 h0 hfull hr h2 hlen;unfold Oper.wp execOp;simp only [ho,resolve,invoke,builtin,Sem.run_bind,Sem.run_pure,Result.andThen_ok,List.map_toArray,List.map_cons,List.map_nil,hs,hx,hrun];exact hK _ _ (h v' w' h3 h4)
end
end
end Go.Proofs.YtepacjkacjabbaaGreatDoor
