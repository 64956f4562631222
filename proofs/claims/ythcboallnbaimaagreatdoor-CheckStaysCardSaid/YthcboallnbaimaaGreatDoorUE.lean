/- A region that draws its order, walked by an invariant over what is done: no order is walked at all. No program in sight. A region that draws its order: what is listed; what an operation does. No program in sight. A drawn region, guards and stores allowed: no order is walked. No program in sight. An append in a drawn region of values; a store behind all. A drawn region told operation by operation: no order is walked, and what each slot bears is found on the way. No program in sight. A name that is another one throughout: the tree that comes of it. Plain Lean. What Made makes stays so when a name is another one throughout. Plain Lean. Lists of one's own of which an element is stored over; a clone of nil is nil. salvorlaw32.renamed: an expression in which a name is another one throughout, in memory of its own. -/
import Derived.RegionTactic
import Derived.Below
import Derived.Test.YthcboallnbaimaaGreatDoorUB
import Derived.Laws.Rows
import Derived.Test.YthcboallnbaimaaGreatDoorTreeD
import Derived.Laws.OwnMore
import Derived.Test.YthcboallnbaimaaGreatDoorCalls
import Derived.Deep.RegionWith
import Derived.BigQuiet
import Derived.Deep.QuietTactic
import Derived.Deep.CutRange
import Derived.Deep.CutBlock
import Derived.Deep.DeepCutAuto
import Derived.StillTailTactics
import Derived.Outline
import Derived.Laws.EntriesVeiled
import Derived.Carry
namespace Go.Proofs.YthcboallnbaimaaGreatDoor
open Go
section
variable {P : Program} {md : Region.Mode} {ops : Array Oper} {Q : Exit → Act → World → Prop}
def todoN (ops : Array Oper) (listed : Array Bool) : List Nat := (List.range ops.size).filter fun i => !listed.getD i true
theorem todo_next {listed : Array Bool} {i : Nat} (h : i ∈ todoN ops listed) : (todoN ops (listed.setIfInBounds i true)).length < (todoN ops listed).length := by
 have e : todoN ops (listed.setIfInBounds i true) = (todoN ops listed).filter fun j => decide (j ≠ i) := by
   unfold todoN
   rw [List.filter_filter]
   refine List.filter_congr fun j _ => ?_
   by_cases hj : j = i
   · subst hj
     have hlt : j < listed.size := by
       have h2 := (List.mem_filter.1 h).2
       rcases Nat.lt_or_ge j listed.size with h3 | h3
       · exact h3
       · simp [Array.getD, Nat.not_lt.2 h3] at h2
     simp [Array.getD, hlt]
   · have : (listed.setIfInBounds i true).getD j true = listed.getD j true := by
       rw [Array.getD_eq_getD_getElem?, Array.getD_eq_getD_getElem?, Array.getElem?_setIfInBounds_ne (Ne.symm hj)]
     rw [this]
     simp [hj]
 rw [e]
 exact List.length_filter_lt_length_iff_exists.2 ⟨i, h, by simp⟩
theorem ready_todo {listed : Array Bool} {i : Nat} (h : i ∈ Region.ready md ops listed) : i ∈ todoN ops listed := by
 unfold Region.ready at h
 obtain ⟨h1, h2⟩ := List.mem_filter.1 h
 rw [Bool.and_eq_true] at h2
 exact List.mem_filter.2 ⟨h1, h2.1⟩
/-- THE LAW: what holds at the beginning, and is kept by every operation that may come up, holds at the end. -/
theorem wpAny_inv (I : Array Bool → Act → World → Prop) (hstep : ∀ listed a w i, I listed a w → i ∈ Region.ready md ops listed → wpOp P ops Q i (I (listed.setIfInBounds i true)) a w)
   (hdone : ∀ listed a w, I listed a w → Region.ready md ops listed = [] → Q .normal a w) :
   ∀ (fuel : Nat) (listed : Array Bool) (a : Act) (w : World), (todoN ops listed).length ≤ fuel → I listed a w → wpAny P md ops Q fuel listed a w
 | 0, listed, a, w, hf, hI => by
   have hr : Region.ready md ops listed = [] := by
     refine List.eq_nil_iff_forall_not_mem.2 fun i hi => ?_
     have h1 := ready_todo hi
     have h2 := List.eq_nil_of_length_eq_zero (Nat.le_zero.1 hf)
     rw [h2] at h1
     cases h1
   exact ⟨hr, hdone _ _ _ hI hr⟩
 | fuel + 1, listed, a, w, hf, hI => ⟨fun hr => hdone _ _ _ hI hr, fun i hi => wpOp_mono (fun a' w' h' => wpAny_inv I hstep hdone fuel _ a' w' (by have := todo_next (ready_todo hi); omega) h') (hstep listed a w i hI hi)⟩
theorem wp_region_inv {id : Nat} {a : Act} {w : World} (hm : P.follows .mixedOrders = true) (I : Array Bool → Act → World → Prop)
   (hstep : ∀ listed a w i, I listed a w → i ∈ Region.ready .any ops listed → wpOp P ops Q i (I (listed.setIfInBounds i true)) a w)
   (hdone : ∀ listed a w, I listed a w → Region.ready .any ops listed = [] → Q .normal a w) (h0 : I (Array.replicate ops.size false) a w.drew) : (Code.region id ops true).wp P Q a w := by
 refine wp_region_any hm (wpAny_inv I hstep hdone _ _ _ _ ?_ h0)
 refine Nat.le_trans (List.length_filter_le _ _) ?_
 simp
theorem eval_put_same {a : Act} {d : Nat} {v : Value} (h : d < a.tmps.size) : (a.put (some d) v).eval (.tmp d) = v := by
 simp [Act.put, Act.eval, h]
theorem eval_put_other {a : Act} {d j : Nat} {v : Value} (h : d ≠ j) : (a.put (some d) v).eval (.tmp j) = a.eval (.tmp j) := by
 simp [Act.put, Act.eval, Array.getElem?_setIfInBounds_ne h]
theorem size_put {a : Act} {d : Option Nat} {v : Value} : (a.put d v).tmps.size = a.tmps.size := by
 cases d <;> simp [Act.put]
end
end Go.Proofs.YthcboallnbaimaaGreatDoor
namespace Go.Proofs.YthcboallnbaimaaGreatDoor
open Go Go.RowKit
section
variable {P : Program} {ops : Array Oper} {Q : Exit → Act → World → Prop}
def onL (L : Nat → Bool) (i : Nat) : Nat → Bool := fun j => if j = i then true else L j
theorem onL_same {L : Nat → Bool} {i : Nat} : onL L i i = true := by simp [onL]
theorem onL_other {L : Nat → Bool} {i j : Nat} (h : j ≠ i) : onL L i j = L j := by simp [onL, h]
def fnL (listed : Array Bool) : Nat → Bool := fun j => listed.getD j false
theorem fnL_set {listed : Array Bool} {i : Nat} (h : i < listed.size) : fnL (listed.setIfInBounds i true) = onL (fnL listed) i := by
 funext j
 unfold fnL onL
 by_cases hj : j = i
 · subst hj; simp [h]
 · rw [if_neg hj, getD_set_ne false (Ne.symm hj)]
theorem ready_all {listed : Array Bool} (hls : listed.size = ops.size) (hback : ∀ (i : Nat) (o : Oper), ops[i]? = some o → ∀ e ∈ o.after, Region.binds .any e = true → e.on < i) (hr : Region.ready .any ops listed = []) : ∀ i, i < ops.size → fnL listed i = true := by
 intro i
 induction i using Nat.strongRecOn with
 | _ i ih =>
   intro hi
   cases hc : fnL listed i with
   | true => rfl
   | false =>
     exfalso
     have h0 : listed.getD i true = false := by
       unfold fnL at hc
       rw [← hls] at hi
       simp [Array.getD, hi] at hc ⊢
       exact hc
     have hm : i ∈ Region.ready .any ops listed := by
       rw [mem_ready]
       exact ⟨h0, ops[i], Array.getElem?_eq_getElem hi, fun e he hb => ih e.on (hback i _ (Array.getElem?_eq_getElem hi) e he hb) (Nat.lt_trans (hback i _ (Array.getElem?_eq_getElem hi) e he hb) hi)⟩
     rw [hr] at hm
     cases hm
def AllL (F : Nat → Oper → Prop) : Nat → List Oper → Prop
 | _, [] => True
 | i, o :: l => F i o ∧ AllL F (i + 1) l
theorem AllL.at_ {F : Nat → Oper → Prop} : ∀ {l : List Oper} {k : Nat}, AllL F k l → ∀ {i : Nat} {o : Oper}, l[i]? = some o → F (k + i) o
 | [], _, _, i, o, h => by simp at h
 | x :: l, k, hA, 0, o, h => by
   simp at h; subst h; exact hA.1
 | x :: l, k, hA, i + 1, o, h => by
   have := AllL.at_ hA.2 (i := i) (o := o) (by simpa using h)
   rwa [show k + 1 + i = k + (i + 1) by omega] at this
/-- What holds at each operation holds at all. -/
theorem AllL.all {F : Nat → Oper → Prop} {ops : Array Oper} (h : AllL F 0 ops.toList) (i : Nat) (o : Oper) (ho : ops[i]? = some o) : F i o := by
 have := AllL.at_ h (i := i) (o := o) (by simpa using ho)
 rwa [Nat.zero_add] at this
/-- That operation o comes behind operation j. -/
def befB (o : Oper) (j : Nat) : Bool := o.after.toList.any fun e => Region.binds .any e && Nat.beq e.on j
theorem AllL.cons {F : Nat → Oper → Prop} {i : Nat} {o : Oper} {l : List Oper} (h : F i o) (t : AllL F (i + 1) l) : AllL F i (o :: l) := ⟨h, t⟩
theorem Oper.wp_value {o : Oper} {a : Act} {w w' : World} {v : Value} {K : Act → World → Prop} (h : (execOp a.eval o).run P w = .ok (.value v) w') (hk : K (a.put o.dst v) w') : o.wp P a w K Q := by
 unfold Oper.wp; rw [h]; exact hk
theorem Oper.wp_enter {o : Oper} {a : Act} {w w' : World} {f : FuncId} {args : Array Value} {K : Act → World → Prop} (h : (execOp a.eval o).run P w = .ok (.enter f args) w') (hc : Calls P f args w' fun e w'' => ∃ v, e = .returned v ∧ K (a.put o.dst v) w'') : o.wp P a w K Q := by
 unfold Oper.wp; rw [h]
 refine Calls.mono hc fun e w'' he => ?_
 obtain ⟨v, rfl, hk⟩ := he
 exact hk
/-- The operations of region n of a body. -/
def opsOf (n : Nat) : Code → Option (Array Oper)
 | .region id ops _ => if id = n then some ops else none
 | .seq a b => match opsOf n a with
   | some c => some c
   | none => opsOf n b
 | .loop c => opsOf n c
 | .block _ c => opsOf n c
 | .scope c => opsOf n c
 | .cond _ a b => match opsOf n a with
   | some c => some c
   | none => opsOf n b
 | _ => none
theorem tmps_of {a : Act} {n : Nat} {v : Value} (h : a.eval (.tmp n) = v) : a.tmps[n]?.getD undef = v := by
 rw [← h]; simp [Act.eval]
theorem act_eq {a : Act} {n : Nat} (h : a.tmps.size = n) (hd : a.defers = []) : a = ⟨((List.range n).map fun t => a.eval (.tmp t)).toArray, []⟩ := by
 obtain ⟨ts, ds⟩ := a
 subst hd
 subst h
 congr 1
 apply Array.ext
 · simp
 · intro i h1 h2
   simp [Act.eval, h1]
end
end Go.Proofs.YthcboallnbaimaaGreatDoor
namespace Go.Proofs.YthcboallnbaimaaGreatDoor
open Go Go.RowKit
section
variable {P : Program} {ops : Array Oper} {Q : Exit → Act → World → Prop}
/-- What an operation's slot bears; a store has none. -/
def slotv (a : Act) : Option Nat → Value
 | some t => a.eval (.tmp t)
 | none => undef
def optEq : Option Nat → Option Nat → Bool
 | some x, some y => Nat.beq x y
 | none, none => true
 | _, _ => false
theorem optEq_eq {x y : Option Nat} (h : optEq x y = true) : x = y := by
 cases x <;> cases y <;> simp_all [optEq]
/-- As valsE; guards allowed where they name an operation that comes before, and operations without a slot. -/
def valsH (ops : Array Oper) (n sz : Nat) (dst : Nat → Option Nat) : Bool :=
 decide (ops.size = n) && (List.range n).all (fun i => match ops[i]? with
   | some o => (match o.guard with | some (g, _) => decide (g < i) && befB o g | none => true) && optEq o.dst (dst i) && (match dst i with | some d => decide (d < sz) | none => true) && (o.after.toList.all fun e => !Region.binds .any e || decide (e.on < i)) && (List.range n).all (fun j => j == i || (dst i).isNone || !(optEq (dst i) (dst j)))
   | none => false)
/-- What an operation leaves. -/
def LeavesH (dst : Nat → Option Nat) (S : (Nat → Bool) → World → Prop) (Pv : (Nat → Bool) → Nat → Value → World → Prop) (i : Nat) (L : Nat → Bool) (a : Act) (w : World) (a' : Act) (w' : World) : Prop :=
 ∃ v, a' = a.put (dst i) v ∧ (dst i = none → v = undef) ∧ Pv (onL L i) i v w' ∧ S (onL L i) w' ∧ ∀ j u, j ≠ i → L j = true → Pv L j u w → Pv (onL L i) j u w'
/-- What operation i has to do; where it is guarded: what its guard's slot says. -/
def StepH (P : Program) (Q : Exit → Act → World → Prop) (ops : Array Oper) (n : Nat) (dst : Nat → Option Nat) (S : (Nat → Bool) → World → Prop) (Pv : (Nat → Bool) → Nat → Value → World → Prop) (a0 : Act) (i : Nat) (o : Oper) : Prop :=
 ∀ (L : Nat → Bool) (a : Act) (w : World), L i = false → S L w → (∀ j, (ops[j]?.any fun o' => befB o' i) = true → L j = false) → (∀ t : Nat, (∀ i, i < n → dst i ≠ some t) → a.eval (.tmp t) = a0.eval (.tmp t)) → (∀ j, befB o j = true → L j = true ∧ Pv L j (slotv a (dst j)) w) →
   match o.guard with
   | none => o.wp P a w (LeavesH dst S Pv i L a w) Q
   | some (g, b) => ∃ b', slotv a (dst g) = .bool b' ∧ (b' = b → o.wp P a w (LeavesH dst S Pv i L a w) Q) ∧ (b' ≠ b → LeavesH dst S Pv i L a w (a.put (dst i) undef) w)
theorem tmp_bool {a : Act} {d : Nat} {b : Bool} (h : a.eval (.tmp d) = .bool b) : a.tmps[d]? = some (.bool b) := by
 cases hc : a.tmps[d]? with
 | none => simp [Act.eval, hc, undef] at h
 | some v => simp [Act.eval, hc] at h; rw [h]
/-- THE LAW. -/
theorem wp_region_valsH {id n sz : Nat} {dst : Nat → Option Nat} {a0 : Act} {w0 : World} (hm : P.follows .mixedOrders = true) (hB : valsH ops n sz dst = true) (ha : a0.tmps.size = sz)
   (S : (Nat → Bool) → World → Prop) (Pv : (Nat → Bool) → Nat → Value → World → Prop)
   (hall : AllL (fun i o => StepH P Q ops n dst S Pv a0 i o) 0 ops.toList)
   (hs : S (fun _ => false) w0.drew)
   (hdone : ∀ (L : Nat → Bool) (a : Act) (w : World), S L w → a.tmps.size = a0.tmps.size → a.defers = a0.defers → (∀ t : Nat, (∀ i, i < n → dst i ≠ some t) → a.eval (.tmp t) = a0.eval (.tmp t)) → (∀ i, i < n → L i = true ∧ Pv L i (slotv a (dst i)) w) → Q .normal a w) : (Code.region id ops true).wp P Q a0 w0 := by
 unfold valsH at hB
 simp only [Bool.and_eq_true, List.all_eq_true, List.mem_range, decide_eq_true_eq] at hB
 obtain ⟨hsz, hB⟩ := hB
 have hop : ∀ i o, ops[i]? = some o → i < n ∧ (∀ g b, o.guard = some (g, b) → g < i ∧ befB o g = true) ∧ o.dst = dst i ∧ (∀ d, dst i = some d → d < sz) ∧ (∀ e ∈ o.after, Region.binds .any e = true → e.on < i) ∧ ∀ j, j < n → dst i ≠ none → dst i = dst j → j = i := by
   intro i o ho
   have hi : i < n := by rw [← hsz]; exact (Array.getElem?_eq_some_iff.1 ho).1
   have h1 := hB i hi
   rw [ho] at h1
   simp only [Bool.and_eq_true, List.all_eq_true, List.mem_range, Bool.or_eq_true, beq_iff_eq, Bool.not_eq_true', decide_eq_true_eq] at h1
   obtain ⟨⟨⟨⟨h2, h3⟩, h3'⟩, h4⟩, h5⟩ := h1
   refine ⟨hi, fun g b hg => ?_, optEq_eq h3, fun d hd => ?_, fun e he hb => ?_, fun j hj hne he => ?_⟩
   · simp only [hg, Bool.and_eq_true, decide_eq_true_eq] at h2
     exact h2
   · simpa [hd] using h3'
   · have := h4 e (by simpa using he)
     simpa [hb] using this
   · rcases h5 j hj with (h | h) | h
     · exact h
     · exact absurd (by simpa using h) hne
     · rw [← he] at h
       cases hd : dst i with
       | none => exact absurd hd hne
       | some d => rw [hd] at h; simp [optEq] at h
 refine wp_region_inv hm (fun listed a w => listed.size = ops.size ∧ (∀ (j : Nat) (o' : Oper), ops[j]? = some o' → fnL listed j = true → ∀ e ∈ o'.after, Region.binds .any e = true → fnL listed e.on = true) ∧ S (fnL listed) w ∧ a.tmps.size = a0.tmps.size ∧ a.defers = a0.defers ∧ (∀ t : Nat, (∀ i, i < n → dst i ≠ some t) → a.eval (.tmp t) = a0.eval (.tmp t)) ∧ ∀ i, i < n → fnL listed i = true → Pv (fnL listed) i (slotv a (dst i)) w) ?_ ?_ ⟨by simp, fun j o' _ h => ?_, ?_, rfl, rfl, fun _ _ => rfl, fun i _ h => ?_⟩
 · rintro listed a w i ⟨hls, hcl, hS, hsa, hde, hsm, hv⟩ hr
   obtain ⟨h0, o, ho, haft⟩ := mem_ready.1 hr
   obtain ⟨hi, hg, hd, hlt, hbk, hinj⟩ := hop i o ho
   have hi2 : i < listed.size := by rw [hls, hsz]; exact hi
   have hfi : fnL listed i = false := by
     unfold fnL
     simp [Array.getD, hi2] at h0 ⊢
     exact h0
   have hbeh : ∀ j, (ops[j]?.any fun o' => befB o' i) = true → fnL listed j = false := fun j hj => by
     cases hoj : ops[j]? with
     | none => rw [hoj] at hj; cases hj
     | some oj =>
       rw [hoj] at hj
       simp only [Option.any_some] at hj
       unfold befB at hj
       simp only [List.any_eq_true, Bool.and_eq_true] at hj
       obtain ⟨e, he, hbb, hej⟩ := hj
       obtain rfl := Nat.eq_of_beq_eq_true hej
       cases hlj : fnL listed j with
       | false => rfl
       | true =>
         have := hcl j oj hoj hlj e (by simpa using he) hbb
         rw [hfi] at this
         cases this
   have hstep := hall.all i o ho (fnL listed) a w hfi hS hbeh hsm fun j hj => by
     unfold befB at hj
     simp only [List.any_eq_true, Bool.and_eq_true] at hj
     obtain ⟨e, he, hbb, hej⟩ := hj
     obtain rfl := Nat.eq_of_beq_eq_true hej
     have h2 := haft e (by simpa using he) hbb
     exact ⟨h2, hv e.on (Nat.lt_trans (hbk e (by simpa using he) hbb) hi) h2⟩
   have hfin : ∀ a' w', LeavesH dst S Pv i (fnL listed) a w a' w' → (listed.setIfInBounds i true).size = ops.size ∧ (∀ (j : Nat) (o' : Oper), ops[j]? = some o' → fnL (listed.setIfInBounds i true) j = true → ∀ e ∈ o'.after, Region.binds .any e = true → fnL (listed.setIfInBounds i true) e.on = true) ∧ S (fnL (listed.setIfInBounds i true)) w' ∧ a'.tmps.size = a0.tmps.size ∧ a'.defers = a0.defers ∧ (∀ t : Nat, (∀ i, i < n → dst i ≠ some t) → a'.eval (.tmp t) = a0.eval (.tmp t)) ∧ ∀ j, j < n → fnL (listed.setIfInBounds i true) j = true → Pv (fnL (listed.setIfInBounds i true)) j (slotv a' (dst j)) w' := by
     rintro a' w' ⟨v, rfl, hun, hp, hs', hk⟩
     rw [fnL_set hi2] at *
     refine ⟨by simpa using hls, fun j oj hoj hl e he hb => ?_, hs', by rw [size_put]; exact hsa, by cases dst i <;> exact hde, fun t ht => ?_, fun j hj hl => ?_⟩
     · by_cases hei : e.on = i
       · rw [hei]; exact onL_same
       · rw [onL_other hei]
         by_cases hji : j = i
         · subst hji
           rw [ho] at hoj
           cases hoj
           exact haft e he hb
         · rw [onL_other hji] at hl
           exact hcl j oj hoj hl e he hb
     · rw [← hsm t ht]
       cases hdi : dst i with
       | none => rfl
       | some d => exact eval_put_other fun hne => ht i hi (by rw [hdi, hne])
     · by_cases hij : j = i
       · subst hij
         cases hdi : dst j with
         | none => rw [hdi] at hun; rw [hun rfl] at hp; exact hp
         | some d =>
           show Pv _ j ((a.put (some d) v).eval (.tmp d)) _
           rw [eval_put_same (by rw [hsa, ha]; exact hlt d hdi)]
           exact hp
       · rw [onL_other hij] at hl
         have h2 := hk j _ hij hl (hv j hj hl)
         cases hdj : dst j with
         | none => rw [hdj] at h2; exact h2
         | some d =>
           rw [hdj] at h2
           cases hdi : dst i with
           | none => exact h2
           | some d2 =>
             show Pv _ j ((a.put (some d2) v).eval (.tmp d)) _
             rw [eval_put_other (fun hne => hij (hinj j hj (by rw [hdi]; simp) (by rw [hdi, hdj, hne])))]
             exact h2
   unfold wpOp
   simp only [ho]
   cases hgd : o.guard with
   | none =>
     rw [hgd] at hstep
     rw [if_pos (by simp [Region.wanted, hgd])]
     exact .inl (Oper.wp_mono hfin hstep)
   | some gb =>
     obtain ⟨g, b⟩ := gb
     rw [hgd] at hstep
     obtain ⟨b', hev, hy, hn⟩ := hstep
     have hgi := (hg g b hgd).1
     have hgo : g < ops.size := by rw [hsz]; omega
     have hgd2 := (hop g ops[g] (Array.getElem?_eq_getElem hgo)).2.2.1
     have hyi : yielded ops a.tmps g = some b' := by
       unfold yielded
       rw [Array.getElem?_eq_getElem hgo]
       cases hdg : dst g with
       | none => rw [hdg] at hev; cases hev
       | some d =>
         rw [hdg] at hev
         simp only [Option.bind_some, hgd2, hdg, tmp_bool (show a.eval (.tmp d) = .bool b' from hev)]
     by_cases hbb : b' = b
     · rw [if_pos (by simp [Region.wanted, hgd, hyi, hbb])]
       exact .inl (Oper.wp_mono hfin (hy hbb))
     · rw [if_neg (by simp [Region.wanted, hgd, hyi, hbb])]
       rw [hd]
       exact hfin _ _ (hn hbb)
 · rintro listed a w ⟨hls, hcl, hS, hsa, hde, hsm, hv⟩ hr
   have hall2 := ready_all hls (fun i o ho e he hb => (hop i o ho).2.2.2.2.1 e he hb) hr
   exact hdone (fnL listed) a w hS hsa hde hsm fun i hi => ⟨hall2 i (by rw [hsz]; exact hi), hv i hi (hall2 i (by rw [hsz]; exact hi))⟩
 · simp [fnL, Array.getD] at h
 · have : fnL (Array.replicate ops.size false) = fun _ => false := by funext j; simp [fnL, Array.getD]
   rw [this]
   exact hs
 · simp [fnL, Array.getD] at h
theorem AllL.of_list {F : Nat → Oper → Prop} : ∀ (l : List Oper) (k : Nat), (∀ i o, l[i]? = some o → F (k + i) o) → AllL F k l
 | [], _, _ => trivial
 | x :: l, k, h => ⟨h 0 x rfl, AllL.of_list l (k + 1) fun i o ho => by
     have := h (i + 1) o (by simpa using ho)
     rwa [show k + (i + 1) = k + 1 + i by omega] at this⟩
theorem AllL.of {F : Nat → Oper → Prop} (h : ∀ i o, ops[i]? = some o → F i o) : AllL F 0 ops.toList :=
 AllL.of_list _ _ fun i o ho => by
   rw [Nat.zero_add]
   exact h i o (by simpa using ho)
end
end Go.Proofs.YthcboallnbaimaaGreatDoor
namespace Go.Proofs.YthcboallnbaimaaGreatDoor
open Go Go.RowKit
section
variable {P : Program} {α : Type} {k : Nat} {enc : α → List Value} {w : World}
theorem Oper.wp_append {o : Oper} {a : Act} {K : Act → World → Prop} {Q : Exit → Act → World → Prop} (s x : Operand) (t : TypeId)
   (ho : o.op = .call { callee := .builtin .append, args := #[s, x], argTypes := #[t, t] }) {B : Nat} {e : TypeId} (hE : ElemK P t e k) (hk : ∀ x, (enc x).length = k) (h1 : ∀ x : α, ∀ u ∈ enc x, u.oneCell' = true) (v : Value) (l : List α) (hs : a.eval s = v) (hown : OwnL B w e k enc v l)
   {n : Nat} (sp : Sp) (l2 : List α) (hx : a.eval x = .slice sp.at_ l2.length sp.cap) (hr : RowOf n w sp k enc l2) (hlen : l.length + l2.length ≤ 1000000) (hB : B ≤ w.heap.size)
   (h : ∀ v' w', OwnL B w' e k enc v' (l ++ l2) → w.grownBy w' v.ownBlock → (v'.ownBlock = v.ownBlock ∨ v'.ownBlock = some w.heap.size) → K (a.put o.dst v') w') : o.wp P a w K Q := by
 obtain ⟨v', w', hrun, h2, h3, h4⟩ := run_append_row (P := P) (ty := o.type) hE hk h1 hown hr hlen hB
 unfold Oper.wp execOp
 simp only [ho, resolve, invoke, builtin, Sem.run_bind, Sem.run_pure, Result.andThen_ok, List.map_toArray, List.map_cons, List.map_nil, hs, hx, hrun]
 exact h v' w' h2 h3 h4
/-- A struct loaded out of the middle of a row. -/
theorem Oper.wp_load_mid {o : Oper} {a : Act} {K : Act → World → Prop} {Q : Exit → Act → World → Prop} (ty : TypeId) (x : Operand) (ho : o.op = .load ty x)
   (b off : Nat) (hx : a.eval x = .pointer (some ⟨b, off, none⟩)) (cs : List Value) (d : TypeDesc) (hc : ∀ j v, cs[j]? = some v → w.cell? ⟨b, off + j, none⟩ = some v)
   (hu : P.underlying ty = some d) (hd : (match d with | .struct _ | .array _ _ => true | _ => false) = true) (hi : (P.info? ty).map (·.size) = some cs.length)
   (h : K (a.put o.dst (.agg cs.toArray)) w) : o.wp P a w K Q := by
 have hl : (loadCells ⟨b, off, none⟩ cs.length).run P w = .ok cs.toArray w :=
   run_loadCells_list (P := P) w ⟨b, off, none⟩ cs (fun j v hv => by
     have hadd : (⟨b, off, none⟩ : Addr).add j = ⟨b, off + j, none⟩ := Addr.add_lit _ _ _
     rw [hadd]
     exact hc j v hv)
 have hrun : (loadVar ty ⟨b, off, none⟩).run P w = .ok (.agg cs.toArray) w := by
   cases hq : P.info? ty with
   | none => simp [hq] at hi
   | some i =>
     have hs : i.size = cs.length := by simpa [hq] using hi
     have hagg : (isAgg ty).run P w = .ok true w := by
       unfold isAgg
       rw [Sem.run_bind, run_underlying hu w]
       cases d <;> simp_all
     simp [loadVar, Sem.run_bind, hagg, sizeOf, typeInfo, hq, hs, hl]
 unfold Oper.wp execOp
 simp only [ho, hx, Instr.loadAt, Instr.sureAddr, Sem.run_bind, Sem.run_pure, Result.andThen_ok, hrun]
 exact h
theorem below_setRow {n : Nat} {w0 w : World} (h : Below n w0 w) {g : Nat} {cs : Array Value} (hg : n ≤ g) : Below n w0 (w.setRow g cs) := by
 refine h.trans ⟨rfl, rfl, rfl, by simp, fun k hk => ?_⟩
 exact setRow_other w g k cs (by omega)
theorem Oper.wp_skip {o : Oper} {a : Act} {w w' : World} {K : Act → World → Prop} {Q : Exit → Act → World → Prop} (h : (execOp a.eval o).run P w = .ok .skip w') (hk : K (a.put o.dst undef) w') : o.wp P a w K Q := by
 unfold Oper.wp; rw [h]; exact hk
end
end Go.Proofs.YthcboallnbaimaaGreatDoor
namespace Go.Proofs.YthcboallnbaimaaGreatDoor
open Go Go.RowKit
abbrev PV := (Nat → Bool) → Value → World → Prop
/-- What the operations told so far bear, the last one first. -/
abbrev PVs := List (Nat × Option Nat × PV)
def lkP : PVs → Nat → Option Nat × PV
 | [], _ => (none, fun _ _ _ => True)
 | (i, d, p) :: l, j => match Nat.beq i j with
   | true => (d, p)
   | false => lkP l j
theorem lkP_same {i : Nat} {d : Option Nat} {p : PV} {l : PVs} : lkP ((i, d, p) :: l) i = (d, p) := by
 unfold lkP
 rw [Nat.beq_refl]
theorem lkP_other {i j : Nat} {d : Option Nat} {p : PV} {l : PVs} (h : i ≠ j) : lkP ((i, d, p) :: l) j = lkP l j := by
 have : Nat.beq i j = false := by
   cases hb : Nat.beq i j with
   | false => rfl
   | true => exact absurd (Nat.eq_of_beq_eq_true hb) h
 conv => lhs; unfold lkP
 rw [this]
/-- A slot that bears c, whatever the order. -/
def exactP (c : Value) : PV := fun _ v _ => v = c
section
variable (P : Program) (Q : Exit → Act → World → Prop) (ops : Array Oper) (keep : Nat → Bool) (a0 : Act) (S : (Nat → Bool) → World → Prop) (R : Nat → World → World → Prop)
/-- What is known of the operations that come before. -/
def aftF (Ps : PVs) (L : Nat → Bool) (a : Act) (w : World) : List Edge → Prop
 | [] => True
 | e :: l => (Region.binds .any e = true → L e.on = true ∧ (lkP Ps e.on).2 L (slotv a (lkP Ps e.on).1) w) ∧ aftF Ps L a w l
def LeavesS (k : Nat) (d : Option Nat) (Pk : PV) (L : Nat → Bool) (a : Act) (w : World) (a' : Act) (w' : World) : Prop :=
 ∃ v, a' = a.put d v ∧ (d = none → v = undef) ∧ Pk (onL L k) v w' ∧ S (onL L k) w' ∧ R k w w'
/-- What is known when operation k comes up. -/
structure NowS (Ps : PVs) (k : Nat) (o : Oper) (L : Nat → Bool) (a : Act) (w : World) : Prop where
 new : L k = false
 world : S L w
 behind : ∀ j, (ops[j]?.any fun o' => befB o' k) = true → L j = false
 same : ∀ t : Nat, keep t = true → a.tmps[t]?.getD undef = a0.tmps[t]?.getD undef
 aft : aftF Ps L a w o.after.toList
def StepS (Ps : PVs) (k : Nat) (o : Oper) (Pk : PV) : Prop := ∀ (L : Nat → Bool) (a : Act) (w : World), NowS ops keep a0 S Ps k o L a w →
   match o.guard with
   | none => o.wp P a w (LeavesS S R k o.dst Pk L a w) Q
   | some (g, b) => ∃ b', slotv a (lkP Ps g).1 = .bool b' ∧ (b' = b → o.wp P a w (LeavesS S R k o.dst Pk L a w) Q) ∧ (b' ≠ b → LeavesS S R k o.dst Pk L a w (a.put o.dst undef) w)
/-- What operation k's slot bears outlives all others. -/
def StabS (k : Nat) (Pk : PV) : Prop := ∀ (i : Nat) (L : Nat → Bool) (v : Value) (w w' : World), i ≠ k → R i w w' → Pk L v w → Pk (onL L i) v w'
def SameS (a : Act) : Prop := a.tmps.size = a0.tmps.size ∧ a.defers = a0.defers ∧ ∀ t : Nat, keep t = true → a.tmps[t]?.getD undef = a0.tmps[t]?.getD undef
/-- What is known when all are done. -/
structure DoneS (Ps : PVs) (L : Nat → Bool) (a : Act) (w : World) : Prop where
 world : S L w
 same : SameS keep a0 a
 val : ∀ j, (lkP Ps j).2 L (slotv a (lkP Ps j).1) w
def StepsS : Nat → PVs → List Oper → Prop
 | k, Ps, [] => ∀ (L : Nat → Bool) (a : Act) (w : World), (∀ i, i < k → L i = true) → DoneS keep a0 S Ps L a w → Q .normal a w
 | k, Ps, o :: rest => ∃ Pk, StabS R k Pk ∧ StepS P Q ops keep a0 S R Ps k o Pk ∧ StepsS (k + 1) ((k, o.dst, Pk) :: Ps) rest
end
def dstOf (ops : Array Oper) (i : Nat) : Option Nat := (ops[i]?).bind Oper.dst
def stepsB (ops : Array Oper) (n sz : Nat) (keep : Nat → Bool) : Bool :=
 valsH ops n sz (dstOf ops) && ops.toList.all (fun o => match o.dst with | some d => !keep d | none => true)
section
variable {P : Program} {Q : Exit → Act → World → Prop} {ops : Array Oper} {keep : Nat → Bool} {a0 : Act} {S : (Nat → Bool) → World → Prop} {R : Nat → World → World → Prop}
theorem lkP_app {Ex Ps : PVs} {k j : Nat} (h : ∀ x, x ∈ Ex → k ≤ x.1) (hj : j < k) : lkP (Ex ++ Ps) j = lkP Ps j := by
 induction Ex with
 | nil => rfl
 | cons x Ex ih =>
   obtain ⟨i, d, p⟩ := x
   have h1 := h _ (List.mem_cons_self ..)
   show lkP ((i, d, p) :: (Ex ++ Ps)) j = _
   rw [lkP_other (by have : k ≤ i := h1; omega)]
   exact ih fun y hy => h y (List.mem_cons_of_mem _ hy)
theorem lkP_none {l : PVs} {j : Nat} (h : ∀ x, x ∈ l → x.1 ≠ j) : lkP l j = (none, fun _ _ _ => True) := by
 induction l with
 | nil => rfl
 | cons y l ih =>
   obtain ⟨i', d', p'⟩ := y
   rw [lkP_other (h _ (List.mem_cons_self ..))]
   exact ih fun x hx => h x (List.mem_cons_of_mem _ hx)
theorem lkP_mem {Ps : PVs} {j : Nat} {d : Nat} (h : (lkP Ps j).1 = some d) : ∃ x, x ∈ Ps ∧ x.2.1 = some d := by
 induction Ps with
 | nil => cases h
 | cons x Ps ih =>
   obtain ⟨i, d', p⟩ := x
   by_cases hi : i = j
   · have : lkP ((i, d', p) :: Ps) j = (d', p) := by rw [hi]; exact lkP_same
     rw [this] at h
     exact ⟨_, List.mem_cons_self .., h⟩
   · have : lkP ((i, d', p) :: Ps) j = lkP Ps j := lkP_other hi
     rw [this] at h
     obtain ⟨x, h1, h2⟩ := ih h
     exact ⟨x, List.mem_cons_of_mem _ h1, h2⟩
theorem StepsS.all : ∀ (rest : List Oper) (k : Nat) (Ps : PVs), StepsS P Q ops keep a0 S R k Ps rest →
   ∃ Ex : PVs, (∀ x, x ∈ Ex → k ≤ x.1 ∧ x.1 < k + rest.length ∧ lkP (Ex ++ Ps) x.1 = x.2) ∧ (∀ (L : Nat → Bool) (a : Act) (w : World), (∀ i, i < k + rest.length → L i = true) → DoneS keep a0 S (Ex ++ Ps) L a w → Q .normal a w) ∧
     ∀ (i : Nat) (o : Oper), rest[i]? = some o → ∃ (Pk : PV) (Pi : PVs), lkP (Ex ++ Ps) (k + i) = (o.dst, Pk) ∧ StabS R (k + i) Pk ∧ StepS P Q ops keep a0 S R Pi (k + i) o Pk ∧ ∀ j, j < k + i → lkP Pi j = lkP (Ex ++ Ps) j
 | [], k, Ps, h => ⟨[], by simp, h, by simp⟩
 | o :: rest, k, Ps, h => by
   obtain ⟨Pk, h1, h2, h3⟩ := h
   obtain ⟨Ex, g1, g2, g3⟩ := StepsS.all rest (k + 1) _ h3
   have e : Ex ++ (k, o.dst, Pk) :: Ps = (Ex ++ [(k, o.dst, Pk)]) ++ Ps := by simp
   have hk : lkP (Ex ++ (k, o.dst, Pk) :: Ps) k = (o.dst, Pk) := by
     rw [lkP_app (k := k + 1) (fun x hx => (g1 x hx).1) (Nat.lt_succ_self k)]
     exact lkP_same
   rw [e] at g1 g2 g3 hk
   have e2 : k + 1 + rest.length = k + (o :: rest).length := by simp; omega
   rw [e2] at g2
   refine ⟨Ex ++ [(k, o.dst, Pk)], fun x hx => ?_, g2, fun i o' ho => ?_⟩
   · rcases List.mem_append.1 hx with hx | hx
     · have := g1 x hx
       simp only [List.length_cons]
       exact ⟨by omega, by omega, this.2.2⟩
     · obtain rfl := List.mem_singleton.1 hx
       simp only [List.length_cons]
       exact ⟨Nat.le_refl _, by omega, hk⟩
   · match i with
     | 0 =>
       simp only [List.getElem?_cons_zero, Option.some.injEq] at ho
       subst ho
       refine ⟨Pk, Ps, hk, h1, h2, fun j hj => ?_⟩
       refine (lkP_app (k := k) (fun x hx => ?_) hj).symm
       rcases List.mem_append.1 hx with hx | hx
       · have := (g1 x hx).1; omega
       · obtain rfl := List.mem_singleton.1 hx; exact Nat.le_refl _
     | i + 1 =>
       obtain ⟨Pk', Pi, t1, t2, t3, t4⟩ := g3 i o' (by simpa using ho)
       rw [show k + 1 + i = k + (i + 1) by omega] at t1 t2 t3 t4
       exact ⟨Pk', Pi, t1, t2, t3, t4⟩
theorem aftF_of {Ps Pi : PVs} {L : Nat → Bool} {a : Act} {w : World} {k : Nat} (hj : ∀ j, j < k → lkP Pi j = lkP Ps j) : ∀ (l : List Edge), (∀ e, e ∈ l → Region.binds .any e = true → e.on < k ∧ L e.on = true ∧ (lkP Ps e.on).2 L (slotv a (lkP Ps e.on).1) w) → aftF Pi L a w l
 | [], _ => trivial
 | e :: l, h => ⟨fun hb => by
     obtain ⟨h1, h2, h3⟩ := h e (List.mem_cons_self ..) hb
     rw [hj _ h1]
     exact ⟨h2, h3⟩, aftF_of hj l fun e he => h e (List.mem_cons_of_mem _ he)⟩
/-- THE LAW. -/
theorem wp_region_steps {id n sz : Nat} {w0 : World} (hm : P.follows .mixedOrders = true) (hB : stepsB ops n sz keep = true) (ha : a0.tmps.size = sz)
   (S : (Nat → Bool) → World → Prop) (R : Nat → World → World → Prop) (hs : S (fun _ => false) w0.drew) (h : StepsS P Q ops keep a0 S R 0 [] ops.toList) : (Code.region id ops true).wp P Q a0 w0 := by
 unfold stepsB at hB
 rw [Bool.and_eq_true, List.all_eq_true] at hB
 obtain ⟨hB, hkp⟩ := hB
 obtain ⟨Ex, h1, h2, h3⟩ := StepsS.all _ _ _ h
 rw [List.append_nil] at h1 h2 h3
 simp only [Nat.zero_add] at h1 h2 h3
 have hdst : ∀ i o, ops[i]? = some o → dstOf ops i = o.dst := fun i o ho => by unfold dstOf; rw [ho]; rfl
 have hn : ops.size = n := by unfold valsH at hB; rw [Bool.and_eq_true] at hB; simpa using hB.1
 have hlk : ∀ i o, ops[i]? = some o → (lkP Ex i).1 = o.dst := fun i o ho => by
   obtain ⟨Pk, Pi, t1, _⟩ := h3 i o (by simpa using ho)
   rw [t1]
 refine wp_region_valsH hm hB ha S (fun L i v w => (lkP Ex i).2 L v w) ?_ hs ?_
 · refine AllL.of fun i o ho => ?_
   intro L a w hL hS hbeh hsm haft
   obtain ⟨Pk, Pi, t1, t2, t3, t4⟩ := h3 i o (by simpa using ho)
   have hdi := hdst i o ho
   have hnow : NowS ops keep a0 S Pi i o L a w := ⟨hL, hS, hbeh, fun t ht => by
       have := hsm t fun j hj he => by
         have hj2 : j < ops.size := by rw [hn]; exact hj
         have hd := hdst j ops[j] (Array.getElem?_eq_getElem hj2)
         rw [hd] at he
         have := hkp ops[j] (by simp)
         rw [he] at this
         simp only [ht] at this
         cases this
       simpa [Act.eval] using this, aftF_of t4 _ fun e he hb => ?_⟩
   · have hstep := t3 L a w hnow
     have hl : ∀ a' w', LeavesS S R i o.dst Pk L a w a' w' → LeavesH (dstOf ops) S (fun L i v w => (lkP Ex i).2 L v w) i L a w a' w' := by
       rintro a' w' ⟨v, e1, e2, e3, e4, e5⟩
       rw [← hdi] at e1 e2
       refine ⟨v, e1, e2, by show (lkP Ex i).2 _ _ _; rw [t1]; exact e3, e4, fun j u hji hj hu => ?_⟩
       by_cases hjn : j < ops.size
       · obtain ⟨Pj, _, u1, u2, _⟩ := h3 j ops[j] (by simp [hjn])
         show (lkP Ex j).2 _ _ _
         replace hu : (lkP Ex j).2 _ _ _ := hu
         rw [u1] at hu ⊢
         exact u2 i L u w w' (Ne.symm hji) e5 hu
       · have : (lkP Ex j) = (none, fun _ _ _ => True) := lkP_none fun x hx e => hjn (by have := (h1 x hx).2.1; rw [e] at this; simpa using this)
         show (lkP Ex j).2 _ _ _
         rw [this]
         trivial
     cases hg : o.guard with
     | none =>
       rw [hg] at hstep
       exact Oper.wp_mono hl hstep
     | some gb =>
       obtain ⟨g, b⟩ := gb
       rw [hg] at hstep
       obtain ⟨b', s1, s2, s3⟩ := hstep
       have hgi : g < i := by
         unfold valsH at hB
         simp only [Bool.and_eq_true, List.all_eq_true, List.mem_range] at hB
         have hi : i < n := by rw [← hn]; exact (Array.getElem?_eq_some_iff.1 ho).1
         have := hB.2 i hi
         rw [ho] at this
         simp only [hg, Bool.and_eq_true, decide_eq_true_eq] at this
         exact this.1.1.1.1.1
       have hgs : g < ops.size := Nat.lt_trans hgi (Array.getElem?_eq_some_iff.1 ho).1
       refine ⟨b', ?_, fun e => Oper.wp_mono hl (s2 e), fun e => ?_⟩
       · rw [t4 g hgi, hlk g ops[g] (Array.getElem?_eq_getElem hgs), ← hdst g ops[g] (Array.getElem?_eq_getElem hgs)] at s1
         exact s1
       · rw [hdi]
         exact hl _ _ (s3 e)
   · have hbf : befB o e.on = true := by
       unfold befB
       rw [List.any_eq_true]
       exact ⟨e, he, by rw [hb, Bool.true_and]; exact Nat.beq_refl _⟩
     obtain ⟨g1, g2⟩ := haft e.on hbf
     have hlt : e.on < i := by
       unfold valsH at hB
       simp only [Bool.and_eq_true, List.all_eq_true, List.mem_range] at hB
       have hi : i < n := by rw [← hn]; exact (Array.getElem?_eq_some_iff.1 ho).1
       have := hB.2 i hi
       rw [ho] at this
       simp only [Bool.and_eq_true, List.all_eq_true] at this
       have := this.1.2 e (by simpa using he)
       simpa [hb] using this
     have hes : e.on < ops.size := Nat.lt_trans hlt (Array.getElem?_eq_some_iff.1 ho).1
     refine ⟨hlt, g1, ?_⟩
     rw [hlk e.on ops[e.on] (Array.getElem?_eq_getElem hes), ← hdst e.on ops[e.on] (Array.getElem?_eq_getElem hes)]
     exact g2
 · intro L a w hS hsz hde hsm hv
   refine h2 L a w (fun i hi => (hv i (by rw [← hn]; simpa using hi)).1) ⟨hS, ⟨hsz, hde, fun t ht => ?_⟩, fun j => ?_⟩
   · have := hsm t fun j hj he => by
       have hj2 : j < ops.size := by rw [hn]; exact hj
       have hd := hdst j ops[j] (Array.getElem?_eq_getElem hj2)
       rw [hd] at he
       have := hkp ops[j] (by simp)
       rw [he] at this
       simp only [ht] at this
       cases this
     simpa [Act.eval] using this
   · by_cases hj : j < n
     · have hjs : j < ops.size := by rw [hn]; exact hj
       have := (hv j hj).2
       rw [hdst _ _ (Array.getElem?_eq_getElem hjs), ← hlk _ _ (Array.getElem?_eq_getElem hjs)] at this
       exact this
     · have hx : ∀ x, x ∈ Ex → x.1 ≠ j := fun x hx e => hj (by have := (h1 x hx).2.1; rw [e] at this; rw [← hn]; simpa using this)
       rw [lkP_none hx]
       trivial
section
variable {k : Nat} {Ps : PVs} {o : Oper} {rest : List Oper}
/-- A slot that is reckoned out of others, or read. -/
theorem StepsS.exact {c : Value} {d : Nat} (hg : o.guard = none) (hd : o.dst = some d) (hS : ∀ L w, S L w → S (onL L k) w) (hR : ∀ w, R k w w)
   (h : ∀ (L : Nat → Bool) (a : Act) (w : World), NowS ops keep a0 S Ps k o L a w → (execOp a.eval o).run P w = .ok (.value c) w)
   (t : StepsS P Q ops keep a0 S R (k + 1) ((k, o.dst, exactP c) :: Ps) rest) : StepsS P Q ops keep a0 S R k Ps (o :: rest) := by
 refine ⟨exactP c, fun _ _ _ _ _ _ _ h => h, fun L a w hn => ?_, t⟩
 rw [hg]
 exact Oper.wp_value (h L a w hn) ⟨c, rfl, fun e => by rw [hd] at e; (cases e), rfl, hS L w hn.world, hR w⟩
/-- Any other one. -/
theorem StepsS.any (Pk : PV) (hg : o.guard = none) (hst : StabS R k Pk)
   (h : ∀ (L : Nat → Bool) (a : Act) (w : World), NowS ops keep a0 S Ps k o L a w → o.wp P a w (LeavesS S R k o.dst Pk L a w) Q)
   (t : StepsS P Q ops keep a0 S R (k + 1) ((k, o.dst, Pk) :: Ps) rest) : StepsS P Q ops keep a0 S R k Ps (o :: rest) := by
 refine ⟨Pk, hst, fun L a w hn => ?_, t⟩
 rw [hg]
 exact h L a w hn
/-- A guarded one, whose guard is told. -/
theorem StepsS.guarded (Pk : PV) {g : Nat} {b : Bool} (hg : o.guard = some (g, b)) (hst : StabS R k Pk)
   (h : ∀ (L : Nat → Bool) (a : Act) (w : World), NowS ops keep a0 S Ps k o L a w → ∃ b', slotv a (lkP Ps g).1 = .bool b' ∧ (b' = b → o.wp P a w (LeavesS S R k o.dst Pk L a w) Q) ∧ (b' ≠ b → LeavesS S R k o.dst Pk L a w (a.put o.dst undef) w))
   (t : StepsS P Q ops keep a0 S R (k + 1) ((k, o.dst, Pk) :: Ps) rest) : StepsS P Q ops keep a0 S R k Ps (o :: rest) := by
 refine ⟨Pk, hst, fun L a w hn => ?_, t⟩
 rw [hg]
 exact h L a w hn
/-- A call that returns a value that is known, and may make memory. -/
theorem StepsS.call {c : Value} {d : Nat} {f : FuncId} {args : Array Value} (hg : o.guard = none) (hd : o.dst = some d) (hS : ∀ L w w', S L w → Below w.heap.size w w' → S (onL L k) w') (hR : ∀ w w', Below w.heap.size w w' → R k w w')
   (h : ∀ (L : Nat → Bool) (a : Act) (w : World), NowS ops keep a0 S Ps k o L a w → (execOp a.eval o).run P w = .ok (.enter f args) w ∧ Calls P f args w fun e w' => e = .returned c ∧ Below w.heap.size w w')
   (t : StepsS P Q ops keep a0 S R (k + 1) ((k, o.dst, exactP c) :: Ps) rest) : StepsS P Q ops keep a0 S R k Ps (o :: rest) := by
 refine ⟨exactP c, fun _ _ _ _ _ _ _ h => h, fun L a w hn => ?_, t⟩
 rw [hg]
 obtain ⟨h1, h2⟩ := h L a w hn
 refine Oper.wp_enter h1 (h2.mono ?_)
 rintro e w' ⟨rfl, hb⟩
 exact ⟨c, rfl, c, rfl, fun e => by rw [hd] at e; (cases e), rfl, hS L w w' hn.world hb, hR w w' hb⟩
/-- The same, guarded by what is told to be as the guard wants it. -/
theorem StepsS.exactG {c : Value} {d g : Nat} {b : Bool} (hg : o.guard = some (g, b)) (hd : o.dst = some d) (hS : ∀ L w, S L w → S (onL L k) w) (hR : ∀ w, R k w w)
   (hb : ∀ (L : Nat → Bool) (a : Act) (w : World), NowS ops keep a0 S Ps k o L a w → slotv a (lkP Ps g).1 = .bool b)
   (h : ∀ (L : Nat → Bool) (a : Act) (w : World), NowS ops keep a0 S Ps k o L a w → (execOp a.eval o).run P w = .ok (.value c) w)
   (t : StepsS P Q ops keep a0 S R (k + 1) ((k, o.dst, exactP c) :: Ps) rest) : StepsS P Q ops keep a0 S R k Ps (o :: rest) := by
 refine ⟨exactP c, fun _ _ _ _ _ _ _ h => h, fun L a w hn => ?_, t⟩
 rw [hg]
 exact ⟨b, hb L a w hn, fun _ => Oper.wp_value (h L a w hn) ⟨c, rfl, fun e => by rw [hd] at e; (cases e), rfl, hS L w hn.world, hR w⟩, fun e => absurd rfl e⟩
theorem StepsS.callG {c : Value} {d g : Nat} {b : Bool} {f : FuncId} {args : Array Value} (hg : o.guard = some (g, b)) (hd : o.dst = some d) (hS : ∀ L w w', S L w → Below w.heap.size w w' → S (onL L k) w') (hR : ∀ w w', Below w.heap.size w w' → R k w w')
   (hb : ∀ (L : Nat → Bool) (a : Act) (w : World), NowS ops keep a0 S Ps k o L a w → slotv a (lkP Ps g).1 = .bool b)
   (h : ∀ (L : Nat → Bool) (a : Act) (w : World), NowS ops keep a0 S Ps k o L a w → (execOp a.eval o).run P w = .ok (.enter f args) w ∧ Calls P f args w fun e w' => e = .returned c ∧ Below w.heap.size w w')
   (t : StepsS P Q ops keep a0 S R (k + 1) ((k, o.dst, exactP c) :: Ps) rest) : StepsS P Q ops keep a0 S R k Ps (o :: rest) := by
 refine ⟨exactP c, fun _ _ _ _ _ _ _ h => h, fun L a w hn => ?_, t⟩
 rw [hg]
 refine ⟨b, hb L a w hn, fun _ => ?_, fun e => absurd rfl e⟩
 obtain ⟨h1, h2⟩ := h L a w hn
 refine Oper.wp_enter h1 (h2.mono ?_)
 rintro e w' ⟨rfl, hb⟩
 exact ⟨c, rfl, c, rfl, fun e => by rw [hd] at e; (cases e), rfl, hS L w w' hn.world hb, hR w w' hb⟩
theorem eval_of {a : Act} {n : Nat} {v : Value} (h : a.tmps[n]?.getD undef = v) : a.eval (.tmp n) = v := by rw [← h]; simp [Act.eval]
/-- A big struct read. -/
theorem exec_row {a : Act} {w : World} {ty : TypeId} {x : Operand} (ho : o.op = .load ty x) (b : Nat) (hx : a.eval x = .pointer (some ⟨b, 0, none⟩)) (t : TypeId) (cs : Array Value) (fr : Nat × Nat) (d : TypeDesc) (hb : w.heap[b]? = some (.cells cs t fr))
   (hu : P.underlying ty = some d) (hd : (match d with | .struct _ | .array _ _ => true | _ => false) = true) (hi : (P.info? ty).map (·.size) = some cs.size) : (execOp a.eval o).run P w = .ok (.value (.agg cs)) w := by
 have hl : (loadCells ⟨b, 0, none⟩ cs.toList.length).run P w = .ok cs.toList.toArray w :=
   run_loadCells_list (P := P) w ⟨b, 0, none⟩ cs.toList (fun j v hv => by
     have hadd : (⟨b, 0, none⟩ : Addr).add j = ⟨b, 0 + j, none⟩ := Addr.add_lit _ _ _
     rw [hadd, Nat.zero_add]
     have hj : cs[j]? = some v := by simpa using hv
     simp [World.cell?, hb, hj])
 have hrun : (loadVar ty ⟨b, 0, none⟩).run P w = .ok (.agg cs) w := by
   cases hq : P.info? ty with
   | none => simp [hq] at hi
   | some i =>
     have hs : i.size = cs.size := by simpa [hq] using hi
     have hagg : (isAgg ty).run P w = .ok true w := by
       unfold isAgg
       rw [Sem.run_bind, run_underlying hu w]
       cases d <;> simp_all
     simp only [Array.length_toList, Array.toArray_toList] at hl
     simp [loadVar, Sem.run_bind, hagg, sizeOf, typeInfo, hq, hs, hl]
 unfold execOp
 simp only [ho, hx, Instr.loadAt, Instr.sureAddr, Sem.run_bind, Sem.run_pure, Result.andThen_ok, hrun]
end
end
end Go.Proofs.YthcboallnbaimaaGreatDoor
namespace Go.Proofs.YthcboallnbaimaaGreatDoor
open Go
def renN (f t s : ByteArray) : ByteArray := if s = f then t else s
/-- An expression with the name f being t; its slices may lie elsewhere. -/
inductive RenX (f t : ByteArray) : ExprV → ExprV → Prop
 | mk {k o v w : Int} {nm : ByteArray} {sp sp' : Sp} {l l' : List ExprV} (len : l'.length = l.length) (none : sp.at_ = .none → sp' = Sp.none) (subs : ∀ i (h : i < l.length) (h' : i < l'.length), RenX f t l[i] l'[i]) : RenX f t (.mk k o v w nm sp l) (.mk k o v w (renN f t nm) sp' l')
structure RenXs (f t : ByteArray) (sp sp' : Sp) (l l' : List ExprV) : Prop where
 len : l'.length = l.length
 none : sp.at_ = .none → sp' = Sp.none
 subs : ∀ i (h : i < l.length) (h' : i < l'.length), RenX f t l[i] l'[i]
section
variable {f t : ByteArray}
theorem RenX.inv {k o v w : Int} {nm : ByteArray} {sp : Sp} {l : List ExprV} {e : ExprV} (h : RenX f t (.mk k o v w nm sp l) e) : ∃ sp' l', e = .mk k o v w (renN f t nm) sp' l' ∧ RenXs f t sp sp' l l' := by
 cases h with
 | mk h1 h2 h3 => exact ⟨_, _, rfl, h1, h2, h3⟩
theorem RenXs.nil {sp sp' : Sp} {l' : List ExprV} (h : RenXs f t sp sp' [] l') : l' = [] := List.length_eq_zero_iff.1 h.len
theorem RenXs.one {sp sp' : Sp} {a : ExprV} {l' : List ExprV} (h : RenXs f t sp sp' [a] l') : ∃ a', l' = [a'] ∧ RenX f t a a' := by
 obtain ⟨a', rfl⟩ := List.length_eq_one_iff.1 h.len
 exact ⟨a', rfl, h.subs 0 (by simp) (by simp)⟩
theorem RenXs.two {sp sp' : Sp} {a b : ExprV} {l' : List ExprV} (h : RenXs f t sp sp' [a, b] l') : ∃ a' b', l' = [a', b'] ∧ RenX f t a a' ∧ RenX f t b b' := by
 match l', h with
 | [a', b'], h => exact ⟨a', b', rfl, h.subs 0 (by simp) (by simp), h.subs 1 (by simp) (by simp)⟩
 | [], h => exact absurd h.len (by simp)
 | [_], h => exact absurd h.len (by simp)
 | _ :: _ :: _ :: _, h => exact absurd h.len (by simp)
theorem RenXs.three {sp sp' : Sp} {a b c : ExprV} {l' : List ExprV} (h : RenXs f t sp sp' [a, b, c] l') : ∃ a' b' c', l' = [a', b', c'] ∧ RenX f t a a' ∧ RenX f t b b' ∧ RenX f t c c' := by
 match l', h with
 | [a', b', c'], h => exact ⟨a', b', c', rfl, h.subs 0 (by simp) (by simp), h.subs 1 (by simp) (by simp), h.subs 2 (by simp) (by simp)⟩
 | [], h => exact absurd h.len (by simp)
 | [_], h => exact absurd h.len (by simp)
 | [_, _], h => exact absurd h.len (by simp)
 | _ :: _ :: _ :: _ :: _, h => exact absurd h.len (by simp)
theorem renN_not {s : ByteArray} (h : f ≠ s) : renN f t s = s := by unfold renN; rw [if_neg (Ne.symm h)]
/-- A statement: what a Call calls keeps its name. -/
def renS (f t : ByteArray) (k : Int) (s : ByteArray) : ByteArray := if k = 8 then s else renN f t s
inductive RenT (f t : ByteArray) : StmtV → StmtV → Prop
 | mk {k b : Int} {nm : ByteArray} {es es' ts ts' os os' : Sp} {ex ex' : List ExprV} {th th' el el' : List StmtV} (exs : RenXs f t es es' ex ex')
     (tlen : th'.length = th.length) (tnone : ts.at_ = .none → ts' = Sp.none) (thn : ∀ i (h : i < th.length) (h' : i < th'.length), RenT f t th[i] th'[i])
     (olen : el'.length = el.length) (onone : os.at_ = .none → os' = Sp.none) (els : ∀ i (h : i < el.length) (h' : i < el'.length), RenT f t el[i] el'[i]) :
     RenT f t (.mk k nm es ex b ts th os el) (.mk k (renS f t k nm) es' ex' b ts' th' os' el')
structure RenTs (f t : ByteArray) (sp sp' : Sp) (l l' : List StmtV) : Prop where
 len : l'.length = l.length
 none : sp.at_ = .none → sp' = Sp.none
 subs : ∀ i (h : i < l.length) (h' : i < l'.length), RenT f t l[i] l'[i]
theorem RenT.inv {k b : Int} {nm : ByteArray} {es ts os : Sp} {ex : List ExprV} {th el : List StmtV} {s : StmtV} (h : RenT f t (.mk k nm es ex b ts th os el) s) :
   ∃ es' ex' ts' th' os' el', s = .mk k (renS f t k nm) es' ex' b ts' th' os' el' ∧ RenXs f t es es' ex ex' ∧ RenTs f t ts ts' th th' ∧ RenTs f t os os' el el' := by
 cases h with
 | mk h1 h2 h3 h4 h5 h6 h7 => exact ⟨_, _, _, _, _, _, rfl, h1, ⟨h2, h3, h4⟩, h5, h6, h7⟩
theorem RenTs.nil {sp sp' : Sp} {l' : List StmtV} (h : RenTs f t sp sp' [] l') : l' = [] := List.length_eq_zero_iff.1 h.len
theorem RenTs.all {P Q : StmtV → Prop} {sp sp' : Sp} {l l' : List StmtV} (h : RenTs f t sp sp' l l') (hp : ∀ s, s ∈ l → P s) (hq : ∀ s s', P s → RenT f t s s' → Q s') : ∀ s, s ∈ l' → Q s := fun s hs => by
 obtain ⟨i, hi, rfl⟩ := List.getElem_of_mem hs
 have hi2 : i < l.length := by rw [← h.len]; exact hi
 exact hq _ _ (hp _ (List.getElem_mem hi2)) (h.subs i hi2 hi)
theorem RenTs.deep {Q : StmtV → Prop} {sp sp' : Sp} {l l' : List StmtV} (h : RenTs f t sp sp' l l') (hq : ∀ s, s ∈ l → ∀ s', RenT f t s s' → Q s') : ∀ s, s ∈ l' → Q s := fun s hs => by
 obtain ⟨i, hi, rfl⟩ := List.getElem_of_mem hs
 have hi2 : i < l.length := by rw [← h.len]; exact hi
 exact hq _ (List.getElem_mem hi2) _ (h.subs i hi2 hi)
theorem renS_not {k : Int} {s : ByteArray} (h : f ≠ s) : renS f t k s = s := by unfold renS; rw [renN_not h]; split <;> rfl
/-- Programs. -/
def renD (f t : ByteArray) (d : DeclV) : DeclV := ⟨renN f t d.name, d.width, d.size⟩
structure RenQ (f t : ByteArray) (q q' : ProcV) : Prop where
 name : q'.name = q.name
 params : q'.params = q.params
 body : RenTs f t q.bs q'.bs q.body q'.body
structure RenI (f t : ByteArray) (x x' : InitV) : Prop where
 block : x'.block = x.block
 value : RenX f t x.value x'.value
structure RenP (f t : ByteArray) (p p' : ProgV) : Prop where
 blocks : p'.blocks = p.blocks
 width : p'.width = p.width
 inputs : p'.inputs = p.inputs.map (renD f t)
 ghosts : p'.ghosts = p.ghosts.map (renD f t)
 vars : p'.vars = p.vars.map (renD f t)
 arrays : p'.arrays = p.arrays.map (renD f t)
 require : RenX f t p.require p'.require
 ilen : p'.inits.length = p.inits.length
 inits : ∀ i (h : i < p.inits.length) (h' : i < p'.inits.length), RenI f t p.inits[i] p'.inits[i]
 qlen : p'.procs.length = p.procs.length
 procs : ∀ i (h : i < p.procs.length) (h' : i < p'.procs.length), RenQ f t p.procs[i] p'.procs[i]
 work : RenTs f t p.ws p'.ws p.work p'.work
 recover : RenTs f t p.cs p'.cs p.recover p'.recover
 invariant : RenX f t p.invariant p'.invariant
end
end Go.Proofs.YthcboallnbaimaaGreatDoor
namespace Go.Proofs.YthcboallnbaimaaGreatDoor
open Go
section
variable {f t : ByteArray}
def Nm.ren (f t : ByteArray) (N : Nm) : Nm := ⟨renN f t N.i, renN f t N.j, renN f t N.g, renN f t N.h, renN f t N.v, renN f t N.c, renN f t N.a⟩
def MkE.ren (f t : ByteArray) (M : MkE) : MkE := { M with N := M.N.ren f t }
theorem leafT_ren {M : MkE} {wh : Int} (hx : f ≠ xB) : leafT (M.ren f t) wh = (leafT M wh).map fun x => (renN f t x.1, x.2) := by
 have e1 : inputsT (M.ren f t) = (inputsT M).map fun x => (renN f t x.1, x.2) := by unfold inputsT; rw [List.map_take]; rfl
 have e2 : ghostsT (M.ren f t) = (ghostsT M).map fun x => (renN f t x.1, x.2) := rfl
 have e3 : varsT (M.ren f t) = (varsT M).map fun x => (renN f t x.1, x.2) := rfl
 have e4 : paramT (M.ren f t) = (paramT M).map fun x => (renN f t x.1, x.2) := by
   unfold paramT
   rw [show (M.ren f t).prm = M.prm from rfl]
   split
   · simp [renN_not hx, MkE.ren]
   · rfl
 unfold leafT
 rw [e1, e2, e3, e4]
 split <;> split <;> simp
theorem leaf_ren {M : MkE} {wh : Int} (hx : f ≠ xB) {s : ByteArray} {x : Thing} (h : (s, x) ∈ leafT M wh) : (renN f t s, x) ∈ leafT (M.ren f t) wh := by
 rw [leafT_ren hx]
 exact List.mem_map.2 ⟨(s, x), h, rfl⟩
theorem set_ren {M : MkE} {s : ByteArray} {x : Thing} (h : (s, x) ∈ ghostsT M ++ varsT M) : (renN f t s, x) ∈ ghostsT (M.ren f t) ++ varsT (M.ren f t) := by
 have e : ghostsT (M.ren f t) ++ varsT (M.ren f t) = (ghostsT M ++ varsT M).map fun x => (renN f t x.1, x.2) := rfl
 rw [e]
 exact List.mem_map.2 ⟨(s, x), h, rfl⟩
theorem WX.ren (hx : f ≠ xB) (he : f ≠ ⟨#[]⟩) {M : MkE} {wh : Int} {d : Nat} {wd : Int} {e : ExprV} (h : WX M wh d wd e) : ∀ e', RenX f t e e' → WX (M.ren f t) wh d wd e' := by
 induction h with
 | num h0 hx2 h1 h2 =>
   intro e' hr
   obtain ⟨sp', l', rfl, hl⟩ := hr.inv
   rw [hl.nil, hl.none rfl, renN_not he]
   exact .num h0 hx2 h1 h2
 | var hm =>
   intro e' hr
   obtain ⟨sp', l', rfl, hl⟩ := hr.inv
   rw [hl.nil, hl.none rfl]
   exact .var (leaf_ren hx hm)
 | cmp o1 o2 _ _ i1 i2 =>
   intro e' hr
   obtain ⟨sp', l', rfl, hl⟩ := hr.inv
   obtain ⟨a', b', rfl, ha, hb⟩ := hl.two
   rw [renN_not he]
   exact .cmp o1 o2 (i1 _ ha) (i2 _ hb)
 | bin o1 o2 _ _ i1 i2 =>
   intro e' hr
   obtain ⟨sp', l', rfl, hl⟩ := hr.inv
   obtain ⟨a', b', rfl, ha, hb⟩ := hl.two
   rw [renN_not he]
   exact .bin o1 o2 (i1 _ ha) (i2 _ hb)
 | mux _ _ _ i1 i2 i3 =>
   intro e' hr
   obtain ⟨sp', l', rfl, hl⟩ := hr.inv
   obtain ⟨a', b', c', rfl, ha, hb, hc⟩ := hl.three
   rw [renN_not he]
   exact .mux (i1 _ ha) (i2 _ hb) (i3 _ hc)
 | un o1 o2 _ i1 =>
   intro e' hr
   obtain ⟨sp', l', rfl, hl⟩ := hr.inv
   obtain ⟨a', rfl, ha⟩ := hl.one
   rw [renN_not he]
   exact .un o1 o2 (i1 _ ha)
 | cast h1 h2 _ i1 =>
   intro e' hr
   obtain ⟨sp', l', rfl, hl⟩ := hr.inv
   obtain ⟨a', rfl, ha⟩ := hl.one
   rw [renN_not he]
   exact .cast h1 h2 (i1 _ ha)
 | disk hw _ i1 =>
   intro e' hr
   obtain ⟨sp', l', rfl, hl⟩ := hr.inv
   obtain ⟨a', rfl, ha⟩ := hl.one
   rw [renN_not he]
   exact .disk hw (i1 _ ha)
 | elem hw _ i1 =>
   intro e' hr
   obtain ⟨sp', l', rfl, hl⟩ := hr.inv
   obtain ⟨a', rfl, ha⟩ := hl.one
   exact .elem hw (i1 _ ha)
theorem WT.ren (hx : f ≠ xB) (he : f ≠ ⟨#[]⟩) {M : MkE} {hasP : Bool} {d : Nat} {s : StmtV} (h : WT M hasP d s) : ∀ s', RenT f t s s' → WT (M.ren f t) hasP d s' := by
 induction h with
 | write ha hb =>
   intro s' hr
   obtain ⟨es', ex', ts', th', os', el', rfl, hxs, hth, hel⟩ := hr.inv
   obtain ⟨a', b', rfl, ra, rb⟩ := hxs.two
   rw [hth.nil, hth.none rfl, hel.nil, hel.none rfl, renS_not he]
   exact .write (ha.ren hx he _ ra) (hb.ren hx he _ rb)
 | flush hk =>
   intro s' hr
   obtain ⟨es', ex', ts', th', os', el', rfl, hxs, hth, hel⟩ := hr.inv
   rw [hxs.nil, hxs.none rfl, hth.nil, hth.none rfl, hel.nil, hel.none rfl, renS_not he]
   exact .flush hk
 | set hm hw =>
   intro s' hr
   obtain ⟨es', ex', ts', th', os', el', rfl, hxs, hth, hel⟩ := hr.inv
   obtain ⟨a', rfl, ra⟩ := hxs.one
   rw [hth.nil, hth.none rfl, hel.nil, hel.none rfl]
   exact .set (set_ren hm) (hw.ren hx he _ ra)
 | put ha hb =>
   intro s' hr
   obtain ⟨es', ex', ts', th', os', el', rfl, hxs, hth, hel⟩ := hr.inv
   obtain ⟨a', b', rfl, ra, rb⟩ := hxs.two
   rw [hth.nil, hth.none rfl, hel.nil, hel.none rfl]
   exact .put (M := M.ren f t) (ha.ren hx he _ ra) (hb.ren hx he _ rb)
 | cond hw l1 _ l2 _ i1 i2 =>
   intro s' hr
   obtain ⟨es', ex', ts', th', os', el', rfl, hxs, hth, hel⟩ := hr.inv
   obtain ⟨a', rfl, ra⟩ := hxs.one
   rw [renS_not he]
   exact .cond (hw.ren hx he _ ra) (by rw [hth.len]; exact l1) (hth.deep i1) (by rw [hel.len]; exact l2) (hel.deep i2)
 | loop b1 b2 hw l1 _ i1 =>
   intro s' hr
   obtain ⟨es', ex', ts', th', os', el', rfl, hxs, hth, hel⟩ := hr.inv
   obtain ⟨a', rfl, ra⟩ := hxs.one
   rw [renS_not he, hel.nil, hel.none rfl]
   exact .loop b1 b2 (hw.ren hx he _ ra) (by rw [hth.len]; exact l1) (hth.deep i1)
 | call h1 h2 hw =>
   intro s' hr
   obtain ⟨es', ex', ts', th', os', el', rfl, hxs, hth, hel⟩ := hr.inv
   obtain ⟨a', rfl, ra⟩ := hxs.one
   rw [hth.nil, hth.none rfl, hel.nil, hel.none rfl]
   exact .call (M := M.ren f t) h1 h2 (hw.ren hx he _ ra)
theorem IsMade.ren (hx : f ≠ xB) (he : f ≠ ⟨#[]⟩) {M : MkE} {hasP : Bool} {p p' : ProgV} (h : IsMade M hasP p) (hr : RenP f t p p') : IsMade (M.ren f t) hasP p' := by
 have hbl : p'.inits.map InitV.block = p.inits.map InitV.block := by
   refine List.ext_getElem (by simp [hr.ilen]) fun i h1 h2 => ?_
   simp only [List.getElem_map]
   exact (hr.inits i (by simpa using h2) (by simpa using h1)).block
 refine ⟨⟨h.ok, h.prm, by rw [hr.blocks]; exact h.blocks, by rw [hr.width]; exact h.width, ?_, by rw [hr.ghosts, h.ghosts]; rfl, by rw [hr.vars, h.vars]; rfl, ?_, h.require.ren hx he _ hr.require, fun x hm => ?_, ?_, by rw [hr.ilen]; exact h.initsN, h.invariant.ren hx he _ hr.invariant⟩, ?_, by rw [hr.work.len]; exact h.workN, hr.work.deep fun s hs s' h2 => (h.work s hs).ren hx he _ h2, by rw [hr.recover.len]; exact h.recoverN, hr.recover.deep fun s hs s' h2 => (h.recover s hs).ren hx he _ h2⟩
 · rw [hr.inputs, h.inputs]
   unfold inputsD
   rw [List.map_take]; rfl
 · obtain ⟨z, z1, z2, hz⟩ := h.arrays
   exact ⟨z, z1, z2, by rw [hr.arrays, hz]; rfl⟩
 · obtain ⟨i, hi, rfl⟩ := List.getElem_of_mem hm
   have hi2 : i < p.inits.length := by rw [← hr.ilen]; exact hi
   have h1 := h.inits _ (List.getElem_mem hi2)
   have h2 := hr.inits i hi2 hi
   rw [h2.block, hr.blocks]
   exact ⟨h1.1, h1.2.1, h1.2.2.ren hx he _ h2.value⟩
 · have h1 := h.blocksN
   have e : ∀ l : List InitV, l.Pairwise (fun x y => x.block < y.block) ↔ (l.map InitV.block).Pairwise (· < ·) := fun l => List.pairwise_map.symm
   rw [e] at h1 ⊢
   rw [hbl]; exact h1
 · have hp := h.procs
   split
   · next hP =>
     rw [if_pos hP] at hp
     obtain ⟨q, h1, h2⟩ := hp
     have h0 : 0 < p.procs.length := by rw [h1]; simp
     have hl : p'.procs.length = 1 := by rw [hr.qlen, h1]; rfl
     obtain ⟨q', hq⟩ := List.length_eq_one_iff.1 hl
     have h3 := hr.procs 0 h0 (by rw [hl]; exact Nat.one_pos)
     have e1 : p.procs[0] = q := by simp [h1]
     have e2 : p'.procs[0]'(by rw [hl]; exact Nat.one_pos) = q' := by simp [hq]
     rw [e1, e2] at h3
     exact ⟨q', hq, h3.name.trans h2.name, h3.params.trans h2.params, by rw [h3.body.len]; exact h2.few, h3.body.deep fun s hs s' h4 => (h2.body s hs).ren (M := { M with prm := true }) hx he _ h4⟩
   · next hP =>
     rw [if_neg hP] at hp
     exact List.length_eq_zero_iff.1 (by rw [hr.qlen, hp]; rfl)
end
end Go.Proofs.YthcboallnbaimaaGreatDoor
namespace Go.Proofs.YthcboallnbaimaaGreatDoor
open Go Go.RowKit Go.Maps
section
variable {α : Type} {k : Nat} {enc : α → List Value}
theorem flat_set1 (hk : ∀ x, (enc x).length = k) : ∀ (l : List α) (j r : Nat) (v : Value) (x : α) (hj : j < l.length), r < k → (enc (l[j])).set r v = enc x → (l.flatMap enc).set (j * k + r) v = (l.set j x).flatMap enc
 | y :: l, 0, r, v, x, _, hr, h => by
   rw [List.flatMap_cons, List.set_cons_zero, List.flatMap_cons, Nat.zero_mul, Nat.zero_add, List.set_append_left _ _ (by rw [hk]; exact hr)]
   rw [show (y :: l)[0] = y from rfl] at h
   rw [h]
 | y :: l, j + 1, r, v, x, hj, hr, h => by
   rw [List.flatMap_cons, List.set_cons_succ, List.flatMap_cons]
   have e : (j + 1) * k + r = (enc y).length + (j * k + r) := by rw [hk, Nat.add_mul]; omega
   rw [e, List.set_append_right _ _ (Nat.le_add_right _ _), Nat.add_sub_cancel_left, flat_set1 hk l j r v x (by simpa using hj) hr (by simpa using h)]
theorem flat_set6 (hk : ∀ x, (enc x).length = 6) (v0 v1 v2 v3 v4 v5 : Value) : ∀ (l : List α) (j : Nat) (x : α), j < l.length → enc x = [v0, v1, v2, v3, v4, v5] →
   ((((((l.flatMap enc).set (j * 6) v0).set (j * 6 + 1) v1).set (j * 6 + 2) v2).set (j * 6 + 3) v3).set (j * 6 + 4) v4).set (j * 6 + 5) v5 = (l.set j x).flatMap enc
 | y :: l, 0, x, _, h => by
   rw [List.flatMap_cons, List.set_cons_zero, List.flatMap_cons, h]
   have hy := hk y
   match enc y, hy with
   | [a, b, c, d, e, g], _ => simp
 | y :: l, j + 1, x, hj, h => by
   rw [List.flatMap_cons, List.set_cons_succ, List.flatMap_cons, ← flat_set6 hk v0 v1 v2 v3 v4 v5 l j x (by simpa using hj) h]
   have e : (j + 1) * 6 = (enc y).length + j * 6 := by rw [hk, Nat.add_mul]; omega
   rw [e]
   simp only [List.set_append_right _ _ (Nat.le_add_right _ _), Nat.add_assoc, Nat.add_sub_cancel_left]
variable {B : Nat} {W : World} {t : TypeId} {g n c : Nat} {l : List α}
theorem OwnL.frozen (h : OwnL B W t k enc (.slice (some ⟨g, 0, none⟩) n c) l) (j : Nat) : W.frozen? ⟨g, j, none⟩ = false := by
 have hn := h.len
 subst hn
 exact World.ownsRow.frozenAt h j
/-- One cell of an element. -/
theorem OwnL.put1 (h : OwnL B W t k enc (.slice (some ⟨g, 0, none⟩) n c) l) (hk : ∀ x, (enc x).length = k) {j r : Nat} {v : Value} {x : α} (hj : j < l.length) (hr : r < k) (hx : (enc (l[j])).set r v = enc x) :
   OwnL B (W.setCell ⟨g, j * k + r, none⟩ v) t k enc (.slice (some ⟨g, 0, none⟩) n c) (l.set j x) := by
 have hn := h.len
 subst hn
 have h1 := (World.ownsRow.stored h (j * k + r) v).1
 unfold OwnL
 rw [List.length_set, ← flat_set1 hk l j r v x hj hr hx]
 exact h1
/-- All six cells of an element. -/
theorem OwnL.put6 {enc : α → List Value} (h : OwnL B W t 6 enc (.slice (some ⟨g, 0, none⟩) n c) l) (hk : ∀ x, (enc x).length = 6) {j : Nat} {x : α} {v0 v1 v2 v3 v4 v5 : Value} (hj : j < l.length) (hx : enc x = [v0, v1, v2, v3, v4, v5]) :
   OwnL B ((((((W.setCell ⟨g, j * 6, none⟩ v0).setCell ⟨g, j * 6 + 1, none⟩ v1).setCell ⟨g, j * 6 + 2, none⟩ v2).setCell ⟨g, j * 6 + 3, none⟩ v3).setCell ⟨g, j * 6 + 4, none⟩ v4).setCell ⟨g, j * 6 + 5, none⟩ v5) t 6 enc (.slice (some ⟨g, 0, none⟩) n c) (l.set j x) := by
 have hn := h.len
 subst hn
 unfold OwnL
 rw [List.length_set, ← flat_set6 hk v0 v1 v2 v3 v4 v5 l j x hj hx]
 exact (World.ownsRow.stored (World.ownsRow.stored (World.ownsRow.stored (World.ownsRow.stored (World.ownsRow.stored (World.ownsRow.stored h _ v0).1 _ v1).1 _ v2).1 _ v3).1 _ v4).1 _ v5).1
end
theorem clone_expr_nil (w : World) (c : Nat) : Calls Tryz.prog 112 #[.slice none 0 c] w fun o w' => o = .returned (.slice none 0 0) ∧ w' = w := by
 have q22 : ∀ (w : World) (a : Option Addr) (n c n' c' : Nat), (binOp .eql 32 (.slice a n c) (.slice none n' c')).run Tryz.prog w = .ok (.bool a.isNone) w := fun w a n c n' c' => Lib.run_eql_slice_nil w _ _ a n c n' c' Tryz.underlying32
 go_enter Tryz.func112, Tryz.ntmps112
 go_wp2_with fail
 go_ret
 exact ⟨rfl, rfl⟩
theorem clone_stmt_nil (w : World) (c : Nat) : Calls Tryz.prog 26 #[.slice none 0 c] w fun o w' => o = .returned (.slice none 0 0) ∧ w' = w := by
 have q22 : ∀ (w : World) (a : Option Addr) (n c n' c' : Nat), (binOp .eql 37 (.slice a n c) (.slice none n' c')).run Tryz.prog w = .ok (.bool a.isNone) w := fun w a n c n' c' => Lib.run_eql_slice_nil w _ _ a n c n' c' Tryz.underlying37
 go_enter Tryz.func26, Tryz.ntmps26
 go_wp2_with fail
 go_ret
 exact ⟨rfl, rfl⟩
theorem row_none {α : Type} {B k : Nat} {W : World} {sp : Sp} {enc : α → List Value} {l : List α} (h : RowOf B W sp k enc l) (hat : sp.at_ = none) : l = [] := by
 cases l with
 | nil => rfl
 | cons x l => obtain ⟨b, off, e, _⟩ := h.row (by simp); rw [hat] at e; cases e
/-- The clone's place is one of its own; a clone of nil is nil. -/
theorem clone_expr' (w : World) (sp : Sp) (l : List ExprV) (B : Nat) (h : RowOf B w sp 6 ExprV.cells l) (hl : l.length ≤ 1000000) :
   Calls Tryz.prog 112 #[.slice sp.at_ l.length sp.cap] w fun o w' => (∃ sp' : Sp, o = .returned (.slice sp'.at_ l.length sp'.cap) ∧ OwnL w.heap.size w' 34 6 ExprV.cells (.slice sp'.at_ l.length sp'.cap) l ∧ (sp.at_ = none → sp' = Sp.none)) ∧ Below w.heap.size w w' := by
 cases hat : sp.at_ with
 | none =>
   have h0 := row_none h hat
   subst h0
   refine (clone_expr_nil w sp.cap).mono ?_
   rintro o w' ⟨rfl, rfl⟩
   exact ⟨⟨Sp.none, rfl, OwnL.nil, fun _ => rfl⟩, Below.refl _ _⟩
 | some a =>
   have h1 := clone_expr w sp l B h hl
   rw [hat] at h1
   refine h1.mono ?_
   rintro o w' ⟨⟨v, rfl, hv⟩, hb⟩
   obtain ⟨A, c, rfl⟩ := hv.form
   exact ⟨⟨⟨A, c⟩, rfl, hv, fun h => by cases h⟩, hb⟩
theorem clone_stmt' (w : World) (sp : Sp) (l : List StmtV) (B : Nat) (h : RowOf B w sp 6 StmtV.cells l) (hl : l.length ≤ 1000000) :
   Calls Tryz.prog 26 #[.slice sp.at_ l.length sp.cap] w fun o w' => (∃ sp' : Sp, o = .returned (.slice sp'.at_ l.length sp'.cap) ∧ OwnL w.heap.size w' 49 6 StmtV.cells (.slice sp'.at_ l.length sp'.cap) l ∧ (sp.at_ = none → sp' = Sp.none)) ∧ Below w.heap.size w w' := by
 cases hat : sp.at_ with
 | none =>
   have h0 := row_none h hat
   subst h0
   refine (clone_stmt_nil w sp.cap).mono ?_
   rintro o w' ⟨rfl, rfl⟩
   exact ⟨⟨Sp.none, rfl, OwnL.nil, fun _ => rfl⟩, Below.refl _ _⟩
 | some a =>
   have h1 := clone_stmt w sp l B h hl
   rw [hat] at h1
   refine h1.mono ?_
   rintro o w' ⟨⟨v, rfl, hv⟩, hb⟩
   obtain ⟨A, c, rfl⟩ := hv.form
   exact ⟨⟨⟨A, c⟩, rfl, hv, fun h => by cases h⟩, hb⟩
end Go.Proofs.YthcboallnbaimaaGreatDoor
namespace Go.Proofs.YthcboallnbaimaaGreatDoor
open Go Go.RowKit Go.Maps
structure RxS (f t : ByteArray) (w W : World) (e : ExprV) (sa : Option Addr) (sc lo k : Nat) (cur : List ExprV) : Prop where
 low : Below w.heap.size w W
 hlo : w.heap.size + 2 ≤ lo
 loW : lo ≤ W.heap.size
 at_ : ∀ a, sa = some a → a.block < lo
 box : W.heap[w.heap.size]? = some (.cells #[.int .u8 e.kind, .int .u8 e.op, .int .u32 e.value, .int .i64 e.width, .string (renN f t e.name), .slice sa e.subs.length sc] 34 (0, 0))
 res : W.heap[w.heap.size + 1]? = some (.cells #[.int .u8 0, .int .u8 0, .int .u32 0, .int .i64 0, .string ⟨#[]⟩, .slice none 0 0] 34 (0, 0))
 own : OwnL (w.heap.size + 2) W 34 6 ExprV.cells (.slice sa e.subs.length sc) cur
 len : cur.length = e.subs.length
 nil : e.sp.at_ = none → (⟨sa, sc⟩ : Sp) = Sp.none
 done : ∀ i (h : i < e.subs.length) (h' : i < cur.length), i < k → RenX f t e.subs[i] cur[i] ∧ NewX lo W cur[i]
 todo : ∀ i (h : i < e.subs.length) (h' : i < cur.length), k ≤ i → cur[i] = e.subs[i]
section
variable {f t : ByteArray} {w W W' : World} {e : ExprV} {sa : Option Addr} {sc lo k : Nat} {cur : List ExprV}
theorem NewX.lowerR {lo : Nat} {e : ExprV} (h : NewX lo W e) (hb : Below W.heap.size W W') : NewX lo W' e :=
 (RdX.cells h fun _ _ hp hc => lowm_cell.2 ⟨(lowm_cell.1 hc).1, (hb.cell hp).trans (lowm_cell.1 hc).2⟩).more hb.size
theorem RxS.on (h : RxS f t w W e sa sc lo k cur) (hb : Below W.heap.size W W') : RxS f t w W' e sa sc lo k cur :=
 ⟨h.low.trans (hb.mono h.low.size), h.hlo, Nat.le_trans h.loW hb.size, h.at_, (hb.block _ (Array.getElem?_eq_some_iff.1 h.box).1).trans h.box, (hb.block _ (Array.getElem?_eq_some_iff.1 h.res).1).trans h.res, h.own.on hb, h.len, h.nil, fun i h1 h2 h3 => ⟨(h.done i h1 h2 h3).1, (h.done i h1 h2 h3).2.lowerR hb⟩, h.todo⟩
def six (W : World) (g o : Nat) (v0 v1 v2 v3 v4 v5 : Value) : World := (((((W.setCell ⟨g, o, none⟩ v0).setCell ⟨g, o + 1, none⟩ v1).setCell ⟨g, o + 2, none⟩ v2).setCell ⟨g, o + 3, none⟩ v3).setCell ⟨g, o + 4, none⟩ v4).setCell ⟨g, o + 5, none⟩ v5
theorem six_size (W : World) (g o : Nat) (v0 v1 v2 v3 v4 v5 : Value) : (six W g o v0 v1 v2 v3 v4 v5).heap.size = W.heap.size := by simp [six]
theorem six_heap (W : World) (g o : Nat) (v0 v1 v2 v3 v4 v5 : Value) {b : Nat} (h : b ≠ g) : (six W g o v0 v1 v2 v3 v4 v5).heap[b]? = W.heap[b]? := by
 unfold six
 rw [Below.heap_setCell _ _ _ _ h, Below.heap_setCell _ _ _ _ h, Below.heap_setCell _ _ _ _ h, Below.heap_setCell _ _ _ _ h, Below.heap_setCell _ _ _ _ h, Below.heap_setCell _ _ _ _ h]
theorem six_own {W : World} {g : Nat} {ty : TypeId} {a0 a1 a2 a3 a4 a5 : Value} (h : W.heap[g]? = some (.cells #[a0, a1, a2, a3, a4, a5] ty (0, 0))) (v0 v1 v2 v3 v4 v5 : Value) : (six W g 0 v0 v1 v2 v3 v4 v5).heap[g]? = some (.cells #[v0, v1, v2, v3, v4, v5] ty (0, 0)) := by
 simp [six, World.setCell, Array.getElem?_modify, h]
theorem six_below {B : Nat} {w W : World} (h : Below B w W) {g : Nat} (hg : B ≤ g) (o : Nat) (v0 v1 v2 v3 v4 v5 : Value) : Below B w (six W g o v0 v1 v2 v3 v4 v5) :=
 (((((h.setCell (p := ⟨g, o, none⟩) hg _).setCell (p := ⟨g, o + 1, none⟩) hg _).setCell (p := ⟨g, o + 2, none⟩) hg _).setCell (p := ⟨g, o + 3, none⟩) hg _).setCell (p := ⟨g, o + 4, none⟩) hg _).setCell (p := ⟨g, o + 5, none⟩) hg _
theorem six_new {lo g : Nat} {e : ExprV} (h : NewX lo W e) (hg : g < lo) (o : Nat) (v0 v1 v2 v3 v4 v5 : Value) : NewX lo (six W g o v0 v1 v2 v3 v4 v5) e := by
 unfold NewX
 rw [six_size]
 refine RdX.cells h fun p u _ hc => ?_
 obtain ⟨h1, h2⟩ := lowm_cell.1 hc
 exact lowm_cell.2 ⟨h1, (World.cell?_of_block (six_heap W g o v0 v1 v2 v3 v4 v5 (by omega))).trans h2⟩
theorem RxS.put {g : Nat} (h : RxS f t w W e (some ⟨g, 0, none⟩) sc lo k cur) (hk : k < e.subs.length) {x : ExprV} (hr : RenX f t e.subs[k] x) (hx : NewX lo W x) (hg : w.heap.size + 2 ≤ g) :
   RxS f t w (six W g (k * 6) (.int .u8 x.kind) (.int .u8 x.op) (.int .u32 x.value) (.int .i64 x.width) (.string x.name) (.slice x.sp.at_ x.subs.length x.sp.cap)) e (some ⟨g, 0, none⟩) sc lo (k + 1) (cur.set k x) := by
 have hgl := h.at_ _ rfl
 refine ⟨six_below h.low (by omega) _ _ _ _ _ _ _, h.hlo, by rw [six_size]; exact h.loW, h.at_, (six_heap _ _ _ _ _ _ _ _ _ (by omega)).trans h.box, (six_heap _ _ _ _ _ _ _ _ _ (by omega)).trans h.res, h.own.put6 (fun _ => rfl) (by rw [h.len]; exact hk) rfl, by rw [List.length_set]; exact h.len, h.nil, fun i h1 h2 h3 => ?_, fun i h1 h2 h3 => ?_⟩
 · by_cases hi : i = k
   · subst hi
     rw [List.getElem_set_self]
     exact ⟨hr, six_new hx hgl _ _ _ _ _ _ _⟩
   · rw [List.getElem_set_ne (Ne.symm hi)]
     have := h.done i h1 (by rw [h.len]; exact h1) (by omega)
     exact ⟨this.1, six_new this.2 hgl _ _ _ _ _ _ _⟩
 · rw [List.getElem_set_ne (by omega)]
   exact h.todo i h1 (by rw [h.len]; exact h1) (by omega)
def resX (f t : ByteArray) (e : ExprV) (sa : Option Addr) (sc : Nat) (cur : List ExprV) : ExprV := .mk e.kind e.op e.value e.width (renN f t e.name) ⟨sa, sc⟩ cur
theorem OwnL.low {α : Type} {enc : α → List Value} {B B2 kk n c : Nat} {W : World} {ty : TypeId} {A : Option Addr} {l : List α} (h : OwnL B W ty kk enc (.slice A n c) l) (hk : ∀ x, (enc x).length = kk) (hl : l.length ≤ 2199023255552) (hB : B2 ≤ B) : RowOf W.heap.size (lowm B2 W) ⟨A, c⟩ kk enc l := by
 obtain ⟨sp, e, hr, ha⟩ := h.row hk hl
 obtain ⟨A2, c2⟩ := sp
 have e2 := Value.slice.inj e
 obtain ⟨rfl, _, rfl⟩ := e2
 cases A with
 | none => exact ⟨hr.cap, hr.big, hr.few, fun h0 => by obtain ⟨b, off, e, _⟩ := hr.row h0; cases e⟩
 | some a =>
   obtain ⟨h1, h2, h3⟩ := ha a rfl
   obtain ⟨b, off, sp⟩ := a
   dsimp only at h1 h2 h3
   subst h2
   subst h3
   exact hr.low (by omega)
theorem RxS.fin (h : RxS f t w W e sa sc lo e.subs.length cur) (hrd : RdX w.heap.size w e) (ht : t.size ≤ maxLen) :
   RenX f t e (resX f t e sa sc cur) ∧ NewX w.heap.size (six W (w.heap.size + 1) 0 (.int .u8 e.kind) (.int .u8 e.op) (.int .u32 e.value) (.int .i64 e.width) (.string (renN f t e.name)) (.slice sa e.subs.length sc)) (resX f t e sa sc cur) ∧
   Below w.heap.size w (six W (w.heap.size + 1) 0 (.int .u8 e.kind) (.int .u8 e.op) (.int .u32 e.value) (.int .i64 e.width) (.string (renN f t e.name)) (.slice sa e.subs.length sc)) := by
 have hn : ∀ s ∈ cur, RdX W.heap.size (lowm lo W) s := fun s hs => by
   obtain ⟨i, hi, rfl⟩ := List.getElem_of_mem hs
   have hi2 : i < e.subs.length := by rw [← h.len]; exact hi
   exact (h.done i hi2 hi hi2).2
 refine ⟨?_, ?_, six_below h.low (by omega) _ _ _ _ _ _ _⟩
 · obtain ⟨k0, o0, v0, w0, nm0, sp0, l0⟩ := e
   exact .mk h.len h.nil fun i h1 h2 => (h.done i h1 h2 h1).1
 · have hrow := h.own
   have hlo := h.hlo
   unfold NewX
   rw [six_size]
   obtain ⟨k0, o0, v0, w0, n0⟩ := (match hrd with | .mk _ a b c d e _ _ => ⟨a, b, c, d, e⟩ : _ ∧ _ ∧ _ ∧ _ ∧ _)
   have hfew : cur.length ≤ 2199023255552 := by rw [h.len]; exact hrd.row.few
   have hcells : ∀ (lo' : Nat), w.heap.size + 2 ≤ lo' → ∀ p u, p.block < W.heap.size → (lowm lo' W).cell? p = some u → (lowm w.heap.size (six W (w.heap.size + 1) 0 (.int .u8 e.kind) (.int .u8 e.op) (.int .u32 e.value) (.int .i64 e.width) (.string (renN f t e.name)) (.slice sa e.subs.length sc))).cell? p = some u := fun lo' hlo' p u _ hc => by
     obtain ⟨h1, h2⟩ := lowm_cell.1 hc
     exact lowm_cell.2 ⟨by omega, (World.cell?_of_block (six_heap _ _ _ _ _ _ _ _ _ (by omega))).trans h2⟩
   refine .mk _ k0 o0 v0 w0 ?_ ((h.own.low (B2 := w.heap.size + 2) (fun _ => rfl) hfew (Nat.le_refl _)).cells (hcells _ (Nat.le_refl _))) fun s hs => (hn s hs).cells (hcells _ hlo)
   show (renN f t e.name).size ≤ maxLen
   unfold renN
   split
   · exact ht
   · exact n0
end
theorem exprX_size (a b c d : Int) (s : ByteArray) (x : Value) : (Tryz.prog.info? 34).map (·.size) = some (#[Value.int .u8 a, .int .u8 b, .int .u32 c, .int .i64 d, .string s, x] : Array Value).size := by kernel_rfl
/-- The contract. -/
def RenOk (f t : ByteArray) (n0 : Nat) (W0 : World) (e : ExprV) : Prop := ∀ W, Below n0 W0 W → n0 ≤ W.heap.size →
 Calls Tryz.prog 73 #[.agg #[.int .u8 e.kind, .int .u8 e.op, .int .u32 e.value, .int .i64 e.width, .string e.name, .slice e.sp.at_ e.subs.length e.sp.cap], .string f, .string t] W fun o w' => ∃ e' : ExprV, o = .returned (.agg #[.int .u8 e'.kind, .int .u8 e'.op, .int .u32 e'.value, .int .i64 e'.width, .string e'.name, .slice e'.sp.at_ e'.subs.length e'.sp.cap]) ∧ RenX f t e e' ∧ NewX W.heap.size w' e' ∧ Below W.heap.size W w'
set_option maxRecDepth 1000000 in
set_option maxHeartbeats 8000000 in
theorem ren_step (f t : ByteArray) (ht : t.size ≤ maxLen) (n0 : Nat) (W0 : World) (e : ExprV) (hrd : RdX n0 W0 e) (hfew : e.subs.length ≤ 1000000) (ih : ∀ s, s ∈ e.subs → RenOk f t n0 W0 s) : RenOk f t n0 W0 e := by
 intro w hw0 hn0
 have hr : RdX w.heap.size w e := (hrd.stays hw0).more hn0
 have HRD := Lib.hid hr
 have HIH := Lib.hid fun (i : Nat) (hi : i < e.subs.length) (W : World) (hW : Below w.heap.size w W) => ih _ (List.getElem_mem hi) W (hw0.trans (hW.mono hn0)) (Nat.le_trans hn0 hW.size)
 have HFEW := Lib.hid hfew
 obtain ⟨hkd, hop, hvl, hwd, hnm⟩ := (match hr with | .mk _ a b c d e _ _ => ⟨a, b, c, d, e⟩ : _ ∧ _ ∧ _ ∧ _ ∧ _)
 have hcap := hr.row.cap
 have hbig := hr.row.big
 clear hrd hw0 ih hfew hr
 have HFIN := Lib.hid (fun (W : World) (sa : Option Addr) (sc lo : Nat) (cur : List ExprV) (h : RxS f t w W e sa sc lo e.subs.length cur) => h.fin HRD.out ht)
 obtain ⟨nm', hnm'⟩ : ∃ s, renN f t e.name = s := ⟨_, rfl⟩
 have HNM := Lib.hid hnm'
 have hb0 := (Below.refl w.heap.size w).alloc (Nat.le_refl _) (.cells #[.int .u8 e.kind, .int .u8 e.op, .int .u32 e.value, .int .i64 e.width, .string e.name, .slice e.sp.at_ e.subs.length e.sp.cap] 34)
 go_enter Tryz.func73, Tryz.ntmps73
 by_cases hnf : e.name = f
 · have hd : (e.name.toList == f.toList) = true := by simp [hnf]
   have e2 : t = nm' := by rw [← hnm']; unfold renN; rw [if_pos hnf]
   subst e2
   clear hnf hnm'
   go_upto_region 3 with fail
   obtain ⟨hx2, hz2, hs2, hb2⟩ := alloc2 w (.cells #[.int .u8 e.kind, .int .u8 e.op, .int .u32 e.value, .int .i64 e.width, .string t, .slice e.sp.at_ e.subs.length e.sp.cap] 34) (.cells #[.int .u8 0, .int .u8 0, .int .u32 0, .int .i64 0, .string ⟨#[]⟩, .slice none 0 0] 34)
   generalize (w.alloc (.cells #[.int .u8 e.kind, .int .u8 e.op, .int .u32 e.value, .int .i64 e.width, .string t, .slice e.sp.at_ e.subs.length e.sp.cap] 34)).alloc (.cells #[.int .u8 0, .int .u8 0, .int .u32 0, .int .i64 0, .string ⟨#[]⟩, .slice none 0 0] 34) = W2 at *
   obtain ⟨x0, x1, x2, x3, x4, x5⟩ := six_cells hx2
   have HX2 := Lib.hid hx2
   have HZ2 := Lib.hid hz2
   have HB2 := Lib.hid hb2
   have HROW := Lib.hid (RowOf.more (RowOf.below HRD.out.row hb2) hb2.size)
   clear hd hx2 hz2 hb2 hb0 x0 x1 x2 x3 x4 hcap hbig
   go_wp2_with fail
   refine (clone_expr' W2 e.sp e.subs W2.heap.size HROW.out HFEW.out).mono ?_
   clear x5 HROW
   rintro o W3 ⟨⟨⟨sa, sc⟩, rfl, hown, hnil⟩, hb3⟩
   have hx3 := (hb3.block _ (Array.getElem?_eq_some_iff.1 HX2.out).1).trans HX2.out
   have hz3 := (hb3.block _ (Array.getElem?_eq_some_iff.1 HZ2.out).1).trans HZ2.out
   have hl3 := (Array.getElem?_eq_some_iff.1 hx3).1
   have hb3w := HB2.out.trans (hb3.mono HB2.out.size)
   have x5 : W3.cell? ⟨w.heap.size, 5, none⟩ = some (.slice e.sp.at_ e.subs.length e.sp.cap) := (six_cells hx3).2.2.2.2.2
   have f5 : W3.frozen? ⟨w.heap.size, 5, none⟩ = false := by simp [World.frozen?, hx3]
   have hst : RxS f t w (W3.setCell ⟨w.heap.size, 5, none⟩ (.slice sa e.subs.length sc)) e sa sc W3.heap.size 0 e.subs := by
     refine ⟨hb3w.setCell (p := ⟨w.heap.size, 5, none⟩) (Nat.le_refl _) _, by have := hb3.size; omega, by simp, fun a ha => ?_, ?_, (Below.heap_setCell _ _ _ _ (by simp)).trans hz3, (hown.less (by omega)).kept fun g _ _ hg _ => Below.heap_setCell _ _ _ _ (by show g ≠ w.heap.size; omega), rfl, hnil, fun i _ _ h => absurd h (Nat.not_lt_zero _), fun i _ _ _ => rfl⟩
     · subst ha
       exact (World.ownsRow.lt hown _ rfl).2
     · rw [World.setCell, Array.getElem?_modify, if_pos rfl, hx3, HNM.out]
       rfl
   have HST := Lib.hid hst
   clear hx3 hz3 hl3 hb3w hst hown hnil hb3 HX2 HZ2 HB2
   go_upto_region 5 with fail
   generalize W3.heap.size = lo at *
   generalize W3.setCell ⟨w.heap.size, 5, none⟩ (.slice sa e.subs.length sc) = W4 at *
   clear x5 f5
   go_loopw [22] (fun s22 wr => ∃ k cur, k ≤ e.subs.length ∧ s22 = .int .i64 (k : Nat) ∧ RxS f t w wr e sa sc lo k cur) (fun s22 _ => e.subs.length - (intOf s22).toNat)
   case atStart => exact ⟨0, e.subs, Nat.zero_le _, rfl, HST.out⟩
   case round =>
     obtain ⟨k, cur, hk, rfl, hx⟩ := hrel
     clear HST
     by_cases hlt : k < e.subs.length
     · as_aux_lemma =>
       obtain ⟨g, hA, hg2, hgl, hc⟩ := hx.own.cell (fun _ => rfl) (j := k) (by rw [hx.len]; exact hlt)
       subst hA
       rw [hx.todo k hlt (by rw [hx.len]; exact hlt) (Nat.le_refl _)] at hc
       obtain ⟨x, hxe⟩ : ∃ x, e.subs[k] = x := ⟨_, rfl⟩
       rw [hxe] at hc
       have HXE := Lib.hid hxe
       have HCALL := Lib.hid (HIH.out k hlt)
       rw [hxe] at HCALL
       clear hxe
       have c0 : wr.cell? ⟨g, k * 6, none⟩ = some (.int .u8 x.kind) := hc 0 _ rfl
       have c1 : wr.cell? ⟨g, k * 6 + 1, none⟩ = some (.int .u8 x.op) := hc 1 _ rfl
       have c2 : wr.cell? ⟨g, k * 6 + 2, none⟩ = some (.int .u32 x.value) := hc 2 _ rfl
       have c3 : wr.cell? ⟨g, k * 6 + 3, none⟩ = some (.int .i64 x.width) := hc 3 _ rfl
       have c4 : wr.cell? ⟨g, k * 6 + 4, none⟩ = some (.string x.name) := hc 4 _ rfl
       have c5 : wr.cell? ⟨g, k * 6 + 5, none⟩ = some (.slice x.sp.at_ x.subs.length x.sp.cap) := hc 5 _ rfl
       have HX := Lib.hid hx
       have hbA := (Below.refl wr.heap.size wr).alloc (Nat.le_refl _) (.cells #[.int .u8 x.kind, .int .u8 x.op, .int .u32 x.value, .int .i64 x.width, .string x.name, .slice x.sp.at_ x.subs.length x.sp.cap] 34)
       have HX5 := Lib.hid (hx.on hbA)
       have HA5 := Lib.hid (World.alloc_heap_new wr (.cells #[.int .u8 x.kind, .int .u8 x.op, .int .u32 x.value, .int .i64 x.width, .string x.name, .slice x.sp.at_ x.subs.length x.sp.cap] 34))
       clear hc hx
       go_upto_region 7 with fail
       generalize wr.alloc (.cells #[.int .u8 x.kind, .int .u8 x.op, .int .u32 x.value, .int .i64 x.width, .string x.name, .slice x.sp.at_ x.subs.length x.sp.cap] 34) = W5 at *
       have x5 : W5.cell? ⟨w.heap.size, 5, none⟩ = some (.slice (some ⟨g, 0, none⟩) e.subs.length sc) := (six_cells HX5.out.box).2.2.2.2.2
       obtain ⟨a0, a1, a2, a3, a4, a5⟩ := six_cells HA5.out
       have HX5d := Lib.hid (HX5.out.on (Below.refl _ _).drew)
       clear c0 c1 c2 c3 c4 c5 HX HX5 HA5 hbA
       go_region_with (go_at_call 73; refine (HCALL.out W5.drew HX5d.out.low).mono ?_; rintro o W6 ⟨e1, rfl, hren, hnew, hb⟩; have HX6 := Lib.hid (HX5d.out.on hb); have HR6 := Lib.hid hren; have HN6 := Lib.hid (hnew.less HX5d.out.loW); have x5b := (six_cells HX6.out.box).2.2.2.2.2; obtain ⟨g', hA', _, _, hc⟩ := HX6.out.own.cell (fun _ => rfl) (j := k) (by rw [HX6.out.len]; exact hlt); cases hA'; have y0 := hc 0 _ rfl; rw [Nat.add_zero] at y0; have y1 := hc 1 _ rfl; have y2 := hc 2 _ rfl; have y3 := hc 3 _ rfl; have y4 := hc 4 _ rfl; have y5 := hc 5 _ rfl; have fz := fun j => HX6.out.own.frozen j; have f0 := fz (k * 6); have f1 := fz (k * 6 + 1); have f2 := fz (k * 6 + 2); have f3 := fz (k * 6 + 3); have f4 := fz (k * 6 + 4); have f5 := fz (k * 6 + 5); clear hren hnew hb hc fz)
       all_goals
         go_wp2_with fail
         have hw : wrap64 ((k : Int) + 1) = (k : Int) + 1 := IntWalk.wrap64_in _ ⟨by omega, by have := HFEW.out; omega⟩
         rw [hw]
         clear hw
         have hput := HX6.out.put hlt (by rw [HXE.out]; exact HR6.out) HN6.out hg2
         have hms : e.subs.length - ((k : Int) + 1).toNat < e.subs.length - (k : Int).toNat := by clear hput; omega
         exact ⟨⟨k + 1, cur.set k e1, hlt, rfl, hput⟩, hms⟩
     · as_aux_lemma =>
       obtain rfl : k = e.subs.length := by omega
       clear hlt hk
       have HX := Lib.hid hx
       obtain ⟨x0, x1, x2, x3, x4, x5⟩ := six_cells hx.box
       obtain ⟨z0, z1, z2, z3, z4, z5⟩ := six_cells hx.res
       have fz : ∀ j, wr.frozen? ⟨w.heap.size + 1, j, none⟩ = false := fun j => by simp [World.frozen?, hx.res]
       have f0 := fz 0
       have f1 := fz 1
       have f2 := fz 2
       have f3 := fz 3
       have f4 := fz 4
       have f5 := fz 5
       clear hx fz
       go_wp2_with fail
       exact bodyPost_ret (results_cell_row rfl _ _ (w.heap.size + 1) 34 _ (0, 0) _ rfl (six_own HX.out.res _ _ _ _ _ _) Tryz.underlying34 rfl (exprX_size _ _ _ _ _ _)) rfl ⟨resX f t e sa sc cur, by have hl : (resX f t e sa sc cur).subs.length = e.subs.length := HX.out.len; rw [hl]; rfl, (HFIN.out wr sa sc lo cur HX.out).1, (HFIN.out wr sa sc lo cur HX.out).2.1, (HFIN.out wr sa sc lo cur HX.out).2.2⟩
 · have hd : (e.name.toList == f.toList) = false := beq_eq_false_iff_ne.2 fun e => hnf (toList_inj e)
   have e2 : e.name = nm' := by rw [← hnm']; unfold renN; rw [if_neg hnf]
   subst e2
   clear hnf hnm'
   go_upto_region 3 with fail
   obtain ⟨hx2, hz2, hs2, hb2⟩ := alloc2 w (.cells #[.int .u8 e.kind, .int .u8 e.op, .int .u32 e.value, .int .i64 e.width, .string e.name, .slice e.sp.at_ e.subs.length e.sp.cap] 34) (.cells #[.int .u8 0, .int .u8 0, .int .u32 0, .int .i64 0, .string ⟨#[]⟩, .slice none 0 0] 34)
   generalize (w.alloc (.cells #[.int .u8 e.kind, .int .u8 e.op, .int .u32 e.value, .int .i64 e.width, .string e.name, .slice e.sp.at_ e.subs.length e.sp.cap] 34)).alloc (.cells #[.int .u8 0, .int .u8 0, .int .u32 0, .int .i64 0, .string ⟨#[]⟩, .slice none 0 0] 34) = W2 at *
   obtain ⟨x0, x1, x2, x3, x4, x5⟩ := six_cells hx2
   have HX2 := Lib.hid hx2
   have HZ2 := Lib.hid hz2
   have HB2 := Lib.hid hb2
   have HROW := Lib.hid (RowOf.more (RowOf.below HRD.out.row hb2) hb2.size)
   clear hd hx2 hz2 hb2 hb0 x0 x1 x2 x3 x4 hcap hbig
   go_wp2_with fail
   refine (clone_expr' W2 e.sp e.subs W2.heap.size HROW.out HFEW.out).mono ?_
   clear x5 HROW
   rintro o W3 ⟨⟨⟨sa, sc⟩, rfl, hown, hnil⟩, hb3⟩
   have hx3 := (hb3.block _ (Array.getElem?_eq_some_iff.1 HX2.out).1).trans HX2.out
   have hz3 := (hb3.block _ (Array.getElem?_eq_some_iff.1 HZ2.out).1).trans HZ2.out
   have hl3 := (Array.getElem?_eq_some_iff.1 hx3).1
   have hb3w := HB2.out.trans (hb3.mono HB2.out.size)
   have x5 : W3.cell? ⟨w.heap.size, 5, none⟩ = some (.slice e.sp.at_ e.subs.length e.sp.cap) := (six_cells hx3).2.2.2.2.2
   have f5 : W3.frozen? ⟨w.heap.size, 5, none⟩ = false := by simp [World.frozen?, hx3]
   have hst : RxS f t w (W3.setCell ⟨w.heap.size, 5, none⟩ (.slice sa e.subs.length sc)) e sa sc W3.heap.size 0 e.subs := by
     refine ⟨hb3w.setCell (p := ⟨w.heap.size, 5, none⟩) (Nat.le_refl _) _, by have := hb3.size; omega, by simp, fun a ha => ?_, ?_, (Below.heap_setCell _ _ _ _ (by simp)).trans hz3, (hown.less (by omega)).kept fun g _ _ hg _ => Below.heap_setCell _ _ _ _ (by show g ≠ w.heap.size; omega), rfl, hnil, fun i _ _ h => absurd h (Nat.not_lt_zero _), fun i _ _ _ => rfl⟩
     · subst ha
       exact (World.ownsRow.lt hown _ rfl).2
     · rw [World.setCell, Array.getElem?_modify, if_pos rfl, hx3, HNM.out]
       rfl
   have HST := Lib.hid hst
   clear hx3 hz3 hl3 hb3w hst hown hnil hb3 HX2 HZ2 HB2
   go_upto_region 5 with fail
   generalize W3.heap.size = lo at *
   generalize W3.setCell ⟨w.heap.size, 5, none⟩ (.slice sa e.subs.length sc) = W4 at *
   clear x5 f5
   go_loopw [22] (fun s22 wr => ∃ k cur, k ≤ e.subs.length ∧ s22 = .int .i64 (k : Nat) ∧ RxS f t w wr e sa sc lo k cur) (fun s22 _ => e.subs.length - (intOf s22).toNat)
   case atStart => exact ⟨0, e.subs, Nat.zero_le _, rfl, HST.out⟩
   case round =>
     obtain ⟨k, cur, hk, rfl, hx⟩ := hrel
     clear HST
     by_cases hlt : k < e.subs.length
     · as_aux_lemma =>
       obtain ⟨g, hA, hg2, hgl, hc⟩ := hx.own.cell (fun _ => rfl) (j := k) (by rw [hx.len]; exact hlt)
       subst hA
       rw [hx.todo k hlt (by rw [hx.len]; exact hlt) (Nat.le_refl _)] at hc
       obtain ⟨x, hxe⟩ : ∃ x, e.subs[k] = x := ⟨_, rfl⟩
       rw [hxe] at hc
       have HXE := Lib.hid hxe
       have HCALL := Lib.hid (HIH.out k hlt)
       rw [hxe] at HCALL
       clear hxe
       have c0 : wr.cell? ⟨g, k * 6, none⟩ = some (.int .u8 x.kind) := hc 0 _ rfl
       have c1 : wr.cell? ⟨g, k * 6 + 1, none⟩ = some (.int .u8 x.op) := hc 1 _ rfl
       have c2 : wr.cell? ⟨g, k * 6 + 2, none⟩ = some (.int .u32 x.value) := hc 2 _ rfl
       have c3 : wr.cell? ⟨g, k * 6 + 3, none⟩ = some (.int .i64 x.width) := hc 3 _ rfl
       have c4 : wr.cell? ⟨g, k * 6 + 4, none⟩ = some (.string x.name) := hc 4 _ rfl
       have c5 : wr.cell? ⟨g, k * 6 + 5, none⟩ = some (.slice x.sp.at_ x.subs.length x.sp.cap) := hc 5 _ rfl
       have HX := Lib.hid hx
       have hbA := (Below.refl wr.heap.size wr).alloc (Nat.le_refl _) (.cells #[.int .u8 x.kind, .int .u8 x.op, .int .u32 x.value, .int .i64 x.width, .string x.name, .slice x.sp.at_ x.subs.length x.sp.cap] 34)
       have HX5 := Lib.hid (hx.on hbA)
       have HA5 := Lib.hid (World.alloc_heap_new wr (.cells #[.int .u8 x.kind, .int .u8 x.op, .int .u32 x.value, .int .i64 x.width, .string x.name, .slice x.sp.at_ x.subs.length x.sp.cap] 34))
       clear hc hx
       go_upto_region 7 with fail
       generalize wr.alloc (.cells #[.int .u8 x.kind, .int .u8 x.op, .int .u32 x.value, .int .i64 x.width, .string x.name, .slice x.sp.at_ x.subs.length x.sp.cap] 34) = W5 at *
       have x5 : W5.cell? ⟨w.heap.size, 5, none⟩ = some (.slice (some ⟨g, 0, none⟩) e.subs.length sc) := (six_cells HX5.out.box).2.2.2.2.2
       obtain ⟨a0, a1, a2, a3, a4, a5⟩ := six_cells HA5.out
       have HX5d := Lib.hid (HX5.out.on (Below.refl _ _).drew)
       clear c0 c1 c2 c3 c4 c5 HX HX5 HA5 hbA
       go_region_with (go_at_call 73; refine (HCALL.out W5.drew HX5d.out.low).mono ?_; rintro o W6 ⟨e1, rfl, hren, hnew, hb⟩; have HX6 := Lib.hid (HX5d.out.on hb); have HR6 := Lib.hid hren; have HN6 := Lib.hid (hnew.less HX5d.out.loW); have x5b := (six_cells HX6.out.box).2.2.2.2.2; obtain ⟨g', hA', _, _, hc⟩ := HX6.out.own.cell (fun _ => rfl) (j := k) (by rw [HX6.out.len]; exact hlt); cases hA'; have y0 := hc 0 _ rfl; rw [Nat.add_zero] at y0; have y1 := hc 1 _ rfl; have y2 := hc 2 _ rfl; have y3 := hc 3 _ rfl; have y4 := hc 4 _ rfl; have y5 := hc 5 _ rfl; have fz := fun j => HX6.out.own.frozen j; have f0 := fz (k * 6); have f1 := fz (k * 6 + 1); have f2 := fz (k * 6 + 2); have f3 := fz (k * 6 + 3); have f4 := fz (k * 6 + 4); have f5 := fz (k * 6 + 5); clear hren hnew hb hc fz)
       all_goals
         go_wp2_with fail
         have hw : wrap64 ((k : Int) + 1) = (k : Int) + 1 := IntWalk.wrap64_in _ ⟨by omega, by have := HFEW.out; omega⟩
         rw [hw]
         clear hw
         have hput := HX6.out.put hlt (by rw [HXE.out]; exact HR6.out) HN6.out hg2
         have hms : e.subs.length - ((k : Int) + 1).toNat < e.subs.length - (k : Int).toNat := by clear hput; omega
         exact ⟨⟨k + 1, cur.set k e1, hlt, rfl, hput⟩, hms⟩
     · as_aux_lemma =>
       obtain rfl : k = e.subs.length := by omega
       clear hlt hk
       have HX := Lib.hid hx
       obtain ⟨x0, x1, x2, x3, x4, x5⟩ := six_cells hx.box
       obtain ⟨z0, z1, z2, z3, z4, z5⟩ := six_cells hx.res
       have fz : ∀ j, wr.frozen? ⟨w.heap.size + 1, j, none⟩ = false := fun j => by simp [World.frozen?, hx.res]
       have f0 := fz 0
       have f1 := fz 1
       have f2 := fz 2
       have f3 := fz 3
       have f4 := fz 4
       have f5 := fz 5
       clear hx fz
       go_wp2_with fail
       exact bodyPost_ret (results_cell_row rfl _ _ (w.heap.size + 1) 34 _ (0, 0) _ rfl (six_own HX.out.res _ _ _ _ _ _) Tryz.underlying34 rfl (exprX_size _ _ _ _ _ _)) rfl ⟨resX f t e sa sc cur, by have hl : (resX f t e sa sc cur).subs.length = e.subs.length := HX.out.len; rw [hl]; rfl, (HFIN.out wr sa sc lo cur HX.out).1, (HFIN.out wr sa sc lo cur HX.out).2.1, (HFIN.out wr sa sc lo cur HX.out).2.2⟩
end Go.Proofs.YthcboallnbaimaaGreatDoor
