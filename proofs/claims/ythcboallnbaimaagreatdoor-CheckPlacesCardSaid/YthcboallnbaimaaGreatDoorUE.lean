/- A region that draws its order, walked by an invariant over what is done: no order is walked at all. No program in sight. A region that draws its order, whose operations each give a value, and whose last one comes behind all others: no order is walked; each operation once. No program in sight. A drawn region, guards and stores allowed: no order is walked. No program in sight. An append in a drawn region of values; a store behind all. A drawn region told operation by operation: no order is walked, and what each slot bears is found on the way. No program in sight. A frame of 171 slots, told by a function. No program in sight. CheckPlaces: its twelve wrong statements, and what is told of them. Plain Lean. CheckPlaces' appends: regions 7 and 9, no order walked. CheckPlaces' table of twelve wrong statements: region 5, no order walked. -/
import Derived.RegionTactic
import Derived.Below
import Derived.Test.YthcboallnbaimaaGreatDoorUB
import Derived.Laws.Rows
namespace Go.Proofs.YthcboallnbaimaaGreatDoor
open Go
section
variable {P : Program} {md : Region.Mode} {ops : Array Oper} {Q : Exit → Act → World → Prop}
def todoN (ops : Array Oper) (listed : Array Bool) : List Nat := (List.range ops.size).filter fun i => !listed.getD i true
theorem todo_next {listed : Array Bool} {i : Nat} (h : i ∈ todoN ops listed) : (todoN ops (listed.setIfInBounds i true)).length < (todoN ops listed).length := by
  have e : todoN ops (listed.setIfInBounds i true) = (todoN ops listed).filter fun j => decide (j ≠ i) := by
    unfold todoN
    rw [List.filter_filter]
    refine List.filter_congr fun j _ => ?_
    by_cases hj : j = i
    · subst hj
      have hlt : j < listed.size := by
        have h2 := (List.mem_filter.1 h).2
        rcases Nat.lt_or_ge j listed.size with h3 | h3
        · exact h3
        · simp [Array.getD, Nat.not_lt.2 h3] at h2
      simp [Array.getD, hlt]
    · have : (listed.setIfInBounds i true).getD j true = listed.getD j true := by
        rw [Array.getD_eq_getD_getElem?, Array.getD_eq_getD_getElem?, Array.getElem?_setIfInBounds_ne (Ne.symm hj)]
      rw [this]
      simp [hj]
  rw [e]
  exact List.length_filter_lt_length_iff_exists.2 ⟨i, h, by simp⟩
theorem ready_todo {listed : Array Bool} {i : Nat} (h : i ∈ Region.ready md ops listed) : i ∈ todoN ops listed := by
  unfold Region.ready at h
  obtain ⟨h1, h2⟩ := List.mem_filter.1 h
  rw [Bool.and_eq_true] at h2
  exact List.mem_filter.2 ⟨h1, h2.1⟩
/-- THE LAW: what holds at the beginning, and is kept by every operation that may come up, holds at the end. -/
theorem wpAny_inv (I : Array Bool → Act → World → Prop) (hstep : ∀ listed a w i, I listed a w → i ∈ Region.ready md ops listed → wpOp P ops Q i (I (listed.setIfInBounds i true)) a w)
    (hdone : ∀ listed a w, I listed a w → Region.ready md ops listed = [] → Q .normal a w) :
    ∀ (fuel : Nat) (listed : Array Bool) (a : Act) (w : World), (todoN ops listed).length ≤ fuel → I listed a w → wpAny P md ops Q fuel listed a w
  | 0, listed, a, w, hf, hI => by
    have hr : Region.ready md ops listed = [] := by
      refine List.eq_nil_iff_forall_not_mem.2 fun i hi => ?_
      have h1 := ready_todo hi
      have h2 := List.eq_nil_of_length_eq_zero (Nat.le_zero.1 hf)
      rw [h2] at h1
      cases h1
    exact ⟨hr, hdone _ _ _ hI hr⟩
  | fuel + 1, listed, a, w, hf, hI => ⟨fun hr => hdone _ _ _ hI hr, fun i hi => wpOp_mono (fun a' w' h' => wpAny_inv I hstep hdone fuel _ a' w' (by have := todo_next (ready_todo hi); omega) h') (hstep listed a w i hI hi)⟩
theorem wp_region_inv {id : Nat} {a : Act} {w : World} (hm : P.follows .mixedOrders = true) (I : Array Bool → Act → World → Prop)
    (hstep : ∀ listed a w i, I listed a w → i ∈ Region.ready .any ops listed → wpOp P ops Q i (I (listed.setIfInBounds i true)) a w)
    (hdone : ∀ listed a w, I listed a w → Region.ready .any ops listed = [] → Q .normal a w) (h0 : I (Array.replicate ops.size false) a w.drew) : (Code.region id ops true).wp P Q a w := by
  refine wp_region_any hm (wpAny_inv I hstep hdone _ _ _ _ ?_ h0)
  refine Nat.le_trans (List.length_filter_le _ _) ?_
  simp
theorem eval_put_same {a : Act} {d : Nat} {v : Value} (h : d < a.tmps.size) : (a.put (some d) v).eval (.tmp d) = v := by
  simp [Act.put, Act.eval, h]
theorem eval_put_other {a : Act} {d j : Nat} {v : Value} (h : d ≠ j) : (a.put (some d) v).eval (.tmp j) = a.eval (.tmp j) := by
  simp [Act.put, Act.eval, Array.getElem?_setIfInBounds_ne h]
theorem size_put {a : Act} {d : Option Nat} {v : Value} : (a.put d v).tmps.size = a.tmps.size := by
  cases d <;> simp [Act.put]
end
end Go.Proofs.YthcboallnbaimaaGreatDoor
namespace Go.Proofs.YthcboallnbaimaaGreatDoor
open Go Go.RowKit
section
variable {P : Program} {ops : Array Oper} {Q : Exit → Act → World → Prop}
def onL (L : Nat → Bool) (i : Nat) : Nat → Bool := fun j => if j = i then true else L j
theorem onL_same {L : Nat → Bool} {i : Nat} : onL L i i = true := by simp [onL]
theorem onL_other {L : Nat → Bool} {i j : Nat} (h : j ≠ i) : onL L i j = L j := by simp [onL, h]
def fnL (listed : Array Bool) : Nat → Bool := fun j => listed.getD j false
theorem fnL_set {listed : Array Bool} {i : Nat} (h : i < listed.size) : fnL (listed.setIfInBounds i true) = onL (fnL listed) i := by
  funext j
  unfold fnL onL
  by_cases hj : j = i
  · subst hj; simp [h]
  · rw [if_neg hj, getD_set_ne false (Ne.symm hj)]
theorem ready_all {listed : Array Bool} (hls : listed.size = ops.size) (hback : ∀ (i : Nat) (o : Oper), ops[i]? = some o → ∀ e ∈ o.after, Region.binds .any e = true → e.on < i) (hr : Region.ready .any ops listed = []) : ∀ i, i < ops.size → fnL listed i = true := by
  intro i
  induction i using Nat.strongRecOn with
  | _ i ih =>
    intro hi
    cases hc : fnL listed i with
    | true => rfl
    | false =>
      exfalso
      have h0 : listed.getD i true = false := by
        unfold fnL at hc
        rw [← hls] at hi
        simp [Array.getD, hi] at hc ⊢
        exact hc
      have hm : i ∈ Region.ready .any ops listed := by
        rw [mem_ready]
        exact ⟨h0, ops[i], Array.getElem?_eq_getElem hi, fun e he hb => ih e.on (hback i _ (Array.getElem?_eq_getElem hi) e he hb) (Nat.lt_trans (hback i _ (Array.getElem?_eq_getElem hi) e he hb) hi)⟩
      rw [hr] at hm
      cases hm
/-- What holds while the region is under way: S of the world, each finished operation's slot bears what Pv says, all other slots are as they were. -/
structure Vals (ops : Array Oper) (n : Nat) (S : (Nat → Bool) → World → Prop) (Pv : (Nat → Bool) → Nat → Value → World → Prop) (a0 : Act) (L : Nat → Bool) (a : Act) (w : World) : Prop where
  world : S L w
  size : a.tmps.size = a0.tmps.size
  defers : a.defers = a0.defers
  same : ∀ t, (∀ (i : Nat) (o : Oper), i < n → ops[i]? = some o → o.dst ≠ some t) → a.eval (.tmp t) = a0.eval (.tmp t)
  done : ∀ (i : Nat) (o : Oper) (d : Tmp), i < n → ops[i]? = some o → o.dst = some d → L i = true → Pv L i (a.eval (.tmp d)) w
/-- THE LAW. -/
theorem wp_region_vals {id n : Nat} {ol : Oper} {a0 : Act} {w0 : World} (hm : P.follows .mixedOrders = true) (hsz : ops.size = n + 1) (hol : ops[n]? = some ol) (hgl : ol.guard = none)
    (S : (Nat → Bool) → World → Prop) (Pv : (Nat → Bool) → Nat → Value → World → Prop)
    (hdst : ∀ (i : Nat) (o : Oper), i < n → ops[i]? = some o → o.guard = none ∧ ∃ d, o.dst = some d ∧ d < a0.tmps.size)
    (hinj : ∀ (i j : Nat) (o o' : Oper), i < n → j < n → ops[i]? = some o → ops[j]? = some o' → o.dst = o'.dst → i = j)
    (hback : ∀ (i : Nat) (o : Oper), ops[i]? = some o → ∀ e ∈ o.after, Region.binds .any e = true → e.on < i)
    (hreach : ∀ i, i < n → ∃ (j : Nat) (o : Oper), i < j ∧ ops[j]? = some o ∧ ∃ e ∈ o.after, Region.binds .any e = true ∧ e.on = i)
    (hstep : ∀ (i : Nat) (o : Oper) (d : Tmp), i < n → ops[i]? = some o → o.dst = some d → ∀ (L : Nat → Bool) (a : Act) (w : World), L i = false → S L w → (∀ t, (∀ (i : Nat) (o : Oper), i < n → ops[i]? = some o → o.dst ≠ some t) → a.eval (.tmp t) = a0.eval (.tmp t)) →
      (∀ e ∈ o.after, Region.binds .any e = true → L e.on = true ∧ ∀ (o' : Oper) (d' : Tmp), ops[e.on]? = some o' → o'.dst = some d' → Pv L e.on (a.eval (.tmp d')) w) →
      o.wp P a w (fun a' w' => ∃ v, a' = a.put (some d) v ∧ Pv (onL L i) i v w' ∧ S (onL L i) w' ∧ ∀ j u, j ≠ i → L j = true → Pv L j u w → Pv (onL L i) j u w') Q)
    (hs : S (fun _ => false) w0.drew)
    (hlast : ∀ (L : Nat → Bool) (a : Act) (w : World), (∀ i, i < n → L i = true) → S L w → a.tmps.size = a0.tmps.size → a.defers = a0.defers → (∀ t, (∀ (i : Nat) (o : Oper), i < n → ops[i]? = some o → o.dst ≠ some t) → a.eval (.tmp t) = a0.eval (.tmp t)) →
      (∀ (i : Nat) (o : Oper) (d : Tmp), i < n → ops[i]? = some o → o.dst = some d → Pv L i (a.eval (.tmp d)) w) → ol.wp P a w (Q .normal) Q) : (Code.region id ops true).wp P Q a0 w0 := by
  refine wp_region_inv hm (fun listed a w => listed.size = ops.size ∧ (∀ (i : Nat) (o : Oper), ops[i]? = some o → fnL listed i = true → ∀ e ∈ o.after, Region.binds .any e = true → fnL listed e.on = true) ∧ ((fnL listed n = false ∧ Vals ops n S Pv a0 (fnL listed) a w) ∨ ((∀ i, i < ops.size → fnL listed i = true) ∧ Q .normal a w))) ?_ ?_ ⟨by simp, fun i o _ h => ?_, .inl ⟨?_, ?_, rfl, rfl, fun _ _ => rfl, fun i o d _ _ _ h => ?_⟩⟩
  · rintro listed a w i ⟨hls, hcl, hI⟩ hr
    obtain ⟨h0, o, ho, hall⟩ := mem_ready.1 hr
    have hi : i < ops.size := (Array.getElem?_eq_some_iff.1 ho).1
    have hi2 : i < listed.size := by rw [hls]; exact hi
    have hfi : fnL listed i = false := by
      unfold fnL
      simp [Array.getD, hi2] at h0 ⊢
      exact h0
    have hcl2 : ∀ (j : Nat) (o : Oper), ops[j]? = some o → fnL (listed.setIfInBounds i true) j = true → ∀ e ∈ o.after, Region.binds .any e = true → fnL (listed.setIfInBounds i true) e.on = true := by
      intro j oj hj hl e he hb
      refine getD_set_true ?_
      by_cases hji : j = i
      · subst hji
        rw [ho] at hj
        cases hj
        exact hall e he hb
      · refine hcl j oj hj ?_ e he hb
        rw [fnL_set hi2, onL_other hji] at hl
        exact hl
    have hls2 : (listed.setIfInBounds i true).size = ops.size := by simpa using hls
    rcases hI with ⟨hn, hv⟩ | ⟨hfull, _⟩
    case inr => rw [hfull i hi] at hfi; cases hfi
    unfold wpOp
    simp only [ho]
    by_cases hin : i = n
    · subst hin
      rw [hol] at ho
      cases ho
      rw [if_pos (by simp [Region.wanted, hgl])]
      refine .inl ?_
      have hfull : ∀ k j, i - j ≤ k → j < i → fnL listed j = true := by
        intro k
        induction k with
        | zero => intro j h1 h2; omega
        | succ k ih =>
          intro j h1 h2
          obtain ⟨j', o', hlt, ho', e, he, hb, rfl⟩ := hreach j h2
          have hj' : j' < ops.size := (Array.getElem?_eq_some_iff.1 ho').1
          by_cases hji : j' = i
          · subst hji
            rw [hol] at ho'
            cases ho'
            exact hall e he hb
          · exact hcl j' o' ho' (ih j' (by omega) (by omega)) e he hb
      refine Oper.wp_mono ?_ (hlast (fnL listed) a w (fun j hj => hfull i j (by omega) hj) hv.world hv.size hv.defers hv.same fun j o d hj hoj hdj => hv.done j o d hj hoj hdj (hfull i j (by omega) hj))
      intro a' w' hq
      refine ⟨hls2, hcl2, .inr ⟨fun j hj => ?_, hq⟩⟩
      rw [fnL_set hi2]
      by_cases hji : j = i
      · subst hji; exact onL_same
      · rw [onL_other hji]; exact hfull i j (by omega) (by omega)
    · have hin2 : i < n := by omega
      obtain ⟨hg, d, hd, hlt⟩ := hdst i o hin2 ho
      rw [if_pos (by simp [Region.wanted, hg])]
      refine .inl ?_
      refine Oper.wp_mono ?_ (hstep i o d hin2 ho hd (fnL listed) a w hfi hv.world hv.same fun e he hb => ⟨hall e he hb, fun o' d' ho' hd' => hv.done e.on o' d' (Nat.lt_trans (hback i o ho e he hb) hin2) ho' hd' (hall e he hb)⟩)
      rintro a' w' ⟨v, rfl, hp, hs', hk⟩
      rw [fnL_set hi2] at *
      refine ⟨hls2, ?_, .inl ⟨by rw [onL_other (Ne.symm hin)]; exact hn, hs', by rw [size_put]; exact hv.size, hv.defers, fun t ht => ?_, fun j o' d' hj ho' hd' hl => ?_⟩⟩
      · exact hcl2
      · rw [eval_put_other (fun hne => ht i o hin2 ho (by rw [hd, hne]))]
        exact hv.same t ht
      · by_cases hij : i = j
        · subst hij
          have : d' = d := by
            rw [ho] at ho'
            cases ho'
            rw [hd] at hd'
            cases hd'
            rfl
          subst this
          rw [eval_put_same (by rw [hv.size]; exact hlt)]
          exact hp
        · rw [eval_put_other (fun hne => hij (hinj i j o o' hin2 hj ho ho' (by rw [hd, hd', hne])))]
          rw [onL_other (Ne.symm hij)] at hl
          exact hk j _ (Ne.symm hij) hl (hv.done j o' d' hj ho' hd' hl)
  · rintro listed a w ⟨hls, hcl, hI⟩ hr
    rcases hI with ⟨hn, _⟩ | ⟨_, hq⟩
    case inr => exact hq
    exfalso
    have := ready_all hls hback hr
    rw [this n (by omega)] at hn
    cases hn
  · simp [fnL, Array.getD] at h
  · simp [fnL, Array.getD]
  · have : fnL (Array.replicate ops.size false) = fun _ => false := by funext j; simp [fnL, Array.getD]
    rw [this]
    exact hs
  · simp [fnL, Array.getD] at h
def AllL (F : Nat → Oper → Prop) : Nat → List Oper → Prop
  | _, [] => True
  | i, o :: l => F i o ∧ AllL F (i + 1) l
theorem AllL.at_ {F : Nat → Oper → Prop} : ∀ {l : List Oper} {k : Nat}, AllL F k l → ∀ {i : Nat} {o : Oper}, l[i]? = some o → F (k + i) o
  | [], _, _, i, o, h => by simp at h
  | x :: l, k, hA, 0, o, h => by
    simp at h; subst h; exact hA.1
  | x :: l, k, hA, i + 1, o, h => by
    have := AllL.at_ hA.2 (i := i) (o := o) (by simpa using h)
    rwa [show k + 1 + i = k + (i + 1) by omega] at this
/-- What holds at each operation holds at all. -/
theorem AllL.all {F : Nat → Oper → Prop} {ops : Array Oper} (h : AllL F 0 ops.toList) (i : Nat) (o : Oper) (ho : ops[i]? = some o) : F i o := by
  have := AllL.at_ h (i := i) (o := o) (by simpa using ho)
  rwa [Nat.zero_add] at this
/-- What can be reckoned of a region of n values and a last operation. -/
def valsB (ops : Array Oper) (n sz : Nat) : Bool :=
  (List.range n).all (fun i => match ops[i]? with
    | some o => o.guard.isNone && (match o.dst with | some d => decide (d < sz) && (List.range n).all (fun j => j == i || (match ops[j]? with | some o' => (match o'.dst with | some d' => !(Nat.beq d d') | none => true) | none => true)) | none => false)
    | none => true) &&
  (List.range (n + 1)).all (fun i => match ops[i]? with
    | some o => o.after.toList.all fun e => !Region.binds .any e || decide (e.on < i)
    | none => true) &&
  (List.range n).all (fun i => (List.range (n + 1)).any fun j => decide (i < j) && (match ops[j]? with
    | some o => o.after.toList.any fun e => Region.binds .any e && Nat.beq e.on i
    | none => false)) && decide (ops.size = n + 1)
section
variable {n sz : Nat} (h : valsB ops n sz = true)
include h
theorem valsB_size : ops.size = n + 1 := by
  unfold valsB at h
  simp only [Bool.and_eq_true, decide_eq_true_eq] at h
  exact h.2
theorem valsB_dst (i : Nat) (o : Oper) (hi : i < n) (ho : ops[i]? = some o) : o.guard = none ∧ ∃ d, o.dst = some d ∧ d < sz := by
  unfold valsB at h
  simp only [Bool.and_eq_true, List.all_eq_true, List.mem_range] at h
  have h1 := h.1.1.1 i hi
  rw [ho] at h1
  simp only [Bool.and_eq_true, Option.isNone_iff_eq_none] at h1
  refine ⟨h1.1, ?_⟩
  cases hd : o.dst with
  | none => rw [hd] at h1; simp at h1
  | some d =>
    rw [hd] at h1
    simp only [Bool.and_eq_true, decide_eq_true_eq] at h1
    exact ⟨d, rfl, h1.2.1⟩
theorem valsB_inj (i j : Nat) (o o' : Oper) (hi : i < n) (hj : j < n) (ho : ops[i]? = some o) (ho' : ops[j]? = some o') (he : o.dst = o'.dst) : i = j := by
  obtain ⟨_, d, hd, _⟩ := valsB_dst h i o hi ho
  unfold valsB at h
  simp only [Bool.and_eq_true, List.all_eq_true, List.mem_range] at h
  have h1 := h.1.1.1 i hi
  rw [ho] at h1
  simp only [Bool.and_eq_true, hd, List.all_eq_true, List.mem_range] at h1
  have h2 := h1.2.2 j hj
  rw [ho'] at h2
  simp only [← he, hd, Bool.or_eq_true, beq_iff_eq, Bool.not_eq_true', Nat.beq_refl] at h2
  rcases h2 with h2 | h2
  · exact h2.symm
  · cases h2
theorem valsB_back (i : Nat) (o : Oper) (ho : ops[i]? = some o) (e : Edge) (he : e ∈ o.after) (hb : Region.binds .any e = true) : e.on < i := by
  have hsz := valsB_size h
  have hi : i < n + 1 := by have := (Array.getElem?_eq_some_iff.1 ho).1; omega
  unfold valsB at h
  simp only [Bool.and_eq_true, List.all_eq_true, List.mem_range] at h
  have h1 := h.1.1.2 i hi
  rw [ho] at h1
  simp only [List.all_eq_true] at h1
  have h2 := h1 e (by simpa using he)
  simpa [hb] using h2
theorem valsB_reach (i : Nat) (hi : i < n) : ∃ (j : Nat) (o : Oper), i < j ∧ ops[j]? = some o ∧ ∃ e ∈ o.after, Region.binds .any e = true ∧ e.on = i := by
  unfold valsB at h
  simp only [Bool.and_eq_true, List.all_eq_true, List.mem_range, List.any_eq_true] at h
  obtain ⟨j, hj, h1, h2⟩ := h.1.2 i hi
  cases ho : ops[j]? with
  | none => rw [ho] at h2; cases h2
  | some o =>
    rw [ho] at h2
    simp only [List.any_eq_true, Bool.and_eq_true] at h2
    obtain ⟨e, he, hb, hq⟩ := h2
    exact ⟨j, o, by simpa using h1, ho, e, by simpa using he, hb, Nat.eq_of_beq_eq_true hq⟩
end
/-- That operation o comes behind operation j. -/
def befB (o : Oper) (j : Nat) : Bool := o.after.toList.any fun e => Region.binds .any e && Nat.beq e.on j
/-- As valsB; slot dst i is operation i's. -/
def valsD (ops : Array Oper) (n sz : Nat) (dst : Nat → Nat) : Bool :=
  valsB ops n sz && (List.range n).all (fun i => match ops[i]? with | some o => (match o.dst with | some d => Nat.beq d (dst i) | none => false) | none => false) && (match ops[n]? with | some o => o.guard.isNone | none => false)
/-- What operation i has to do. -/
def StepAt (P : Program) (Q : Exit → Act → World → Prop) (n : Nat) (dst : Nat → Nat) (S : (Nat → Bool) → World → Prop) (Pv : (Nat → Bool) → Nat → Value → World → Prop) (a0 : Act) (i : Nat) (o : Oper) : Prop :=
  ∀ (L : Nat → Bool) (a : Act) (w : World), L i = false → S L w → (∀ t, (∀ i, i < n → dst i ≠ t) → a.eval (.tmp t) = a0.eval (.tmp t)) → (∀ j, befB o j = true → L j = true ∧ Pv L j (a.eval (.tmp (dst j))) w) →
    o.wp P a w (fun a' w' => ∃ v, a' = a.put (some (dst i)) v ∧ Pv (onL L i) i v w' ∧ S (onL L i) w' ∧ ∀ j u, j ≠ i → L j = true → Pv L j u w → Pv (onL L i) j u w') Q
/-- What the last one has to do. -/
def LastAt (P : Program) (Q : Exit → Act → World → Prop) (n : Nat) (dst : Nat → Nat) (S : (Nat → Bool) → World → Prop) (Pv : (Nat → Bool) → Nat → Value → World → Prop) (a0 : Act) (o : Oper) : Prop :=
  ∀ (L : Nat → Bool) (a : Act) (w : World), (∀ i, i < n → L i = true) → S L w → a.tmps.size = a0.tmps.size → a.defers = a0.defers → (∀ t, (∀ i, i < n → dst i ≠ t) → a.eval (.tmp t) = a0.eval (.tmp t)) →
    (∀ i, i < n → Pv L i (a.eval (.tmp (dst i))) w) → o.wp P a w (Q .normal) Q
theorem wp_region_valsD {id n sz : Nat} {dst : Nat → Nat} {a0 : Act} {w0 : World} (hm : P.follows .mixedOrders = true) (hB : valsD ops n sz dst = true) (ha : a0.tmps.size = sz)
    (S : (Nat → Bool) → World → Prop) (Pv : (Nat → Bool) → Nat → Value → World → Prop)
    (hall : AllL (fun i o => (i < n → StepAt P Q n dst S Pv a0 i o) ∧ (i = n → LastAt P Q n dst S Pv a0 o)) 0 ops.toList)
    (hs : S (fun _ => false) w0.drew) : (Code.region id ops true).wp P Q a0 w0 := by
  unfold valsD at hB
  simp only [Bool.and_eq_true, List.all_eq_true, List.mem_range] at hB
  obtain ⟨⟨hb, hd⟩, hl⟩ := hB
  have hsz := valsB_size hb
  have hdst : ∀ i o d, i < n → ops[i]? = some o → o.dst = some d → d = dst i := by
    intro i o d hi ho hod
    have h1 := hd i hi
    rw [ho] at h1
    simp only [hod] at h1
    exact Nat.eq_of_beq_eq_true h1
  have hex : ∀ i, i < n → ∃ o, ops[i]? = some o ∧ o.dst = some (dst i) := by
    intro i hi
    have h1 := hd i hi
    cases ho : ops[i]? with
    | none => rw [ho] at h1; cases h1
    | some o =>
      rw [ho] at h1
      refine ⟨o, rfl, ?_⟩
      cases hod : o.dst with
      | none => simp only [hod] at h1; cases h1
      | some d => simp only [hod] at h1; rw [Nat.eq_of_beq_eq_true h1]
  have hsame : ∀ a : Act, (∀ t, (∀ (i : Nat) (o : Oper), i < n → ops[i]? = some o → o.dst ≠ some t) → a.eval (.tmp t) = a0.eval (.tmp t)) → ∀ t, (∀ i, i < n → dst i ≠ t) → a.eval (.tmp t) = a0.eval (.tmp t) := by
    intro a h t ht
    refine h t fun i o hi ho hod => ?_
    exact ht i hi (hdst i o t hi ho hod).symm
  cases hol : ops[n]? with
  | none => rw [hol] at hl; cases hl
  | some ol =>
    rw [hol] at hl
    refine wp_region_vals hm hsz hol (by simpa using hl) S Pv (fun i o hi ho => by rw [ha]; exact valsB_dst hb i o hi ho) (valsB_inj hb) (fun i o ho e he hbb => valsB_back hb i o ho e he hbb) (valsB_reach hb) ?_ hs ?_
    · intro i o d hi ho hod L a w hL hS hsm haft
      have h1 := (hall.all i o ho).1 hi L a w hL hS (hsame a hsm) (fun j hj => by
        unfold befB at hj
        simp only [List.any_eq_true, Bool.and_eq_true] at hj
        obtain ⟨e, he, hbb, hej⟩ := hj
        obtain rfl := Nat.eq_of_beq_eq_true hej
        obtain ⟨h2, h3⟩ := haft e (by simpa using he) hbb
        obtain ⟨o', ho', hd'⟩ := hex e.on (Nat.lt_trans (valsB_back hb i o ho e (by simpa using he) hbb) hi)
        exact ⟨h2, h3 o' _ ho' hd'⟩)
      rw [hdst i o d hi ho hod]
      exact h1
    · intro L a w hL hS hsza hde hsm hv
      refine (hall.all n ol hol).2 rfl L a w hL hS hsza hde (hsame a hsm) fun i hi => ?_
      obtain ⟨o', ho', hd'⟩ := hex i hi
      exact hv i o' _ hi ho' hd'
/-- As valsD, of a region that is all values. -/
def valsE (ops : Array Oper) (n sz : Nat) (dst : Nat → Nat) : Bool :=
  decide (ops.size = n) && (List.range n).all (fun i => match ops[i]? with
    | some o => o.guard.isNone && (match o.dst with | some d => Nat.beq d (dst i) && decide (d < sz) | none => false) && (o.after.toList.all fun e => !Region.binds .any e || decide (e.on < i)) && (List.range n).all (fun j => j == i || !(Nat.beq (dst i) (dst j)))
    | none => false)
/-- THE LAW of a region that is all values. -/
theorem wp_region_valsE {id n sz : Nat} {dst : Nat → Nat} {a0 : Act} {w0 : World} (hm : P.follows .mixedOrders = true) (hB : valsE ops n sz dst = true) (ha : a0.tmps.size = sz)
    (S : (Nat → Bool) → World → Prop) (Pv : (Nat → Bool) → Nat → Value → World → Prop)
    (hall : AllL (fun i o => StepAt P Q n dst S Pv a0 i o) 0 ops.toList)
    (hs : S (fun _ => false) w0.drew)
    (hdone : ∀ (L : Nat → Bool) (a : Act) (w : World), S L w → a.tmps.size = a0.tmps.size → a.defers = a0.defers → (∀ t, (∀ i, i < n → dst i ≠ t) → a.eval (.tmp t) = a0.eval (.tmp t)) → (∀ i, i < n → L i = true ∧ Pv L i (a.eval (.tmp (dst i))) w) → Q .normal a w) : (Code.region id ops true).wp P Q a0 w0 := by
  unfold valsE at hB
  simp only [Bool.and_eq_true, List.all_eq_true, List.mem_range, decide_eq_true_eq] at hB
  obtain ⟨hsz, hB⟩ := hB
  have hop : ∀ i o, ops[i]? = some o → i < n ∧ o.guard = none ∧ o.dst = some (dst i) ∧ dst i < sz ∧ (∀ e ∈ o.after, Region.binds .any e = true → e.on < i) ∧ ∀ j, j < n → dst i = dst j → j = i := by
    intro i o ho
    have hi : i < n := by rw [← hsz]; exact (Array.getElem?_eq_some_iff.1 ho).1
    have h1 := hB i hi
    rw [ho] at h1
    simp only [Bool.and_eq_true, Option.isNone_iff_eq_none, List.all_eq_true, List.mem_range, Bool.or_eq_true, beq_iff_eq, Bool.not_eq_true', decide_eq_true_eq] at h1
    obtain ⟨⟨⟨h2, h3⟩, h4⟩, h5⟩ := h1
    cases hd : o.dst with
    | none => simp only [hd] at h3; cases h3
    | some d =>
      simp only [hd, Bool.and_eq_true, decide_eq_true_eq] at h3
      obtain rfl := Nat.eq_of_beq_eq_true h3.1
      refine ⟨hi, h2, rfl, h3.2, fun e he hb => ?_, fun j hj he => ?_⟩
      · have := h4 e (by simpa using he)
        simpa [hb] using this
      · rcases h5 j hj with h | h
        · exact h
        · rw [he, Nat.beq_refl] at h; cases h
  refine wp_region_inv hm (fun listed a w => listed.size = ops.size ∧ S (fnL listed) w ∧ a.tmps.size = a0.tmps.size ∧ a.defers = a0.defers ∧ (∀ t, (∀ i, i < n → dst i ≠ t) → a.eval (.tmp t) = a0.eval (.tmp t)) ∧ ∀ i, i < n → fnL listed i = true → Pv (fnL listed) i (a.eval (.tmp (dst i))) w) ?_ ?_ ⟨by simp, ?_, rfl, rfl, fun _ _ => rfl, fun i _ h => ?_⟩
  · rintro listed a w i ⟨hls, hS, hsa, hde, hsm, hv⟩ hr
    obtain ⟨h0, o, ho, haft⟩ := mem_ready.1 hr
    obtain ⟨hi, hg, hd, hlt, hbk, hinj⟩ := hop i o ho
    have hi2 : i < listed.size := by rw [hls, hsz]; exact hi
    have hfi : fnL listed i = false := by
      unfold fnL
      simp [Array.getD, hi2] at h0 ⊢
      exact h0
    unfold wpOp
    simp only [ho]
    rw [if_pos (by simp [Region.wanted, hg])]
    refine .inl ?_
    refine Oper.wp_mono ?_ (hall.all i o ho (fnL listed) a w hfi hS hsm fun j hj => by
      unfold befB at hj
      simp only [List.any_eq_true, Bool.and_eq_true] at hj
      obtain ⟨e, he, hbb, hej⟩ := hj
      obtain rfl := Nat.eq_of_beq_eq_true hej
      have h2 := haft e (by simpa using he) hbb
      exact ⟨h2, hv e.on (Nat.lt_trans (hbk e (by simpa using he) hbb) hi) h2⟩)
    rintro a' w' ⟨v, rfl, hp, hs', hk⟩
    rw [fnL_set hi2] at *
    refine ⟨by simpa using hls, hs', by rw [size_put]; exact hsa, hde, fun t ht => ?_, fun j hj hl => ?_⟩
    · rw [eval_put_other (ht i hi)]
      exact hsm t ht
    · by_cases hij : j = i
      · subst hij
        rw [eval_put_same (by rw [hsa, ha]; exact hlt)]
        exact hp
      · rw [eval_put_other (fun hne => hij (hinj j hj hne))]
        rw [onL_other hij] at hl
        exact hk j _ hij hl (hv j hj hl)
  · rintro listed a w ⟨hls, hS, hsa, hde, hsm, hv⟩ hr
    have hall2 := ready_all hls (fun i o ho e he hb => (hop i o ho).2.2.2.2.1 e he hb) hr
    exact hdone (fnL listed) a w hS hsa hde hsm fun i hi => ⟨hall2 i (by rw [hsz]; exact hi), hv i hi (hall2 i (by rw [hsz]; exact hi))⟩
  · have : fnL (Array.replicate ops.size false) = fun _ => false := by funext j; simp [fnL, Array.getD]
    rw [this]
    exact hs
  · simp [fnL, Array.getD] at h
theorem AllL.cons {F : Nat → Oper → Prop} {i : Nat} {o : Oper} {l : List Oper} (h : F i o) (t : AllL F (i + 1) l) : AllL F i (o :: l) := ⟨h, t⟩
theorem Oper.wp_value {o : Oper} {a : Act} {w w' : World} {v : Value} {K : Act → World → Prop} (h : (execOp a.eval o).run P w = .ok (.value v) w') (hk : K (a.put o.dst v) w') : o.wp P a w K Q := by
  unfold Oper.wp; rw [h]; exact hk
theorem Oper.wp_enter {o : Oper} {a : Act} {w w' : World} {f : FuncId} {args : Array Value} {K : Act → World → Prop} (h : (execOp a.eval o).run P w = .ok (.enter f args) w') (hc : Calls P f args w' fun e w'' => ∃ v, e = .returned v ∧ K (a.put o.dst v) w'') : o.wp P a w K Q := by
  unfold Oper.wp; rw [h]
  refine Calls.mono hc fun e w'' he => ?_
  obtain ⟨v, rfl, hk⟩ := he
  exact hk
/-- The operations of region n of a body. -/
def opsOf (n : Nat) : Code → Option (Array Oper)
  | .region id ops _ => if id = n then some ops else none
  | .seq a b => match opsOf n a with
    | some c => some c
    | none => opsOf n b
  | .loop c => opsOf n c
  | .block _ c => opsOf n c
  | .scope c => opsOf n c
  | .cond _ a b => match opsOf n a with
    | some c => some c
    | none => opsOf n b
  | _ => none
theorem tmps_of {a : Act} {n : Nat} {v : Value} (h : a.eval (.tmp n) = v) : a.tmps[n]?.getD undef = v := by
  rw [← h]; simp [Act.eval]
theorem act_eq {a : Act} {n : Nat} (h : a.tmps.size = n) (hd : a.defers = []) : a = ⟨((List.range n).map fun t => a.eval (.tmp t)).toArray, []⟩ := by
  obtain ⟨ts, ds⟩ := a
  subst hd
  subst h
  congr 1
  apply Array.ext
  · simp
  · intro i h1 h2
    simp [Act.eval, h1]
end
end Go.Proofs.YthcboallnbaimaaGreatDoor
namespace Go.Proofs.YthcboallnbaimaaGreatDoor
open Go Go.RowKit
section
variable {P : Program} {ops : Array Oper} {Q : Exit → Act → World → Prop}
/-- What an operation's slot bears; a store has none. -/
def slotv (a : Act) : Option Nat → Value
  | some t => a.eval (.tmp t)
  | none => undef
def optEq : Option Nat → Option Nat → Bool
  | some x, some y => Nat.beq x y
  | none, none => true
  | _, _ => false
theorem optEq_eq {x y : Option Nat} (h : optEq x y = true) : x = y := by
  cases x <;> cases y <;> simp_all [optEq]
/-- As valsE; guards allowed where they name an operation that comes before, and operations without a slot. -/
def valsH (ops : Array Oper) (n sz : Nat) (dst : Nat → Option Nat) : Bool :=
  decide (ops.size = n) && (List.range n).all (fun i => match ops[i]? with
    | some o => (match o.guard with | some (g, _) => decide (g < i) && befB o g | none => true) && optEq o.dst (dst i) && (match dst i with | some d => decide (d < sz) | none => true) && (o.after.toList.all fun e => !Region.binds .any e || decide (e.on < i)) && (List.range n).all (fun j => j == i || (dst i).isNone || !(optEq (dst i) (dst j)))
    | none => false)
/-- What an operation leaves. -/
def LeavesH (dst : Nat → Option Nat) (S : (Nat → Bool) → World → Prop) (Pv : (Nat → Bool) → Nat → Value → World → Prop) (i : Nat) (L : Nat → Bool) (a : Act) (w : World) (a' : Act) (w' : World) : Prop :=
  ∃ v, a' = a.put (dst i) v ∧ (dst i = none → v = undef) ∧ Pv (onL L i) i v w' ∧ S (onL L i) w' ∧ ∀ j u, j ≠ i → L j = true → Pv L j u w → Pv (onL L i) j u w'
/-- What operation i has to do; where it is guarded: what its guard's slot says. -/
def StepH (P : Program) (Q : Exit → Act → World → Prop) (ops : Array Oper) (n : Nat) (dst : Nat → Option Nat) (S : (Nat → Bool) → World → Prop) (Pv : (Nat → Bool) → Nat → Value → World → Prop) (a0 : Act) (i : Nat) (o : Oper) : Prop :=
  ∀ (L : Nat → Bool) (a : Act) (w : World), L i = false → S L w → (∀ j, (ops[j]?.any fun o' => befB o' i) = true → L j = false) → (∀ t : Nat, (∀ i, i < n → dst i ≠ some t) → a.eval (.tmp t) = a0.eval (.tmp t)) → (∀ j, befB o j = true → L j = true ∧ Pv L j (slotv a (dst j)) w) →
    match o.guard with
    | none => o.wp P a w (LeavesH dst S Pv i L a w) Q
    | some (g, b) => ∃ b', slotv a (dst g) = .bool b' ∧ (b' = b → o.wp P a w (LeavesH dst S Pv i L a w) Q) ∧ (b' ≠ b → LeavesH dst S Pv i L a w (a.put (dst i) undef) w)
theorem tmp_bool {a : Act} {d : Nat} {b : Bool} (h : a.eval (.tmp d) = .bool b) : a.tmps[d]? = some (.bool b) := by
  cases hc : a.tmps[d]? with
  | none => simp [Act.eval, hc, undef] at h
  | some v => simp [Act.eval, hc] at h; rw [h]
/-- THE LAW. -/
theorem wp_region_valsH {id n sz : Nat} {dst : Nat → Option Nat} {a0 : Act} {w0 : World} (hm : P.follows .mixedOrders = true) (hB : valsH ops n sz dst = true) (ha : a0.tmps.size = sz)
    (S : (Nat → Bool) → World → Prop) (Pv : (Nat → Bool) → Nat → Value → World → Prop)
    (hall : AllL (fun i o => StepH P Q ops n dst S Pv a0 i o) 0 ops.toList)
    (hs : S (fun _ => false) w0.drew)
    (hdone : ∀ (L : Nat → Bool) (a : Act) (w : World), S L w → a.tmps.size = a0.tmps.size → a.defers = a0.defers → (∀ t : Nat, (∀ i, i < n → dst i ≠ some t) → a.eval (.tmp t) = a0.eval (.tmp t)) → (∀ i, i < n → L i = true ∧ Pv L i (slotv a (dst i)) w) → Q .normal a w) : (Code.region id ops true).wp P Q a0 w0 := by
  unfold valsH at hB
  simp only [Bool.and_eq_true, List.all_eq_true, List.mem_range, decide_eq_true_eq] at hB
  obtain ⟨hsz, hB⟩ := hB
  have hop : ∀ i o, ops[i]? = some o → i < n ∧ (∀ g b, o.guard = some (g, b) → g < i ∧ befB o g = true) ∧ o.dst = dst i ∧ (∀ d, dst i = some d → d < sz) ∧ (∀ e ∈ o.after, Region.binds .any e = true → e.on < i) ∧ ∀ j, j < n → dst i ≠ none → dst i = dst j → j = i := by
    intro i o ho
    have hi : i < n := by rw [← hsz]; exact (Array.getElem?_eq_some_iff.1 ho).1
    have h1 := hB i hi
    rw [ho] at h1
    simp only [Bool.and_eq_true, List.all_eq_true, List.mem_range, Bool.or_eq_true, beq_iff_eq, Bool.not_eq_true', decide_eq_true_eq] at h1
    obtain ⟨⟨⟨⟨h2, h3⟩, h3'⟩, h4⟩, h5⟩ := h1
    refine ⟨hi, fun g b hg => ?_, optEq_eq h3, fun d hd => ?_, fun e he hb => ?_, fun j hj hne he => ?_⟩
    · simp only [hg, Bool.and_eq_true, decide_eq_true_eq] at h2
      exact h2
    · simpa [hd] using h3'
    · have := h4 e (by simpa using he)
      simpa [hb] using this
    · rcases h5 j hj with (h | h) | h
      · exact h
      · exact absurd (by simpa using h) hne
      · rw [← he] at h
        cases hd : dst i with
        | none => exact absurd hd hne
        | some d => rw [hd] at h; simp [optEq] at h
  refine wp_region_inv hm (fun listed a w => listed.size = ops.size ∧ (∀ (j : Nat) (o' : Oper), ops[j]? = some o' → fnL listed j = true → ∀ e ∈ o'.after, Region.binds .any e = true → fnL listed e.on = true) ∧ S (fnL listed) w ∧ a.tmps.size = a0.tmps.size ∧ a.defers = a0.defers ∧ (∀ t : Nat, (∀ i, i < n → dst i ≠ some t) → a.eval (.tmp t) = a0.eval (.tmp t)) ∧ ∀ i, i < n → fnL listed i = true → Pv (fnL listed) i (slotv a (dst i)) w) ?_ ?_ ⟨by simp, fun j o' _ h => ?_, ?_, rfl, rfl, fun _ _ => rfl, fun i _ h => ?_⟩
  · rintro listed a w i ⟨hls, hcl, hS, hsa, hde, hsm, hv⟩ hr
    obtain ⟨h0, o, ho, haft⟩ := mem_ready.1 hr
    obtain ⟨hi, hg, hd, hlt, hbk, hinj⟩ := hop i o ho
    have hi2 : i < listed.size := by rw [hls, hsz]; exact hi
    have hfi : fnL listed i = false := by
      unfold fnL
      simp [Array.getD, hi2] at h0 ⊢
      exact h0
    have hbeh : ∀ j, (ops[j]?.any fun o' => befB o' i) = true → fnL listed j = false := fun j hj => by
      cases hoj : ops[j]? with
      | none => rw [hoj] at hj; cases hj
      | some oj =>
        rw [hoj] at hj
        simp only [Option.any_some] at hj
        unfold befB at hj
        simp only [List.any_eq_true, Bool.and_eq_true] at hj
        obtain ⟨e, he, hbb, hej⟩ := hj
        obtain rfl := Nat.eq_of_beq_eq_true hej
        cases hlj : fnL listed j with
        | false => rfl
        | true =>
          have := hcl j oj hoj hlj e (by simpa using he) hbb
          rw [hfi] at this
          cases this
    have hstep := hall.all i o ho (fnL listed) a w hfi hS hbeh hsm fun j hj => by
      unfold befB at hj
      simp only [List.any_eq_true, Bool.and_eq_true] at hj
      obtain ⟨e, he, hbb, hej⟩ := hj
      obtain rfl := Nat.eq_of_beq_eq_true hej
      have h2 := haft e (by simpa using he) hbb
      exact ⟨h2, hv e.on (Nat.lt_trans (hbk e (by simpa using he) hbb) hi) h2⟩
    have hfin : ∀ a' w', LeavesH dst S Pv i (fnL listed) a w a' w' → (listed.setIfInBounds i true).size = ops.size ∧ (∀ (j : Nat) (o' : Oper), ops[j]? = some o' → fnL (listed.setIfInBounds i true) j = true → ∀ e ∈ o'.after, Region.binds .any e = true → fnL (listed.setIfInBounds i true) e.on = true) ∧ S (fnL (listed.setIfInBounds i true)) w' ∧ a'.tmps.size = a0.tmps.size ∧ a'.defers = a0.defers ∧ (∀ t : Nat, (∀ i, i < n → dst i ≠ some t) → a'.eval (.tmp t) = a0.eval (.tmp t)) ∧ ∀ j, j < n → fnL (listed.setIfInBounds i true) j = true → Pv (fnL (listed.setIfInBounds i true)) j (slotv a' (dst j)) w' := by
      rintro a' w' ⟨v, rfl, hun, hp, hs', hk⟩
      rw [fnL_set hi2] at *
      refine ⟨by simpa using hls, fun j oj hoj hl e he hb => ?_, hs', by rw [size_put]; exact hsa, by cases dst i <;> exact hde, fun t ht => ?_, fun j hj hl => ?_⟩
      · by_cases hei : e.on = i
        · rw [hei]; exact onL_same
        · rw [onL_other hei]
          by_cases hji : j = i
          · subst hji
            rw [ho] at hoj
            cases hoj
            exact haft e he hb
          · rw [onL_other hji] at hl
            exact hcl j oj hoj hl e he hb
      · rw [← hsm t ht]
        cases hdi : dst i with
        | none => rfl
        | some d => exact eval_put_other fun hne => ht i hi (by rw [hdi, hne])
      · by_cases hij : j = i
        · subst hij
          cases hdi : dst j with
          | none => rw [hdi] at hun; rw [hun rfl] at hp; exact hp
          | some d =>
            show Pv _ j ((a.put (some d) v).eval (.tmp d)) _
            rw [eval_put_same (by rw [hsa, ha]; exact hlt d hdi)]
            exact hp
        · rw [onL_other hij] at hl
          have h2 := hk j _ hij hl (hv j hj hl)
          cases hdj : dst j with
          | none => rw [hdj] at h2; exact h2
          | some d =>
            rw [hdj] at h2
            cases hdi : dst i with
            | none => exact h2
            | some d2 =>
              show Pv _ j ((a.put (some d2) v).eval (.tmp d)) _
              rw [eval_put_other (fun hne => hij (hinj j hj (by rw [hdi]; simp) (by rw [hdi, hdj, hne])))]
              exact h2
    unfold wpOp
    simp only [ho]
    cases hgd : o.guard with
    | none =>
      rw [hgd] at hstep
      rw [if_pos (by simp [Region.wanted, hgd])]
      exact .inl (Oper.wp_mono hfin hstep)
    | some gb =>
      obtain ⟨g, b⟩ := gb
      rw [hgd] at hstep
      obtain ⟨b', hev, hy, hn⟩ := hstep
      have hgi := (hg g b hgd).1
      have hgo : g < ops.size := by rw [hsz]; omega
      have hgd2 := (hop g ops[g] (Array.getElem?_eq_getElem hgo)).2.2.1
      have hyi : yielded ops a.tmps g = some b' := by
        unfold yielded
        rw [Array.getElem?_eq_getElem hgo]
        cases hdg : dst g with
        | none => rw [hdg] at hev; cases hev
        | some d =>
          rw [hdg] at hev
          simp only [Option.bind_some, hgd2, hdg, tmp_bool (show a.eval (.tmp d) = .bool b' from hev)]
      by_cases hbb : b' = b
      · rw [if_pos (by simp [Region.wanted, hgd, hyi, hbb])]
        exact .inl (Oper.wp_mono hfin (hy hbb))
      · rw [if_neg (by simp [Region.wanted, hgd, hyi, hbb])]
        rw [hd]
        exact hfin _ _ (hn hbb)
  · rintro listed a w ⟨hls, hcl, hS, hsa, hde, hsm, hv⟩ hr
    have hall2 := ready_all hls (fun i o ho e he hb => (hop i o ho).2.2.2.2.1 e he hb) hr
    exact hdone (fnL listed) a w hS hsa hde hsm fun i hi => ⟨hall2 i (by rw [hsz]; exact hi), hv i hi (hall2 i (by rw [hsz]; exact hi))⟩
  · simp [fnL, Array.getD] at h
  · have : fnL (Array.replicate ops.size false) = fun _ => false := by funext j; simp [fnL, Array.getD]
    rw [this]
    exact hs
  · simp [fnL, Array.getD] at h
theorem AllL.of_list {F : Nat → Oper → Prop} : ∀ (l : List Oper) (k : Nat), (∀ i o, l[i]? = some o → F (k + i) o) → AllL F k l
  | [], _, _ => trivial
  | x :: l, k, h => ⟨h 0 x rfl, AllL.of_list l (k + 1) fun i o ho => by
      have := h (i + 1) o (by simpa using ho)
      rwa [show k + (i + 1) = k + 1 + i by omega] at this⟩
theorem AllL.of {F : Nat → Oper → Prop} (h : ∀ i o, ops[i]? = some o → F i o) : AllL F 0 ops.toList :=
  AllL.of_list _ _ fun i o ho => by
    rw [Nat.zero_add]
    exact h i o (by simpa using ho)
end
end Go.Proofs.YthcboallnbaimaaGreatDoor
namespace Go.Proofs.YthcboallnbaimaaGreatDoor
open Go Go.RowKit
section
variable {P : Program} {α : Type} {k : Nat} {enc : α → List Value} {w : World}
theorem Oper.wp_append {o : Oper} {a : Act} {K : Act → World → Prop} {Q : Exit → Act → World → Prop} (s x : Operand) (t : TypeId)
    (ho : o.op = .call { callee := .builtin .append, args := #[s, x], argTypes := #[t, t] }) {B : Nat} {e : TypeId} (hE : ElemK P t e k) (hk : ∀ x, (enc x).length = k) (h1 : ∀ x : α, ∀ u ∈ enc x, u.oneCell' = true) (v : Value) (l : List α) (hs : a.eval s = v) (hown : OwnL B w e k enc v l)
    {n : Nat} (sp : Sp) (l2 : List α) (hx : a.eval x = .slice sp.at_ l2.length sp.cap) (hr : RowOf n w sp k enc l2) (hlen : l.length + l2.length ≤ 1000000) (hB : B ≤ w.heap.size)
    (h : ∀ v' w', OwnL B w' e k enc v' (l ++ l2) → w.grownBy w' v.ownBlock → (v'.ownBlock = v.ownBlock ∨ v'.ownBlock = some w.heap.size) → K (a.put o.dst v') w') : o.wp P a w K Q := by
  obtain ⟨v', w', hrun, h2, h3, h4⟩ := run_append_row (P := P) (ty := o.type) hE hk h1 hown hr hlen hB
  unfold Oper.wp execOp
  simp only [ho, resolve, invoke, builtin, Sem.run_bind, Sem.run_pure, Result.andThen_ok, List.map_toArray, List.map_cons, List.map_nil, hs, hx, hrun]
  exact h v' w' h2 h3 h4
/-- A struct loaded out of the middle of a row. -/
theorem Oper.wp_load_mid {o : Oper} {a : Act} {K : Act → World → Prop} {Q : Exit → Act → World → Prop} (ty : TypeId) (x : Operand) (ho : o.op = .load ty x)
    (b off : Nat) (hx : a.eval x = .pointer (some ⟨b, off, none⟩)) (cs : List Value) (d : TypeDesc) (hc : ∀ j v, cs[j]? = some v → w.cell? ⟨b, off + j, none⟩ = some v)
    (hu : P.underlying ty = some d) (hd : (match d with | .struct _ | .array _ _ => true | _ => false) = true) (hi : (P.info? ty).map (·.size) = some cs.length)
    (h : K (a.put o.dst (.agg cs.toArray)) w) : o.wp P a w K Q := by
  have hl : (loadCells ⟨b, off, none⟩ cs.length).run P w = .ok cs.toArray w :=
    run_loadCells_list (P := P) w ⟨b, off, none⟩ cs (fun j v hv => by
      have hadd : (⟨b, off, none⟩ : Addr).add j = ⟨b, off + j, none⟩ := Addr.add_lit _ _ _
      rw [hadd]
      exact hc j v hv)
  have hrun : (loadVar ty ⟨b, off, none⟩).run P w = .ok (.agg cs.toArray) w := by
    cases hq : P.info? ty with
    | none => simp [hq] at hi
    | some i =>
      have hs : i.size = cs.length := by simpa [hq] using hi
      have hagg : (isAgg ty).run P w = .ok true w := by
        unfold isAgg
        rw [Sem.run_bind, run_underlying hu w]
        cases d <;> simp_all
      simp [loadVar, Sem.run_bind, hagg, sizeOf, typeInfo, hq, hs, hl]
  unfold Oper.wp execOp
  simp only [ho, hx, Instr.loadAt, Instr.sureAddr, Sem.run_bind, Sem.run_pure, Result.andThen_ok, hrun]
  exact h
theorem below_setRow {n : Nat} {w0 w : World} (h : Below n w0 w) {g : Nat} {cs : Array Value} (hg : n ≤ g) : Below n w0 (w.setRow g cs) := by
  refine h.trans ⟨rfl, rfl, rfl, by simp, fun k hk => ?_⟩
  exact setRow_other w g k cs (by omega)
theorem Oper.wp_skip {o : Oper} {a : Act} {w w' : World} {K : Act → World → Prop} {Q : Exit → Act → World → Prop} (h : (execOp a.eval o).run P w = .ok .skip w') (hk : K (a.put o.dst undef) w') : o.wp P a w K Q := by
  unfold Oper.wp; rw [h]; exact hk
end
end Go.Proofs.YthcboallnbaimaaGreatDoor
namespace Go.Proofs.YthcboallnbaimaaGreatDoor
open Go Go.RowKit
abbrev PV := (Nat → Bool) → Value → World → Prop
/-- What the operations told so far bear, the last one first. -/
abbrev PVs := List (Nat × Option Nat × PV)
def lkP : PVs → Nat → Option Nat × PV
  | [], _ => (none, fun _ _ _ => True)
  | (i, d, p) :: l, j => match Nat.beq i j with
    | true => (d, p)
    | false => lkP l j
theorem lkP_same {i : Nat} {d : Option Nat} {p : PV} {l : PVs} : lkP ((i, d, p) :: l) i = (d, p) := by
  unfold lkP
  rw [Nat.beq_refl]
theorem lkP_other {i j : Nat} {d : Option Nat} {p : PV} {l : PVs} (h : i ≠ j) : lkP ((i, d, p) :: l) j = lkP l j := by
  have : Nat.beq i j = false := by
    cases hb : Nat.beq i j with
    | false => rfl
    | true => exact absurd (Nat.eq_of_beq_eq_true hb) h
  conv => lhs; unfold lkP
  rw [this]
/-- A slot that bears c, whatever the order. -/
def exactP (c : Value) : PV := fun _ v _ => v = c
section
variable (P : Program) (Q : Exit → Act → World → Prop) (ops : Array Oper) (keep : Nat → Bool) (a0 : Act) (S : (Nat → Bool) → World → Prop) (R : Nat → World → World → Prop)
/-- What is known of the operations that come before. -/
def aftF (Ps : PVs) (L : Nat → Bool) (a : Act) (w : World) : List Edge → Prop
  | [] => True
  | e :: l => (Region.binds .any e = true → L e.on = true ∧ (lkP Ps e.on).2 L (slotv a (lkP Ps e.on).1) w) ∧ aftF Ps L a w l
def LeavesS (k : Nat) (d : Option Nat) (Pk : PV) (L : Nat → Bool) (a : Act) (w : World) (a' : Act) (w' : World) : Prop :=
  ∃ v, a' = a.put d v ∧ (d = none → v = undef) ∧ Pk (onL L k) v w' ∧ S (onL L k) w' ∧ R k w w'
/-- What is known when operation k comes up. -/
structure NowS (Ps : PVs) (k : Nat) (o : Oper) (L : Nat → Bool) (a : Act) (w : World) : Prop where
  new : L k = false
  world : S L w
  behind : ∀ j, (ops[j]?.any fun o' => befB o' k) = true → L j = false
  same : ∀ t : Nat, keep t = true → a.tmps[t]?.getD undef = a0.tmps[t]?.getD undef
  aft : aftF Ps L a w o.after.toList
def StepS (Ps : PVs) (k : Nat) (o : Oper) (Pk : PV) : Prop := ∀ (L : Nat → Bool) (a : Act) (w : World), NowS ops keep a0 S Ps k o L a w →
    match o.guard with
    | none => o.wp P a w (LeavesS S R k o.dst Pk L a w) Q
    | some (g, b) => ∃ b', slotv a (lkP Ps g).1 = .bool b' ∧ (b' = b → o.wp P a w (LeavesS S R k o.dst Pk L a w) Q) ∧ (b' ≠ b → LeavesS S R k o.dst Pk L a w (a.put o.dst undef) w)
/-- What operation k's slot bears outlives all others. -/
def StabS (k : Nat) (Pk : PV) : Prop := ∀ (i : Nat) (L : Nat → Bool) (v : Value) (w w' : World), i ≠ k → R i w w' → Pk L v w → Pk (onL L i) v w'
def SameS (a : Act) : Prop := a.tmps.size = a0.tmps.size ∧ a.defers = a0.defers ∧ ∀ t : Nat, keep t = true → a.tmps[t]?.getD undef = a0.tmps[t]?.getD undef
/-- What is known when all are done. -/
structure DoneS (Ps : PVs) (L : Nat → Bool) (a : Act) (w : World) : Prop where
  world : S L w
  same : SameS keep a0 a
  val : ∀ j, (lkP Ps j).2 L (slotv a (lkP Ps j).1) w
def StepsS : Nat → PVs → List Oper → Prop
  | k, Ps, [] => ∀ (L : Nat → Bool) (a : Act) (w : World), (∀ i, i < k → L i = true) → DoneS keep a0 S Ps L a w → Q .normal a w
  | k, Ps, o :: rest => ∃ Pk, StabS R k Pk ∧ StepS P Q ops keep a0 S R Ps k o Pk ∧ StepsS (k + 1) ((k, o.dst, Pk) :: Ps) rest
end
def dstOf (ops : Array Oper) (i : Nat) : Option Nat := (ops[i]?).bind Oper.dst
def stepsB (ops : Array Oper) (n sz : Nat) (keep : Nat → Bool) : Bool :=
  valsH ops n sz (dstOf ops) && ops.toList.all (fun o => match o.dst with | some d => !keep d | none => true)
section
variable {P : Program} {Q : Exit → Act → World → Prop} {ops : Array Oper} {keep : Nat → Bool} {a0 : Act} {S : (Nat → Bool) → World → Prop} {R : Nat → World → World → Prop}
theorem lkP_app {Ex Ps : PVs} {k j : Nat} (h : ∀ x, x ∈ Ex → k ≤ x.1) (hj : j < k) : lkP (Ex ++ Ps) j = lkP Ps j := by
  induction Ex with
  | nil => rfl
  | cons x Ex ih =>
    obtain ⟨i, d, p⟩ := x
    have h1 := h _ (List.mem_cons_self ..)
    show lkP ((i, d, p) :: (Ex ++ Ps)) j = _
    rw [lkP_other (by have : k ≤ i := h1; omega)]
    exact ih fun y hy => h y (List.mem_cons_of_mem _ hy)
theorem lkP_none {l : PVs} {j : Nat} (h : ∀ x, x ∈ l → x.1 ≠ j) : lkP l j = (none, fun _ _ _ => True) := by
  induction l with
  | nil => rfl
  | cons y l ih =>
    obtain ⟨i', d', p'⟩ := y
    rw [lkP_other (h _ (List.mem_cons_self ..))]
    exact ih fun x hx => h x (List.mem_cons_of_mem _ hx)
theorem lkP_mem {Ps : PVs} {j : Nat} {d : Nat} (h : (lkP Ps j).1 = some d) : ∃ x, x ∈ Ps ∧ x.2.1 = some d := by
  induction Ps with
  | nil => cases h
  | cons x Ps ih =>
    obtain ⟨i, d', p⟩ := x
    by_cases hi : i = j
    · have : lkP ((i, d', p) :: Ps) j = (d', p) := by rw [hi]; exact lkP_same
      rw [this] at h
      exact ⟨_, List.mem_cons_self .., h⟩
    · have : lkP ((i, d', p) :: Ps) j = lkP Ps j := lkP_other hi
      rw [this] at h
      obtain ⟨x, h1, h2⟩ := ih h
      exact ⟨x, List.mem_cons_of_mem _ h1, h2⟩
theorem StepsS.all : ∀ (rest : List Oper) (k : Nat) (Ps : PVs), StepsS P Q ops keep a0 S R k Ps rest →
    ∃ Ex : PVs, (∀ x, x ∈ Ex → k ≤ x.1 ∧ x.1 < k + rest.length ∧ lkP (Ex ++ Ps) x.1 = x.2) ∧ (∀ (L : Nat → Bool) (a : Act) (w : World), (∀ i, i < k + rest.length → L i = true) → DoneS keep a0 S (Ex ++ Ps) L a w → Q .normal a w) ∧
      ∀ (i : Nat) (o : Oper), rest[i]? = some o → ∃ (Pk : PV) (Pi : PVs), lkP (Ex ++ Ps) (k + i) = (o.dst, Pk) ∧ StabS R (k + i) Pk ∧ StepS P Q ops keep a0 S R Pi (k + i) o Pk ∧ ∀ j, j < k + i → lkP Pi j = lkP (Ex ++ Ps) j
  | [], k, Ps, h => ⟨[], by simp, h, by simp⟩
  | o :: rest, k, Ps, h => by
    obtain ⟨Pk, h1, h2, h3⟩ := h
    obtain ⟨Ex, g1, g2, g3⟩ := StepsS.all rest (k + 1) _ h3
    have e : Ex ++ (k, o.dst, Pk) :: Ps = (Ex ++ [(k, o.dst, Pk)]) ++ Ps := by simp
    have hk : lkP (Ex ++ (k, o.dst, Pk) :: Ps) k = (o.dst, Pk) := by
      rw [lkP_app (k := k + 1) (fun x hx => (g1 x hx).1) (Nat.lt_succ_self k)]
      exact lkP_same
    rw [e] at g1 g2 g3 hk
    have e2 : k + 1 + rest.length = k + (o :: rest).length := by simp; omega
    rw [e2] at g2
    refine ⟨Ex ++ [(k, o.dst, Pk)], fun x hx => ?_, g2, fun i o' ho => ?_⟩
    · rcases List.mem_append.1 hx with hx | hx
      · have := g1 x hx
        simp only [List.length_cons]
        exact ⟨by omega, by omega, this.2.2⟩
      · obtain rfl := List.mem_singleton.1 hx
        simp only [List.length_cons]
        exact ⟨Nat.le_refl _, by omega, hk⟩
    · match i with
      | 0 =>
        simp only [List.getElem?_cons_zero, Option.some.injEq] at ho
        subst ho
        refine ⟨Pk, Ps, hk, h1, h2, fun j hj => ?_⟩
        refine (lkP_app (k := k) (fun x hx => ?_) hj).symm
        rcases List.mem_append.1 hx with hx | hx
        · have := (g1 x hx).1; omega
        · obtain rfl := List.mem_singleton.1 hx; exact Nat.le_refl _
      | i + 1 =>
        obtain ⟨Pk', Pi, t1, t2, t3, t4⟩ := g3 i o' (by simpa using ho)
        rw [show k + 1 + i = k + (i + 1) by omega] at t1 t2 t3 t4
        exact ⟨Pk', Pi, t1, t2, t3, t4⟩
theorem aftF_of {Ps Pi : PVs} {L : Nat → Bool} {a : Act} {w : World} {k : Nat} (hj : ∀ j, j < k → lkP Pi j = lkP Ps j) : ∀ (l : List Edge), (∀ e, e ∈ l → Region.binds .any e = true → e.on < k ∧ L e.on = true ∧ (lkP Ps e.on).2 L (slotv a (lkP Ps e.on).1) w) → aftF Pi L a w l
  | [], _ => trivial
  | e :: l, h => ⟨fun hb => by
      obtain ⟨h1, h2, h3⟩ := h e (List.mem_cons_self ..) hb
      rw [hj _ h1]
      exact ⟨h2, h3⟩, aftF_of hj l fun e he => h e (List.mem_cons_of_mem _ he)⟩
/-- THE LAW. -/
theorem wp_region_steps {id n sz : Nat} {w0 : World} (hm : P.follows .mixedOrders = true) (hB : stepsB ops n sz keep = true) (ha : a0.tmps.size = sz)
    (S : (Nat → Bool) → World → Prop) (R : Nat → World → World → Prop) (hs : S (fun _ => false) w0.drew) (h : StepsS P Q ops keep a0 S R 0 [] ops.toList) : (Code.region id ops true).wp P Q a0 w0 := by
  unfold stepsB at hB
  rw [Bool.and_eq_true, List.all_eq_true] at hB
  obtain ⟨hB, hkp⟩ := hB
  obtain ⟨Ex, h1, h2, h3⟩ := StepsS.all _ _ _ h
  rw [List.append_nil] at h1 h2 h3
  simp only [Nat.zero_add] at h1 h2 h3
  have hdst : ∀ i o, ops[i]? = some o → dstOf ops i = o.dst := fun i o ho => by unfold dstOf; rw [ho]; rfl
  have hn : ops.size = n := by unfold valsH at hB; rw [Bool.and_eq_true] at hB; simpa using hB.1
  have hlk : ∀ i o, ops[i]? = some o → (lkP Ex i).1 = o.dst := fun i o ho => by
    obtain ⟨Pk, Pi, t1, _⟩ := h3 i o (by simpa using ho)
    rw [t1]
  refine wp_region_valsH hm hB ha S (fun L i v w => (lkP Ex i).2 L v w) ?_ hs ?_
  · refine AllL.of fun i o ho => ?_
    intro L a w hL hS hbeh hsm haft
    obtain ⟨Pk, Pi, t1, t2, t3, t4⟩ := h3 i o (by simpa using ho)
    have hdi := hdst i o ho
    have hnow : NowS ops keep a0 S Pi i o L a w := ⟨hL, hS, hbeh, fun t ht => by
        have := hsm t fun j hj he => by
          have hj2 : j < ops.size := by rw [hn]; exact hj
          have hd := hdst j ops[j] (Array.getElem?_eq_getElem hj2)
          rw [hd] at he
          have := hkp ops[j] (by simp)
          rw [he] at this
          simp only [ht] at this
          cases this
        simpa [Act.eval] using this, aftF_of t4 _ fun e he hb => ?_⟩
    · have hstep := t3 L a w hnow
      have hl : ∀ a' w', LeavesS S R i o.dst Pk L a w a' w' → LeavesH (dstOf ops) S (fun L i v w => (lkP Ex i).2 L v w) i L a w a' w' := by
        rintro a' w' ⟨v, e1, e2, e3, e4, e5⟩
        rw [← hdi] at e1 e2
        refine ⟨v, e1, e2, by show (lkP Ex i).2 _ _ _; rw [t1]; exact e3, e4, fun j u hji hj hu => ?_⟩
        by_cases hjn : j < ops.size
        · obtain ⟨Pj, _, u1, u2, _⟩ := h3 j ops[j] (by simp [hjn])
          show (lkP Ex j).2 _ _ _
          replace hu : (lkP Ex j).2 _ _ _ := hu
          rw [u1] at hu ⊢
          exact u2 i L u w w' (Ne.symm hji) e5 hu
        · have : (lkP Ex j) = (none, fun _ _ _ => True) := lkP_none fun x hx e => hjn (by have := (h1 x hx).2.1; rw [e] at this; simpa using this)
          show (lkP Ex j).2 _ _ _
          rw [this]
          trivial
      cases hg : o.guard with
      | none =>
        rw [hg] at hstep
        exact Oper.wp_mono hl hstep
      | some gb =>
        obtain ⟨g, b⟩ := gb
        rw [hg] at hstep
        obtain ⟨b', s1, s2, s3⟩ := hstep
        have hgi : g < i := by
          unfold valsH at hB
          simp only [Bool.and_eq_true, List.all_eq_true, List.mem_range] at hB
          have hi : i < n := by rw [← hn]; exact (Array.getElem?_eq_some_iff.1 ho).1
          have := hB.2 i hi
          rw [ho] at this
          simp only [hg, Bool.and_eq_true, decide_eq_true_eq] at this
          exact this.1.1.1.1.1
        have hgs : g < ops.size := Nat.lt_trans hgi (Array.getElem?_eq_some_iff.1 ho).1
        refine ⟨b', ?_, fun e => Oper.wp_mono hl (s2 e), fun e => ?_⟩
        · rw [t4 g hgi, hlk g ops[g] (Array.getElem?_eq_getElem hgs), ← hdst g ops[g] (Array.getElem?_eq_getElem hgs)] at s1
          exact s1
        · rw [hdi]
          exact hl _ _ (s3 e)
    · have hbf : befB o e.on = true := by
        unfold befB
        rw [List.any_eq_true]
        exact ⟨e, he, by rw [hb, Bool.true_and]; exact Nat.beq_refl _⟩
      obtain ⟨g1, g2⟩ := haft e.on hbf
      have hlt : e.on < i := by
        unfold valsH at hB
        simp only [Bool.and_eq_true, List.all_eq_true, List.mem_range] at hB
        have hi : i < n := by rw [← hn]; exact (Array.getElem?_eq_some_iff.1 ho).1
        have := hB.2 i hi
        rw [ho] at this
        simp only [Bool.and_eq_true, List.all_eq_true] at this
        have := this.1.2 e (by simpa using he)
        simpa [hb] using this
      have hes : e.on < ops.size := Nat.lt_trans hlt (Array.getElem?_eq_some_iff.1 ho).1
      refine ⟨hlt, g1, ?_⟩
      rw [hlk e.on ops[e.on] (Array.getElem?_eq_getElem hes), ← hdst e.on ops[e.on] (Array.getElem?_eq_getElem hes)]
      exact g2
  · intro L a w hS hsz hde hsm hv
    refine h2 L a w (fun i hi => (hv i (by rw [← hn]; simpa using hi)).1) ⟨hS, ⟨hsz, hde, fun t ht => ?_⟩, fun j => ?_⟩
    · have := hsm t fun j hj he => by
        have hj2 : j < ops.size := by rw [hn]; exact hj
        have hd := hdst j ops[j] (Array.getElem?_eq_getElem hj2)
        rw [hd] at he
        have := hkp ops[j] (by simp)
        rw [he] at this
        simp only [ht] at this
        cases this
      simpa [Act.eval] using this
    · by_cases hj : j < n
      · have hjs : j < ops.size := by rw [hn]; exact hj
        have := (hv j hj).2
        rw [hdst _ _ (Array.getElem?_eq_getElem hjs), ← hlk _ _ (Array.getElem?_eq_getElem hjs)] at this
        exact this
      · have hx : ∀ x, x ∈ Ex → x.1 ≠ j := fun x hx e => hj (by have := (h1 x hx).2.1; rw [e] at this; rw [← hn]; simpa using this)
        rw [lkP_none hx]
        trivial
section
variable {k : Nat} {Ps : PVs} {o : Oper} {rest : List Oper}
/-- A slot that is reckoned out of others, or read. -/
theorem StepsS.exact {c : Value} {d : Nat} (hg : o.guard = none) (hd : o.dst = some d) (hS : ∀ L w, S L w → S (onL L k) w) (hR : ∀ w, R k w w)
    (h : ∀ (L : Nat → Bool) (a : Act) (w : World), NowS ops keep a0 S Ps k o L a w → (execOp a.eval o).run P w = .ok (.value c) w)
    (t : StepsS P Q ops keep a0 S R (k + 1) ((k, o.dst, exactP c) :: Ps) rest) : StepsS P Q ops keep a0 S R k Ps (o :: rest) := by
  refine ⟨exactP c, fun _ _ _ _ _ _ _ h => h, fun L a w hn => ?_, t⟩
  rw [hg]
  exact Oper.wp_value (h L a w hn) ⟨c, rfl, fun e => by rw [hd] at e; (cases e), rfl, hS L w hn.world, hR w⟩
/-- Any other one. -/
theorem StepsS.any (Pk : PV) (hg : o.guard = none) (hst : StabS R k Pk)
    (h : ∀ (L : Nat → Bool) (a : Act) (w : World), NowS ops keep a0 S Ps k o L a w → o.wp P a w (LeavesS S R k o.dst Pk L a w) Q)
    (t : StepsS P Q ops keep a0 S R (k + 1) ((k, o.dst, Pk) :: Ps) rest) : StepsS P Q ops keep a0 S R k Ps (o :: rest) := by
  refine ⟨Pk, hst, fun L a w hn => ?_, t⟩
  rw [hg]
  exact h L a w hn
/-- A guarded one, whose guard is told. -/
theorem StepsS.guarded (Pk : PV) {g : Nat} {b : Bool} (hg : o.guard = some (g, b)) (hst : StabS R k Pk)
    (h : ∀ (L : Nat → Bool) (a : Act) (w : World), NowS ops keep a0 S Ps k o L a w → ∃ b', slotv a (lkP Ps g).1 = .bool b' ∧ (b' = b → o.wp P a w (LeavesS S R k o.dst Pk L a w) Q) ∧ (b' ≠ b → LeavesS S R k o.dst Pk L a w (a.put o.dst undef) w))
    (t : StepsS P Q ops keep a0 S R (k + 1) ((k, o.dst, Pk) :: Ps) rest) : StepsS P Q ops keep a0 S R k Ps (o :: rest) := by
  refine ⟨Pk, hst, fun L a w hn => ?_, t⟩
  rw [hg]
  exact h L a w hn
/-- A call that returns a value that is known, and may make memory. -/
theorem StepsS.call {c : Value} {d : Nat} {f : FuncId} {args : Array Value} (hg : o.guard = none) (hd : o.dst = some d) (hS : ∀ L w w', S L w → Below w.heap.size w w' → S (onL L k) w') (hR : ∀ w w', Below w.heap.size w w' → R k w w')
    (h : ∀ (L : Nat → Bool) (a : Act) (w : World), NowS ops keep a0 S Ps k o L a w → (execOp a.eval o).run P w = .ok (.enter f args) w ∧ Calls P f args w fun e w' => e = .returned c ∧ Below w.heap.size w w')
    (t : StepsS P Q ops keep a0 S R (k + 1) ((k, o.dst, exactP c) :: Ps) rest) : StepsS P Q ops keep a0 S R k Ps (o :: rest) := by
  refine ⟨exactP c, fun _ _ _ _ _ _ _ h => h, fun L a w hn => ?_, t⟩
  rw [hg]
  obtain ⟨h1, h2⟩ := h L a w hn
  refine Oper.wp_enter h1 (h2.mono ?_)
  rintro e w' ⟨rfl, hb⟩
  exact ⟨c, rfl, c, rfl, fun e => by rw [hd] at e; (cases e), rfl, hS L w w' hn.world hb, hR w w' hb⟩
/-- The same, guarded by what is told to be as the guard wants it. -/
theorem StepsS.exactG {c : Value} {d g : Nat} {b : Bool} (hg : o.guard = some (g, b)) (hd : o.dst = some d) (hS : ∀ L w, S L w → S (onL L k) w) (hR : ∀ w, R k w w)
    (hb : ∀ (L : Nat → Bool) (a : Act) (w : World), NowS ops keep a0 S Ps k o L a w → slotv a (lkP Ps g).1 = .bool b)
    (h : ∀ (L : Nat → Bool) (a : Act) (w : World), NowS ops keep a0 S Ps k o L a w → (execOp a.eval o).run P w = .ok (.value c) w)
    (t : StepsS P Q ops keep a0 S R (k + 1) ((k, o.dst, exactP c) :: Ps) rest) : StepsS P Q ops keep a0 S R k Ps (o :: rest) := by
  refine ⟨exactP c, fun _ _ _ _ _ _ _ h => h, fun L a w hn => ?_, t⟩
  rw [hg]
  exact ⟨b, hb L a w hn, fun _ => Oper.wp_value (h L a w hn) ⟨c, rfl, fun e => by rw [hd] at e; (cases e), rfl, hS L w hn.world, hR w⟩, fun e => absurd rfl e⟩
theorem StepsS.callG {c : Value} {d g : Nat} {b : Bool} {f : FuncId} {args : Array Value} (hg : o.guard = some (g, b)) (hd : o.dst = some d) (hS : ∀ L w w', S L w → Below w.heap.size w w' → S (onL L k) w') (hR : ∀ w w', Below w.heap.size w w' → R k w w')
    (hb : ∀ (L : Nat → Bool) (a : Act) (w : World), NowS ops keep a0 S Ps k o L a w → slotv a (lkP Ps g).1 = .bool b)
    (h : ∀ (L : Nat → Bool) (a : Act) (w : World), NowS ops keep a0 S Ps k o L a w → (execOp a.eval o).run P w = .ok (.enter f args) w ∧ Calls P f args w fun e w' => e = .returned c ∧ Below w.heap.size w w')
    (t : StepsS P Q ops keep a0 S R (k + 1) ((k, o.dst, exactP c) :: Ps) rest) : StepsS P Q ops keep a0 S R k Ps (o :: rest) := by
  refine ⟨exactP c, fun _ _ _ _ _ _ _ h => h, fun L a w hn => ?_, t⟩
  rw [hg]
  refine ⟨b, hb L a w hn, fun _ => ?_, fun e => absurd rfl e⟩
  obtain ⟨h1, h2⟩ := h L a w hn
  refine Oper.wp_enter h1 (h2.mono ?_)
  rintro e w' ⟨rfl, hb⟩
  exact ⟨c, rfl, c, rfl, fun e => by rw [hd] at e; (cases e), rfl, hS L w w' hn.world hb, hR w w' hb⟩
theorem eval_of {a : Act} {n : Nat} {v : Value} (h : a.tmps[n]?.getD undef = v) : a.eval (.tmp n) = v := by rw [← h]; simp [Act.eval]
/-- A big struct read. -/
theorem exec_row {a : Act} {w : World} {ty : TypeId} {x : Operand} (ho : o.op = .load ty x) (b : Nat) (hx : a.eval x = .pointer (some ⟨b, 0, none⟩)) (t : TypeId) (cs : Array Value) (fr : Nat × Nat) (d : TypeDesc) (hb : w.heap[b]? = some (.cells cs t fr))
    (hu : P.underlying ty = some d) (hd : (match d with | .struct _ | .array _ _ => true | _ => false) = true) (hi : (P.info? ty).map (·.size) = some cs.size) : (execOp a.eval o).run P w = .ok (.value (.agg cs)) w := by
  have hl : (loadCells ⟨b, 0, none⟩ cs.toList.length).run P w = .ok cs.toList.toArray w :=
    run_loadCells_list (P := P) w ⟨b, 0, none⟩ cs.toList (fun j v hv => by
      have hadd : (⟨b, 0, none⟩ : Addr).add j = ⟨b, 0 + j, none⟩ := Addr.add_lit _ _ _
      rw [hadd, Nat.zero_add]
      have hj : cs[j]? = some v := by simpa using hv
      simp [World.cell?, hb, hj])
  have hrun : (loadVar ty ⟨b, 0, none⟩).run P w = .ok (.agg cs) w := by
    cases hq : P.info? ty with
    | none => simp [hq] at hi
    | some i =>
      have hs : i.size = cs.size := by simpa [hq] using hi
      have hagg : (isAgg ty).run P w = .ok true w := by
        unfold isAgg
        rw [Sem.run_bind, run_underlying hu w]
        cases d <;> simp_all
      simp only [Array.length_toList, Array.toArray_toList] at hl
      simp [loadVar, Sem.run_bind, hagg, sizeOf, typeInfo, hq, hs, hl]
  unfold execOp
  simp only [ho, hx, Instr.loadAt, Instr.sureAddr, Sem.run_bind, Sem.run_pure, Result.andThen_ok, hrun]
end
end
end Go.Proofs.YthcboallnbaimaaGreatDoor
namespace Go.Proofs.YthcboallnbaimaaGreatDoor
open Go Go.RowKit
set_option maxRecDepth 1000000 in
theorem act_F171 {a : Act} (h : a.tmps.size = 171) (hd : a.defers = []) : ∃ F : Nat → Value, (∀ i, F i = a.eval (.tmp i)) ∧ a = ⟨(F 0 :: F 1 :: F 2 :: F 3 :: F 4 :: F 5 :: F 6 :: F 7 :: F 8 :: F 9 :: F 10 :: F 11 :: F 12 :: F 13 :: F 14 :: F 15 :: F 16 :: F 17 :: F 18 :: F 19 :: F 20 :: F 21 :: F 22 :: F 23 :: F 24 :: F 25 :: F 26 :: F 27 :: F 28 :: F 29 :: F 30 :: F 31 :: F 32 :: F 33 :: F 34 :: F 35 :: F 36 :: F 37 :: F 38 :: F 39 :: F 40 :: F 41 :: F 42 :: F 43 :: F 44 :: F 45 :: F 46 :: F 47 :: F 48 :: F 49 :: F 50 :: F 51 :: F 52 :: F 53 :: F 54 :: F 55 :: F 56 :: F 57 :: F 58 :: F 59 :: F 60 :: F 61 :: F 62 :: F 63 :: F 64 :: F 65 :: F 66 :: F 67 :: F 68 :: F 69 :: F 70 :: F 71 :: F 72 :: F 73 :: F 74 :: F 75 :: F 76 :: F 77 :: F 78 :: F 79 :: F 80 :: F 81 :: F 82 :: F 83 :: F 84 :: F 85 :: F 86 :: F 87 :: F 88 :: F 89 :: F 90 :: F 91 :: F 92 :: F 93 :: F 94 :: F 95 :: F 96 :: F 97 :: F 98 :: F 99 :: F 100 :: F 101 :: F 102 :: F 103 :: F 104 :: F 105 :: F 106 :: F 107 :: F 108 :: F 109 :: F 110 :: F 111 :: F 112 :: F 113 :: F 114 :: F 115 :: F 116 :: F 117 :: F 118 :: F 119 :: F 120 :: F 121 :: F 122 :: F 123 :: F 124 :: F 125 :: F 126 :: F 127 :: F 128 :: F 129 :: F 130 :: F 131 :: F 132 :: F 133 :: F 134 :: F 135 :: F 136 :: F 137 :: F 138 :: F 139 :: F 140 :: F 141 :: F 142 :: F 143 :: F 144 :: F 145 :: F 146 :: F 147 :: F 148 :: F 149 :: F 150 :: F 151 :: F 152 :: F 153 :: F 154 :: F 155 :: F 156 :: F 157 :: F 158 :: F 159 :: F 160 :: F 161 :: F 162 :: F 163 :: F 164 :: F 165 :: F 166 :: F 167 :: F 168 :: F 169 :: F 170 :: []).toArray, []⟩ := ⟨fun i => a.eval (.tmp i), fun _ => rfl, act_eq h hd⟩
end Go.Proofs.YthcboallnbaimaaGreatDoor
namespace Go.Proofs.YthcboallnbaimaaGreatDoor
open Go
def noneB : ByteArray := ⟨#[110, 111, 110, 101]⟩
/-- The statement of way k, for a device of width w; its expressions' row, its Else's row. -/
def badS (w : Int) (sp so : Sp) : Nat → StmtV
  | 0 => .mk 0 ⟨#[]⟩ Sp.none [] 0 Sp.none [] Sp.none []
  | 1 => setT sp ⟨#[105]⟩ (numE 1 w)
  | 2 => setT sp noneB (numE 1 w)
  | 3 => setT sp ⟨#[97]⟩ (numE 1 w)
  | 4 => setT sp ⟨#[118]⟩ (numE 0 (w + 1))
  | 5 => writeT sp (numE 1 w) (numE 0 (w + 1))
  | 6 => callT Sp.none noneB []
  | 7 => .mk 7 ⟨#[]⟩ sp [numE 1 w] 17 Sp.none [] Sp.none []
  | 8 => .mk 4 ⟨#[]⟩ Sp.none [] 1 Sp.none [] Sp.none []
  | 9 => setT sp ⟨#[118]⟩ (nameE noneB)
  | 10 => writeT sp (numE 2 1) (numE 1 w)
  | _ => .mk 6 ⟨#[]⟩ sp [numE 1 w] 0 Sp.none [] so [.mk 9 ⟨#[]⟩ Sp.none [] 0 Sp.none [] Sp.none []]
def badC : Nat → List Int
  | 0 => [325]
  | 1 => [321, 0]
  | 2 => [321, 0]
  | 3 => [321, 0]
  | 4 => [322, 0]
  | 5 => [322, 0, 0]
  | 6 => [321]
  | 7 => [329, 0]
  | 8 => [325]
  | 9 => [0, 321]
  | 10 => [0, 322, 0]
  | _ => [0, 0, 325]
section
variable {M : MkE} {p : ProgV}
theorem find_no (h : IsHead M p) {i : Int} {s : ByteArray} (hs : ∀ x ∈ [M.N.i, M.N.j, M.N.g, M.N.h, M.N.v, M.N.c, M.N.a], x ≠ s) : findW p ⟨i, []⟩ s = ⟨0, 0⟩ := by
  unfold findW
  have e : look ([] : List (ByteArray × Thing)) s = none := rfl
  have e2 : look (thingsP p) s = none := by
    unfold look
    rw [Option.map_eq_none_iff, List.find?_eq_none]
    intro x hx
    rw [things_of h] at hx
    have := hs x.1 (mem_names hx)
    simpa using this
  simp only [e, e2]; rfl
theorem num_code {E : Env} {wh : Int} {x wd : Int} (hx : x < 2 ^ wd.toNat) (h1 : 1 ≤ wd ∧ wd ≤ 16) (k : Nat) (hk : k ≤ 32) : exprC p E wh (numE x wd) k = [0] := by
  rw [exprC_eq]
  have e1 : exprE p E wh (numE x wd) k = 0 := by
    refine exprE_zero rfl (fun h => absurd h.1 (by simp [namesB, numE, ExprV.kind])) (by simp [namesB, numE, ExprV.kind]) ?_ hk
    unfold widthsB
    rw [if_pos (show (numE x wd).kind = 1 from rfl)]
    have : mostW wd = 2 ^ wd.toNat - 1 := by unfold mostW; rw [if_pos (wideW_of h1)]
    simp only [numE, ExprV.width, ExprV.value, wideW_of h1, this, Bool.not_true, Bool.false_or, decide_eq_false_iff_not]
    omega
  rw [e1]
  show 0 :: exprsC p E wh [] (k + 1) = [0]
  rw [exprsC_eq]
  rfl
theorem one_fits {w : Int} (h : 1 ≤ w ∧ w ≤ 3) : (1 : Int) < 2 ^ w.toNat := by
  have : w = 1 ∨ w = 2 ∨ w = 3 := by omega
  rcases this with rfl | rfl | rfl <;> decide
theorem stmtE_bad {E : Env} {s : StmtV} {k : Nat} {e : Int} (h1 : formB s = true) (h2 : wrongE p E s = e) (h3 : e ≠ 0) : stmtE p E s k = e := by
  unfold stmtE; rw [if_pos h1, if_neg (by rw [h2]; exact h3), h2]
theorem input_kind (h : IsHead M p) (hN : M.N = std) {i : Int} : (findW p ⟨i, []⟩ ⟨#[105]⟩).kind = 0 ∨ (findW p ⟨i, []⟩ ⟨#[105]⟩).kind = 1 := by
  unfold findW
  have e : look ([] : List (ByteArray × Thing)) ⟨#[105]⟩ = none := rfl
  simp only [e]
  cases hl : look (thingsP p) ⟨#[105]⟩ with
  | none => left; rfl
  | some t =>
    right
    unfold look at hl
    rw [Option.map_eq_some_iff] at hl
    obtain ⟨x, hx, rfl⟩ := hl
    have h1 := List.mem_of_find?_eq_some hx
    have h2 := List.find?_some hx
    simp only [decide_eq_true_eq] at h2
    rw [things_of h] at h1
    simp only [List.mem_append, ghostsT, varsT, List.mem_cons, List.not_mem_nil, or_false, hN] at h1
    rcases h1 with ((h1 | h1) | h1) | h1
    · have h3 := List.mem_of_mem_take h1
      simp at h3
      rcases h3 with rfl | rfl <;> rfl
    · rcases h1 with rfl | rfl
      · exact absurd (show std.g = ⟨#[105]⟩ from h2) (by decide)
      · exact absurd (show std.h = ⟨#[105]⟩ from h2) (by decide)
    · rcases h1 with rfl | rfl
      · exact absurd (show std.v = ⟨#[105]⟩ from h2) (by decide)
      · exact absurd (show std.c = ⟨#[105]⟩ from h2) (by decide)
    · subst h1; exact absurd (show std.a = ⟨#[105]⟩ from h2) (by decide)
theorem differ_next {w : Int} (h : 1 ≤ w ∧ w ≤ 3) : differW (w + 1) w = true := by
  have : w = 1 ∨ w = 2 ∨ w = 3 := by omega
  rcases this with rfl | rfl | rfl <;> decide
theorem bad_codes (h : IsHead M p) (hN : M.N = std) (hl : look (procsAt p) noneB = none) (sp so : Sp) (k : Nat) : stmtC p outside (badS M.w sp so k) 1 = badC k := by
  obtain ⟨hM1, hM2, hM3⟩ := h.ok
  have hnm : nmOk M.N = true := by rw [hN]; decide
  have hE := env_out h hnm (-1)
  have hno : findW p outside noneB = ⟨0, 0⟩ := find_no h (by rw [hN]; intro x hx; simp only [std, List.mem_cons, List.not_mem_nil, or_false] at hx; rcases hx with rfl | rfl | rfl | rfl | rfl | rfl | rfl <;> decide)
  have ha : findW p outside ⟨#[97]⟩ = ⟨4, M.w⟩ := by have := hE.arr; rw [hN] at this; exact this
  have hv : findW p outside ⟨#[118]⟩ = ⟨3, M.w⟩ := by have := hE.find (M.N.v, ⟨3, M.w⟩) (by simp [leafT, varsT]); rw [hN] at this; exact this
  have hi := input_kind h hN (i := -1)
  have h1 := fun (k : Nat) (hk : k ≤ 32) => num_code (p := p) (E := outside) (wh := 0) (x := 1) (wd := M.w) (one_fits ⟨hM1, hM2⟩) ⟨hM1, by omega⟩ k hk
  have h0 := fun (k : Nat) (hk : k ≤ 32) => num_code (p := p) (E := outside) (wh := 0) (x := 0) (wd := M.w + 1) (by have : (0 : Int) < 2 ^ (M.w + 1).toNat := Int.pow_pos (by decide); exact this) ⟨by omega, by omega⟩ k hk
  have hwn : ∀ (x wd : Int), 1 ≤ wd → wd ≤ 16 → widthE p outside (numE x wd) = wd := fun x wd a b => by rw [widthE_eq]; exact cutW_of ⟨a, b⟩
  have eset : ∀ s e, wrongE p outside (setT sp s e) = if (findW p outside s).kind = 0 ∨ (findW p outside s).kind = 1 ∨ (findW p outside s).kind = 4 then 321 else if differW (widthE p outside e) (findW p outside s).width = true then 322 else 0 := fun _ _ => rfl
  have ewr : ∀ a b, wrongE p outside (writeT sp a b) = if differW (widthE p outside b) p.width = true then 322 else 0 := fun _ _ => rfl
  have cset : ∀ s e, stmtC p outside (setT sp s e) 1 = stmtE p outside (setT sp s e) 1 :: exprC p outside 0 e 1 := fun s e => by
    rw [stmtC_eq]
    show _ :: (exprsC p outside 0 [e] 1 ++ (stmtsC p outside [] 2 ++ stmtsC p outside [] 2)) = _
    rw [exprsC_one, stmtsC_nil]; simp
  have cwr : ∀ a b, stmtC p outside (writeT sp a b) 1 = stmtE p outside (writeT sp a b) 1 :: (exprC p outside 0 a 1 ++ exprC p outside 0 b 1) := fun a b => by
    rw [stmtC_eq]
    show _ :: (exprsC p outside 0 [a, b] 1 ++ (stmtsC p outside [] 2 ++ stmtsC p outside [] 2)) = _
    rw [exprsC_two, stmtsC_nil]; simp
  match k with
  | 0 =>
    show stmtC p outside (.mk 0 ⟨#[]⟩ Sp.none [] 0 Sp.none [] Sp.none []) 1 = [325]
    rw [stmtC_eq]
    show stmtE p outside _ 1 :: (exprsC p outside 0 [] 1 ++ (stmtsC p outside [] 2 ++ stmtsC p outside [] 2)) = [325]
    rw [exprsC_eq, stmtsC_nil]; rfl
  | 1 =>
    show stmtC p outside (setT sp ⟨#[105]⟩ (numE 1 M.w)) 1 = [321, 0]
    rw [cset, stmtE_bad (e := 321) rfl (by rw [eset, if_pos]; rcases hi with hi | hi; exact .inl hi; exact .inr (.inl hi)) (by decide), h1 1 (by decide)]
  | 2 =>
    show stmtC p outside (setT sp noneB (numE 1 M.w)) 1 = [321, 0]
    rw [cset, stmtE_bad (e := 321) rfl (by rw [eset, hno]; rfl) (by decide), h1 1 (by decide)]
  | 3 =>
    show stmtC p outside (setT sp ⟨#[97]⟩ (numE 1 M.w)) 1 = [321, 0]
    rw [cset, stmtE_bad (e := 321) rfl (by rw [eset, ha]; rfl) (by decide), h1 1 (by decide)]
  | 4 =>
    show stmtC p outside (setT sp ⟨#[118]⟩ (numE 0 (M.w + 1))) 1 = [322, 0]
    rw [cset, stmtE_bad (e := 322) rfl (by rw [eset, hv, hwn _ _ (by omega) (by omega), if_neg (show ¬ ((3 : Int) = 0 ∨ (3 : Int) = 1 ∨ (3 : Int) = 4) by decide), if_pos (differ_next ⟨hM1, hM2⟩)]) (by decide), h0 1 (by decide)]
  | 5 =>
    show stmtC p outside (writeT sp (numE 1 M.w) (numE 0 (M.w + 1))) 1 = [322, 0, 0]
    rw [cwr, stmtE_bad (e := 322) rfl (by rw [ewr, hwn _ _ (by omega) (by omega), h.width, if_pos (differ_next ⟨hM1, hM2⟩)]) (by decide), h0 1 (by decide), h1 1 (by decide)]; rfl
  | 6 =>
    show stmtC p outside (callT Sp.none noneB []) 1 = [321]
    rw [stmtC_eq, stmtE_bad (e := 321) rfl (by
      have e : wrongE p outside (callT Sp.none noneB []) = match look (procsAt p) noneB with
        | none => 321
        | some i => if argsB p outside i.toNat [] = true then 327 else if outside.within ≥ 0 ∧ leadsB p i.toNat outside.within.toNat = true then 328 else 0 := rfl
      rw [e, hl]) (by decide)]
    show 321 :: (exprsC p outside 0 [] 1 ++ (stmtsC p outside [] 2 ++ stmtsC p outside [] 2)) = [321]
    rw [exprsC_eq, stmtsC_nil]; rfl
  | 7 =>
    show stmtC p outside (.mk 7 ⟨#[]⟩ sp [numE 1 M.w] 17 Sp.none [] Sp.none []) 1 = [329, 0]
    rw [stmtC_eq, stmtE_bad (e := 329) rfl rfl (by decide)]
    show 329 :: (exprsC p outside 0 [numE 1 M.w] 1 ++ (stmtsC p outside [] 2 ++ stmtsC p outside [] 2)) = [329, 0]
    rw [exprsC_one, h1 1 (by decide), stmtsC_nil]; rfl
  | 8 =>
    show stmtC p outside (.mk 4 ⟨#[]⟩ Sp.none [] 1 Sp.none [] Sp.none []) 1 = [325]
    rw [stmtC_eq]
    show stmtE p outside _ 1 :: (exprsC p outside 0 [] 1 ++ (stmtsC p outside [] 2 ++ stmtsC p outside [] 2)) = [325]
    rw [exprsC_eq, stmtsC_nil]; rfl
  | 9 =>
    show stmtC p outside (setT sp ⟨#[118]⟩ (nameE noneB)) 1 = [0, 321]
    have hw0 : widthE p outside (nameE noneB) = 0 := by
      rw [widthE_eq]
      have e : rawWidth p outside (nameE noneB).kind (nameE noneB).op (nameE noneB).width (nameE noneB).name (subW p outside (nameE noneB).subs 0) (subW p outside (nameE noneB).subs 1) = (if (findW p outside noneB).kind ≠ 0 ∧ ((findW p outside noneB).kind = 4 ↔ (2 : Int) = 3) then (findW p outside noneB).width else 0) := rfl
      rw [e, hno]; rfl
    have hx : exprC p outside 0 (nameE noneB) 1 = [321] := by
      rw [exprC_eq]
      have e1 : exprE p outside 0 (nameE noneB) 1 = 321 := by
        unfold exprE
        rw [if_neg (by decide), if_pos ⟨rfl, .inl (by show (findW p outside noneB).kind = 0; rw [hno])⟩]
      rw [e1]
      show 321 :: exprsC p outside 0 [] 2 = [321]
      rw [exprsC_eq]; rfl
    rw [cset, stmtE_zero rfl (by rw [eset, hv, hw0, if_neg (show ¬ ((3 : Int) = 0 ∨ (3 : Int) = 1 ∨ (3 : Int) = 4) by decide), if_neg]; simp [differW, wideW]) (by decide), hx]
  | 10 =>
    show stmtC p outside (writeT sp (numE 2 1) (numE 1 M.w)) 1 = [0, 322, 0]
    have hx : exprC p outside 0 (numE 2 1) 1 = [322] := by
      rw [exprC_eq]
      have e1 : exprE p outside 0 (numE 2 1) 1 = 322 := by
        unfold exprE
        rw [if_neg (by decide), if_neg (by simp [namesB, numE, ExprV.kind]), if_neg (by simp [namesB, numE, ExprV.kind]), if_pos (show widthsB p outside (numE 2 1) = true by unfold widthsB; rw [if_pos (show (numE 2 1).kind = 1 from rfl)]; decide)]
      rw [e1]
      show 322 :: exprsC p outside 0 [] 2 = [322]
      rw [exprsC_eq]; rfl
    rw [cwr, stmtE_zero rfl (by rw [ewr, hwn _ _ (by omega) (by omega), h.width, differ_same]; rfl) (by decide), hx, h1 1 (by decide)]; rfl
  | k + 11 =>
    show stmtC p outside (.mk 6 ⟨#[]⟩ sp [numE 1 M.w] 0 Sp.none [] so [.mk 9 ⟨#[]⟩ Sp.none [] 0 Sp.none [] Sp.none []]) 1 = [0, 0, 325]
    rw [stmtC_eq, stmtE_zero rfl rfl (by decide)]
    show 0 :: (exprsC p outside 0 [numE 1 M.w] 1 ++ (stmtsC p outside [] 2 ++ stmtsC p outside [.mk 9 ⟨#[]⟩ Sp.none [] 0 Sp.none [] Sp.none []] 2)) = [0, 0, 325]
    rw [exprsC_one, h1 1 (by decide), stmtsC_nil, stmtsC_eq]
    show 0 :: ([0] ++ ([] ++ (stmtC p outside (.mk 9 ⟨#[]⟩ Sp.none [] 0 Sp.none [] Sp.none []) 2 ++ []))) = [0, 0, 325]
    rw [stmtC_eq]
    show 0 :: ([0] ++ ([] ++ (stmtE p outside _ 2 :: (exprsC p outside 0 [] 1 ++ (stmtsC p outside [] 3 ++ stmtsC p outside [] 3)) ++ []))) = [0, 0, 325]
    rw [exprsC_eq, stmtsC_nil]; rfl
def atN : Nat → Nat
  | 9 => 1
  | 10 => 1
  | k => if 11 ≤ k then 2 else 0
def errN : Nat → Int
  | 0 => 325
  | 1 => 321
  | 2 => 321
  | 3 => 321
  | 4 => 322
  | 5 => 322
  | 6 => 321
  | 7 => 329
  | 8 => 325
  | 9 => 321
  | 10 => 322
  | _ => 325
theorem bad_probs (k n : Nat) : probs (badC k) n = [((n : Int) + atN k, errN k)] := by
  match k with
  | 0 => simp [probs, badC, atN, errN]
  | 1 => simp [probs, badC, atN, errN]
  | 2 => simp [probs, badC, atN, errN]
  | 3 => simp [probs, badC, atN, errN]
  | 4 => simp [probs, badC, atN, errN]
  | 5 => simp [probs, badC, atN, errN]
  | 6 => simp [probs, badC, atN, errN]
  | 7 => simp [probs, badC, atN, errN]
  | 8 => simp [probs, badC, atN, errN]
  | 9 => simp [probs, badC, atN, errN]
  | 10 => simp [probs, badC, atN, errN]
  | k + 11 => simp [probs, badC, atN, errN]; omega
theorem probs_zeros {a : List Int} (ha : allZ a) (l : List Int) (n : Nat) : probs (a ++ l) n = probs l (n + a.length) := by
  rw [probs_append, (probs_nil a n).2 ha, List.nil_append]
theorem same_procsZ {hasP : Bool} {q : ProgV} (h : IsMade M hasP p) (hh : IsHead M q) (hq : q.procs = p.procs) (hN : nmOk M.N = true) : allZ (procsC q q.procs 0 (names4 q)) := by
  have hp := h.procs
  rw [hq]
  split at hp
  · obtain ⟨q0, h1, h2⟩ := hp
    have h3 := procZ hh hN h2 (i := 0) (by rw [hq, h1]; rfl) (not_names hh hN).2
    rw [h1, procsC, procsC, List.append_nil]
    exact h3
  · rw [hp, procsC]; exact .nil
theorem same_out {hasP : Bool} {q : ProgV} (h : IsMade M hasP p) (hq : q.procs = p.procs) : CallOk q outside M hasP := fun h1 _ => by
  obtain ⟨q0, l, h2, h3⟩ := h.hasp h1
  exact ⟨look_p (l := l) (by rw [hq, h2]) h3.name, ⟨q0, ⟨xB, M.w, 0⟩, by rw [hq, h2]; rfl, h3.params, rfl⟩, .inl (by decide)⟩
theorem none_look {hasP : Bool} {q : ProgV} (h : IsMade M hasP p) (hq : q.procs = p.procs) : look (procsAt q) noneB = none := by
  have hp := h.procs
  unfold procsAt look
  rw [hq]
  split at hp
  · obtain ⟨q0, h1, h2⟩ := hp
    have e : decide (pB = noneB) = false := by decide
    simp [h1, numbered, h2.name, e]
  · simp [hp, numbered]
/-- With a wrong statement at the end of Recover; and of Work, too. -/
def placeQ (p : ProgV) (s : StmtV) (cs : Sp) : ProgV := { p with recover := p.recover ++ [s], cs := cs }
def placeR (p : ProgV) (s : StmtV) (cs ws : Sp) : ProgV := { placeQ p s cs with work := p.work ++ [s], ws := ws }
theorem badS_len (w : Int) (sp so : Sp) (k : Nat) (h : stmtC p outside (badS w sp so k) 1 = badC k) : heftL [badS w sp so k] = (badC k).length := by
  rw [← h, stmtC_len, heftL_one]
theorem badC_len (k : Nat) : (badC k).length ≤ 3 := by
  match k with
  | 0 => decide
  | 1 => decide
  | 2 => decide
  | 3 => decide
  | 4 => decide
  | 5 => decide
  | 6 => decide
  | 7 => decide
  | 8 => decide
  | 9 => decide
  | 10 => decide
  | k + 11 => show (3 : Nat) ≤ 3; decide
theorem heftL_app (a b : List StmtV) : heftL (a ++ b) = heftL a + heftL b := by
  unfold heftL heftT
  rw [List.flatMap_append, List.map_append, List.sum_append]
theorem placeQ_heft (s : StmtV) (cs : Sp) : heftP (placeQ p s cs) = heftP p + heftL [s] := by
  have e : heftL (placeQ p s cs).recover = heftL p.recover + heftL [s] := heftL_app _ _
  unfold heftP
  rw [e]
  show (p.inputs.length + p.ghosts.length + p.vars.length + p.arrays.length + 1) + p.require.pre.length + (p.inits.map fun i => 1 + i.value.pre.length).sum + (p.procs.map heftQ).sum + heftL p.work + (heftL p.recover + heftL [s]) + p.invariant.pre.length = (p.inputs.length + p.ghosts.length + p.vars.length + p.arrays.length + 1) + p.require.pre.length + (p.inits.map fun i => 1 + i.value.pre.length).sum + (p.procs.map heftQ).sum + heftL p.work + heftL p.recover + p.invariant.pre.length + heftL [s]
  omega
theorem placeR_heft (s : StmtV) (cs ws : Sp) : heftP (placeR p s cs ws) = heftP p + heftL [s] + heftL [s] := by
  have e : heftL (placeR p s cs ws).recover = heftL p.recover + heftL [s] := heftL_app _ _
  have e2 : heftL (placeR p s cs ws).work = heftL p.work + heftL [s] := heftL_app _ _
  unfold heftP
  rw [e, e2]
  show (p.inputs.length + p.ghosts.length + p.vars.length + p.arrays.length + 1) + p.require.pre.length + (p.inits.map fun i => 1 + i.value.pre.length).sum + (p.procs.map heftQ).sum + (heftL p.work + heftL [s]) + (heftL p.recover + heftL [s]) + p.invariant.pre.length = (p.inputs.length + p.ghosts.length + p.vars.length + p.arrays.length + 1) + p.require.pre.length + (p.inits.map fun i => 1 + i.value.pre.length).sum + (p.procs.map heftQ).sum + heftL p.work + heftL p.recover + p.invariant.pre.length + heftL [s] + heftL [s]
  omega
theorem stmtsC_snoc (q : ProgV) (E : Env) (a : List StmtV) (s : StmtV) (d : Nat) : stmtsC q E (a ++ [s]) d = stmtsC q E a d ++ stmtC q E s d := by
  rw [stmtsC_eq, stmtsC_eq, List.flatMap_append]
  simp
theorem placeQ_head {hasP : Bool} (h : IsMade M hasP p) (s : StmtV) (cs : Sp) : IsHead M (placeQ p s cs) := ⟨h.ok, h.prm, h.blocks, h.width, h.inputs, h.ghosts, h.vars, h.arrays, h.require, h.inits, h.blocksN, h.initsN, h.invariant⟩
theorem placeR_head {hasP : Bool} (h : IsMade M hasP p) (s : StmtV) (cs ws : Sp) : IsHead M (placeR p s cs ws) := ⟨h.ok, h.prm, h.blocks, h.width, h.inputs, h.ghosts, h.vars, h.arrays, h.require, h.inits, h.blocksN, h.initsN, h.invariant⟩
/-- What is told of a program with one wrong statement at the end of Recover. -/
theorem placeQ_res {hasP : Bool} (h : IsMade M hasP p) (hN : M.N = std) (sp so cs : Sp) (k : Nat) :
    resP (placeQ p (badS M.w sp so k) cs) = [(((heftP p - p.invariant.pre.length : Nat) : Int) + atN k, errN k)] := by
  have hnm : nmOk M.N = true := by rw [hN]; decide
  have hh := placeQ_head h (badS M.w sp so k) cs
  have hbc := bad_codes hh hN (none_look h rfl) sp so k
  have hlen := badS_len _ _ _ _ hbc
  have hl3 := badC_len k
  have hf := made_heft h
  have hq := placeQ_heft (p := p) (badS M.w sp so k) cs
  have hz1 := headZ hh hnm (by have := (made_procs_few h).1; show p.procs.length ≤ 16; omega) (size := (heftP (placeQ p (badS M.w sp so k) cs) : Nat)) (by omega)
  have hz2 := same_procsZ h hh rfl hnm
  have hz3 : allZ (stmtsC (placeQ p (badS M.w sp so k) cs) outside p.work 1) := stmtsZ fun s hs => (h.work s hs).codes h.ok (env_out hh hnm (-1)) (same_out h rfl) 1 (by omega)
  have hz4 : allZ (stmtsC (placeQ p (badS M.w sp so k) cs) outside p.recover 1) := stmtsZ fun s hs => (h.recover s hs).codes h.ok (env_out hh hnm (-1)) (same_out h rfl) 1 (by omega)
  have hz5 := invZ hh hnm
  rw [res_of (by rw [codesP_len]) (by omega)]
  have hcl := codesP_len (placeQ p (badS M.w sp so k) cs) ((heftP (placeQ p (badS M.w sp so k) cs) : Nat) : Int)
  rw [codesP_parts] at hcl ⊢
  have e : stmtsC (placeQ p (badS M.w sp so k) cs) outside (placeQ p (badS M.w sp so k) cs).recover 1 = stmtsC (placeQ p (badS M.w sp so k) cs) outside p.recover 1 ++ badC k := by
    rw [← hbc]; exact stmtsC_snoc _ _ _ _ _
  have e2 : stmtsC (placeQ p (badS M.w sp so k) cs) outside (placeQ p (badS M.w sp so k) cs).work 1 = stmtsC (placeQ p (badS M.w sp so k) cs) outside p.work 1 := rfl
  rw [e, e2] at hcl ⊢
  rw [probs_zeros hz1, probs_zeros hz2, probs_zeros hz3, List.append_assoc, probs_zeros hz4, probs_append, (probs_nil _ _).2 hz5, List.append_nil, bad_probs]
  have hinv : (exprC (placeQ p (badS M.w sp so k) cs) outside 2 (placeQ p (badS M.w sp so k) cs).invariant 1).length = p.invariant.pre.length := exprC_len _ _ _ _ _
  simp only [List.length_append, hinv] at hcl
  congr 2
  have : p.invariant.pre.length ≤ heftP p := by unfold heftP; omega
  omega
/-- What is told of a program with the wrong statement at the ends of both routines. -/
theorem placeR_res {hasP : Bool} (h : IsMade M hasP p) (hN : M.N = std) (sp so cs ws : Sp) (k : Nat) :
    resP (placeR p (badS M.w sp so k) cs ws) = [(((heftP p - p.invariant.pre.length - heftL p.recover : Nat) : Int) + atN k, errN k), (((heftP p - p.invariant.pre.length + heftL [badS M.w sp so k] : Nat) : Int) + atN k, errN k)] := by
  have hnm : nmOk M.N = true := by rw [hN]; decide
  have hh := placeR_head h (badS M.w sp so k) cs ws
  have hbc := bad_codes hh hN (none_look h rfl) sp so k
  have hlen := badS_len _ _ _ _ hbc
  have hl3 := badC_len k
  have hf := made_heft h
  have hq := placeR_heft (p := p) (badS M.w sp so k) cs ws
  have hz1 := headZ hh hnm (by have := (made_procs_few h).1; show p.procs.length ≤ 16; omega) (size := (heftP (placeR p (badS M.w sp so k) cs ws) : Nat)) (by omega)
  have hz2 := same_procsZ h hh rfl hnm
  have hz3 : allZ (stmtsC (placeR p (badS M.w sp so k) cs ws) outside p.work 1) := stmtsZ fun s hs => (h.work s hs).codes h.ok (env_out hh hnm (-1)) (same_out h rfl) 1 (by omega)
  have hz4 : allZ (stmtsC (placeR p (badS M.w sp so k) cs ws) outside p.recover 1) := stmtsZ fun s hs => (h.recover s hs).codes h.ok (env_out hh hnm (-1)) (same_out h rfl) 1 (by omega)
  have hz5 := invZ hh hnm
  rw [res_of (by rw [codesP_len]) (by omega)]
  have hcl := codesP_len (placeR p (badS M.w sp so k) cs ws) ((heftP (placeR p (badS M.w sp so k) cs ws) : Nat) : Int)
  rw [codesP_parts] at hcl ⊢
  have e : stmtsC (placeR p (badS M.w sp so k) cs ws) outside (placeR p (badS M.w sp so k) cs ws).recover 1 = stmtsC (placeR p (badS M.w sp so k) cs ws) outside p.recover 1 ++ badC k := by
    rw [← hbc]; exact stmtsC_snoc _ _ _ _ _
  have e2 : stmtsC (placeR p (badS M.w sp so k) cs ws) outside (placeR p (badS M.w sp so k) cs ws).work 1 = stmtsC (placeR p (badS M.w sp so k) cs ws) outside p.work 1 ++ badC k := by
    rw [← hbc]; exact stmtsC_snoc _ _ _ _ _
  rw [e, e2] at hcl ⊢
  rw [probs_zeros hz1, probs_zeros hz2, List.append_assoc, probs_zeros hz3, probs_append, List.append_assoc, probs_zeros hz4, probs_append, (probs_nil _ _).2 hz5, List.append_nil, bad_probs, bad_probs]
  have hinv : (exprC (placeR p (badS M.w sp so k) cs ws) outside 2 (placeR p (badS M.w sp so k) cs ws).invariant 1).length = p.invariant.pre.length := exprC_len _ _ _ _ _
  have hrec : (stmtsC (placeR p (badS M.w sp so k) cs ws) outside p.recover 1).length = heftL p.recover := stmtsC_len _ _ _ _
  have h9 : p.invariant.pre.length + heftL p.recover ≤ heftP p := by unfold heftP; omega
  simp only [List.length_append, hinv, hrec] at hcl
  show [_] ++ [_] = [_, _]
  rw [List.singleton_append]
  congr 2
  · omega
  · congr 2
    omega
theorem placeQ_fit {hasP : Bool} (h : IsMade M hasP p) (hN : M.N = std) (sp so cs : Sp) (k : Nat) : Fit (placeQ p (badS M.w sp so k) cs) ∧ (checkP (placeQ p (badS M.w sp so k) cs)).2 = errN k := by
  have hnm : nmOk M.N = true := by rw [hN]; decide
  have hlen := badS_len M.w sp so k (bad_codes (placeQ_head h (badS M.w sp so k) cs) hN (none_look h rfl) sp so k)
  have hl3 := badC_len k
  have hf := made_heft h
  have hq := placeQ_heft (p := p) (badS M.w sp so k) cs
  refine ⟨fit_heft (by omega) ⟨(made_names h hnm).1, (made_names h hnm).2⟩, ?_⟩
  have hr := placeQ_res h hN sp so cs k
  rw [check_of (by rw [codesP_len]) (by omega) rfl, ← res_of (by rw [codesP_len]) (by omega), hr]
  rfl
theorem placeR_fit {hasP : Bool} (h : IsMade M hasP p) (hN : M.N = std) (sp so cs ws : Sp) (k : Nat) : Fit (placeR p (badS M.w sp so k) cs ws) ∧ checkP (placeR p (badS M.w sp so k) cs ws) = (((heftP p - p.invariant.pre.length - heftL p.recover : Nat) : Int) + atN k, errN k) := by
  have hnm : nmOk M.N = true := by rw [hN]; decide
  have hlen := badS_len M.w sp so k (bad_codes (placeR_head h (badS M.w sp so k) cs ws) hN (none_look h rfl) sp so k)
  have hl3 := badC_len k
  have hf := made_heft h
  have hq := placeR_heft (p := p) (badS M.w sp so k) cs ws
  refine ⟨fit_heft (by omega) ⟨(made_names h hnm).1, (made_names h hnm).2⟩, ?_⟩
  have hr := placeR_res h hN sp so cs ws k
  rw [check_of (by rw [codesP_len]) (by omega) rfl, ← res_of (by rw [codesP_len]) (by omega), hr]
  rfl
end
end Go.Proofs.YthcboallnbaimaaGreatDoor
namespace Go.Proofs.YthcboallnbaimaaGreatDoor
open Go Go.RowKit Go.Maps
noncomputable def ops7 : Array Oper := ((Tryz.f7.body.bind (opsOf 7)).getD #[])
def dst7 (i : Nat) : Nat := 74 + i
theorem ops7_ok : valsD ops7 8 171 dst7 = true := by kernel_rfl
def P7 (bp b7 bq : Nat) (sp : Sp) (l : List StmtV) (s : StmtV) (W0 : World) (L : Nat → Bool) (i : Nat) (v : Value) (w : World) : Prop :=
  match i with
  | 0 => v = .pointer (some ⟨bp, 15, none⟩)
  | 1 => v = .slice sp.at_ l.length sp.cap
  | 2 => L 6 = true ∨ OwnL W0.heap.size w 49 6 StmtV.cells v l
  | 3 => v = .pointer (some ⟨b7, 0, none⟩)
  | 4 => v = s.val
  | 5 => L 6 = true ∨ ∃ b, v = .slice (some ⟨b, 0, none⟩) 1 1 ∧ RowOf w.heap.size w ⟨some ⟨b, 0, none⟩, 1⟩ 6 StmtV.cells [s]
  | 6 => OwnL W0.heap.size w 49 6 StmtV.cells v (l ++ [s])
  | _ => v = .pointer (some ⟨bq, 15, none⟩)
theorem P7_on {bp b7 bq : Nat} {sp : Sp} {l : List StmtV} {s : StmtV} {W0 : World} {L : Nat → Bool} {i : Nat} {w w' : World} (hb : Below w.heap.size w w') (j : Nat) (u : Value) (hji : j ≠ i) (hj : L j = true) (h : P7 bp b7 bq sp l s W0 L j u w) : P7 bp b7 bq sp l s W0 (onL L i) j u w' := by
  have hL : ∀ k, L k = true → onL L i k = true := fun k hk => by unfold onL; split <;> simp [*]
  unfold P7 at h ⊢
  split at h
  · exact h
  · exact h
  · exact h.imp (hL _) fun h => h.on hb
  · exact h
  · exact h
  · exact h.imp (hL _) fun ⟨b, e, hr⟩ => ⟨b, e, (hr.below hb).more hb.size⟩
  · exact h.on hb
  · exact h
theorem P7_app {bp b7 bq : Nat} {sp : Sp} {l : List StmtV} {s : StmtV} {W0 : World} {L : Nat → Bool} {w w' : World} (j : Nat) (u : Value) (hji : j ≠ 6) (_ : L j = true) (h : P7 bp b7 bq sp l s W0 L j u w) : P7 bp b7 bq sp l s W0 (onL L 6) j u w' := by
  unfold P7 at h ⊢
  split at h
  · exact h
  · exact h
  · exact .inl onL_same
  · exact h
  · exact h
  · exact .inl onL_same
  · exact absurd rfl hji
  · exact h
set_option maxRecDepth 1000000 in
set_option maxHeartbeats 4000000 in
theorem places7 {a0 : Act} {w0 : World} (hsz : a0.tmps.size = 171) (hd : a0.defers = []) (bp b7 bq : Nat) (sp : Sp) (l : List StmtV) (s : StmtV)
    (h5 : a0.eval (.tmp 5) = .pointer (some ⟨bp, 0, none⟩)) (h7 : a0.eval (.tmp 7) = .pointer (some ⟨b7, 0, none⟩)) (h8 : a0.eval (.tmp 8) = .pointer (some ⟨bq, 0, none⟩))
    (hc : w0.cell? ⟨bp, 15, none⟩ = some (.slice sp.at_ l.length sp.cap)) (hr : RowOf w0.heap.size w0 sp 6 StmtV.cells l) (hl : l.length ≤ 100000) (hs : ∀ r u, s.cells[r]? = some u → w0.cell? ⟨b7, r, none⟩ = some u)
    (hbp : bp < w0.heap.size) (hb7 : b7 < w0.heap.size) (hbq : bq < w0.heap.size) {old : Value} (hq : w0.cell? ⟨bq, 15, none⟩ = some old) (hf : w0.frozen? ⟨bq, 15, none⟩ = false) :
    (Code.region 7 ops7 true).wp Tryz.prog (fun e a w => e = .normal ∧ a.tmps.size = 171 ∧ a.defers = [] ∧ (∀ t : Nat, t ≤ 73 → a.eval (.tmp t) = a0.eval (.tmp t)) ∧
      ∃ v w1, OwnL w0.heap.size w1 49 6 StmtV.cells v (l ++ [s]) ∧ Below w0.heap.size w0 w1 ∧ w = w1.setCell ⟨bq, 15, none⟩ v) a0 w0 := by
  refine wp_region_valsD (n := 8) (dst := dst7) rfl ops7_ok hsz (fun _ w => Below w0.heap.size w0 w) (fun L i v w => P7 bp b7 bq sp l s w0 L i v w) ?_ ((Below.refl _ _).drew)
  have e : ops7.toList = ops7.toList := rfl
  conv at e => rhs; arg 1; whnf
  simp only at e
  rw [e]
  clear e
  refine .cons ⟨fun _ L a w hL hS hsm haft => ?_, fun h => absurd h (by decide)⟩ ?_
  · have f5 : a.tmps[5]?.getD undef = .pointer (some ⟨bp, 0, none⟩) := tmps_of ((hsm 5 (by simp [dst7]; omega)).trans h5)
    refine Oper.wp_value (v := .pointer (some ⟨bp, 15, none⟩)) (w' := w) ?_ ?_
    · simp [go_sem, f5]
    · exact ⟨_, rfl, rfl, hS, P7_on (Below.refl _ _)⟩
  refine .cons ⟨fun _ L a w hL hS hsm haft => ?_, fun h => absurd h (by decide)⟩ ?_
  · have f74 : a.tmps[74]?.getD undef = .pointer (some ⟨bp, 15, none⟩) := tmps_of (haft 0 rfl).2
    have hx : w.cell? ⟨bp, 15, none⟩ = _ := (hS.cell (p := ⟨bp, 15, none⟩) hbp).trans hc
    refine Oper.wp_value (v := .slice sp.at_ l.length sp.cap) (w' := w) ?_ ?_
    · simp [go_sem, f74, hx]
    · exact ⟨_, rfl, rfl, hS, P7_on (Below.refl _ _)⟩
  refine .cons ⟨fun _ L a w hL hS hsm haft => ?_, fun h => absurd h (by decide)⟩ ?_
  · have f75 : a.tmps[75]?.getD undef = .slice sp.at_ l.length sp.cap := tmps_of (haft 1 rfl).2
    refine Oper.wp_enter (f := 26) (args := #[.slice sp.at_ l.length sp.cap]) (w' := w) ?_ ?_
    · simp [go_sem, f75]
    · refine (clone_stmt w sp l _ ((hr.below hS).more hS.size) (by omega)).mono ?_
      rintro o w' ⟨⟨v, rfl, ho⟩, hb⟩
      exact ⟨v, rfl, v, rfl, .inr (ho.less hS.size), hS.trans (hb.mono hS.size), P7_on hb⟩
  refine .cons ⟨fun _ L a w hL hS hsm haft => ?_, fun h => absurd h (by decide)⟩ ?_
  · have f7 : a.tmps[7]?.getD undef = .pointer (some ⟨b7, 0, none⟩) := tmps_of ((hsm 7 (by simp [dst7]; omega)).trans h7)
    refine Oper.wp_value (v := .pointer (some ⟨b7, 0, none⟩)) (w' := w) ?_ ?_
    · simp [go_sem, f7]
    · exact ⟨_, rfl, rfl, hS, P7_on (Below.refl _ _)⟩
  refine .cons ⟨fun _ L a w hL hS hsm haft => ?_, fun h => absurd h (by decide)⟩ ?_
  · have f77 : a.tmps[77]?.getD undef = .pointer (some ⟨b7, 0, none⟩) := tmps_of (haft 3 rfl).2
    obtain ⟨x0, x1, x2, x3, x4, x5⟩ : w.cell? ⟨b7, 0, none⟩ = some (.int .u8 s.kind) ∧ w.cell? ⟨b7, 1, none⟩ = some (.string s.name) ∧ w.cell? ⟨b7, 2, none⟩ = some (.slice s.es.at_ s.exprs.length s.es.cap) ∧ w.cell? ⟨b7, 3, none⟩ = some (.int .i64 s.bound) ∧ w.cell? ⟨b7, 4, none⟩ = some (.slice s.ts.at_ s.thn.length s.ts.cap) ∧ w.cell? ⟨b7, 5, none⟩ = some (.slice s.os.at_ s.els.length s.os.cap) := ⟨(hS.cell (p := ⟨b7, 0, none⟩) hb7).trans (hs 0 _ rfl), (hS.cell (p := ⟨b7, 1, none⟩) hb7).trans (hs 1 _ rfl), (hS.cell (p := ⟨b7, 2, none⟩) hb7).trans (hs 2 _ rfl), (hS.cell (p := ⟨b7, 3, none⟩) hb7).trans (hs 3 _ rfl), (hS.cell (p := ⟨b7, 4, none⟩) hb7).trans (hs 4 _ rfl), (hS.cell (p := ⟨b7, 5, none⟩) hb7).trans (hs 5 _ rfl)⟩
    refine Oper.wp_value (v := s.val) (w' := w) ?_ ?_
    · simp [go_sem, f77, x0, x1, x2, x3, x4, x5, StmtV.val, Sp.val]
    · exact ⟨_, rfl, rfl, hS, P7_on (Below.refl _ _)⟩
  refine .cons ⟨fun _ L a w hL hS hsm haft => ?_, fun h => absurd h (by decide)⟩ ?_
  · have f78 : a.tmps[78]?.getD undef = .agg #[.int .u8 s.kind, .string s.name, .slice s.es.at_ s.exprs.length s.es.cap, .int .i64 s.bound, .slice s.ts.at_ s.thn.length s.ts.cap, .slice s.os.at_ s.els.length s.os.cap] := tmps_of (haft 4 rfl).2
    have hb : Below w.heap.size w (w.alloc (.cells s.cells.toArray 49)) := (Below.refl _ _).alloc (Nat.le_refl _) _
    refine Oper.wp_value (v := .slice (some ⟨w.heap.size, 0, none⟩) 1 1) (w' := w.alloc (.cells s.cells.toArray 49)) ?_ ?_
    · simp [go_sem, f78, StmtV.cells, Sp.val]
    · exact ⟨_, rfl, .inr ⟨_, rfl, row_one (World.alloc_heap_new w _)⟩, hS.alloc hS.size _, P7_on hb⟩
  refine .cons ⟨fun _ L a w hL hS hsm haft => ?_, fun h => absurd h (by decide)⟩ ?_
  · have hx6 : L 6 = false := hL
    have hown : OwnL w0.heap.size w 49 6 StmtV.cells (a.eval (.tmp 76)) l := (haft 2 rfl).2.resolve_left (by rw [hx6]; exact Bool.false_ne_true)
    obtain ⟨b, h79, hrow⟩ := (haft 5 rfl).2.resolve_left (by rw [hx6]; exact Bool.false_ne_true)
    refine Oper.wp_append (.tmp 76) (.tmp 79) 37 rfl stmtK (fun _ => rfl) one_stmt _ l rfl hown ⟨some ⟨b, 0, none⟩, 1⟩ [s] h79 hrow (by simp; omega) hS.size ?_
    intro v' w' ho hg _
    exact ⟨_, rfl, ho, hown.below hg (Nat.le_refl _) hS hS.size, P7_app⟩
  refine .cons ⟨fun _ L a w hL hS hsm haft => ?_, fun h => absurd h (by decide)⟩ ?_
  · have f8 : a.tmps[8]?.getD undef = .pointer (some ⟨bq, 0, none⟩) := tmps_of ((hsm 8 (by simp [dst7]; omega)).trans h8)
    refine Oper.wp_value (v := .pointer (some ⟨bq, 15, none⟩)) (w' := w) ?_ ?_
    · simp [go_sem, f8]
    · exact ⟨_, rfl, rfl, hS, P7_on (Below.refl _ _)⟩
  refine .cons ⟨fun h => absurd h (by decide), fun _ L a w hL hS hsza hde hsm hv => ?_⟩ trivial
  have f81 : a.tmps[81]?.getD undef = .pointer (some ⟨bq, 15, none⟩) := tmps_of (hv 7 (by decide))
  have hown : OwnL w0.heap.size w 49 6 StmtV.cells (a.eval (.tmp 80)) (l ++ [s]) := hv 6 (by decide)
  have f80 : a.tmps[80]?.getD undef = a.eval (.tmp 80) := tmps_of rfl
  have hq' : w.cell? ⟨bq, 15, none⟩ = _ := (hS.cell (p := ⟨bq, 15, none⟩) hbq).trans hq
  have hf' : w.frozen? ⟨bq, 15, none⟩ = _ := (hS.frozen (p := ⟨bq, 15, none⟩) hbq).trans hf
  obtain ⟨A, c, hform⟩ := hown.form
  rw [hform] at f80 hown
  refine Oper.wp_skip (w' := w.setCell ⟨bq, 15, none⟩ (.slice A (l ++ [s]).length c)) ?_ ?_
  · simp [go_sem, f81, f80, hq', hf']
  · refine ⟨rfl, hsza.trans hsz, hde.trans hd, ?_, _, w, hown, hS, rfl⟩
    intro t ht
    have ht2 : t ≤ 73 := ht
    exact hsm t fun i hi => by unfold dst7; omega
noncomputable def ops9 : Array Oper := ((Tryz.f7.body.bind (opsOf 9)).getD #[])
def dst9 (i : Nat) : Nat := 83 + i
theorem ops9_ok : valsD ops9 8 171 dst9 = true := by kernel_rfl
def P9 (bp b7 bq : Nat) (sp : Sp) (l : List StmtV) (s : StmtV) (W0 : World) (L : Nat → Bool) (i : Nat) (v : Value) (w : World) : Prop :=
  match i with
  | 0 => v = .pointer (some ⟨bp, 14, none⟩)
  | 1 => v = .slice sp.at_ l.length sp.cap
  | 2 => L 6 = true ∨ OwnL W0.heap.size w 49 6 StmtV.cells v l
  | 3 => v = .pointer (some ⟨b7, 0, none⟩)
  | 4 => v = s.val
  | 5 => L 6 = true ∨ ∃ b, v = .slice (some ⟨b, 0, none⟩) 1 1 ∧ RowOf w.heap.size w ⟨some ⟨b, 0, none⟩, 1⟩ 6 StmtV.cells [s]
  | 6 => OwnL W0.heap.size w 49 6 StmtV.cells v (l ++ [s])
  | _ => v = .pointer (some ⟨bq, 14, none⟩)
theorem P9_on {bp b7 bq : Nat} {sp : Sp} {l : List StmtV} {s : StmtV} {W0 : World} {L : Nat → Bool} {i : Nat} {w w' : World} (hb : Below w.heap.size w w') (j : Nat) (u : Value) (hji : j ≠ i) (hj : L j = true) (h : P9 bp b7 bq sp l s W0 L j u w) : P9 bp b7 bq sp l s W0 (onL L i) j u w' := by
  have hL : ∀ k, L k = true → onL L i k = true := fun k hk => by unfold onL; split <;> simp [*]
  unfold P9 at h ⊢
  split at h
  · exact h
  · exact h
  · exact h.imp (hL _) fun h => h.on hb
  · exact h
  · exact h
  · exact h.imp (hL _) fun ⟨b, e, hr⟩ => ⟨b, e, (hr.below hb).more hb.size⟩
  · exact h.on hb
  · exact h
theorem P9_app {bp b7 bq : Nat} {sp : Sp} {l : List StmtV} {s : StmtV} {W0 : World} {L : Nat → Bool} {w w' : World} (j : Nat) (u : Value) (hji : j ≠ 6) (_ : L j = true) (h : P9 bp b7 bq sp l s W0 L j u w) : P9 bp b7 bq sp l s W0 (onL L 6) j u w' := by
  unfold P9 at h ⊢
  split at h
  · exact h
  · exact h
  · exact .inl onL_same
  · exact h
  · exact h
  · exact .inl onL_same
  · exact absurd rfl hji
  · exact h
set_option maxRecDepth 1000000 in
set_option maxHeartbeats 4000000 in
theorem places9 {a0 : Act} {w0 : World} (hsz : a0.tmps.size = 171) (hd : a0.defers = []) (bp b7 bq : Nat) (sp : Sp) (l : List StmtV) (s : StmtV)
    (h5 : a0.eval (.tmp 5) = .pointer (some ⟨bp, 0, none⟩)) (h7 : a0.eval (.tmp 7) = .pointer (some ⟨b7, 0, none⟩)) (h9 : a0.eval (.tmp 9) = .pointer (some ⟨bq, 0, none⟩))
    (hc : w0.cell? ⟨bp, 14, none⟩ = some (.slice sp.at_ l.length sp.cap)) (hr : RowOf w0.heap.size w0 sp 6 StmtV.cells l) (hl : l.length ≤ 100000) (hs : ∀ r u, s.cells[r]? = some u → w0.cell? ⟨b7, r, none⟩ = some u)
    (hbp : bp < w0.heap.size) (hb7 : b7 < w0.heap.size) (hbq : bq < w0.heap.size) {old : Value} (hq : w0.cell? ⟨bq, 14, none⟩ = some old) (hf : w0.frozen? ⟨bq, 14, none⟩ = false) :
    (Code.region 9 ops9 true).wp Tryz.prog (fun e a w => e = .normal ∧ a.tmps.size = 171 ∧ a.defers = [] ∧ (∀ t : Nat, t ≤ 82 → a.eval (.tmp t) = a0.eval (.tmp t)) ∧
      ∃ v w1, OwnL w0.heap.size w1 49 6 StmtV.cells v (l ++ [s]) ∧ Below w0.heap.size w0 w1 ∧ w = w1.setCell ⟨bq, 14, none⟩ v) a0 w0 := by
  refine wp_region_valsD (n := 8) (dst := dst9) rfl ops9_ok hsz (fun _ w => Below w0.heap.size w0 w) (fun L i v w => P9 bp b7 bq sp l s w0 L i v w) ?_ ((Below.refl _ _).drew)
  have e : ops9.toList = ops9.toList := rfl
  conv at e => rhs; arg 1; whnf
  simp only at e
  rw [e]
  clear e
  refine .cons ⟨fun _ L a w hL hS hsm haft => ?_, fun h => absurd h (by decide)⟩ ?_
  · have f5 : a.tmps[5]?.getD undef = .pointer (some ⟨bp, 0, none⟩) := tmps_of ((hsm 5 (by simp [dst9]; omega)).trans h5)
    refine Oper.wp_value (v := .pointer (some ⟨bp, 14, none⟩)) (w' := w) ?_ ?_
    · simp [go_sem, f5]
    · exact ⟨_, rfl, rfl, hS, P9_on (Below.refl _ _)⟩
  refine .cons ⟨fun _ L a w hL hS hsm haft => ?_, fun h => absurd h (by decide)⟩ ?_
  · have f83 : a.tmps[83]?.getD undef = .pointer (some ⟨bp, 14, none⟩) := tmps_of (haft 0 rfl).2
    have hx : w.cell? ⟨bp, 14, none⟩ = _ := (hS.cell (p := ⟨bp, 14, none⟩) hbp).trans hc
    refine Oper.wp_value (v := .slice sp.at_ l.length sp.cap) (w' := w) ?_ ?_
    · simp [go_sem, f83, hx]
    · exact ⟨_, rfl, rfl, hS, P9_on (Below.refl _ _)⟩
  refine .cons ⟨fun _ L a w hL hS hsm haft => ?_, fun h => absurd h (by decide)⟩ ?_
  · have f84 : a.tmps[84]?.getD undef = .slice sp.at_ l.length sp.cap := tmps_of (haft 1 rfl).2
    refine Oper.wp_enter (f := 26) (args := #[.slice sp.at_ l.length sp.cap]) (w' := w) ?_ ?_
    · simp [go_sem, f84]
    · refine (clone_stmt w sp l _ ((hr.below hS).more hS.size) (by omega)).mono ?_
      rintro o w' ⟨⟨v, rfl, ho⟩, hb⟩
      exact ⟨v, rfl, v, rfl, .inr (ho.less hS.size), hS.trans (hb.mono hS.size), P9_on hb⟩
  refine .cons ⟨fun _ L a w hL hS hsm haft => ?_, fun h => absurd h (by decide)⟩ ?_
  · have f7 : a.tmps[7]?.getD undef = .pointer (some ⟨b7, 0, none⟩) := tmps_of ((hsm 7 (by simp [dst9]; omega)).trans h7)
    refine Oper.wp_value (v := .pointer (some ⟨b7, 0, none⟩)) (w' := w) ?_ ?_
    · simp [go_sem, f7]
    · exact ⟨_, rfl, rfl, hS, P9_on (Below.refl _ _)⟩
  refine .cons ⟨fun _ L a w hL hS hsm haft => ?_, fun h => absurd h (by decide)⟩ ?_
  · have f86 : a.tmps[86]?.getD undef = .pointer (some ⟨b7, 0, none⟩) := tmps_of (haft 3 rfl).2
    obtain ⟨x0, x1, x2, x3, x4, x5⟩ : w.cell? ⟨b7, 0, none⟩ = some (.int .u8 s.kind) ∧ w.cell? ⟨b7, 1, none⟩ = some (.string s.name) ∧ w.cell? ⟨b7, 2, none⟩ = some (.slice s.es.at_ s.exprs.length s.es.cap) ∧ w.cell? ⟨b7, 3, none⟩ = some (.int .i64 s.bound) ∧ w.cell? ⟨b7, 4, none⟩ = some (.slice s.ts.at_ s.thn.length s.ts.cap) ∧ w.cell? ⟨b7, 5, none⟩ = some (.slice s.os.at_ s.els.length s.os.cap) := ⟨(hS.cell (p := ⟨b7, 0, none⟩) hb7).trans (hs 0 _ rfl), (hS.cell (p := ⟨b7, 1, none⟩) hb7).trans (hs 1 _ rfl), (hS.cell (p := ⟨b7, 2, none⟩) hb7).trans (hs 2 _ rfl), (hS.cell (p := ⟨b7, 3, none⟩) hb7).trans (hs 3 _ rfl), (hS.cell (p := ⟨b7, 4, none⟩) hb7).trans (hs 4 _ rfl), (hS.cell (p := ⟨b7, 5, none⟩) hb7).trans (hs 5 _ rfl)⟩
    refine Oper.wp_value (v := s.val) (w' := w) ?_ ?_
    · simp [go_sem, f86, x0, x1, x2, x3, x4, x5, StmtV.val, Sp.val]
    · exact ⟨_, rfl, rfl, hS, P9_on (Below.refl _ _)⟩
  refine .cons ⟨fun _ L a w hL hS hsm haft => ?_, fun h => absurd h (by decide)⟩ ?_
  · have f87 : a.tmps[87]?.getD undef = .agg #[.int .u8 s.kind, .string s.name, .slice s.es.at_ s.exprs.length s.es.cap, .int .i64 s.bound, .slice s.ts.at_ s.thn.length s.ts.cap, .slice s.os.at_ s.els.length s.os.cap] := tmps_of (haft 4 rfl).2
    have hb : Below w.heap.size w (w.alloc (.cells s.cells.toArray 49)) := (Below.refl _ _).alloc (Nat.le_refl _) _
    refine Oper.wp_value (v := .slice (some ⟨w.heap.size, 0, none⟩) 1 1) (w' := w.alloc (.cells s.cells.toArray 49)) ?_ ?_
    · simp [go_sem, f87, StmtV.cells, Sp.val]
    · exact ⟨_, rfl, .inr ⟨_, rfl, row_one (World.alloc_heap_new w _)⟩, hS.alloc hS.size _, P9_on hb⟩
  refine .cons ⟨fun _ L a w hL hS hsm haft => ?_, fun h => absurd h (by decide)⟩ ?_
  · have hx6 : L 6 = false := hL
    have hown : OwnL w0.heap.size w 49 6 StmtV.cells (a.eval (.tmp 85)) l := (haft 2 rfl).2.resolve_left (by rw [hx6]; exact Bool.false_ne_true)
    obtain ⟨b, h88, hrow⟩ := (haft 5 rfl).2.resolve_left (by rw [hx6]; exact Bool.false_ne_true)
    refine Oper.wp_append (.tmp 85) (.tmp 88) 37 rfl stmtK (fun _ => rfl) one_stmt _ l rfl hown ⟨some ⟨b, 0, none⟩, 1⟩ [s] h88 hrow (by simp; omega) hS.size ?_
    intro v' w' ho hg _
    exact ⟨_, rfl, ho, hown.below hg (Nat.le_refl _) hS hS.size, P9_app⟩
  refine .cons ⟨fun _ L a w hL hS hsm haft => ?_, fun h => absurd h (by decide)⟩ ?_
  · have f9 : a.tmps[9]?.getD undef = .pointer (some ⟨bq, 0, none⟩) := tmps_of ((hsm 9 (by simp [dst9]; omega)).trans h9)
    refine Oper.wp_value (v := .pointer (some ⟨bq, 14, none⟩)) (w' := w) ?_ ?_
    · simp [go_sem, f9]
    · exact ⟨_, rfl, rfl, hS, P9_on (Below.refl _ _)⟩
  refine .cons ⟨fun h => absurd h (by decide), fun _ L a w hL hS hsza hde hsm hv => ?_⟩ trivial
  have f90 : a.tmps[90]?.getD undef = .pointer (some ⟨bq, 14, none⟩) := tmps_of (hv 7 (by decide))
  have hown : OwnL w0.heap.size w 49 6 StmtV.cells (a.eval (.tmp 89)) (l ++ [s]) := hv 6 (by decide)
  have f89 : a.tmps[89]?.getD undef = a.eval (.tmp 89) := tmps_of rfl
  have hq' : w.cell? ⟨bq, 14, none⟩ = _ := (hS.cell (p := ⟨bq, 14, none⟩) hbq).trans hq
  have hf' : w.frozen? ⟨bq, 14, none⟩ = _ := (hS.frozen (p := ⟨bq, 14, none⟩) hbq).trans hf
  obtain ⟨A, c, hform⟩ := hown.form
  rw [hform] at f89 hown
  refine Oper.wp_skip (w' := w.setCell ⟨bq, 14, none⟩ (.slice A (l ++ [s]).length c)) ?_ ?_
  · simp [go_sem, f90, f89, hq', hf']
  · refine ⟨rfl, hsza.trans hsz, hde.trans hd, ?_, _, w, hown, hS, rfl⟩
    intro t ht
    have ht2 : t ≤ 82 := ht
    exact hsm t fun i hi => by unfold dst9; omega
end Go.Proofs.YthcboallnbaimaaGreatDoor
namespace Go.Proofs.YthcboallnbaimaaGreatDoor
open Go Go.RowKit Go.Maps
noncomputable def ops5 : Array Oper := ((Tryz.f7.body.bind (opsOf 5)).getD #[])
def dst5 (i : Nat) : Nat := if i = 50 then 7 else 23 + i
theorem ops5_ok : valsD ops5 51 171 dst5 = true := by kernel_rfl
def rowC (wd : Int) (sp so : Sp) (k : Nat) : List Value := (badS wd sp so k).cells ++ [.int .i64 (atN k), .int .i64 (errN k)]
def StV (wd : Int) (k : Nat) (v : Value) (w : World) : Prop := ∃ sp so, v = (badS wd sp so k).val ∧ NowT w (badS wd sp so k)
def RowV (wd : Int) (k : Nat) (v : Value) (w : World) : Prop := ∃ sp so, v = .agg (rowC wd sp so k).toArray ∧ NowT w (badS wd sp so k)
def TabV (wd : Int) (v : Value) (w : World) : Prop := ∃ b, v = .slice (some ⟨b, 0, none⟩) 12 12 ∧ b < w.heap.size ∧ ∀ k, k < 12 → ∃ sp so, NowT w (badS wd sp so k) ∧ ∀ r u, (rowC wd sp so k)[r]? = some u → w.cell? ⟨b, k * 8 + r, none⟩ = some u
def OneV (wd : Int) (v : Value) (w : World) : Prop := ∃ sp : Sp, v = sp.val 1 ∧ RowOf w.heap.size w sp 6 ExprV.cells [numE 1 wd]
/-- What each operation's slot bears. -/
def P5 (bp : Nat) (wd way : Int) (k : Nat) (W0 : World) (i : Nat) (v : Value) (w : World) : Prop :=
  match i with
  | 0 => StV wd 0 v w
  | 1 => RowV wd 0 v w
  | 2 => v = (numE 1 wd).val
  | 3 => StV wd 1 v w
  | 4 => RowV wd 1 v w
  | 5 => v = (numE 1 wd).val
  | 6 => StV wd 2 v w
  | 7 => RowV wd 2 v w
  | 8 => v = (numE 1 wd).val
  | 9 => StV wd 3 v w
  | 10 => RowV wd 3 v w
  | 11 => v = .pointer (some ⟨bp, 1, none⟩)
  | 12 => v = .int .i64 wd
  | 13 => v = .int .i64 (wd + 1)
  | 14 => v = (numE 0 (wd + 1)).val
  | 15 => StV wd 4 v w
  | 16 => RowV wd 4 v w
  | 17 => v = (numE 1 wd).val
  | 18 => v = .pointer (some ⟨bp, 1, none⟩)
  | 19 => v = .int .i64 wd
  | 20 => v = .int .i64 (wd + 1)
  | 21 => v = (numE 0 (wd + 1)).val
  | 22 => StV wd 5 v w
  | 23 => RowV wd 5 v w
  | 24 => StV wd 6 v w
  | 25 => RowV wd 6 v w
  | 26 => v = (numE 1 wd).val
  | 27 => OneV wd v w
  | 28 => StV wd 7 v w
  | 29 => RowV wd 7 v w
  | 30 => StV wd 8 v w
  | 31 => RowV wd 8 v w
  | 32 => v = (nameE noneB).val
  | 33 => StV wd 9 v w
  | 34 => RowV wd 9 v w
  | 35 => v = (numE 2 1).val
  | 36 => v = (numE 1 wd).val
  | 37 => StV wd 10 v w
  | 38 => RowV wd 10 v w
  | 39 => v = (numE 1 wd).val
  | 40 => OneV wd v w
  | 41 => v = StmtV.val (.mk 9 ⟨#[]⟩ Sp.none [] 0 Sp.none [] Sp.none [])
  | 42 => ∃ so : Sp, v = so.val 1 ∧ RdTs w.heap.size w so [.mk 9 ⟨#[]⟩ Sp.none [] 0 Sp.none [] Sp.none []]
  | 43 => StV wd 11 v w
  | 44 => RowV wd 11 v w
  | 45 => TabV wd v w
  | 46 => v = .int .u8 way
  | 47 => v = .int .u8 k
  | 48 => ∃ b, v = .pointer (some ⟨b, k * 8, none⟩) ∧ b < w.heap.size ∧ ∃ sp so, NowT w (badS wd sp so k) ∧ ∀ r u, (rowC wd sp so k)[r]? = some u → w.cell? ⟨b, k * 8 + r, none⟩ = some u
  | 49 => RowV wd k v w
  | 50 => ∃ b, v = .pointer (some ⟨b, 0, none⟩) ∧ W0.heap.size ≤ b ∧ w.heap[b]? = some (.cells #[.int .u8 0, .string ⟨#[]⟩, .slice none 0 0, .int .i64 0, .slice none 0 0, .slice none 0 0, .int .i64 0, .int .i64 0] 61 (0, 0))
  | _ => True
section
variable {wd : Int} {w w' : World} {v : Value} {k : Nat}
theorem StV.on (h : StV wd k v w) (hb : Below w.heap.size w w') : StV wd k v w' := by
  obtain ⟨sp, so, e, hn⟩ := h
  exact ⟨sp, so, e, hn.on hb⟩
theorem RowV.on (h : RowV wd k v w) (hb : Below w.heap.size w w') : RowV wd k v w' := by
  obtain ⟨sp, so, e, hn⟩ := h
  exact ⟨sp, so, e, hn.on hb⟩
theorem OneV.on (h : OneV wd v w) (hb : Below w.heap.size w w') : OneV wd v w' := by
  obtain ⟨sp, e, hr⟩ := h
  exact ⟨sp, e, (hr.below hb).more hb.size⟩
theorem rows_on {b : Nat} (hlb : b < w.heap.size) (h : ∃ sp so, NowT w (badS wd sp so k) ∧ ∀ r u, (rowC wd sp so k)[r]? = some u → w.cell? ⟨b, k * 8 + r, none⟩ = some u) (hb : Below w.heap.size w w') : ∃ sp so, NowT w' (badS wd sp so k) ∧ ∀ r u, (rowC wd sp so k)[r]? = some u → w'.cell? ⟨b, k * 8 + r, none⟩ = some u := by
  obtain ⟨sp, so, hn, hc⟩ := h
  exact ⟨sp, so, hn.on hb, fun r u hu => (hb.cell (p := ⟨b, k * 8 + r, none⟩) hlb).trans (hc r u hu)⟩
theorem TabV.on (h : TabV wd v w) (hb : Below w.heap.size w w') : TabV wd v w' := by
  obtain ⟨b, e, hl, hr⟩ := h
  exact ⟨b, e, Nat.lt_of_lt_of_le hl hb.size, fun k hk => rows_on hl (hr k hk) hb⟩
end
theorem P5_on {bp : Nat} {wd way : Int} {k : Nat} {W0 : World} {L : Nat → Bool} {i : Nat} {w w' : World} (hb : Below w.heap.size w w') (j : Nat) (u : Value) (_ : j ≠ i) (_ : L j = true) (h : P5 bp wd way k W0 j u w) : P5 bp wd way k W0 j u w' := by
  unfold P5 at h ⊢
  split at h
  all_goals first
    | exact h
    | exact StV.on h hb
    | exact RowV.on h hb
    | exact OneV.on h hb
    | exact TabV.on h hb
    | (obtain ⟨so, e, hr⟩ := h; exact ⟨so, e, RdTs.on hr hb⟩)
    | (obtain ⟨b, e, hlb, hr⟩ := h; exact ⟨b, e, Nat.lt_of_lt_of_le hlb hb.size, rows_on hlb hr hb⟩)
    | (obtain ⟨b, e, hl, hr⟩ := h; exact ⟨b, e, hl, (hb.block b (Array.getElem?_eq_some_iff.1 hr).1).trans hr⟩)
theorem bare_now (w : World) (k b : Int) (hk : 0 ≤ k ∧ k ≤ 255) (hb : (Lit.int .i64 b).wf = true) : NowT w (.mk k ⟨#[]⟩ Sp.none [] b Sp.none [] Sp.none []) :=
  .mk _ hk hb (show (0 : Nat) ≤ maxLen by decide) RowOf.nil (fun _ h => absurd h (by simp [StmtV.exprs])) RowOf.nil (fun _ h => absurd h (by simp [StmtV.thn])) RowOf.nil (fun _ h => absurd h (by simp [StmtV.els]))
theorem exp_now {w : World} {sp so : Sp} {e : ExprV} {k b : Int} {els : List StmtV} (hr : RowOf w.heap.size w sp 6 ExprV.cells [e]) (he : NowX w e) (hk : 0 ≤ k ∧ k ≤ 255) (hb : (Lit.int .i64 b).wf = true) (ho : RdTs w.heap.size w so els) : NowT w (.mk k ⟨#[]⟩ sp [e] b Sp.none [] so els) :=
  .mk _ hk hb (show (0 : Nat) ≤ maxLen by decide) hr (fun x h => by rw [List.mem_singleton.1 (show x ∈ [e] from h)]; exact he) RowOf.nil (fun _ h => absurd h (by simp [StmtV.thn])) ho.row ho.ok
theorem at8 {c : List Value} {r : Nat} {u : Value} (hu : c[r]? = some u) (hc : c.length = 8) {X : Array Value} {o : Nat} (h : ∀ j, j < 8 → X[o + j]? = c[j]?) : X[o + r]? = some u := by
  have hr : r < 8 := by rw [← hc]; exact (List.getElem?_eq_some_iff.1 hu).1
  rw [h r hr, hu]
theorem rowT_inf : (Tryz.prog.info? 61).map (·.size) = some 8 := by kernel_rfl
theorem rowC_inf {wd : Int} {sp so : Sp} {k : Nat} : (Tryz.prog.info? 61).map (·.size) = some (rowC wd sp so k).length := rowT_inf
theorem rowC_inf' {wd : Int} {sp so : Sp} {k : Nat} : (Tryz.prog.info? 61).map (·.size) = some (rowC wd sp so k).toArray.size := rowT_inf
theorem bad_thn (wd : Int) (sp so : Sp) (k : Nat) : (badS wd sp so k).thn = [] := by unfold badS; split <;> rfl
theorem bad_els (wd : Int) (sp so : Sp) (k : Nat) : ∀ t, t ∈ (badS wd sp so k).els → t = .mk 9 ⟨#[]⟩ Sp.none [] 0 Sp.none [] Sp.none [] := by
  unfold badS; split <;> intro t ht <;> first | exact List.mem_singleton.1 ht | exact absurd ht (by simp [setT, writeT, callT, StmtV.els])
def zRow : Array Value := #[.int .u8 0, .string ⟨#[]⟩, .slice none 0 0, .int .i64 0, .slice none 0 0, .slice none 0 0, .int .i64 0, .int .i64 0]
theorem z_u8 {j : Nat} {x : Int} (h : zRow[j]? = some (.int .u8 x)) : j = 0 ∧ x = 0 := by
  have hj : j < 8 := (Array.getElem?_eq_some_iff.1 h).1
  match j, hj with
  | 0, _ => exact ⟨rfl, by simpa [zRow, eq_comm] using h⟩
  | 1, _ | 2, _ | 3, _ | 4, _ | 5, _ | 6, _ | 7, _ => simp [zRow] at h
  | n + 8, h => omega
section
variable {n b : Nat} {w : World} {cs : Array Value} {t : TypeId} {fr : Nat × Nat}
theorem row_set {α : Type} {sp : Sp} {enc : α → List Value} {l : List α} (h : RowOf n w sp 6 enc l) (hz : w.heap[b]? = some (.cells zRow t fr)) (hne : ∀ x ∈ l, ∀ off : Nat, (∀ (r : Nat) (u : Value), (enc x)[r]? = some u → zRow[off + r]? = some u) → False) : RowOf n (w.setRow b cs) sp 6 enc l := by
  refine ⟨h.cap, h.big, h.few, fun h0 => ?_⟩
  obtain ⟨g, off, e, hg, hc⟩ := h.row h0
  refine ⟨g, off, e, hg, fun j hj r u hu => ?_⟩
  have hgb : g ≠ b := by
    rintro rfl
    refine hne _ (List.getElem_mem h0) off fun r u hu => ?_
    have h1 := hc 0 h0 r u hu
    rw [cell_of_row w g _ _ _ _ hz] at h1
    simpa using h1
  exact (cell_setRow_other w b cs _ hgb).trans (hc j hj r u hu)
theorem xrow_set {sp : Sp} {l : List ExprV} (h : RowOf n w sp 6 ExprV.cells l) (hz : w.heap[b]? = some (.cells zRow t fr)) : RowOf n (w.setRow b cs) sp 6 ExprV.cells l :=
  row_set h hz fun x _ off h => by
    have := (z_u8 (h 1 _ rfl)).1
    omega
theorem RdX.set {e : ExprV} (h : RdX n w e) (hz : w.heap[b]? = some (.cells zRow t fr)) : RdX n (w.setRow b cs) e := by
  induction h with
  | mk e k o v wd nm row _ ih => exact .mk e k o v wd nm (xrow_set row hz) ih
theorem bad_keep {wd : Int} {sp so : Sp} {k : Nat} (hz : w.heap[b]? = some (.cells zRow t fr)) (h : NowT w (badS wd sp so k)) : NowT (w.setRow b cs) (badS wd sp so k) := by
  unfold NowT at *
  rw [setRow_size]
  cases h with
  | mk _ hk hb hn er ex tr th hor el =>
    refine .mk _ hk hb hn (xrow_set er hz) (fun e he => (ex e he).set hz) ?_ ?_ ?_ ?_
    · exact row_set tr hz fun x hx => by rw [bad_thn] at hx; cases hx
    · intro x hx; rw [bad_thn] at hx; cases hx
    · refine row_set hor hz fun x hx off h => ?_
      rw [bad_els _ _ _ _ x hx] at h
      have := (z_u8 (h 0 _ rfl)).2
      simp [StmtV.kind] at this
    · intro x hx
      rw [bad_els _ _ _ _ x hx]
      exact .mk _ (by simp [StmtV.kind]) (by decide) (by decide) RowOf.nil (fun _ h => absurd h (by simp [StmtV.exprs])) RowOf.nil (fun _ h => absurd h (by simp [StmtV.thn])) RowOf.nil (fun _ h => absurd h (by simp [StmtV.els]))
end
set_option maxRecDepth 10000000 in
set_option maxHeartbeats 64000000 in
/-- Behind the region: slot 7 points to a box that holds the statement, the place, the error. -/
theorem places5 {a0 : Act} {w0 : World} (hsz : a0.tmps.size = 171) (hd : a0.defers = []) (bp b6 : Nat) (wd way : Int) (k : Nat) (hk : k < 12) (hmod : way.tmod 12 = k) (hwd : 1 ≤ wd ∧ wd ≤ 3)
    (h1 : a0.eval (.tmp 1) = .int .u8 way) (h5 : a0.eval (.tmp 5) = .pointer (some ⟨bp, 0, none⟩)) (h6 : a0.eval (.tmp 6) = .pointer (some ⟨b6, 0, none⟩))
    (hbp : w0.cell? ⟨bp, 1, none⟩ = some (.int .i64 wd)) (hb6 : w0.heap[b6]? = some (.cells #[.int .u8 1, .int .u8 0, .int .u32 1, .int .i64 wd, .string ⟨#[]⟩, .slice none 0 0] 34 (0, 0))) (hlt : bp < w0.heap.size) :
    (Code.region 5 ops5 true).wp Tryz.prog (fun e a w => e = .normal ∧ a.tmps.size = 171 ∧ a.defers = [] ∧ (∀ t : Nat, t ≤ 22 → t ≠ 7 → a.eval (.tmp t) = a0.eval (.tmp t)) ∧
      ∃ b7 sp so, w0.heap.size ≤ b7 ∧ a.eval (.tmp 7) = .pointer (some ⟨b7, 0, none⟩) ∧ w.heap[b7]? = some (.cells (rowC wd sp so k).toArray 61 (0, 0)) ∧ NowT w (badS wd sp so k) ∧ Below w0.heap.size w0 w) a0 w0 := by
  have hlt6 : b6 < w0.heap.size := (Array.getElem?_eq_some_iff.1 hb6).1
  have hw1 : (Lit.int .i64 wd).wf = true := by
    have : wd = 1 ∨ wd = 2 ∨ wd = 3 := by omega
    rcases this with rfl | rfl | rfl <;> decide
  have hw2 : (Lit.int .i64 (wd + 1)).wf = true := by
    have : wd = 1 ∨ wd = 2 ∨ wd = 3 := by omega
    rcases this with rfl | rfl | rfl <;> decide
  have hwrap : IntKind.i64.wrap (wd + 1) = wd + 1 := by
    have : wd = 1 ∨ wd = 2 ∨ wd = 3 := by omega
    rcases this with rfl | rfl | rfl <;> decide
  refine wp_region_valsD (n := 51) (dst := dst5) rfl ops5_ok hsz (fun _ w => Below w0.heap.size w0 w) (fun _ i v w => P5 bp wd way k w0 i v w) ?_ ((Below.refl _ _).drew)
  have e : ops5.toList = ops5.toList := rfl
  conv at e => rhs; arg 1; whnf
  simp only at e
  rw [e]
  clear e
  refine .cons ⟨fun _ L a w hL hS hsm haft => ?_, fun h => absurd h (by decide)⟩ ?_
  · refine Oper.wp_value (v := .agg #[.int .u8 0, .string ⟨#[]⟩, .slice none 0 0, .int .i64 0, .slice none 0 0, .slice none 0 0]) (w' := w) ?_ ?_
    · simp [go_sem]
    · exact ⟨_, rfl, ⟨Sp.none, Sp.none, rfl, bare_now w 0 0 (by decide) (by decide)⟩, hS, P5_on (Below.refl _ _)⟩
  refine .cons ⟨fun _ L a w hL hS hsm haft => ?_, fun h => absurd h (by decide)⟩ ?_
  · obtain ⟨sp, so, e, hn⟩ := (haft 0 rfl).2
    have f23 : a.tmps[23]?.getD undef = .agg #[.int .u8 0, .string ⟨#[]⟩, .slice none 0 0, .int .i64 0, .slice none 0 0, .slice none 0 0] := tmps_of e
    refine Oper.wp_value (v := .agg #[.int .u8 0, .string ⟨#[]⟩, .slice none 0 0, .int .i64 0, .slice none 0 0, .slice none 0 0, .int .i64 0, .int .i64 325]) (w' := w) ?_ ?_
    · simp [go_sem, f23]
    · exact ⟨_, rfl, ⟨sp, so, rfl, hn⟩, hS, P5_on (Below.refl _ _)⟩
  refine .cons ⟨fun _ L a w hL hS hsm haft => ?_, fun h => absurd h (by decide)⟩ ?_
  · have f6 : a.tmps[6]?.getD undef = .pointer (some ⟨b6, 0, none⟩) := tmps_of ((hsm 6 (by intro i hi; unfold dst5; first | omega | (split <;> omega))).trans h6)
    obtain ⟨x0, x1, x2, x3, x4, x5⟩ := six_cells ((hS.block b6 hlt6).trans hb6)
    refine Oper.wp_value (v := .agg #[.int .u8 1, .int .u8 0, .int .u32 1, .int .i64 wd, .string ⟨#[]⟩, .slice none 0 0]) (w' := w) ?_ ?_
    · simp [go_sem, f6, x0, x1, x2, x3, x4, x5]
    · exact ⟨_, rfl, rfl, hS, P5_on (Below.refl _ _)⟩
  refine .cons ⟨fun _ L a w hL hS hsm haft => ?_, fun h => absurd h (by decide)⟩ ?_
  · have f25 : a.tmps[25]?.getD undef = .agg #[.int .u8 1, .int .u8 0, .int .u32 1, .int .i64 wd, .string ⟨#[]⟩, .slice none 0 0] := tmps_of (haft 2 rfl).2
    refine Oper.wp_enter (f := 23) (args := #[.string ⟨#[105]⟩, .agg #[.int .u8 1, .int .u8 0, .int .u32 1, .int .i64 wd, .string ⟨#[]⟩, .slice none 0 0]]) (w' := w) ?_ ?_
    · simp [go_sem, f25]
    · refine (set_any ⟨#[105]⟩ (by decide) (numE 1 wd) w (num_now w 1 wd (by decide) hw1)).mono ?_
      rintro o w' ⟨sp, rfl, hn, hb⟩
      exact ⟨_, rfl, _, rfl, ⟨sp, Sp.none, rfl, hn⟩, hS.trans (hb.mono hS.size), P5_on hb⟩
  refine .cons ⟨fun _ L a w hL hS hsm haft => ?_, fun h => absurd h (by decide)⟩ ?_
  · obtain ⟨sp, so, e, hn⟩ := (haft 3 rfl).2
    have f26 : a.tmps[26]?.getD undef = .agg #[.int .u8 1, .string ⟨#[105]⟩, .slice sp.at_ 1 sp.cap, .int .i64 0, .slice none 0 0, .slice none 0 0] := tmps_of e
    refine Oper.wp_value (v := .agg #[.int .u8 1, .string ⟨#[105]⟩, .slice sp.at_ 1 sp.cap, .int .i64 0, .slice none 0 0, .slice none 0 0, .int .i64 0, .int .i64 321]) (w' := w) ?_ ?_
    · simp [go_sem, f26]
    · exact ⟨_, rfl, ⟨sp, so, rfl, hn⟩, hS, P5_on (Below.refl _ _)⟩
  refine .cons ⟨fun _ L a w hL hS hsm haft => ?_, fun h => absurd h (by decide)⟩ ?_
  · have f6 : a.tmps[6]?.getD undef = .pointer (some ⟨b6, 0, none⟩) := tmps_of ((hsm 6 (by intro i hi; unfold dst5; first | omega | (split <;> omega))).trans h6)
    obtain ⟨x0, x1, x2, x3, x4, x5⟩ := six_cells ((hS.block b6 hlt6).trans hb6)
    refine Oper.wp_value (v := .agg #[.int .u8 1, .int .u8 0, .int .u32 1, .int .i64 wd, .string ⟨#[]⟩, .slice none 0 0]) (w' := w) ?_ ?_
    · simp [go_sem, f6, x0, x1, x2, x3, x4, x5]
    · exact ⟨_, rfl, rfl, hS, P5_on (Below.refl _ _)⟩
  refine .cons ⟨fun _ L a w hL hS hsm haft => ?_, fun h => absurd h (by decide)⟩ ?_
  · have f28 : a.tmps[28]?.getD undef = .agg #[.int .u8 1, .int .u8 0, .int .u32 1, .int .i64 wd, .string ⟨#[]⟩, .slice none 0 0] := tmps_of (haft 5 rfl).2
    refine Oper.wp_enter (f := 23) (args := #[.string ⟨#[110, 111, 110, 101]⟩, .agg #[.int .u8 1, .int .u8 0, .int .u32 1, .int .i64 wd, .string ⟨#[]⟩, .slice none 0 0]]) (w' := w) ?_ ?_
    · simp [go_sem, f28]
    · refine (set_any ⟨#[110, 111, 110, 101]⟩ (by decide) (numE 1 wd) w (num_now w 1 wd (by decide) hw1)).mono ?_
      rintro o w' ⟨sp, rfl, hn, hb⟩
      exact ⟨_, rfl, _, rfl, ⟨sp, Sp.none, rfl, hn⟩, hS.trans (hb.mono hS.size), P5_on hb⟩
  refine .cons ⟨fun _ L a w hL hS hsm haft => ?_, fun h => absurd h (by decide)⟩ ?_
  · obtain ⟨sp, so, e, hn⟩ := (haft 6 rfl).2
    have f29 : a.tmps[29]?.getD undef = .agg #[.int .u8 1, .string ⟨#[110, 111, 110, 101]⟩, .slice sp.at_ 1 sp.cap, .int .i64 0, .slice none 0 0, .slice none 0 0] := tmps_of e
    refine Oper.wp_value (v := .agg #[.int .u8 1, .string ⟨#[110, 111, 110, 101]⟩, .slice sp.at_ 1 sp.cap, .int .i64 0, .slice none 0 0, .slice none 0 0, .int .i64 0, .int .i64 321]) (w' := w) ?_ ?_
    · simp [go_sem, f29]
    · exact ⟨_, rfl, ⟨sp, so, rfl, hn⟩, hS, P5_on (Below.refl _ _)⟩
  refine .cons ⟨fun _ L a w hL hS hsm haft => ?_, fun h => absurd h (by decide)⟩ ?_
  · have f6 : a.tmps[6]?.getD undef = .pointer (some ⟨b6, 0, none⟩) := tmps_of ((hsm 6 (by intro i hi; unfold dst5; first | omega | (split <;> omega))).trans h6)
    obtain ⟨x0, x1, x2, x3, x4, x5⟩ := six_cells ((hS.block b6 hlt6).trans hb6)
    refine Oper.wp_value (v := .agg #[.int .u8 1, .int .u8 0, .int .u32 1, .int .i64 wd, .string ⟨#[]⟩, .slice none 0 0]) (w' := w) ?_ ?_
    · simp [go_sem, f6, x0, x1, x2, x3, x4, x5]
    · exact ⟨_, rfl, rfl, hS, P5_on (Below.refl _ _)⟩
  refine .cons ⟨fun _ L a w hL hS hsm haft => ?_, fun h => absurd h (by decide)⟩ ?_
  · have f31 : a.tmps[31]?.getD undef = .agg #[.int .u8 1, .int .u8 0, .int .u32 1, .int .i64 wd, .string ⟨#[]⟩, .slice none 0 0] := tmps_of (haft 8 rfl).2
    refine Oper.wp_enter (f := 23) (args := #[.string ⟨#[97]⟩, .agg #[.int .u8 1, .int .u8 0, .int .u32 1, .int .i64 wd, .string ⟨#[]⟩, .slice none 0 0]]) (w' := w) ?_ ?_
    · simp [go_sem, f31]
    · refine (set_any ⟨#[97]⟩ (by decide) (numE 1 wd) w (num_now w 1 wd (by decide) hw1)).mono ?_
      rintro o w' ⟨sp, rfl, hn, hb⟩
      exact ⟨_, rfl, _, rfl, ⟨sp, Sp.none, rfl, hn⟩, hS.trans (hb.mono hS.size), P5_on hb⟩
  refine .cons ⟨fun _ L a w hL hS hsm haft => ?_, fun h => absurd h (by decide)⟩ ?_
  · obtain ⟨sp, so, e, hn⟩ := (haft 9 rfl).2
    have f32 : a.tmps[32]?.getD undef = .agg #[.int .u8 1, .string ⟨#[97]⟩, .slice sp.at_ 1 sp.cap, .int .i64 0, .slice none 0 0, .slice none 0 0] := tmps_of e
    refine Oper.wp_value (v := .agg #[.int .u8 1, .string ⟨#[97]⟩, .slice sp.at_ 1 sp.cap, .int .i64 0, .slice none 0 0, .slice none 0 0, .int .i64 0, .int .i64 321]) (w' := w) ?_ ?_
    · simp [go_sem, f32]
    · exact ⟨_, rfl, ⟨sp, so, rfl, hn⟩, hS, P5_on (Below.refl _ _)⟩
  refine .cons ⟨fun _ L a w hL hS hsm haft => ?_, fun h => absurd h (by decide)⟩ ?_
  · have f5 : a.tmps[5]?.getD undef = .pointer (some ⟨bp, 0, none⟩) := tmps_of ((hsm 5 (by intro i hi; unfold dst5; first | omega | (split <;> omega))).trans h5)
    refine Oper.wp_value (v := .pointer (some ⟨bp, 1, none⟩)) (w' := w) ?_ ?_
    · simp [go_sem, f5]
    · exact ⟨_, rfl, rfl, hS, P5_on (Below.refl _ _)⟩
  refine .cons ⟨fun _ L a w hL hS hsm haft => ?_, fun h => absurd h (by decide)⟩ ?_
  · have f34 : a.tmps[34]?.getD undef = .pointer (some ⟨bp, 1, none⟩) := tmps_of ((haft 11 rfl).2)
    have hx : w.cell? ⟨bp, 1, none⟩ = _ := (hS.cell (p := ⟨bp, 1, none⟩) hlt).trans hbp
    refine Oper.wp_value (v := .int .i64 wd) (w' := w) ?_ ?_
    · simp [go_sem, f34, hx]
    · exact ⟨_, rfl, rfl, hS, P5_on (Below.refl _ _)⟩
  refine .cons ⟨fun _ L a w hL hS hsm haft => ?_, fun h => absurd h (by decide)⟩ ?_
  · have f35 : a.tmps[35]?.getD undef = .int .i64 wd := tmps_of ((haft 12 rfl).2)
    refine Oper.wp_value (v := .int .i64 (wd + 1)) (w' := w) ?_ ?_
    · simp [go_sem, f35, hwrap]
    · exact ⟨_, rfl, rfl, hS, P5_on (Below.refl _ _)⟩
  refine .cons ⟨fun _ L a w hL hS hsm haft => ?_, fun h => absurd h (by decide)⟩ ?_
  · have f36 : a.tmps[36]?.getD undef = .int .i64 (wd + 1) := tmps_of ((haft 13 rfl).2)
    refine Oper.wp_enter (f := 22) (args := #[.int .u32 0, .int .i64 (wd + 1)]) (w' := w) ?_ ?_
    · simp [go_sem, f36]
    · refine (num_any 0 ((wd + 1)) w).mono ?_
      rintro o w' ⟨rfl, hb⟩
      exact ⟨_, rfl, _, rfl, rfl, hS.trans (hb.mono hS.size), P5_on hb⟩
  refine .cons ⟨fun _ L a w hL hS hsm haft => ?_, fun h => absurd h (by decide)⟩ ?_
  · have f37 : a.tmps[37]?.getD undef = .agg #[.int .u8 1, .int .u8 0, .int .u32 0, .int .i64 (wd + 1), .string ⟨#[]⟩, .slice none 0 0] := tmps_of (haft 14 rfl).2
    refine Oper.wp_enter (f := 23) (args := #[.string ⟨#[118]⟩, .agg #[.int .u8 1, .int .u8 0, .int .u32 0, .int .i64 (wd + 1), .string ⟨#[]⟩, .slice none 0 0]]) (w' := w) ?_ ?_
    · simp [go_sem, f37]
    · refine (set_any ⟨#[118]⟩ (by decide) (numE 0 (wd + 1)) w (num_now w 0 (wd + 1) (by decide) hw2)).mono ?_
      rintro o w' ⟨sp, rfl, hn, hb⟩
      exact ⟨_, rfl, _, rfl, ⟨sp, Sp.none, rfl, hn⟩, hS.trans (hb.mono hS.size), P5_on hb⟩
  refine .cons ⟨fun _ L a w hL hS hsm haft => ?_, fun h => absurd h (by decide)⟩ ?_
  · obtain ⟨sp, so, e, hn⟩ := (haft 15 rfl).2
    have f38 : a.tmps[38]?.getD undef = .agg #[.int .u8 1, .string ⟨#[118]⟩, .slice sp.at_ 1 sp.cap, .int .i64 0, .slice none 0 0, .slice none 0 0] := tmps_of e
    refine Oper.wp_value (v := .agg #[.int .u8 1, .string ⟨#[118]⟩, .slice sp.at_ 1 sp.cap, .int .i64 0, .slice none 0 0, .slice none 0 0, .int .i64 0, .int .i64 322]) (w' := w) ?_ ?_
    · simp [go_sem, f38]
    · exact ⟨_, rfl, ⟨sp, so, rfl, hn⟩, hS, P5_on (Below.refl _ _)⟩
  refine .cons ⟨fun _ L a w hL hS hsm haft => ?_, fun h => absurd h (by decide)⟩ ?_
  · have f6 : a.tmps[6]?.getD undef = .pointer (some ⟨b6, 0, none⟩) := tmps_of ((hsm 6 (by intro i hi; unfold dst5; first | omega | (split <;> omega))).trans h6)
    obtain ⟨x0, x1, x2, x3, x4, x5⟩ := six_cells ((hS.block b6 hlt6).trans hb6)
    refine Oper.wp_value (v := .agg #[.int .u8 1, .int .u8 0, .int .u32 1, .int .i64 wd, .string ⟨#[]⟩, .slice none 0 0]) (w' := w) ?_ ?_
    · simp [go_sem, f6, x0, x1, x2, x3, x4, x5]
    · exact ⟨_, rfl, rfl, hS, P5_on (Below.refl _ _)⟩
  refine .cons ⟨fun _ L a w hL hS hsm haft => ?_, fun h => absurd h (by decide)⟩ ?_
  · have f5 : a.tmps[5]?.getD undef = .pointer (some ⟨bp, 0, none⟩) := tmps_of ((hsm 5 (by intro i hi; unfold dst5; first | omega | (split <;> omega))).trans h5)
    refine Oper.wp_value (v := .pointer (some ⟨bp, 1, none⟩)) (w' := w) ?_ ?_
    · simp [go_sem, f5]
    · exact ⟨_, rfl, rfl, hS, P5_on (Below.refl _ _)⟩
  refine .cons ⟨fun _ L a w hL hS hsm haft => ?_, fun h => absurd h (by decide)⟩ ?_
  · have f41 : a.tmps[41]?.getD undef = .pointer (some ⟨bp, 1, none⟩) := tmps_of ((haft 18 rfl).2)
    have hx : w.cell? ⟨bp, 1, none⟩ = _ := (hS.cell (p := ⟨bp, 1, none⟩) hlt).trans hbp
    refine Oper.wp_value (v := .int .i64 wd) (w' := w) ?_ ?_
    · simp [go_sem, f41, hx]
    · exact ⟨_, rfl, rfl, hS, P5_on (Below.refl _ _)⟩
  refine .cons ⟨fun _ L a w hL hS hsm haft => ?_, fun h => absurd h (by decide)⟩ ?_
  · have f42 : a.tmps[42]?.getD undef = .int .i64 wd := tmps_of ((haft 19 rfl).2)
    refine Oper.wp_value (v := .int .i64 (wd + 1)) (w' := w) ?_ ?_
    · simp [go_sem, f42, hwrap]
    · exact ⟨_, rfl, rfl, hS, P5_on (Below.refl _ _)⟩
  refine .cons ⟨fun _ L a w hL hS hsm haft => ?_, fun h => absurd h (by decide)⟩ ?_
  · have f43 : a.tmps[43]?.getD undef = .int .i64 (wd + 1) := tmps_of ((haft 20 rfl).2)
    refine Oper.wp_enter (f := 22) (args := #[.int .u32 0, .int .i64 (wd + 1)]) (w' := w) ?_ ?_
    · simp [go_sem, f43]
    · refine (num_any 0 ((wd + 1)) w).mono ?_
      rintro o w' ⟨rfl, hb⟩
      exact ⟨_, rfl, _, rfl, rfl, hS.trans (hb.mono hS.size), P5_on hb⟩
  refine .cons ⟨fun _ L a w hL hS hsm haft => ?_, fun h => absurd h (by decide)⟩ ?_
  · have f40 : a.tmps[40]?.getD undef = .agg #[.int .u8 1, .int .u8 0, .int .u32 1, .int .i64 wd, .string ⟨#[]⟩, .slice none 0 0] := tmps_of ((haft 17 rfl).2)
    have f44 : a.tmps[44]?.getD undef = .agg #[.int .u8 1, .int .u8 0, .int .u32 0, .int .i64 (wd + 1), .string ⟨#[]⟩, .slice none 0 0] := tmps_of ((haft 21 rfl).2)
    refine Oper.wp_enter (f := 24) (args := #[.agg #[.int .u8 1, .int .u8 0, .int .u32 1, .int .i64 wd, .string ⟨#[]⟩, .slice none 0 0], .agg #[.int .u8 1, .int .u8 0, .int .u32 0, .int .i64 (wd + 1), .string ⟨#[]⟩, .slice none 0 0]]) (w' := w) ?_ ?_
    · simp [go_sem, f40, f44]
    · refine (write_any (numE 1 wd) (numE 0 (wd + 1)) w (num_now w 1 wd (by decide) hw1) (num_now w 0 (wd + 1) (by decide) hw2)).mono ?_
      rintro o w' ⟨sp, rfl, hn, hb⟩
      exact ⟨_, rfl, _, rfl, ⟨sp, Sp.none, rfl, hn⟩, hS.trans (hb.mono hS.size), P5_on hb⟩
  refine .cons ⟨fun _ L a w hL hS hsm haft => ?_, fun h => absurd h (by decide)⟩ ?_
  · obtain ⟨sp, so, e, hn⟩ := (haft 22 rfl).2
    have f45 : a.tmps[45]?.getD undef = .agg #[.int .u8 3, .string ⟨#[]⟩, .slice sp.at_ 2 sp.cap, .int .i64 0, .slice none 0 0, .slice none 0 0] := tmps_of e
    refine Oper.wp_value (v := .agg #[.int .u8 3, .string ⟨#[]⟩, .slice sp.at_ 2 sp.cap, .int .i64 0, .slice none 0 0, .slice none 0 0, .int .i64 0, .int .i64 322]) (w' := w) ?_ ?_
    · simp [go_sem, f45]
    · exact ⟨_, rfl, ⟨sp, so, rfl, hn⟩, hS, P5_on (Below.refl _ _)⟩
  refine .cons ⟨fun _ L a w hL hS hsm haft => ?_, fun h => absurd h (by decide)⟩ ?_
  · refine Oper.wp_enter (f := 17) (args := #[.string ⟨#[110, 111, 110, 101]⟩, .slice none 0 0]) (w' := w) ?_ ?_
    · simp [go_sem]
    · refine (call_any32 noneB Sp.none [] w).mono ?_
      rintro o w' ⟨rfl, hb⟩
      exact ⟨_, rfl, _, rfl, ⟨Sp.none, Sp.none, rfl, call_now (by decide)⟩, hS.trans (hb.mono hS.size), P5_on hb⟩
  refine .cons ⟨fun _ L a w hL hS hsm haft => ?_, fun h => absurd h (by decide)⟩ ?_
  · obtain ⟨sp, so, e, hn⟩ := (haft 24 rfl).2
    have f47 : a.tmps[47]?.getD undef = .agg #[.int .u8 8, .string ⟨#[110, 111, 110, 101]⟩, .slice none 0 0, .int .i64 0, .slice none 0 0, .slice none 0 0] := tmps_of e
    refine Oper.wp_value (v := .agg #[.int .u8 8, .string ⟨#[110, 111, 110, 101]⟩, .slice none 0 0, .int .i64 0, .slice none 0 0, .slice none 0 0, .int .i64 0, .int .i64 321]) (w' := w) ?_ ?_
    · simp [go_sem, f47]
    · exact ⟨_, rfl, ⟨sp, so, rfl, hn⟩, hS, P5_on (Below.refl _ _)⟩
  refine .cons ⟨fun _ L a w hL hS hsm haft => ?_, fun h => absurd h (by decide)⟩ ?_
  · have f6 : a.tmps[6]?.getD undef = .pointer (some ⟨b6, 0, none⟩) := tmps_of ((hsm 6 (by intro i hi; unfold dst5; first | omega | (split <;> omega))).trans h6)
    obtain ⟨x0, x1, x2, x3, x4, x5⟩ := six_cells ((hS.block b6 hlt6).trans hb6)
    refine Oper.wp_value (v := .agg #[.int .u8 1, .int .u8 0, .int .u32 1, .int .i64 wd, .string ⟨#[]⟩, .slice none 0 0]) (w' := w) ?_ ?_
    · simp [go_sem, f6, x0, x1, x2, x3, x4, x5]
    · exact ⟨_, rfl, rfl, hS, P5_on (Below.refl _ _)⟩
  refine .cons ⟨fun _ L a w hL hS hsm haft => ?_, fun h => absurd h (by decide)⟩ ?_
  · have f49 : a.tmps[49]?.getD undef = .agg #[.int .u8 1, .int .u8 0, .int .u32 1, .int .i64 wd, .string ⟨#[]⟩, .slice none 0 0] := tmps_of ((haft 26 rfl).2)
    have hb : Below w.heap.size w (w.alloc (.cells (numE 1 wd).cells.toArray 34)) := (Below.refl _ _).alloc (Nat.le_refl _) _
    refine Oper.wp_value (v := .slice (some ⟨w.heap.size, 0, none⟩) 1 1) (w' := w.alloc (.cells (numE 1 wd).cells.toArray 34)) ?_ ?_
    · simp [go_sem, f49]; rfl
    · exact ⟨_, rfl, ⟨⟨some ⟨w.heap.size, 0, none⟩, 1⟩, rfl, row_one (World.alloc_heap_new w _)⟩, hS.alloc hS.size _, P5_on hb⟩
  refine .cons ⟨fun _ L a w hL hS hsm haft => ?_, fun h => absurd h (by decide)⟩ ?_
  · obtain ⟨sp, e, hr⟩ := (haft 27 rfl).2
    have f50 : a.tmps[50]?.getD undef = .slice sp.at_ 1 sp.cap := tmps_of e
    refine Oper.wp_value (v := .agg #[.int .u8 7, .string ⟨#[]⟩, .slice sp.at_ 1 sp.cap, .int .i64 17, .slice none 0 0, .slice none 0 0]) (w' := w) ?_ ?_
    · simp [go_sem, f50]
    · exact ⟨_, rfl, ⟨sp, Sp.none, rfl, exp_now hr (num_now w 1 wd (by decide) hw1) (by decide) (by decide) ⟨RowOf.nil, fun _ h => by cases h⟩⟩, hS, P5_on (Below.refl _ _)⟩
  refine .cons ⟨fun _ L a w hL hS hsm haft => ?_, fun h => absurd h (by decide)⟩ ?_
  · obtain ⟨sp, so, e, hn⟩ := (haft 28 rfl).2
    have f51 : a.tmps[51]?.getD undef = .agg #[.int .u8 7, .string ⟨#[]⟩, .slice sp.at_ 1 sp.cap, .int .i64 17, .slice none 0 0, .slice none 0 0] := tmps_of e
    refine Oper.wp_value (v := .agg #[.int .u8 7, .string ⟨#[]⟩, .slice sp.at_ 1 sp.cap, .int .i64 17, .slice none 0 0, .slice none 0 0, .int .i64 0, .int .i64 329]) (w' := w) ?_ ?_
    · simp [go_sem, f51]
    · exact ⟨_, rfl, ⟨sp, so, rfl, hn⟩, hS, P5_on (Below.refl _ _)⟩
  refine .cons ⟨fun _ L a w hL hS hsm haft => ?_, fun h => absurd h (by decide)⟩ ?_
  · refine Oper.wp_value (v := .agg #[.int .u8 4, .string ⟨#[]⟩, .slice none 0 0, .int .i64 1, .slice none 0 0, .slice none 0 0]) (w' := w) ?_ ?_
    · simp [go_sem]
    · exact ⟨_, rfl, ⟨Sp.none, Sp.none, rfl, bare_now w 4 1 (by decide) (by decide)⟩, hS, P5_on (Below.refl _ _)⟩
  refine .cons ⟨fun _ L a w hL hS hsm haft => ?_, fun h => absurd h (by decide)⟩ ?_
  · obtain ⟨sp, so, e, hn⟩ := (haft 30 rfl).2
    have f53 : a.tmps[53]?.getD undef = .agg #[.int .u8 4, .string ⟨#[]⟩, .slice none 0 0, .int .i64 1, .slice none 0 0, .slice none 0 0] := tmps_of e
    refine Oper.wp_value (v := .agg #[.int .u8 4, .string ⟨#[]⟩, .slice none 0 0, .int .i64 1, .slice none 0 0, .slice none 0 0, .int .i64 0, .int .i64 325]) (w' := w) ?_ ?_
    · simp [go_sem, f53]
    · exact ⟨_, rfl, ⟨sp, so, rfl, hn⟩, hS, P5_on (Below.refl _ _)⟩
  refine .cons ⟨fun _ L a w hL hS hsm haft => ?_, fun h => absurd h (by decide)⟩ ?_
  · refine Oper.wp_enter (f := 25) (args := #[.string ⟨#[110, 111, 110, 101]⟩]) (w' := w) ?_ ?_
    · simp [go_sem]
    · refine (name_any32 noneB w).mono ?_
      rintro o w' ⟨rfl, hb⟩
      exact ⟨_, rfl, _, rfl, rfl, hS.trans (hb.mono hS.size), P5_on hb⟩
  refine .cons ⟨fun _ L a w hL hS hsm haft => ?_, fun h => absurd h (by decide)⟩ ?_
  · have f55 : a.tmps[55]?.getD undef = .agg #[.int .u8 2, .int .u8 0, .int .u32 0, .int .i64 0, .string ⟨#[110, 111, 110, 101]⟩, .slice none 0 0] := tmps_of (haft 32 rfl).2
    refine Oper.wp_enter (f := 23) (args := #[.string ⟨#[118]⟩, .agg #[.int .u8 2, .int .u8 0, .int .u32 0, .int .i64 0, .string ⟨#[110, 111, 110, 101]⟩, .slice none 0 0]]) (w' := w) ?_ ?_
    · simp [go_sem, f55]
    · refine (set_any ⟨#[118]⟩ (by decide) (nameE noneB) w (name_now w noneB (by decide))).mono ?_
      rintro o w' ⟨sp, rfl, hn, hb⟩
      exact ⟨_, rfl, _, rfl, ⟨sp, Sp.none, rfl, hn⟩, hS.trans (hb.mono hS.size), P5_on hb⟩
  refine .cons ⟨fun _ L a w hL hS hsm haft => ?_, fun h => absurd h (by decide)⟩ ?_
  · obtain ⟨sp, so, e, hn⟩ := (haft 33 rfl).2
    have f56 : a.tmps[56]?.getD undef = .agg #[.int .u8 1, .string ⟨#[118]⟩, .slice sp.at_ 1 sp.cap, .int .i64 0, .slice none 0 0, .slice none 0 0] := tmps_of e
    refine Oper.wp_value (v := .agg #[.int .u8 1, .string ⟨#[118]⟩, .slice sp.at_ 1 sp.cap, .int .i64 0, .slice none 0 0, .slice none 0 0, .int .i64 1, .int .i64 321]) (w' := w) ?_ ?_
    · simp [go_sem, f56]
    · exact ⟨_, rfl, ⟨sp, so, rfl, hn⟩, hS, P5_on (Below.refl _ _)⟩
  refine .cons ⟨fun _ L a w hL hS hsm haft => ?_, fun h => absurd h (by decide)⟩ ?_
  · refine Oper.wp_enter (f := 22) (args := #[.int .u32 2, .int .i64 1]) (w' := w) ?_ ?_
    · simp [go_sem]
    · refine (num_any 2 (1) w).mono ?_
      rintro o w' ⟨rfl, hb⟩
      exact ⟨_, rfl, _, rfl, rfl, hS.trans (hb.mono hS.size), P5_on hb⟩
  refine .cons ⟨fun _ L a w hL hS hsm haft => ?_, fun h => absurd h (by decide)⟩ ?_
  · have f6 : a.tmps[6]?.getD undef = .pointer (some ⟨b6, 0, none⟩) := tmps_of ((hsm 6 (by intro i hi; unfold dst5; first | omega | (split <;> omega))).trans h6)
    obtain ⟨x0, x1, x2, x3, x4, x5⟩ := six_cells ((hS.block b6 hlt6).trans hb6)
    refine Oper.wp_value (v := .agg #[.int .u8 1, .int .u8 0, .int .u32 1, .int .i64 wd, .string ⟨#[]⟩, .slice none 0 0]) (w' := w) ?_ ?_
    · simp [go_sem, f6, x0, x1, x2, x3, x4, x5]
    · exact ⟨_, rfl, rfl, hS, P5_on (Below.refl _ _)⟩
  refine .cons ⟨fun _ L a w hL hS hsm haft => ?_, fun h => absurd h (by decide)⟩ ?_
  · have f58 : a.tmps[58]?.getD undef = .agg #[.int .u8 1, .int .u8 0, .int .u32 2, .int .i64 1, .string ⟨#[]⟩, .slice none 0 0] := tmps_of ((haft 35 rfl).2)
    have f59 : a.tmps[59]?.getD undef = .agg #[.int .u8 1, .int .u8 0, .int .u32 1, .int .i64 wd, .string ⟨#[]⟩, .slice none 0 0] := tmps_of ((haft 36 rfl).2)
    refine Oper.wp_enter (f := 24) (args := #[.agg #[.int .u8 1, .int .u8 0, .int .u32 2, .int .i64 1, .string ⟨#[]⟩, .slice none 0 0], .agg #[.int .u8 1, .int .u8 0, .int .u32 1, .int .i64 wd, .string ⟨#[]⟩, .slice none 0 0]]) (w' := w) ?_ ?_
    · simp [go_sem, f58, f59]
    · refine (write_any (numE 2 1) (numE 1 wd) w (num_now w 2 1 (by decide) (by decide)) (num_now w 1 wd (by decide) hw1)).mono ?_
      rintro o w' ⟨sp, rfl, hn, hb⟩
      exact ⟨_, rfl, _, rfl, ⟨sp, Sp.none, rfl, hn⟩, hS.trans (hb.mono hS.size), P5_on hb⟩
  refine .cons ⟨fun _ L a w hL hS hsm haft => ?_, fun h => absurd h (by decide)⟩ ?_
  · obtain ⟨sp, so, e, hn⟩ := (haft 37 rfl).2
    have f60 : a.tmps[60]?.getD undef = .agg #[.int .u8 3, .string ⟨#[]⟩, .slice sp.at_ 2 sp.cap, .int .i64 0, .slice none 0 0, .slice none 0 0] := tmps_of e
    refine Oper.wp_value (v := .agg #[.int .u8 3, .string ⟨#[]⟩, .slice sp.at_ 2 sp.cap, .int .i64 0, .slice none 0 0, .slice none 0 0, .int .i64 1, .int .i64 322]) (w' := w) ?_ ?_
    · simp [go_sem, f60]
    · exact ⟨_, rfl, ⟨sp, so, rfl, hn⟩, hS, P5_on (Below.refl _ _)⟩
  refine .cons ⟨fun _ L a w hL hS hsm haft => ?_, fun h => absurd h (by decide)⟩ ?_
  · have f6 : a.tmps[6]?.getD undef = .pointer (some ⟨b6, 0, none⟩) := tmps_of ((hsm 6 (by intro i hi; unfold dst5; first | omega | (split <;> omega))).trans h6)
    obtain ⟨x0, x1, x2, x3, x4, x5⟩ := six_cells ((hS.block b6 hlt6).trans hb6)
    refine Oper.wp_value (v := .agg #[.int .u8 1, .int .u8 0, .int .u32 1, .int .i64 wd, .string ⟨#[]⟩, .slice none 0 0]) (w' := w) ?_ ?_
    · simp [go_sem, f6, x0, x1, x2, x3, x4, x5]
    · exact ⟨_, rfl, rfl, hS, P5_on (Below.refl _ _)⟩
  refine .cons ⟨fun _ L a w hL hS hsm haft => ?_, fun h => absurd h (by decide)⟩ ?_
  · have f62 : a.tmps[62]?.getD undef = .agg #[.int .u8 1, .int .u8 0, .int .u32 1, .int .i64 wd, .string ⟨#[]⟩, .slice none 0 0] := tmps_of ((haft 39 rfl).2)
    have hb : Below w.heap.size w (w.alloc (.cells (numE 1 wd).cells.toArray 34)) := (Below.refl _ _).alloc (Nat.le_refl _) _
    refine Oper.wp_value (v := .slice (some ⟨w.heap.size, 0, none⟩) 1 1) (w' := w.alloc (.cells (numE 1 wd).cells.toArray 34)) ?_ ?_
    · simp [go_sem, f62]; rfl
    · exact ⟨_, rfl, ⟨⟨some ⟨w.heap.size, 0, none⟩, 1⟩, rfl, row_one (World.alloc_heap_new w _)⟩, hS.alloc hS.size _, P5_on hb⟩
  refine .cons ⟨fun _ L a w hL hS hsm haft => ?_, fun h => absurd h (by decide)⟩ ?_
  · refine Oper.wp_value (v := .agg #[.int .u8 9, .string ⟨#[]⟩, .slice none 0 0, .int .i64 0, .slice none 0 0, .slice none 0 0]) (w' := w) ?_ ?_
    · simp [go_sem]
    · exact ⟨_, rfl, rfl, hS, P5_on (Below.refl _ _)⟩
  refine .cons ⟨fun _ L a w hL hS hsm haft => ?_, fun h => absurd h (by decide)⟩ ?_
  · have f64 : a.tmps[64]?.getD undef = .agg #[.int .u8 9, .string ⟨#[]⟩, .slice none 0 0, .int .i64 0, .slice none 0 0, .slice none 0 0] := tmps_of ((haft 41 rfl).2)
    have hb : Below w.heap.size w (w.alloc (.cells (StmtV.mk 9 ⟨#[]⟩ Sp.none [] 0 Sp.none [] Sp.none []).cells.toArray 49)) := (Below.refl _ _).alloc (Nat.le_refl _) _
    refine Oper.wp_value (v := .slice (some ⟨w.heap.size, 0, none⟩) 1 1) (w' := w.alloc (.cells (StmtV.mk 9 ⟨#[]⟩ Sp.none [] 0 Sp.none [] Sp.none []).cells.toArray 49)) ?_ ?_
    · simp [go_sem, f64]; rfl
    · exact ⟨_, rfl, ⟨⟨some ⟨w.heap.size, 0, none⟩, 1⟩, rfl, row_one (World.alloc_heap_new w _), fun t ht => by rw [List.mem_singleton.1 ht]; exact bare_now _ 9 0 (by decide) (by decide)⟩, hS.alloc hS.size _, P5_on hb⟩
  refine .cons ⟨fun _ L a w hL hS hsm haft => ?_, fun h => absurd h (by decide)⟩ ?_
  · obtain ⟨sp, e, hr⟩ := (haft 40 rfl).2
    obtain ⟨so, e2, hr2⟩ := (haft 42 rfl).2
    have f63 : a.tmps[63]?.getD undef = .slice sp.at_ 1 sp.cap := tmps_of e
    have f65 : a.tmps[65]?.getD undef = .slice so.at_ 1 so.cap := tmps_of e2
    refine Oper.wp_value (v := .agg #[.int .u8 6, .string ⟨#[]⟩, .slice sp.at_ 1 sp.cap, .int .i64 0, .slice none 0 0, .slice so.at_ 1 so.cap]) (w' := w) ?_ ?_
    · simp [go_sem, f63, f65]
    · exact ⟨_, rfl, ⟨sp, so, rfl, exp_now hr (num_now w 1 wd (by decide) hw1) (by decide) (by decide) hr2⟩, hS, P5_on (Below.refl _ _)⟩
  refine .cons ⟨fun _ L a w hL hS hsm haft => ?_, fun h => absurd h (by decide)⟩ ?_
  · obtain ⟨sp, so, e, hn⟩ := (haft 43 rfl).2
    have f66 : a.tmps[66]?.getD undef = .agg #[.int .u8 6, .string ⟨#[]⟩, .slice sp.at_ 1 sp.cap, .int .i64 0, .slice none 0 0, .slice so.at_ 1 so.cap] := tmps_of e
    refine Oper.wp_value (v := .agg #[.int .u8 6, .string ⟨#[]⟩, .slice sp.at_ 1 sp.cap, .int .i64 0, .slice none 0 0, .slice so.at_ 1 so.cap, .int .i64 2, .int .i64 325]) (w' := w) ?_ ?_
    · simp [go_sem, f66]
    · exact ⟨_, rfl, ⟨sp, so, rfl, hn⟩, hS, P5_on (Below.refl _ _)⟩
  refine .cons ⟨fun _ L a w hL hS hsm haft => ?_, fun h => absurd h (by decide)⟩ ?_
  · have h0 : RowV wd 0 (a.eval (.tmp 24)) w := (haft 1 rfl).2
    have h1 : RowV wd 1 (a.eval (.tmp 27)) w := (haft 4 rfl).2
    have h2 : RowV wd 2 (a.eval (.tmp 30)) w := (haft 7 rfl).2
    have h3 : RowV wd 3 (a.eval (.tmp 33)) w := (haft 10 rfl).2
    have h4 : RowV wd 4 (a.eval (.tmp 39)) w := (haft 16 rfl).2
    have h5 : RowV wd 5 (a.eval (.tmp 46)) w := (haft 23 rfl).2
    have h6 : RowV wd 6 (a.eval (.tmp 48)) w := (haft 25 rfl).2
    have h7 : RowV wd 7 (a.eval (.tmp 52)) w := (haft 29 rfl).2
    have h8 : RowV wd 8 (a.eval (.tmp 54)) w := (haft 31 rfl).2
    have h9 : RowV wd 9 (a.eval (.tmp 57)) w := (haft 34 rfl).2
    have h10 : RowV wd 10 (a.eval (.tmp 61)) w := (haft 38 rfl).2
    have h11 : RowV wd 11 (a.eval (.tmp 67)) w := (haft 44 rfl).2
    obtain ⟨sp0, so0, e0, n0⟩ := h0
    obtain ⟨sp1, so1, e1, n1⟩ := h1
    obtain ⟨sp2, so2, e2, n2⟩ := h2
    obtain ⟨sp3, so3, e3, n3⟩ := h3
    obtain ⟨sp4, so4, e4, n4⟩ := h4
    obtain ⟨sp5, so5, e5, n5⟩ := h5
    obtain ⟨sp6, so6, e6, n6⟩ := h6
    obtain ⟨sp7, so7, e7, n7⟩ := h7
    obtain ⟨sp8, so8, e8, n8⟩ := h8
    obtain ⟨sp9, so9, e9, n9⟩ := h9
    obtain ⟨sp10, so10, e10, n10⟩ := h10
    obtain ⟨sp11, so11, e11, n11⟩ := h11
    have f24 : a.tmps[24]?.getD undef = .agg #[.int .u8 0, .string ⟨#[]⟩, .slice none 0 0, .int .i64 0, .slice none 0 0, .slice none 0 0, .int .i64 0, .int .i64 325] := tmps_of e0
    have f27 : a.tmps[27]?.getD undef = .agg #[.int .u8 1, .string ⟨#[105]⟩, .slice sp1.at_ 1 sp1.cap, .int .i64 0, .slice none 0 0, .slice none 0 0, .int .i64 0, .int .i64 321] := tmps_of e1
    have f30 : a.tmps[30]?.getD undef = .agg #[.int .u8 1, .string ⟨#[110, 111, 110, 101]⟩, .slice sp2.at_ 1 sp2.cap, .int .i64 0, .slice none 0 0, .slice none 0 0, .int .i64 0, .int .i64 321] := tmps_of e2
    have f33 : a.tmps[33]?.getD undef = .agg #[.int .u8 1, .string ⟨#[97]⟩, .slice sp3.at_ 1 sp3.cap, .int .i64 0, .slice none 0 0, .slice none 0 0, .int .i64 0, .int .i64 321] := tmps_of e3
    have f39 : a.tmps[39]?.getD undef = .agg #[.int .u8 1, .string ⟨#[118]⟩, .slice sp4.at_ 1 sp4.cap, .int .i64 0, .slice none 0 0, .slice none 0 0, .int .i64 0, .int .i64 322] := tmps_of e4
    have f46 : a.tmps[46]?.getD undef = .agg #[.int .u8 3, .string ⟨#[]⟩, .slice sp5.at_ 2 sp5.cap, .int .i64 0, .slice none 0 0, .slice none 0 0, .int .i64 0, .int .i64 322] := tmps_of e5
    have f48 : a.tmps[48]?.getD undef = .agg #[.int .u8 8, .string ⟨#[110, 111, 110, 101]⟩, .slice none 0 0, .int .i64 0, .slice none 0 0, .slice none 0 0, .int .i64 0, .int .i64 321] := tmps_of e6
    have f52 : a.tmps[52]?.getD undef = .agg #[.int .u8 7, .string ⟨#[]⟩, .slice sp7.at_ 1 sp7.cap, .int .i64 17, .slice none 0 0, .slice none 0 0, .int .i64 0, .int .i64 329] := tmps_of e7
    have f54 : a.tmps[54]?.getD undef = .agg #[.int .u8 4, .string ⟨#[]⟩, .slice none 0 0, .int .i64 1, .slice none 0 0, .slice none 0 0, .int .i64 0, .int .i64 325] := tmps_of e8
    have f57 : a.tmps[57]?.getD undef = .agg #[.int .u8 1, .string ⟨#[118]⟩, .slice sp9.at_ 1 sp9.cap, .int .i64 0, .slice none 0 0, .slice none 0 0, .int .i64 1, .int .i64 321] := tmps_of e9
    have f61 : a.tmps[61]?.getD undef = .agg #[.int .u8 3, .string ⟨#[]⟩, .slice sp10.at_ 2 sp10.cap, .int .i64 0, .slice none 0 0, .slice none 0 0, .int .i64 1, .int .i64 322] := tmps_of e10
    have f67 : a.tmps[67]?.getD undef = .agg #[.int .u8 6, .string ⟨#[]⟩, .slice sp11.at_ 1 sp11.cap, .int .i64 0, .slice none 0 0, .slice so11.at_ 1 so11.cap, .int .i64 2, .int .i64 325] := tmps_of e11
    have hb : Below w.heap.size w (w.alloc (.cells #[.int .u8 0, .string ⟨#[]⟩, .slice none 0 0, .int .i64 0, .slice none 0 0, .slice none 0 0, .int .i64 0, .int .i64 325, .int .u8 1, .string ⟨#[105]⟩, .slice sp1.at_ 1 sp1.cap, .int .i64 0, .slice none 0 0, .slice none 0 0, .int .i64 0, .int .i64 321, .int .u8 1, .string ⟨#[110, 111, 110, 101]⟩, .slice sp2.at_ 1 sp2.cap, .int .i64 0, .slice none 0 0, .slice none 0 0, .int .i64 0, .int .i64 321, .int .u8 1, .string ⟨#[97]⟩, .slice sp3.at_ 1 sp3.cap, .int .i64 0, .slice none 0 0, .slice none 0 0, .int .i64 0, .int .i64 321, .int .u8 1, .string ⟨#[118]⟩, .slice sp4.at_ 1 sp4.cap, .int .i64 0, .slice none 0 0, .slice none 0 0, .int .i64 0, .int .i64 322, .int .u8 3, .string ⟨#[]⟩, .slice sp5.at_ 2 sp5.cap, .int .i64 0, .slice none 0 0, .slice none 0 0, .int .i64 0, .int .i64 322, .int .u8 8, .string ⟨#[110, 111, 110, 101]⟩, .slice none 0 0, .int .i64 0, .slice none 0 0, .slice none 0 0, .int .i64 0, .int .i64 321, .int .u8 7, .string ⟨#[]⟩, .slice sp7.at_ 1 sp7.cap, .int .i64 17, .slice none 0 0, .slice none 0 0, .int .i64 0, .int .i64 329, .int .u8 4, .string ⟨#[]⟩, .slice none 0 0, .int .i64 1, .slice none 0 0, .slice none 0 0, .int .i64 0, .int .i64 325, .int .u8 1, .string ⟨#[118]⟩, .slice sp9.at_ 1 sp9.cap, .int .i64 0, .slice none 0 0, .slice none 0 0, .int .i64 1, .int .i64 321, .int .u8 3, .string ⟨#[]⟩, .slice sp10.at_ 2 sp10.cap, .int .i64 0, .slice none 0 0, .slice none 0 0, .int .i64 1, .int .i64 322, .int .u8 6, .string ⟨#[]⟩, .slice sp11.at_ 1 sp11.cap, .int .i64 0, .slice none 0 0, .slice so11.at_ 1 so11.cap, .int .i64 2, .int .i64 325] 61)) := (Below.refl _ _).alloc (Nat.le_refl _) _
    have hnew := World.alloc_heap_new w (.cells #[.int .u8 0, .string ⟨#[]⟩, .slice none 0 0, .int .i64 0, .slice none 0 0, .slice none 0 0, .int .i64 0, .int .i64 325, .int .u8 1, .string ⟨#[105]⟩, .slice sp1.at_ 1 sp1.cap, .int .i64 0, .slice none 0 0, .slice none 0 0, .int .i64 0, .int .i64 321, .int .u8 1, .string ⟨#[110, 111, 110, 101]⟩, .slice sp2.at_ 1 sp2.cap, .int .i64 0, .slice none 0 0, .slice none 0 0, .int .i64 0, .int .i64 321, .int .u8 1, .string ⟨#[97]⟩, .slice sp3.at_ 1 sp3.cap, .int .i64 0, .slice none 0 0, .slice none 0 0, .int .i64 0, .int .i64 321, .int .u8 1, .string ⟨#[118]⟩, .slice sp4.at_ 1 sp4.cap, .int .i64 0, .slice none 0 0, .slice none 0 0, .int .i64 0, .int .i64 322, .int .u8 3, .string ⟨#[]⟩, .slice sp5.at_ 2 sp5.cap, .int .i64 0, .slice none 0 0, .slice none 0 0, .int .i64 0, .int .i64 322, .int .u8 8, .string ⟨#[110, 111, 110, 101]⟩, .slice none 0 0, .int .i64 0, .slice none 0 0, .slice none 0 0, .int .i64 0, .int .i64 321, .int .u8 7, .string ⟨#[]⟩, .slice sp7.at_ 1 sp7.cap, .int .i64 17, .slice none 0 0, .slice none 0 0, .int .i64 0, .int .i64 329, .int .u8 4, .string ⟨#[]⟩, .slice none 0 0, .int .i64 1, .slice none 0 0, .slice none 0 0, .int .i64 0, .int .i64 325, .int .u8 1, .string ⟨#[118]⟩, .slice sp9.at_ 1 sp9.cap, .int .i64 0, .slice none 0 0, .slice none 0 0, .int .i64 1, .int .i64 321, .int .u8 3, .string ⟨#[]⟩, .slice sp10.at_ 2 sp10.cap, .int .i64 0, .slice none 0 0, .slice none 0 0, .int .i64 1, .int .i64 322, .int .u8 6, .string ⟨#[]⟩, .slice sp11.at_ 1 sp11.cap, .int .i64 0, .slice none 0 0, .slice so11.at_ 1 so11.cap, .int .i64 2, .int .i64 325] 61)
    refine Oper.wp_value (v := .slice (some ⟨w.heap.size, 0, none⟩) 12 12) (w' := w.alloc (.cells #[.int .u8 0, .string ⟨#[]⟩, .slice none 0 0, .int .i64 0, .slice none 0 0, .slice none 0 0, .int .i64 0, .int .i64 325, .int .u8 1, .string ⟨#[105]⟩, .slice sp1.at_ 1 sp1.cap, .int .i64 0, .slice none 0 0, .slice none 0 0, .int .i64 0, .int .i64 321, .int .u8 1, .string ⟨#[110, 111, 110, 101]⟩, .slice sp2.at_ 1 sp2.cap, .int .i64 0, .slice none 0 0, .slice none 0 0, .int .i64 0, .int .i64 321, .int .u8 1, .string ⟨#[97]⟩, .slice sp3.at_ 1 sp3.cap, .int .i64 0, .slice none 0 0, .slice none 0 0, .int .i64 0, .int .i64 321, .int .u8 1, .string ⟨#[118]⟩, .slice sp4.at_ 1 sp4.cap, .int .i64 0, .slice none 0 0, .slice none 0 0, .int .i64 0, .int .i64 322, .int .u8 3, .string ⟨#[]⟩, .slice sp5.at_ 2 sp5.cap, .int .i64 0, .slice none 0 0, .slice none 0 0, .int .i64 0, .int .i64 322, .int .u8 8, .string ⟨#[110, 111, 110, 101]⟩, .slice none 0 0, .int .i64 0, .slice none 0 0, .slice none 0 0, .int .i64 0, .int .i64 321, .int .u8 7, .string ⟨#[]⟩, .slice sp7.at_ 1 sp7.cap, .int .i64 17, .slice none 0 0, .slice none 0 0, .int .i64 0, .int .i64 329, .int .u8 4, .string ⟨#[]⟩, .slice none 0 0, .int .i64 1, .slice none 0 0, .slice none 0 0, .int .i64 0, .int .i64 325, .int .u8 1, .string ⟨#[118]⟩, .slice sp9.at_ 1 sp9.cap, .int .i64 0, .slice none 0 0, .slice none 0 0, .int .i64 1, .int .i64 321, .int .u8 3, .string ⟨#[]⟩, .slice sp10.at_ 2 sp10.cap, .int .i64 0, .slice none 0 0, .slice none 0 0, .int .i64 1, .int .i64 322, .int .u8 6, .string ⟨#[]⟩, .slice sp11.at_ 1 sp11.cap, .int .i64 0, .slice none 0 0, .slice so11.at_ 1 so11.cap, .int .i64 2, .int .i64 325] 61)) ?_ ?_
    · simp [go_sem, f24, f27, f30, f33, f39, f46, f48, f52, f54, f57, f61, f67]
    · refine ⟨_, rfl, ⟨w.heap.size, rfl, by simp, fun k hk => ?_⟩, hS.alloc hS.size _, P5_on hb⟩
      generalize w.alloc (.cells #[.int .u8 0, .string ⟨#[]⟩, .slice none 0 0, .int .i64 0, .slice none 0 0, .slice none 0 0, .int .i64 0, .int .i64 325, .int .u8 1, .string ⟨#[105]⟩, .slice sp1.at_ 1 sp1.cap, .int .i64 0, .slice none 0 0, .slice none 0 0, .int .i64 0, .int .i64 321, .int .u8 1, .string ⟨#[110, 111, 110, 101]⟩, .slice sp2.at_ 1 sp2.cap, .int .i64 0, .slice none 0 0, .slice none 0 0, .int .i64 0, .int .i64 321, .int .u8 1, .string ⟨#[97]⟩, .slice sp3.at_ 1 sp3.cap, .int .i64 0, .slice none 0 0, .slice none 0 0, .int .i64 0, .int .i64 321, .int .u8 1, .string ⟨#[118]⟩, .slice sp4.at_ 1 sp4.cap, .int .i64 0, .slice none 0 0, .slice none 0 0, .int .i64 0, .int .i64 322, .int .u8 3, .string ⟨#[]⟩, .slice sp5.at_ 2 sp5.cap, .int .i64 0, .slice none 0 0, .slice none 0 0, .int .i64 0, .int .i64 322, .int .u8 8, .string ⟨#[110, 111, 110, 101]⟩, .slice none 0 0, .int .i64 0, .slice none 0 0, .slice none 0 0, .int .i64 0, .int .i64 321, .int .u8 7, .string ⟨#[]⟩, .slice sp7.at_ 1 sp7.cap, .int .i64 17, .slice none 0 0, .slice none 0 0, .int .i64 0, .int .i64 329, .int .u8 4, .string ⟨#[]⟩, .slice none 0 0, .int .i64 1, .slice none 0 0, .slice none 0 0, .int .i64 0, .int .i64 325, .int .u8 1, .string ⟨#[118]⟩, .slice sp9.at_ 1 sp9.cap, .int .i64 0, .slice none 0 0, .slice none 0 0, .int .i64 1, .int .i64 321, .int .u8 3, .string ⟨#[]⟩, .slice sp10.at_ 2 sp10.cap, .int .i64 0, .slice none 0 0, .slice none 0 0, .int .i64 1, .int .i64 322, .int .u8 6, .string ⟨#[]⟩, .slice sp11.at_ 1 sp11.cap, .int .i64 0, .slice none 0 0, .slice so11.at_ 1 so11.cap, .int .i64 2, .int .i64 325] 61) = w' at *
      match k, hk with
      | 0, _ => exact ⟨sp0, so0, n0.on hb, fun r u hu => by rw [cell_of_row w' _ _ _ _ _ hnew]; exact at8 hu rfl (o := 0 * 8) (by intro j hj; match j, hj with | 0, _ | 1, _ | 2, _ | 3, _ | 4, _ | 5, _ | 6, _ | 7, _ => rfl | n + 8, h => omega)⟩
      | 1, _ => exact ⟨sp1, so1, n1.on hb, fun r u hu => by rw [cell_of_row w' _ _ _ _ _ hnew]; exact at8 hu rfl (o := 1 * 8) (by intro j hj; match j, hj with | 0, _ | 1, _ | 2, _ | 3, _ | 4, _ | 5, _ | 6, _ | 7, _ => rfl | n + 8, h => omega)⟩
      | 2, _ => exact ⟨sp2, so2, n2.on hb, fun r u hu => by rw [cell_of_row w' _ _ _ _ _ hnew]; exact at8 hu rfl (o := 2 * 8) (by intro j hj; match j, hj with | 0, _ | 1, _ | 2, _ | 3, _ | 4, _ | 5, _ | 6, _ | 7, _ => rfl | n + 8, h => omega)⟩
      | 3, _ => exact ⟨sp3, so3, n3.on hb, fun r u hu => by rw [cell_of_row w' _ _ _ _ _ hnew]; exact at8 hu rfl (o := 3 * 8) (by intro j hj; match j, hj with | 0, _ | 1, _ | 2, _ | 3, _ | 4, _ | 5, _ | 6, _ | 7, _ => rfl | n + 8, h => omega)⟩
      | 4, _ => exact ⟨sp4, so4, n4.on hb, fun r u hu => by rw [cell_of_row w' _ _ _ _ _ hnew]; exact at8 hu rfl (o := 4 * 8) (by intro j hj; match j, hj with | 0, _ | 1, _ | 2, _ | 3, _ | 4, _ | 5, _ | 6, _ | 7, _ => rfl | n + 8, h => omega)⟩
      | 5, _ => exact ⟨sp5, so5, n5.on hb, fun r u hu => by rw [cell_of_row w' _ _ _ _ _ hnew]; exact at8 hu rfl (o := 5 * 8) (by intro j hj; match j, hj with | 0, _ | 1, _ | 2, _ | 3, _ | 4, _ | 5, _ | 6, _ | 7, _ => rfl | n + 8, h => omega)⟩
      | 6, _ => exact ⟨sp6, so6, n6.on hb, fun r u hu => by rw [cell_of_row w' _ _ _ _ _ hnew]; exact at8 hu rfl (o := 6 * 8) (by intro j hj; match j, hj with | 0, _ | 1, _ | 2, _ | 3, _ | 4, _ | 5, _ | 6, _ | 7, _ => rfl | n + 8, h => omega)⟩
      | 7, _ => exact ⟨sp7, so7, n7.on hb, fun r u hu => by rw [cell_of_row w' _ _ _ _ _ hnew]; exact at8 hu rfl (o := 7 * 8) (by intro j hj; match j, hj with | 0, _ | 1, _ | 2, _ | 3, _ | 4, _ | 5, _ | 6, _ | 7, _ => rfl | n + 8, h => omega)⟩
      | 8, _ => exact ⟨sp8, so8, n8.on hb, fun r u hu => by rw [cell_of_row w' _ _ _ _ _ hnew]; exact at8 hu rfl (o := 8 * 8) (by intro j hj; match j, hj with | 0, _ | 1, _ | 2, _ | 3, _ | 4, _ | 5, _ | 6, _ | 7, _ => rfl | n + 8, h => omega)⟩
      | 9, _ => exact ⟨sp9, so9, n9.on hb, fun r u hu => by rw [cell_of_row w' _ _ _ _ _ hnew]; exact at8 hu rfl (o := 9 * 8) (by intro j hj; match j, hj with | 0, _ | 1, _ | 2, _ | 3, _ | 4, _ | 5, _ | 6, _ | 7, _ => rfl | n + 8, h => omega)⟩
      | 10, _ => exact ⟨sp10, so10, n10.on hb, fun r u hu => by rw [cell_of_row w' _ _ _ _ _ hnew]; exact at8 hu rfl (o := 10 * 8) (by intro j hj; match j, hj with | 0, _ | 1, _ | 2, _ | 3, _ | 4, _ | 5, _ | 6, _ | 7, _ => rfl | n + 8, h => omega)⟩
      | 11, _ => exact ⟨sp11, so11, n11.on hb, fun r u hu => by rw [cell_of_row w' _ _ _ _ _ hnew]; exact at8 hu rfl (o := 11 * 8) (by intro j hj; match j, hj with | 0, _ | 1, _ | 2, _ | 3, _ | 4, _ | 5, _ | 6, _ | 7, _ => rfl | n + 8, h => omega)⟩
      | n + 12, h => omega
  refine .cons ⟨fun _ L a w hL hS hsm haft => ?_, fun h => absurd h (by decide)⟩ ?_
  · have f1 : a.tmps[1]?.getD undef = .int .u8 way := tmps_of ((hsm 1 (by intro i hi; unfold dst5; first | omega | (split <;> omega))).trans h1)
    refine Oper.wp_value (v := .int .u8 way) (w' := w) ?_ ?_
    · simp [go_sem, f1]
    · exact ⟨_, rfl, rfl, hS, P5_on (Below.refl _ _)⟩
  refine .cons ⟨fun _ L a w hL hS hsm haft => ?_, fun h => absurd h (by decide)⟩ ?_
  · have f69 : a.tmps[69]?.getD undef = .int .u8 way := tmps_of ((haft 46 rfl).2)
    refine Oper.wp_value (v := .int .u8 k) (w' := w) ?_ ?_
    · simp [go_sem, f69, hmod]
    · exact ⟨_, rfl, rfl, hS, P5_on (Below.refl _ _)⟩
  refine .cons ⟨fun _ L a w hL hS hsm haft => ?_, fun h => absurd h (by decide)⟩ ?_
  · obtain ⟨b, e, hlb, hrows⟩ := (haft 45 rfl).2
    have f68 : a.tmps[68]?.getD undef = .slice (some ⟨b, 0, none⟩) 12 12 := tmps_of e
    have f70 : a.tmps[70]?.getD undef = .int .u8 k := tmps_of ((haft 47 rfl).2)
    obtain ⟨sp, so, hn, hc⟩ := hrows k hk
    refine Oper.wp_value (v := .pointer (some ⟨b, k * 8, none⟩)) (w' := w) ?_ ?_
    · simp [go_sem, f68, f70]
      intro h
      omega
    · exact ⟨_, rfl, ⟨b, rfl, hlb, sp, so, hn, hc⟩, hS, P5_on (Below.refl _ _)⟩
  refine .cons ⟨fun _ L a w hL hS hsm haft => ?_, fun h => absurd h (by decide)⟩ ?_
  · obtain ⟨b, e, hlb, sp, so, hn, hc⟩ := (haft 48 rfl).2
    refine Oper.wp_load_mid 61 (.tmp 71) rfl b (k * 8) e (rowC wd sp so k) _ hc Tryz.underlying61 rfl rowC_inf ?_
    exact ⟨_, rfl, ⟨sp, so, rfl, hn⟩, hS, P5_on (Below.refl _ _)⟩
  refine .cons ⟨fun _ L a w hL hS hsm haft => ?_, fun h => absurd h (by decide)⟩ ?_
  · have hb : Below w.heap.size w (w.alloc (.cells #[.int .u8 0, .string ⟨#[]⟩, .slice none 0 0, .int .i64 0, .slice none 0 0, .slice none 0 0, .int .i64 0, .int .i64 0] 61)) := (Below.refl _ _).alloc (Nat.le_refl _) _
    refine Oper.wp_value (v := .pointer (some ⟨w.heap.size, 0, none⟩)) (w' := (w.alloc (.cells #[.int .u8 0, .string ⟨#[]⟩, .slice none 0 0, .int .i64 0, .slice none 0 0, .slice none 0 0, .int .i64 0, .int .i64 0] 61))) ?_ ?_
    · simp [go_sem]
    · exact ⟨_, rfl, ⟨w.heap.size, rfl, hS.size, World.alloc_heap_new w _⟩, hS.alloc hS.size _, P5_on hb⟩
  refine .cons ⟨fun h => absurd h (by decide), fun _ L a w hL hS hsza hde hsm hv => ?_⟩ trivial
  obtain ⟨b, e7, hlb, hblk⟩ := hv 50 (by decide)
  obtain ⟨sp, so, e72, hn⟩ := hv 49 (by decide)
  have hlt7 : b < w.heap.size := (Array.getElem?_eq_some_iff.1 hblk).1
  refine wp_store_row 61 (.tmp 7) (.tmp 72) rfl b _ e7 e72 61 _ hblk rowC_inf' (by simp [rowC, StmtV.cells]) (by simp [rowC, StmtV.cells, Sp.val, Value.oneCell']) ?_
  refine ⟨rfl, hsza.trans hsz, hde.trans hd, ?_, b, sp, so, hlb, e7, setRow_heap _ _ _ _ _ _ hblk, ?_, below_setRow hS hlb⟩
  · intro t ht ht7
    exact hsm t fun i hi => by unfold dst5; split <;> omega
  · exact bad_keep hblk hn
end Go.Proofs.YthcboallnbaimaaGreatDoor
