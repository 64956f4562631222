/- A region that draws its order, walked by an invariant over what is done: no order is walked at all. No program in sight. -/
import Derived.RegionTactic
namespace Go.Proofs.YtlibeobmdjeilaaGreatDoor
open Go
section
variable {P : Program} {md : Region.Mode} {ops : Array Oper} {Q : Exit → Act → World → Prop}
def todoN (ops : Array Oper) (listed : Array Bool) : List Nat := (List.range ops.size).filter fun i => !listed.getD i true
theorem todo_next {listed : Array Bool} {i : Nat} (h : i ∈ todoN ops listed) : (todoN ops (listed.setIfInBounds i true)).length < (todoN ops listed).length := by
  have e : todoN ops (listed.setIfInBounds i true) = (todoN ops listed).filter fun j => decide (j ≠ i) := by
    unfold todoN
    rw [List.filter_filter]
    refine List.filter_congr fun j _ => ?_
    by_cases hj : j = i
    · subst hj
      have hlt : j < listed.size := by
        have h2 := (List.mem_filter.1 h).2
        rcases Nat.lt_or_ge j listed.size with h3 | h3
        · exact h3
        · simp [Array.getD, Nat.not_lt.2 h3] at h2
      simp [Array.getD, hlt]
    · have : (listed.setIfInBounds i true).getD j true = listed.getD j true := by
        rw [Array.getD_eq_getD_getElem?, Array.getD_eq_getD_getElem?, Array.getElem?_setIfInBounds_ne (Ne.symm hj)]
      rw [this]
      simp [hj]
  rw [e]
  exact List.length_filter_lt_length_iff_exists.2 ⟨i, h, by simp⟩
theorem ready_todo {listed : Array Bool} {i : Nat} (h : i ∈ Region.ready md ops listed) : i ∈ todoN ops listed := by
  unfold Region.ready at h
  obtain ⟨h1, h2⟩ := List.mem_filter.1 h
  rw [Bool.and_eq_true] at h2
  exact List.mem_filter.2 ⟨h1, h2.1⟩
/-- THE LAW: what holds at the beginning, and is kept by every operation that may come up, holds at the end. -/
theorem wpAny_inv (I : Array Bool → Act → World → Prop) (hstep : ∀ listed a w i, I listed a w → i ∈ Region.ready md ops listed → wpOp P ops Q i (I (listed.setIfInBounds i true)) a w)
    (hdone : ∀ listed a w, I listed a w → Region.ready md ops listed = [] → Q .normal a w) :
    ∀ (fuel : Nat) (listed : Array Bool) (a : Act) (w : World), (todoN ops listed).length ≤ fuel → I listed a w → wpAny P md ops Q fuel listed a w
  | 0, listed, a, w, hf, hI => by
    have hr : Region.ready md ops listed = [] := by
      refine List.eq_nil_iff_forall_not_mem.2 fun i hi => ?_
      have h1 := ready_todo hi
      have h2 := List.eq_nil_of_length_eq_zero (Nat.le_zero.1 hf)
      rw [h2] at h1
      cases h1
    exact ⟨hr, hdone _ _ _ hI hr⟩
  | fuel + 1, listed, a, w, hf, hI => ⟨fun hr => hdone _ _ _ hI hr, fun i hi => wpOp_mono (fun a' w' h' => wpAny_inv I hstep hdone fuel _ a' w' (by have := todo_next (ready_todo hi); omega) h') (hstep listed a w i hI hi)⟩
theorem wp_region_inv {id : Nat} {a : Act} {w : World} (hm : P.follows .mixedOrders = true) (I : Array Bool → Act → World → Prop)
    (hstep : ∀ listed a w i, I listed a w → i ∈ Region.ready .any ops listed → wpOp P ops Q i (I (listed.setIfInBounds i true)) a w)
    (hdone : ∀ listed a w, I listed a w → Region.ready .any ops listed = [] → Q .normal a w) (h0 : I (Array.replicate ops.size false) a w.drew) : (Code.region id ops true).wp P Q a w := by
  refine wp_region_any hm (wpAny_inv I hstep hdone _ _ _ _ ?_ h0)
  refine Nat.le_trans (List.length_filter_le _ _) ?_
  simp
theorem eval_put_same {a : Act} {d : Nat} {v : Value} (h : d < a.tmps.size) : (a.put (some d) v).eval (.tmp d) = v := by
  simp [Act.put, Act.eval, h]
theorem eval_put_other {a : Act} {d j : Nat} {v : Value} (h : d ≠ j) : (a.put (some d) v).eval (.tmp j) = a.eval (.tmp j) := by
  simp [Act.put, Act.eval, Array.getElem?_setIfInBounds_ne h]
theorem size_put {a : Act} {d : Option Nat} {v : Value} : (a.put d v).tmps.size = a.tmps.size := by
  cases d <;> simp [Act.put]
end
end Go.Proofs.YtlibeobmdjeilaaGreatDoor
