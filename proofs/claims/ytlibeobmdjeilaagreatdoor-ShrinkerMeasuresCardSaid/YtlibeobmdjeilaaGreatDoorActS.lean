/- A frame made literal by its changed slots. No program in sight. -/
import Derived.Test.YtlibeobmdjeilaaGreatDoorInvS
namespace Go.Proofs.YtlibeobmdjeilaaGreatDoor
open Go Go.RowKit
theorem act_set {a : Act} {n : Nat} {f : Nat → Bool} {d} {x : Array Value} (h : a.tmps.size = n) (e : a.defers = d) (k : ∀ t, f t = true → a.tmps[t]?.getD undef = x[t]?.getD undef) (h0 : x.size = n) (l : List Nat) (hl : ((List.range n).all fun t => f t || l.contains t) = true) :
    ∃ F : Nat → Value, (∀ i, F i = a.eval (.tmp i)) ∧ a = ⟨l.foldl (fun r t => r.setIfInBounds t (F t)) x, d⟩ := by
  obtain ⟨t, d'⟩ := a
  subst e
  change t.size = n at h
  refine ⟨fun i => (⟨t, d'⟩ : Act).eval (.tmp i), fun _ => rfl, congrArg (fun x => (⟨x, d'⟩ : Act)) ?_⟩
  have key : ∀ (l : List Nat) (x : Array Value), x.size = n → (∀ i, i < n → i ∉ l → t[i]?.getD undef = x[i]?.getD undef) → t = l.foldl (fun r j => r.setIfInBounds j ((⟨t, d'⟩ : Act).eval (.tmp j))) x := fun l => by
    induction l with
    | nil =>
      intro x hx hk
      refine Array.ext (by rw [h, List.foldl_nil, hx]) fun i h1 h2 => ?_
      rw [List.foldl_nil] at h2
      have := hk i (by omega) (by simp)
      simpa [h1, h2] using this
    | cons j l ih =>
      intro x hx hk
      rw [List.foldl_cons]
      refine ih _ (by simp [hx]) fun i hi hni => ?_
      by_cases hj : j = i
      · subst hj
        have h3 : j < x.size := by omega
        simp [Act.eval, h3, h, hi]
      · rw [Array.getElem?_setIfInBounds_ne hj]
        exact hk i hi (by simp [hni, Ne.symm hj])
  refine key l x h0 fun i hi hni => k i ?_
  have := List.all_eq_true.1 hl i (List.mem_range.2 hi)
  simpa [hni] using this
abbrev zlf := @List.foldl_cons
abbrev zln := @List.foldl_nil
abbrev zls := @List.setIfInBounds_toArray
abbrev zlc := @List.set_cons_succ
abbrev zlz := @List.set_cons_zero
end Go.Proofs.YtlibeobmdjeilaaGreatDoor
