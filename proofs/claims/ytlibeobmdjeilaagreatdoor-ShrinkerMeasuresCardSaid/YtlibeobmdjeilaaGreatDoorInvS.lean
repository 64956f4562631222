/- A region that draws its order: what is listed; what an operation does. No program in sight. -/
import Derived.Test.YtlibeobmdjeilaaGreatDoorInvR
import Derived.Below
namespace Go.Proofs.YtlibeobmdjeilaaGreatDoor
open Go Go.RowKit
section
variable {P : Program} {ops : Array Oper} {Q : Exit → Act → World → Prop}
def onL (L : Nat → Bool) (i : Nat) : Nat → Bool := fun j => if j = i then true else L j
theorem onL_same {L : Nat → Bool} {i : Nat} : onL L i i = true := by simp [onL]
theorem onL_other {L : Nat → Bool} {i j : Nat} (h : j ≠ i) : onL L i j = L j := by simp [onL, h]
def fnL (listed : Array Bool) : Nat → Bool := fun j => listed.getD j false
theorem fnL_set {listed : Array Bool} {i : Nat} (h : i < listed.size) : fnL (listed.setIfInBounds i true) = onL (fnL listed) i := by
  funext j
  unfold fnL onL
  by_cases hj : j = i
  · subst hj; simp [h]
  · rw [if_neg hj, getD_set_ne false (Ne.symm hj)]
theorem ready_all {listed : Array Bool} (hls : listed.size = ops.size) (hback : ∀ (i : Nat) (o : Oper), ops[i]? = some o → ∀ e ∈ o.after, Region.binds .any e = true → e.on < i) (hr : Region.ready .any ops listed = []) : ∀ i, i < ops.size → fnL listed i = true := by
  intro i
  induction i using Nat.strongRecOn with
  | _ i ih =>
    intro hi
    cases hc : fnL listed i with
    | true => rfl
    | false =>
      exfalso
      have h0 : listed.getD i true = false := by
        unfold fnL at hc
        rw [← hls] at hi
        simp [Array.getD, hi] at hc ⊢
        exact hc
      have hm : i ∈ Region.ready .any ops listed := by
        rw [mem_ready]
        exact ⟨h0, ops[i], Array.getElem?_eq_getElem hi, fun e he hb => ih e.on (hback i _ (Array.getElem?_eq_getElem hi) e he hb) (Nat.lt_trans (hback i _ (Array.getElem?_eq_getElem hi) e he hb) hi)⟩
      rw [hr] at hm
      cases hm
def AllL (F : Nat → Oper → Prop) : Nat → List Oper → Prop
  | _, [] => True
  | i, o :: l => F i o ∧ AllL F (i + 1) l
theorem AllL.at_ {F : Nat → Oper → Prop} : ∀ {l : List Oper} {k : Nat}, AllL F k l → ∀ {i : Nat} {o : Oper}, l[i]? = some o → F (k + i) o
  | [], _, _, i, o, h => by simp at h
  | x :: l, k, hA, 0, o, h => by
    simp at h; subst h; exact hA.1
  | x :: l, k, hA, i + 1, o, h => by
    have := AllL.at_ hA.2 (i := i) (o := o) (by simpa using h)
    rwa [show k + 1 + i = k + (i + 1) by omega] at this
/-- What holds at each operation holds at all. -/
theorem AllL.all {F : Nat → Oper → Prop} {ops : Array Oper} (h : AllL F 0 ops.toList) (i : Nat) (o : Oper) (ho : ops[i]? = some o) : F i o := by
  have := AllL.at_ h (i := i) (o := o) (by simpa using ho)
  rwa [Nat.zero_add] at this
/-- That operation o comes behind operation j. -/
def befB (o : Oper) (j : Nat) : Bool := o.after.toList.any fun e => Region.binds .any e && Nat.beq e.on j
theorem AllL.cons {F : Nat → Oper → Prop} {i : Nat} {o : Oper} {l : List Oper} (h : F i o) (t : AllL F (i + 1) l) : AllL F i (o :: l) := ⟨h, t⟩
theorem Oper.wp_value {o : Oper} {a : Act} {w w' : World} {v : Value} {K : Act → World → Prop} (h : (execOp a.eval o).run P w = .ok (.value v) w') (hk : K (a.put o.dst v) w') : o.wp P a w K Q := by
  unfold Oper.wp; rw [h]; exact hk
theorem Oper.wp_enter {o : Oper} {a : Act} {w w' : World} {f : FuncId} {args : Array Value} {K : Act → World → Prop} (h : (execOp a.eval o).run P w = .ok (.enter f args) w') (hc : Calls P f args w' fun e w'' => ∃ v, e = .returned v ∧ K (a.put o.dst v) w'') : o.wp P a w K Q := by
  unfold Oper.wp; rw [h]
  refine Calls.mono hc fun e w'' he => ?_
  obtain ⟨v, rfl, hk⟩ := he
  exact hk
/-- The operations of region n of a body. -/
def opsOf (n : Nat) : Code → Option (Array Oper)
  | .region id ops _ => if id = n then some ops else none
  | .seq a b => match opsOf n a with
    | some c => some c
    | none => opsOf n b
  | .loop c => opsOf n c
  | .block _ c => opsOf n c
  | .scope c => opsOf n c
  | .cond _ a b => match opsOf n a with
    | some c => some c
    | none => opsOf n b
  | _ => none
theorem tmps_of {a : Act} {n : Nat} {v : Value} (h : a.eval (.tmp n) = v) : a.tmps[n]?.getD undef = v := by
  rw [← h]; simp [Act.eval]
theorem act_eq {a : Act} {n : Nat} (h : a.tmps.size = n) (hd : a.defers = []) : a = ⟨((List.range n).map fun t => a.eval (.tmp t)).toArray, []⟩ := by
  obtain ⟨ts, ds⟩ := a
  subst hd
  subst h
  congr 1
  apply Array.ext
  · simp
  · intro i h1 h2
    simp [Act.eval, h1]
end
end Go.Proofs.YtlibeobmdjeilaaGreatDoor
