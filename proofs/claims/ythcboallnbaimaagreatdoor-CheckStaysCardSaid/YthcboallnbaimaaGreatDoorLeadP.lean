/- Whether a procedure leads to another one: plain facts on what is still to be looked at. -/
import Derived.Test.YthcboallnbaimaaGreatDoorCheckP
namespace Go.Proofs.YthcboallnbaimaaGreatDoor
open Go
def restF (p : ProgV) (seen : List Nat) : Nat := ((List.range p.procs.length).map fun i => if i ∈ seen then 0 else (nextP p i).length).sum
theorem sum_step (f : Nat → Nat) (seen : List Nat) (i : Nat) (hs : i ∉ seen) : ∀ n : Nat, ((List.range n).map fun j => if j ∈ i :: seen then 0 else f j).sum + (if i < n then f i else 0) = ((List.range n).map fun j => if j ∈ seen then 0 else f j).sum
  | 0 => by simp
  | n + 1 => by
    have ih := sum_step f seen i hs n
    rw [List.range_succ, List.map_append, List.map_append, List.sum_append, List.sum_append]
    simp only [List.map_cons, List.map_nil, List.sum_cons, List.sum_nil, Nat.add_zero]
    by_cases h : n = i
    · subst h
      rw [if_neg (Nat.lt_irrefl n)] at ih
      rw [if_pos (List.mem_cons_self ..), if_pos (Nat.lt_succ_self n), if_neg hs]
      omega
    · have e1 : (if n ∈ i :: seen then 0 else f n) = (if n ∈ seen then 0 else f n) := by simp [h]
      rw [e1]
      by_cases h2 : i < n
      · have e2 : (if i < n then f i else 0) = f i := if_pos h2
        have e3 : (if i < n + 1 then f i else 0) = f i := if_pos (by omega)
        rw [e2] at ih; rw [e3]; omega
      · have e2 : (if i < n then f i else 0) = 0 := if_neg h2
        have e3 : (if i < n + 1 then f i else 0) = 0 := if_neg (by omega)
        rw [e2] at ih; rw [e3]; omega
theorem restF_step (p : ProgV) (seen : List Nat) (i : Nat) (hs : i ∉ seen) (hi : i < p.procs.length) : restF p (i :: seen) + (nextP p i).length = restF p seen := by
  have := sum_step (fun i => (nextP p i).length) seen i hs p.procs.length
  rw [if_pos hi] at this
  exact this
theorem fuelP_eq (p : ProgV) : fuelP p = 2 + restF p [] := by
  unfold fuelP restF
  simp
theorem leadsF_nil (p : ProgV) (to n : Nat) (seen : List Nat) : leadsF p to n seen [] = false := by
  cases n <;> rw [leadsF]
theorem leadsF_hit (p : ProgV) (n : Nat) (seen todo : List Nat) (to : Nat) : leadsF p to (n + 1) seen (to :: todo) = true := by
  rw [leadsF, if_pos rfl]
theorem leadsF_skip (p : ProgV) (to n i : Nat) (seen todo : List Nat) (h : i ≠ to) (hs : i ∈ seen) : leadsF p to (n + 1) seen (i :: todo) = leadsF p to n seen todo := by
  rw [leadsF, if_neg h, if_pos hs]
theorem leadsF_go (p : ProgV) (to n i : Nat) (seen todo : List Nat) (h : i ≠ to) (hs : i ∉ seen) : leadsF p to (n + 1) seen (i :: todo) = leadsF p to n (i :: seen) (todo ++ nextP p i) := by
  rw [leadsF, if_neg h, if_neg hs]
/-- The first so many of what names call. -/
def stepsN (p : ProgV) (l : List ByteArray) : List Nat := l.filterMap fun s => (look (procsAt p) s).map Int.toNat
theorem stepsN_snoc (p : ProgV) (l : List ByteArray) (s : ByteArray) : stepsN p (l ++ [s]) = stepsN p l ++ (match look (procsAt p) s with | some k => [k.toNat] | none => []) := by
  unfold stepsN
  rw [List.filterMap_append]
  congr 1
  cases h : look (procsAt p) s <;> simp [h]
theorem nextP_eq (p : ProgV) (i : Nat) (hi : i < p.procs.length) : nextP p i = stepsN p (callsN (p.procs[i]).body) := by
  unfold nextP stepsN
  rw [List.getElem?_eq_getElem hi]
theorem numbered_at {α : Type} (f : α → ByteArray) : ∀ (l : List α) (n : Nat) (x : ByteArray × Int), x ∈ numbered f l n → ∃ k : Nat, x.2 = k ∧ n ≤ k ∧ k < n + l.length
  | [], n, x, h => by simp [numbered] at h
  | y :: l, n, x, h => by
    rw [numbered] at h
    rcases List.mem_cons.1 h with e | h
    · exact ⟨n, by rw [e], Nat.le_refl _, by simp⟩
    · obtain ⟨k, h1, h2, h3⟩ := numbered_at f l (n + 1) x h
      exact ⟨k, h1, by omega, by simp; omega⟩
theorem look_procs {p : ProgV} {s : ByteArray} {k : Int} (h : look (procsAt p) s = some k) : 0 ≤ k ∧ k.toNat < p.procs.length ∧ (k.toNat : Int) = k := by
  unfold look at h
  cases hf : (procsAt p).find? (fun x => decide (x.1 = s)) with
  | none => rw [hf] at h; cases h
  | some x =>
    rw [hf] at h
    cases h
    obtain ⟨m, h1, _, h3⟩ := numbered_at _ _ _ _ (List.mem_of_find?_eq_some hf)
    simp only [h1, Int.toNat_natCast]
    exact ⟨by omega, by omega, trivial⟩
/-- Names, each once: bounds. -/
theorem withN_len (l : List ByteArray) (s : ByteArray) : (withN l s).length ≤ l.length + 1 := by
  unfold withN; split <;> simp
theorem calls_len (l : List StmtV) : ∀ out : List ByteArray, (l.foldl (fun out s => if s.kind = 8 then withN out s.name else out) out).length ≤ out.length + l.length := by
  induction l with
  | nil => intro out; simp
  | cons s l ih =>
    intro out
    rw [List.foldl_cons]
    refine Nat.le_trans (ih _) ?_
    have := withN_len out s.name
    split <;> simp <;> omega
theorem callsN_len (l : List StmtV) : (callsN l).length ≤ (l.flatMap StmtV.pre).length := by
  have := calls_len (l.flatMap StmtV.pre) []
  simpa [callsN] using this
theorem nextP_len (p : ProgV) (i : Nat) (hi : i < p.procs.length) : (nextP p i).length ≤ (p.procs[i].body.flatMap StmtV.pre).length := by
  rw [nextP_eq p i hi]
  exact Nat.le_trans (List.length_filterMap_le _ _) (callsN_len _)
theorem calls_mem (l : List StmtV) (P : ByteArray → Prop) (hl : ∀ t ∈ l, P t.name) : ∀ out : List ByteArray, (∀ s ∈ out, P s) → ∀ s ∈ l.foldl (fun out s => if s.kind = 8 then withN out s.name else out) out, P s := by
  induction l with
  | nil => intro out h; exact h
  | cons t l ih =>
    intro out h
    rw [List.foldl_cons]
    refine ih (fun x hx => hl x (List.mem_cons_of_mem _ hx)) _ ?_
    split
    · intro s hs
      unfold withN at hs
      split at hs
      · exact h s hs
      · rcases List.mem_append.1 hs with hs | hs
        · exact h s hs
        · rw [List.mem_singleton.1 hs]; exact hl t (List.mem_cons_self ..)
    · exact h
theorem callsN_mem (l : List StmtV) (P : ByteArray → Prop) (hl : ∀ t ∈ l.flatMap StmtV.pre, P t.name) : ∀ s ∈ callsN l, P s :=
  calls_mem _ P hl [] (fun _ h => absurd h (by simp))
theorem stepsN_ok (p : ProgV) (l : List ByteArray) : ∀ k ∈ stepsN p l, k < p.procs.length := by
  intro k hk
  unfold stepsN at hk
  obtain ⟨s, _, h⟩ := List.mem_filterMap.1 hk
  cases hl : look (procsAt p) s with
  | none => rw [hl] at h; cases h
  | some x =>
    rw [hl] at h
    simp at h
    have := look_procs hl
    omega
end Go.Proofs.YthcboallnbaimaaGreatDoor
