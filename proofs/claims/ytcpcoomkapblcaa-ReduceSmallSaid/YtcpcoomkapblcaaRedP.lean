import Derived.Test.YtcpcoomkapblcaaReduce
import Derived.Test.YtcpcoomkapblcaaMadeP
open Go Go.RowKit
namespace Go.Proofs.Ytcpcoomkapblcaa
theorem apart_nodup {T : List Inf} (h : IdsApart T) : (T.map Inf.id).Nodup := by
  unfold List.Nodup; rw [List.pairwise_map]; exact h
theorem mem_sortI {T : List Inf} {x : Inf} : x ∈ sortI T ↔ x ∈ T := (List.mergeSort_perm _ _).mem_iff
theorem apart_sortI {T : List Inf} (h : IdsApart T) : IdsApart (sortI T) :=
  ((List.mergeSort_perm _ _).pairwise_iff (fun {_ _} hne => Ne.symm hne)).2 h
theorem mem_mays {locked : List Int} {l : List Inf} {i : Int} : i ∈ mays locked l ↔ ∃ x ∈ l, mayGo locked x = true ∧ x.id = i := by
  unfold mays
  rw [List.mem_map]
  constructor
  · rintro ⟨x, hx, rfl⟩; exact ⟨x, (List.mem_filter.1 hx).1, (List.mem_filter.1 hx).2, rfl⟩
  · rintro ⟨x, hx, hm, rfl⟩; exact ⟨x, List.mem_filter.2 ⟨hx, hm⟩, rfl⟩
theorem mays_nodup {locked : List Int} {l : List Inf} (h : IdsApart l) : (mays locked l).Nodup := by
  unfold mays
  exact apart_nodup (List.Pairwise.filter _ h)
theorem redGs_sub (T : List Inf) (locked : List Int) : (redGs T locked).Sublist (mays locked (sortI T)) := List.drop_sublist _ _
theorem redGs_mem {T : List Inf} {locked : List Int} {i : Int} (h : i ∈ redGs T locked) : ∃ x ∈ T, mayGo locked x = true ∧ x.id = i := by
  obtain ⟨x, hx, hm, rfl⟩ := mem_mays.1 ((redGs_sub T locked).subset h)
  exact ⟨x, mem_sortI.1 hx, hm, rfl⟩
theorem redGs_nodup {T : List Inf} {locked : List Int} (h : IdsApart T) : (redGs T locked).Nodup := (mays_nodup (apart_sortI h)).sublist (redGs_sub T locked)
/-- How many may go. -/
def goN (locked : List Int) (T : List Inf) : Nat := (T.filter (mayGo locked)).length
theorem mays_len (locked : List Int) (T : List Inf) : (mays locked (sortI T)).length = goN locked T := by
  unfold mays goN
  rw [List.length_map]
  exact ((List.mergeSort_perm _ _).filter _).length_eq
theorem redGs_len (T : List Inf) (locked : List Int) : (redGs T locked).length = goN locked T / 2 := by
  unfold redGs
  rw [List.length_drop, mays_len]
  omega
theorem perm_nodup {a b : List Int} (ha : a.Nodup) (hb : b.Nodup) (h : ∀ x, x ∈ a ↔ x ∈ b) : a.Perm b := by
  rw [List.perm_iff_count]
  intro x
  rw [List.Nodup.count ha, List.Nodup.count hb]
  simp [h x]
theorem filter_part (T : List Inf) (p : Inf → Bool) : (T.filter p).length + (T.filter (fun x => !p x)).length = T.length := by
  induction T with
  | nil => rfl
  | cons x l ih => cases h : p x <;> simp [h] <;> omega
/-- Taking out the clauses of some IDs. -/
theorem out_len {T : List Inf} (hT : IdsApart T) {G : List Int} (hG : G.Nodup) (hsub : ∀ i ∈ G, ∃ x ∈ T, x.id = i) : (T.filter (fun x => !G.contains x.id)).length + G.length = T.length := by
  have h1 : ((T.filter (fun x => G.contains x.id)).map Inf.id).Perm G := by
    refine perm_nodup (apart_nodup (List.Pairwise.filter _ hT)) hG fun i => ?_
    rw [List.mem_map]
    constructor
    · rintro ⟨x, hx, rfl⟩; simpa using (List.mem_filter.1 hx).2
    · intro hi
      obtain ⟨x, hx, rfl⟩ := hsub i hi
      exact ⟨x, List.mem_filter.2 ⟨hx, by simpa using hi⟩, rfl⟩
  have h2 := h1.length_eq
  rw [List.length_map] at h2
  have h3 := filter_part T (fun x => G.contains x.id)
  omega
theorem redT_len {T : List Inf} (hT : IdsApart T) (locked : List Int) : (redT T locked).length + (redGs T locked).length = T.length := by
  unfold redT
  refine out_len hT (redGs_nodup hT) fun i hi => ?_
  obtain ⟨x, hx, _, e⟩ := redGs_mem hi
  exact ⟨x, hx, e⟩
theorem filter_comm (T : List Inf) (p q : Inf → Bool) : (T.filter p).filter q = (T.filter q).filter p := by
  rw [List.filter_filter, List.filter_filter]
  apply List.filter_congr
  intro x _; exact Bool.and_comm _ _
theorem redT_go {T : List Inf} (hT : IdsApart T) (locked : List Int) : goN locked (redT T locked) + (redGs T locked).length = goN locked T := by
  unfold goN redT
  rw [filter_comm]
  refine out_len (List.Pairwise.filter _ hT) (redGs_nodup hT) fun i hi => ?_
  obtain ⟨x, hx, hm, e⟩ := redGs_mem hi
  exact ⟨x, List.mem_filter.2 ⟨hx, hm⟩, e⟩
theorem redT_apart {T : List Inf} (hT : IdsApart T) (locked : List Int) : IdsApart (redT T locked) := List.Pairwise.filter _ hT
/-- Reduced j times. -/
def agT (T : List Inf) : Nat → List Inf
  | 0 => T
  | j + 1 => redT (agT T j) []
/-- What is left of m after one halving. -/
def halfN (m : Nat) : Nat := m - m / 2
def halfs (m : Nat) : Nat → Nat
  | 0 => m
  | j + 1 => halfN (halfs m j)
theorem agT_apart {T : List Inf} (hT : IdsApart T) : ∀ j, IdsApart (agT T j)
  | 0 => hT
  | j + 1 => redT_apart (agT_apart hT j) []
theorem agT_go {T : List Inf} (hT : IdsApart T) : ∀ j, goN [] (agT T j) = halfs (goN [] T) j
  | 0 => rfl
  | j + 1 => by
    have h1 := redT_go (agT_apart hT j) []
    rw [redGs_len, agT_go hT j] at h1
    show goN [] (redT (agT T j) []) = halfN (halfs (goN [] T) j)
    unfold halfN; omega
theorem agT_len {T : List Inf} (hT : IdsApart T) : ∀ j, (agT T j).length + goN [] T = T.length + halfs (goN [] T) j
  | 0 => rfl
  | j + 1 => by
    have h1 := redT_len (agT_apart hT j) []
    rw [redGs_len, agT_go hT j] at h1
    have h2 := agT_len hT j
    show (redT (agT T j) []).length + goN [] T = T.length + halfN (halfs (goN [] T) j)
    unfold halfN; omega
theorem halfs_le (m j : Nat) : halfs m j ≤ m := by
  induction j with
  | zero => exact Nat.le_refl _
  | succ j ih => show halfN (halfs m j) ≤ m; unfold halfN; omega
theorem halfs8 : ∀ m, m ≤ 60 → halfs m 8 ≤ 1 := by decide
theorem goN_keep (T : List Inf) : goN [] T + (T.filter (fun x => decide (x.lev ≤ 2))).length = T.length := by
  have h := filter_part T (mayGo [])
  have e : T.filter (fun x => !mayGo [] x) = T.filter (fun x => decide (x.lev ≤ 2)) := by
    apply List.filter_congr
    intro x _
    unfold mayGo
    by_cases h : 2 < x.lev
    · simp [h]
    · simp [h]; omega
  rw [e] at h
  exact h
end Go.Proofs.Ytcpcoomkapblcaa
