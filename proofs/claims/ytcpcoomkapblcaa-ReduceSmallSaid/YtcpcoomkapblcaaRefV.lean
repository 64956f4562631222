/- Plain facts for the reference's Reduce: the ones that go, from the worst one on; an insertion keeps integers in order. -/
import Derived.Test.YtcpcoomkapblcaaReduce
open Go Go.RowKit Go.Maps
namespace Go.Proofs.Ytcpcoomkapblcaa
theorem sortZ_of {a b : List Int} (hp : a.Perm b) (hs : a.Pairwise (fun x y => x ≤ y)) : sortZ b = a := by
  have h1 : (sortZ b).Perm a := (List.mergeSort_perm _ _).trans hp.symm
  refine List.Perm.eq_of_pairwise (le := fun x y : Int => x ≤ y) (fun x y _ _ h1 h2 => Int.le_antisymm h1 h2) ?_ hs h1
  have := List.pairwise_mergeSort (le := fun x y : Int => decide (x ≤ y)) (fun a b c h1 h2 => by simp at *; omega) (fun a b => by simp; omega) b
  exact this.imp (fun h => by simpa using h)
theorem sortZ_sorted (b : List Int) : (sortZ b).Pairwise (fun x y => x ≤ y) := by
  have := List.pairwise_mergeSort (le := fun x y : Int => decide (x ≤ y)) (fun a b c h1 h2 => by simp at *; omega) (fun a b => by simp; omega) b
  exact this.imp (fun h => by simpa using h)
theorem sortZ_perm (b : List Int) : (sortZ b).Perm b := List.mergeSort_perm _ _
theorem sortZ_len (b : List Int) : (sortZ b).length = b.length := (sortZ_perm b).length_eq
/-- x goes in at j. -/
theorem zins {x : Int} {G : List Int} {j : Nat} (hj : j ≤ (sortZ G).length) (h1 : ∀ y ∈ (sortZ G).drop j, x < y) (h2 : ∀ m, m < (sortZ G).length → m + 1 = j → (sortZ G)[m]?.getD 0 ≤ x) :
    (sortZ G).take j ++ [x] ++ (sortZ G).drop j = sortZ (x :: G) := by
  have hs := sortZ_sorted G
  have hp := sortZ_perm G
  generalize sortZ G = out at *
  refine (sortZ_of ?_ ?_).symm
  · have h : (out.take j ++ out.drop j).Perm G := by rw [List.take_append_drop]; exact hp
    rw [List.append_assoc, List.singleton_append]
    exact List.perm_middle.trans (h.cons x)
  · have hsplit := hs
    rw [← List.take_append_drop j out] at hsplit
    obtain ⟨s1, s2, s3⟩ := List.pairwise_append.1 hsplit
    rw [List.append_assoc, List.singleton_append]
    refine List.pairwise_append.2 ⟨s1, List.pairwise_cons.2 ⟨fun b hb => by have := h1 b hb; omega, s2⟩, ?_⟩
    intro a ha b hb
    rcases List.mem_cons.1 hb with rfl | hb
    · obtain ⟨q, hq, rfl⟩ := List.mem_iff_getElem.1 ha
      rw [List.length_take] at hq
      rw [List.getElem_take]
      have hl := h2 (j - 1) (by omega) (by omega)
      rw [List.getElem?_eq_getElem (by omega), Option.getD_some] at hl
      by_cases e : q = j - 1
      · subst e; exact hl
      · have := List.pairwise_iff_getElem.1 hs q (j - 1) (by omega) (by omega) (by omega)
        omega
    · exact s3 a ha b hb
/-- The last k of a list. -/
def lastK (l : List Int) (k : Nat) : List Int := l.drop (l.length - k)
theorem lastK_zero (l : List Int) : lastK l 0 = [] := by unfold lastK; simp
theorem lastK_succ (l : List Int) (k : Nat) (h : k < l.length) : lastK l (k + 1) = l[l.length - 1 - k]?.getD 0 :: lastK l k := by
  unfold lastK
  rw [List.drop_eq_getElem_cons (by omega), List.getElem?_eq_getElem (by omega), Option.getD_some, show l.length - (k + 1) + 1 = l.length - k by omega]
  congr 1
  congr 1
  omega
theorem lastK_len (l : List Int) (k : Nat) (h : k ≤ l.length) : (lastK l k).length = k := by unfold lastK; rw [List.length_drop]; omega
theorem filt_cons (T : List Inf) (G : List Int) (z : Int) : (T.filter (fun x => !G.contains x.id)).filter (fun y => y.id ≠ z) = T.filter (fun x => !(z :: G).contains x.id) := by
  rw [List.filter_filter]
  apply List.filter_congr
  intro x _
  by_cases e : x.id = z <;> simp [e]
theorem filt_nil (T : List Inf) : T.filter (fun x => !(([] : List Int)).contains x.id) = T := by simp
theorem red_last (T : List Inf) (locked : List Int) : redGs T locked = lastK (mays locked (sortI T)) ((mays locked (sortI T)).length / 2) := rfl
/-- May x go, as far as the first m of those that are locked tell? -/
def mayTo (locked : List Int) (m : Nat) (x : Inf) : Bool := decide (2 < x.lev) && !(locked.take m).contains x.id
theorem mayTo_zero (locked : List Int) (x : Inf) : mayTo locked 0 x = decide (2 < x.lev) := by simp [mayTo]
theorem mayTo_all (locked : List Int) (x : Inf) : mayTo locked locked.length x = mayGo locked x := by simp [mayTo, mayGo]
theorem mayTo_succ (locked : List Int) (m : Nat) (x : Inf) (h : m < locked.length) : mayTo locked (m + 1) x = (mayTo locked m x && ((locked[m]?.getD 0) != x.id)) := by
  unfold mayTo
  rw [List.take_succ_eq_append_getElem h, List.contains_append, List.getElem?_eq_getElem h, Option.getD_some, Bool.and_assoc, Bool.not_or]
  congr 1
  congr 1
  by_cases e : locked[m] = x.id
  · simp [e]
  · have e' : ¬ x.id = locked[m] := fun h => e h.symm
    simp [e, e']
end Go.Proofs.Ytcpcoomkapblcaa
