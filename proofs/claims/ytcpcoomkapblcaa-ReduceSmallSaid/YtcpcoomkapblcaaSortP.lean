import Derived.Test.YtcpcoomkapblcaaAwake
open Go Go.RowKit
namespace Go.Proofs.Ytcpcoomkapblcaa
theorem bt_asymm {x y : Inf} (h : bt x y = true) : bt y x = false := by
  cases h1 : bt y x
  · rfl
  · have h3 := swo_cf.trans x y x
    rw [lt_cf, lt_cf, lt_cf] at h3
    have h4 := swo_cf.irrefl x
    rw [lt_cf] at h4
    rw [h3 h h1] at h4; cases h4
/-- Better ones first. -/
def SortedI (l : List Inf) : Prop := l.Pairwise (fun a b => (!bt b a) = true)
theorem ins_sorted {x : Inf} {out : List Inf} {k : Nat} (hkl : k ≤ out.length) (hs : SortedI out) (hd : ∀ y ∈ out.drop k, bt x y = true) (hk : ∀ j, j < out.length → j + 1 = k → bt x (out[j]?.getD ⟨0, 0, 0⟩) = false) :
    SortedI (out.take k ++ [x] ++ out.drop k) := by
  have hsplit := hs
  unfold SortedI at hsplit
  rw [← List.take_append_drop k out] at hsplit
  obtain ⟨h1, h2, h3⟩ := List.pairwise_append.1 hsplit
  unfold SortedI
  rw [List.append_assoc]
  refine List.pairwise_append.2 ⟨h1, ?_, ?_⟩
  · rw [List.singleton_append, List.pairwise_cons]
    exact ⟨fun b hb => by rw [bt_asymm (hd b hb)]; rfl, h2⟩
  · intro a ha b hb
    rw [List.singleton_append, List.mem_cons] at hb
    rcases hb with rfl | hb
    · obtain ⟨j, hj, rfl⟩ := List.mem_iff_getElem.1 ha
      rw [List.length_take] at hj
      rw [List.getElem_take]
      have hlast := hk (k - 1) (by omega) (by omega)
      rw [List.getElem?_eq_getElem (by omega), Option.getD_some] at hlast
      by_cases hjk : j = k - 1
      · subst hjk; rw [hlast]; rfl
      · have hp := List.pairwise_iff_getElem.1 hs j (k - 1) (by omega) (by omega) (by omega)
        exact bt_trans _ _ _ hp (by rw [hlast]; rfl)
    · exact h3 a ha b hb
theorem ins_perm (x : Inf) (out : List Inf) (k : Nat) : (out.take k ++ [x] ++ out.drop k).Perm (out ++ [x]) := by
  have h : (out.take k ++ out.drop k ++ [x]).Perm (out ++ [x]) := by rw [List.take_append_drop]
  refine List.Perm.trans ?_ h
  rw [List.append_assoc, List.append_assoc]
  exact List.Perm.append_left _ List.perm_append_comm
end Go.Proofs.Ytcpcoomkapblcaa
