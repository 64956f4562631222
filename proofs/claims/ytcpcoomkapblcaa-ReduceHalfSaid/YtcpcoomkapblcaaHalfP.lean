import Derived.Test.YtcpcoomkapblcaaRedP
import Derived.Test.YtcpcoomkapblcaaAwake
import Derived.Test.YtcpcoomkapblcaaIsSorted
open Go Go.RowKit
namespace Go.Proofs.Ytcpcoomkapblcaa
theorem mem_sortZ {xs : List Int} {i : Int} : i ∈ sortZ xs ↔ i ∈ xs := (List.mergeSort_perm _ _).mem_iff
theorem len_sortZ (xs : List Int) : (sortZ xs).length = xs.length := (List.mergeSort_perm _ _).length_eq
theorem len_sortI (T : List Inf) : (sortI T).length = T.length := (List.mergeSort_perm _ _).length_eq
theorem goes_may {T : List Inf} (hT : IdsApart T) {lock : List Int} {x : Inf} (hx : x ∈ T) (h : x.id ∈ redGs T lock) : mayGo lock x = true := by
  obtain ⟨y, hy, hm, e⟩ := redGs_mem h
  rw [id_inj hT x hx y hy e.symm]; exact hm
theorem goes_not {T : List Inf} {lock : List Int} {x : Inf} (h : x.id ∈ redGs T lock) : x ∉ redT T lock := by
  unfold redT
  rw [List.mem_filter]
  rintro ⟨_, h2⟩
  simp at h2
  exact h2 h
theorem stays {T : List Inf} {lock : List Int} {x : Inf} (hx : x ∈ T) (h : x.id ∉ redGs T lock) : x ∈ redT T lock := by
  unfold redT
  rw [List.mem_filter]
  exact ⟨hx, by simpa using h⟩
theorem worse_goes {T : List Inf} (hT : IdsApart T) {lock : List Int} {x y : Inf} (hx : x ∈ T) (hm : mayGo lock x = true) (hxg : x.id ∉ redGs T lock) (hy : y ∈ T) (hyg : y.id ∈ redGs T lock) : bt y x = false := by
  have hp : ((sortI T).filter (mayGo lock)).Pairwise (fun a b => (!bt b a) = true) :=
    List.Pairwise.filter _ (List.pairwise_mergeSort bt_trans bt_total T)
  have hG : redGs T lock = (((sortI T).filter (mayGo lock)).drop ((mays lock (sortI T)).length - (mays lock (sortI T)).length / 2)).map Inf.id := by
    unfold redGs mays
    rw [List.map_drop]
  generalize (mays lock (sortI T)).length - (mays lock (sortI T)).length / 2 = d at *
  generalize hL : (sortI T).filter (mayGo lock) = L at *
  rw [hG] at hxg hyg
  obtain ⟨y', hy', e⟩ := List.mem_map.1 hyg
  have hyT : y' ∈ T := by
    have := List.mem_of_mem_drop hy'
    rw [← hL] at this
    exact mem_sortI.1 (List.mem_filter.1 this).1
  obtain rfl := id_inj hT y' hyT y hy e
  have hxL : x ∈ L := by rw [← hL]; exact List.mem_filter.2 ⟨mem_sortI.2 hx, hm⟩
  rw [← List.take_append_drop d L] at hxL hp
  rcases List.mem_append.1 hxL with h | h
  · have := (List.pairwise_append.1 hp).2.2 x h y' hy'
    simpa using this
  · exact absurd (List.mem_map.2 ⟨x, h, rfl⟩) hxg
theorem goN_snoc (lock : List Int) (l : List Inf) (x : Inf) : goN lock (l ++ [x]) = goN lock l + if mayGo lock x = true then 1 else 0 := by
  unfold goN
  rw [List.filter_append, List.length_append]
  by_cases h : mayGo lock x = true <;> simp [h]
theorem goN_le (lock : List Int) (l : List Inf) : goN lock l ≤ l.length := List.length_filter_le _ _
theorem goN_sort (lock : List Int) (T : List Inf) : goN lock (sortI T) = goN lock T := ((List.mergeSort_perm _ _).filter _).length_eq
end Go.Proofs.Ytcpcoomkapblcaa
