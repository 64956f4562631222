import Derived.Test.YtcpcoomkapblcaaInts
open Go Go.RowKit Go.Maps
namespace Go.Proofs.Ytcpcoomkapblcaa
open Go.Shelf Go.Sort Go.Lib
theorem CloneInt_any (w : World) (B : Nat) (u : Value) (xs : List Int) (hx : RdI B w u xs) (h1 : xs.length ≤ 1000000) :
    Calls Try.prog 46 #[u] w fun e w' => ∃ v', e = .returned v' ∧ w'.ownsRow w.heap.size 3 1 v' xs.length (xs.map (.int .i64)) ∧ RowKit.Below w.heap.size w w' := by
  obtain ⟨A, c, rfl, hc, hr⟩ := hx
  by_cases h0 : 0 < xs.length
  · obtain ⟨b, o, rfl, hb, hcell⟩ := hr h0
    have := Try.slices_Clone_int b o xs.length c xs w (Nat.le_refl _) (by omega) (fun j hj => by rw [hcell j hj]; simp)
    rw [List.take_length] at this
    exact this.mono fun e w' ⟨v', he, hown, _, hb⟩ => ⟨v', he, hown, hb⟩
  · have hx0 : xs = [] := List.eq_nil_of_length_eq_zero (by omega)
    subst hx0
    cases A with
    | none => exact (Try.slices_Clone_int_nil 0 c w).mono fun e w' ⟨he, hw⟩ => ⟨_, he, by subst hw; exact World.ownsRow_nil _ _ _ _, by subst hw; exact RowKit.Below.refl _ _⟩
    | some a => exact (Try.slices_Clone_int_zero a c w).mono fun e w' ⟨v', he, hown, _, hb⟩ => ⟨v', he, hown, hb⟩
def sortZ (xs : List Int) : List Int := xs.mergeSort fun x y => decide (x ≤ y)
theorem SortInt_own (w : World) (base : Nat) (v : Value) (xs : List Int) (hown : w.ownsRow base 3 1 v xs.length (xs.map (.int .i64))) (h1 : xs.length ≤ 1000000) :
    Calls Try.prog 47 #[v] w fun e w' => e = .returned (.tuple #[]) ∧ w'.ownsRow base 3 1 v xs.length ((sortZ xs).map (.int .i64)) ∧ w.grownBy w' v.ownBlock := by
  have hso := hown.2
  rcases hso with ⟨rfl, hz⟩ | ⟨g, cap, cur, rfl, hb, hg, hn, hcap, hcs, htk⟩
  · have hx0 : xs = [] := List.eq_nil_of_length_eq_zero hz
    subst hx0
    refine (Try.slices_Sort_int_none none 0 w).mono ?_
    rintro e w' ⟨rfl, rfl⟩
    have e0 : sortZ [] = [] := by simp [sortZ]
    rw [e0]
    exact ⟨rfl, hown, ⟨rfl, rfl, rfl, Nat.le_refl _, fun _ _ _ => rfl⟩⟩
  · have hlt : g < w.heap.size := (Array.getElem?_eq_some_iff.1 hg).1
    have hH : Holds (Value.int .i64) w g 0 xs.toArray := by
      intro j hj
      have hj' : j < xs.length := by simpa using hj
      refine ⟨?_, by simp [World.frozen?, hg]⟩
      rw [Nat.zero_add, hown.cellAt j (by omega), List.getElem?_map]
      simp [hj']
    refine (Try.slices_Sort_int g 0 cap xs w hH hlt (by omega)).mono ?_
    rintro e w' ⟨rfl, n, os, rfl⟩
    have hsl : (sortZ xs).length = xs.length := by simp [sortZ]
    have hheap : (grow (putRow (Value.int .i64) (Sort.ahead w n) g 0 (sortZ xs).toArray) os).heap[g]? = some (.cells (putCells (Value.int .i64) 0 (sortZ xs).toArray cur) 3 (0, 0)) := by
      rw [heap_grow_old _ _ (by simpa using hlt)]
      simp [putRow, mapBlock, Sort.ahead, Array.getElem?_modify, hg, onCells]
    refine ⟨rfl, ⟨by simp [hsl], .inr ⟨g, cap, _, rfl, hb, hheap, hn, hcap, by simp [putCells, hcs], ?_⟩⟩, ⟨rfl, rfl, rfl, by simp, fun i hi hne => ?_⟩⟩
    · apply List.ext_getElem?
      intro j
      rw [Nat.mul_one]
      by_cases hj : j < xs.length
      · rw [List.getElem?_take_of_lt hj, Array.getElem?_toList]
        simp [putCells, hsl, hj, show j < cur.size by omega]
      · rw [List.getElem?_take_eq_none (by omega), List.getElem?_eq_none (by simp [hsl]; omega)]
    · rw [heap_grow_old _ _ (by simpa using hi)]
      have : g ≠ i := fun e => hne (by simp [Value.ownBlock, e])
      simp [putRow, mapBlock, Sort.ahead, Array.getElem?_modify, this]
end Go.Proofs.Ytcpcoomkapblcaa
