import Derived.Test.YtcpcoomkapblcaaIds
open Go Go.RowKit Go.Maps
namespace Go.Proofs.Ytcpcoomkapblcaa
open Go.Shelf
/-- The slice value sv reads as the integers zs, in a block below n₀ (or has no element). -/
def RdI (n₀ : Nat) (W : World) (sv : Value) (zs : List Int) : Prop :=
  ∃ A cap, sv = .slice A zs.length cap ∧ zs.length ≤ cap ∧ (0 < zs.length → ∃ b off, A = some ⟨b, off, none⟩ ∧ b < n₀ ∧ ∀ j, j < zs.length → W.cell? ⟨b, off + j, none⟩ = some (.int .i64 (zs[j]?.getD 0)))
theorem RdI.below {n₀ : Nat} {A B : World} {sv : Value} {zs : List Int} (h : RdI n₀ A sv zs) (hb : Below n₀ A B) : RdI n₀ B sv zs := by
  obtain ⟨a, cap, rfl, hc, hr⟩ := h
  refine ⟨a, cap, rfl, hc, fun h0 => ?_⟩
  obtain ⟨b, off, e, hlt, hcell⟩ := hr h0
  exact ⟨b, off, e, hlt, fun j hj => (hb.cell (p := ⟨b, off + j, none⟩) hlt).trans (hcell j hj)⟩
theorem RdI.more {n₀ n₁ : Nat} {A : World} {sv : Value} {zs : List Int} (h : RdI n₀ A sv zs) (hn : n₀ ≤ n₁) : RdI n₁ A sv zs := by
  obtain ⟨a, cap, rfl, hc, hr⟩ := h
  refine ⟨a, cap, rfl, hc, fun h0 => ?_⟩
  obtain ⟨b, off, e, hlt, hcell⟩ := hr h0
  exact ⟨b, off, e, by omega, hcell⟩
theorem RdI.form {n₀ : Nat} {W : World} {sv : Value} {zs : List Int} (h : RdI n₀ W sv zs) : ∃ A n c, sv = .slice A n c := by
  obtain ⟨A, c, e, _⟩ := h; exact ⟨A, _, c, e⟩
theorem RdI.nil (n₀ : Nat) (W : World) : RdI n₀ W (.slice none 0 0) [] := ⟨none, 0, rfl, Nat.le_refl _, fun h => by simp at h⟩
theorem RdI.of_own {w : World} {base n : Nat} {v : Value} {xs : List Int} (h : w.ownsRow base 3 1 v n (xs.map (.int .i64))) : RdI w.heap.size w v xs := by
  have hl := h.1
  rw [List.length_map] at hl
  rcases h.2 with ⟨rfl, h0⟩ | ⟨g, cap, cur, rfl, hbg, hh, hnc, hcm, hcs', htk⟩
  · have : xs.length = 0 := by omega
    exact ⟨none, 0, by rw [this], by omega, fun h => by omega⟩
  · have hn : n = xs.length := by omega
    subst hn
    refine ⟨_, cap, rfl, hnc, fun _ => ⟨g, 0, rfl, (h.lt g rfl).2, fun j hj => ?_⟩⟩
    rw [Nat.zero_add, h.cellAt j (by omega), List.getElem?_map]
    simp [hj]
theorem RdI.lit (w : World) (zs : List Int) (t : TypeId) (cap : Nat) (hc : zs.length ≤ cap) : RdI (w.heap.size + 1) (w.alloc (.cells (zs.map (Value.int .i64)).toArray t)) (.slice (some ⟨w.heap.size, 0, none⟩) zs.length cap) zs := by
  refine ⟨_, cap, rfl, hc, fun _ => ⟨w.heap.size, 0, rfl, by omega, fun j hj => ?_⟩⟩
  have := World.alloc_heap_new w (.cells (zs.map (Value.int .i64)).toArray t)
  unfold World.cell?
  rw [this]
  simp [hj]
theorem ContainsInt_any (w : World) (B : Nat) (u : Value) (xs : List Int) (x : Int) (hx : RdI B w u xs) (h1 : xs.length ≤ 1000000) :
    Calls Try.prog 25 #[u, .int .i64 x] w fun e w' => e = .returned (.bool (xs.contains x)) ∧ w = w' := by
  obtain ⟨A, c, rfl, hc, hr⟩ := hx
  by_cases h0 : 0 < xs.length
  · obtain ⟨b, o, rfl, hb, hcell⟩ := hr h0
    have := Try.slices_Contains_int b o xs.length c xs x w (Nat.le_refl _) (by omega) (fun j hj => by rw [hcell j hj]; simp)
    rw [List.take_length] at this
    exact this.mono fun e w' ⟨he, hw⟩ => ⟨he, hw.symm⟩
  · have hx0 : xs = [] := List.eq_nil_of_length_eq_zero (by omega)
    subst hx0
    exact (Try.slices_Contains_int_empty A c x w).mono fun e w' ⟨he, hw⟩ => ⟨he, hw.symm⟩
theorem EqualInt_any (w : World) (B C : Nat) (u v : Value) (xs ys : List Int) (hx : RdI B w u xs) (hy : RdI C w v ys) (h1 : xs.length ≤ 1000000) (h2 : ys.length ≤ 1000000) :
    Calls Try.prog 43 #[u, v] w fun e w' => e = .returned (.bool (xs == ys)) ∧ ∃ q, w' = w.drewN q := by
  obtain ⟨A, c, rfl, hc, hr⟩ := hx
  obtain ⟨A', c', rfl, hc', hr'⟩ := hy
  by_cases hl : xs.length = ys.length
  · by_cases h0 : 0 < xs.length
    · obtain ⟨b, o, rfl, hb, hcell⟩ := hr h0
      obtain ⟨b', o', rfl, hb', hcell'⟩ := hr' (by omega)
      have := Try.slices_Equal_int b o xs.length c b' o' ys.length c' xs ys w (Nat.le_refl _) (Nat.le_refl _) (by omega) (by omega) (fun j hj => by rw [hcell j hj]; simp) (fun j hj => by rw [hcell' j hj]; simp)
      rw [List.take_length, List.take_length] at this
      exact this
    · have hx0 : xs = [] := List.eq_nil_of_length_eq_zero (by omega)
      have hy0 : ys = [] := List.eq_nil_of_length_eq_zero (by omega)
      subst hx0; subst hy0
      exact (Try.slices_Equal_int_empty A A' c 0 c' w (by omega)).mono fun e w' ⟨he, hw⟩ => ⟨he, 0, hw⟩
  · have hne : (xs == ys) = false := by
      rw [beq_eq_false_iff_ne]; intro e; exact hl (by rw [e])
    rw [hne]
    exact (Try.slices_Equal_int_lens A A' xs.length c ys.length c' w hl).mono fun e w' ⟨he, hw⟩ => ⟨he, 0, hw⟩
/-- May x go? -/
def mayGo (locked : List Int) (x : Inf) : Bool := decide (2 < x.lev) && !locked.contains x.id
def mays (locked : List Int) (l : List Inf) : List Int := (l.filter (mayGo locked)).map Inf.id
theorem mays_snoc (locked : List Int) (l : List Inf) (x : Inf) : mays locked (l ++ [x]) = mays locked l ++ (if mayGo locked x then [x.id] else []) := by
  unfold mays
  rw [List.filter_append, List.map_append]
  congr 1
  cases hr : mayGo locked x <;> simp [hr]
theorem mays_le (locked : List Int) (l : List Inf) : (mays locked l).length ≤ l.length := by
  unfold mays; rw [List.length_map]; exact List.length_filter_le _ _
end Go.Proofs.Ytcpcoomkapblcaa
