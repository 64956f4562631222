import Derived.Test.YtcpcoomkapblcaaInfos
open Go Go.RowKit Go.Maps
namespace Go.Proofs.Ytcpcoomkapblcaa
/-- The cells of what is known of a clause. -/
def InfAt (W : World) (b o : Nat) (x : Inf) : Prop :=
  W.cell? ⟨b, o, none⟩ = some (.int .i64 x.id) ∧ W.cell? ⟨b, o + 1, none⟩ = some (.int .i64 x.lev) ∧ W.cell? ⟨b, o + 2, none⟩ = some (.int .i64 x.used)
/-- The slice value sv reads as the list l, in a block below n₀ (or has no element). -/
def RdS (n₀ : Nat) (W : World) (sv : Value) (l : List Inf) : Prop :=
  ∃ A cap, sv = .slice A l.length cap ∧ l.length ≤ cap ∧ (0 < l.length → ∃ b off, A = some ⟨b, off, none⟩ ∧ b < n₀ ∧ ∀ k, k < l.length → InfAt W b (off + k * 3) (l[k]?.getD ⟨0, 0, 0⟩))
theorem RdS.below {n₀ : Nat} {A B : World} {sv : Value} {l : List Inf} (h : RdS n₀ A sv l) (hb : Below n₀ A B) : RdS n₀ B sv l := by
  obtain ⟨a, cap, rfl, hc, hr⟩ := h
  refine ⟨a, cap, rfl, hc, fun h0 => ?_⟩
  obtain ⟨b, off, e, hlt, hcell⟩ := hr h0
  refine ⟨b, off, e, hlt, fun k hk => ?_⟩
  obtain ⟨h1, h2, h3⟩ := hcell k hk
  exact ⟨(hb.cell (p := ⟨b, off + k * 3, none⟩) hlt).trans h1, (hb.cell (p := ⟨b, off + k * 3 + 1, none⟩) hlt).trans h2, (hb.cell (p := ⟨b, off + k * 3 + 2, none⟩) hlt).trans h3⟩
theorem RdS.more {n₀ n₁ : Nat} {A : World} {sv : Value} {l : List Inf} (h : RdS n₀ A sv l) (hn : n₀ ≤ n₁) : RdS n₁ A sv l := by
  obtain ⟨a, cap, rfl, hc, hr⟩ := h
  refine ⟨a, cap, rfl, hc, fun h0 => ?_⟩
  obtain ⟨b, off, e, hlt, hcell⟩ := hr h0
  exact ⟨b, off, e, by omega, hcell⟩
theorem RdS.form {n₀ : Nat} {W : World} {sv : Value} {l : List Inf} (h : RdS n₀ W sv l) : ∃ A c, sv = .slice A l.length c := by
  obtain ⟨A, c, e, _⟩ := h; exact ⟨A, c, e⟩
theorem RdS.nil (n₀ : Nat) (W : World) : RdS n₀ W (.slice none 0 0) [] := ⟨none, 0, rfl, Nat.le_refl _, fun h => by simp at h⟩
theorem RdS.of_own {w : World} {base n : Nat} {v : Value} {l : List Inf} (h : w.ownsRow base 32 3 v n (l.flatMap Inf.enc)) : RdS w.heap.size w v l := by
  have hl := h.1
  rw [flat_length (enc := Inf.enc) (k := 3) (fun _ => rfl) l] at hl
  have h' := h
  rcases h.2 with ⟨rfl, h0⟩ | ⟨g, cap, cur, rfl, hbg, hh, hnc, hcm, hcs', htk⟩
  · have : l.length = 0 := by omega
    exact ⟨none, 0, by rw [this], by omega, fun h => by omega⟩
  · have hn : n = l.length := by omega
    subst hn
    refine ⟨_, cap, rfl, hnc, fun _ => ⟨g, 0, rfl, (h.lt g rfl).2, fun k hk => ?_⟩⟩
    rw [Nat.zero_add]
    exact row_cells h' k hk
end Go.Proofs.Ytcpcoomkapblcaa
