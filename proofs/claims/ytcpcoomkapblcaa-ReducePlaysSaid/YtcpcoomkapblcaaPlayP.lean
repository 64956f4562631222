/- Plain facts for plays: what a call makes of a table, and what stays true of it. -/
import Derived.Test.YtcpcoomkapblcaaRefU
import Derived.Test.YtcpcoomkapblcaaRefV
import Derived.Test.YtcpcoomkapblcaaRedP
open Go Go.RowKit Go.Maps
namespace Go.Proofs.Ytcpcoomkapblcaa
/-- What is true of a table that only Put, Use, Remove and Reduce have made. -/
structure GoodT (T : List Inf) : Prop where
  apart : IdsApart T
  good : ∀ x ∈ T, 1 ≤ x.id ∧ x.id ≤ 1073741824 ∧ 0 ≤ x.lev
theorem GoodT.nil : GoodT [] := ⟨by simp [IdsApart], by simp⟩
theorem GoodT.filter {T : List Inf} (h : GoodT T) (p : Inf → Bool) : GoodT (T.filter p) :=
  ⟨List.Pairwise.filter _ h.apart, fun x hx => h.good x (List.mem_filter.1 hx).1⟩
theorem apart_snoc {T : List Inf} (h : IdsApart T) {x : Inf} (hx : ∀ y ∈ T, y.id ≠ x.id) : IdsApart (T ++ [x]) := by
  unfold IdsApart at *
  rw [List.pairwise_append]
  exact ⟨h, by simp, fun a ha b hb => by simp at hb; subst hb; exact hx a ha⟩
theorem GoodT.put {T : List Inf} (h : GoodT T) (c i l : Int) : GoodT (putR T c i l).1 ∧ (putR T c i l).1.length ≤ T.length + 1 ∧ ((putR T c i l).2.1 = c ∨ (putR T c i l).2.1 = c + 1) := by
  unfold putR
  split
  · exact ⟨h, by simp, .inl rfl⟩
  · rename_i h1
    split
    · exact ⟨h, by simp, .inl rfl⟩
    · rename_i h2
      refine ⟨⟨apart_snoc (List.Pairwise.filter _ h.apart) (fun y hy => by have := (List.mem_filter.1 hy).2; simpa using this), fun x hx => ?_⟩, ?_, .inr rfl⟩
      · rcases List.mem_append.1 hx with hx | hx
        · exact h.good x (List.mem_filter.1 hx).1
        · simp at hx
          subst hx
          simp only [not_or] at h1
          exact ⟨by simp only; omega, by simp only; omega, by simp only; omega⟩
      · rw [List.length_append]
        have := List.length_filter_le (fun y : Inf => decide (y.id ≠ i)) T
        simp only [List.length_cons, List.length_nil]
        omega
theorem GoodT.use {T : List Inf} (h : GoodT T) (c i l : Int) : GoodT (useR T c i l).1 ∧ (useR T c i l).1.length ≤ T.length + 1 ∧ ((useR T c i l).2.1 = c ∨ (useR T c i l).2.1 = c + 1) := by
  unfold useR
  split
  · exact ⟨h, by simp, .inl rfl⟩
  · rename_i h1
    split
    · exact ⟨h, by simp, .inl rfl⟩
    · rename_i h2
      have hh : hasI T i = true := by cases e : hasI T i; exact absurd e h1; rfl
      have hinT : infoOf T i ∈ T ∧ (infoOf T i).id = i := by
        unfold infoOf findI
        cases hfd : T.find? (fun x => x.id == i) with
        | none =>
          rw [List.find?_eq_none] at hfd
          obtain ⟨x, hx, hxi⟩ := hasI_iff.1 hh
          exact absurd (by simpa using hxi) (hfd x hx)
        | some x => exact ⟨List.mem_of_find?_eq_some hfd, by simpa using List.find?_some hfd⟩
      obtain ⟨g1, g2, g3⟩ := h.good _ hinT.1
      rw [hinT.2] at g1 g2
      refine ⟨⟨apart_snoc (List.Pairwise.filter _ h.apart) (fun y hy => by have := (List.mem_filter.1 hy).2; simpa using this), fun x hx => ?_⟩, ?_, .inr rfl⟩
      · rcases List.mem_append.1 hx with hx | hx
        · exact h.good x (List.mem_filter.1 hx).1
        · simp at hx
          subst hx
          exact ⟨g1, g2, by simp only; omega⟩
      · rw [List.length_append]
        have := List.length_filter_le (fun y : Inf => decide (y.id ≠ i)) T
        simp only [List.length_cons, List.length_nil]
        omega
theorem GoodT.rem {T : List Inf} (h : GoodT T) (i : Int) : GoodT (remR T i).1 ∧ (remR T i).1.length ≤ T.length := by
  unfold remR
  split
  · exact ⟨h, Nat.le_refl _⟩
  · exact ⟨h.filter _, List.length_filter_le _ _⟩
theorem GoodT.red {T : List Inf} (h : GoodT T) (locked : List Int) : GoodT (redT T locked) ∧ (redT T locked).length ≤ T.length := ⟨h.filter _, List.length_filter_le _ _⟩
/-- A list of Infos lies neither in the table's head nor in its map. -/
theorem RdS.but {B p m : Nat} {w w' : World} {sv : Value} {T T' : List Inf} {c : Int} (h : RdS B w sv T) (ht : Tab w p m T' c) (hb : But p m w w') (hB : B ≤ w.heap.size) : RdS B w' sv T := by
  obtain ⟨A, cap, e, hc, hr⟩ := h
  refine ⟨A, cap, e, hc, fun h0 => ?_⟩
  obtain ⟨g, off, e1, hg, hcell⟩ := hr h0
  have hnp : g ≠ p := by
    rintro rfl
    have h2 := (hcell 0 h0).2.2
    rw [Nat.zero_mul, Nat.add_zero] at h2
    simp [World.cell?, ht.head] at h2
  have hnm : g ≠ m := by
    rintro rfl
    have h2 := (hcell 0 h0).1
    obtain ⟨es, q, hq, -⟩ := ht.map
    simp [World.cell?, hq] at h2
  refine ⟨g, off, e1, hg, fun k hk => ?_⟩
  obtain ⟨h1, h2, h3⟩ := hcell k hk
  have hbl := hb.block g (by omega) hnp hnm
  exact ⟨(World.cell?_of_block hbl).trans h1, (World.cell?_of_block hbl).trans h2, (World.cell?_of_block hbl).trans h3⟩
end Go.Proofs.Ytcpcoomkapblcaa
