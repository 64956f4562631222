import Derived.Test.YtcpcoomkapblcaaCalls
open Go Go.RowKit
namespace Go.Proofs.Ytcpcoomkapblcaa
theorem hasI_iff {T : List Inf} {i : Int} : hasI T i = true ↔ ∃ x ∈ T, x.id = i := by
  unfold hasI
  rw [List.any_eq_true]
  constructor
  · rintro ⟨x, hx, h⟩; exact ⟨x, hx, by simpa using h⟩
  · rintro ⟨x, hx, h⟩; exact ⟨x, hx, by simpa using h⟩
theorem hasI_false {T : List Inf} {i : Int} (h : ∀ x ∈ T, x.id ≠ i) : hasI T i = false := by
  rw [← Bool.not_eq_true, hasI_iff]
  rintro ⟨x, hx, e⟩
  exact h x hx e
theorem filter_out {T : List Inf} {i : Int} (h : ∀ x ∈ T, x.id ≠ i) : T.filter (fun y => y.id ≠ i) = T := by
  rw [List.filter_eq_self]
  intro x hx
  simpa using h x hx
theorem len_out : ∀ {T : List Inf} {i : Int}, IdsApart T → hasI T i = true → (T.filter (fun y => y.id ≠ i)).length + 1 = T.length
  | [], i, _, h => by simp [hasI] at h
  | x :: T, i, ha, h => by
    rw [IdsApart, List.pairwise_cons] at ha
    by_cases e : x.id = i
    · subst e
      rw [List.filter_cons_of_neg (by simp), filter_out (fun y hy => (ha.1 y hy).symm)]
      rfl
    · rw [List.filter_cons_of_pos (by simpa using e), List.length_cons, List.length_cons]
      have h' : hasI T i = true := by
        rw [hasI_iff] at h ⊢
        obtain ⟨y, hy, he⟩ := h
        rcases List.mem_cons.1 hy with rfl | hy
        · exact absurd he e
        · exact ⟨y, hy, he⟩
      have := len_out (i := i) ha.2 h'
      omega
/-- A table with the IDs from 1 to n, once each. -/
structure Good (n : Nat) (T : List Inf) : Prop where
  len : T.length = n
  ids : ∀ i : Int, 1 ≤ i → i ≤ n → hasI T i = true
  lo : ∀ x ∈ T, 1 ≤ x.id ∧ x.id ≤ n
  lev : ∀ x ∈ T, 0 ≤ x.lev
  apart : IdsApart T
/-- The first k clauses. -/
def mkT (ls : List Int) (k : Nat) : List Inf := (List.range k).map (fun (i : Nat) => ⟨(i : Int) + 1, (ls[i]?.getD 0) % 8, (i : Int)⟩)
theorem mkT_succ (ls : List Int) (k : Nat) : mkT ls (k + 1) = mkT ls k ++ [⟨(k : Int) + 1, (ls[k]?.getD 0) % 8, (k : Int)⟩] := by
  unfold mkT; rw [List.range_succ, List.map_append]; rfl
theorem mkT_good (ls : List Int) (k : Nat) : Good k (mkT ls k) := by
  refine ⟨by simp [mkT], fun i h1 h2 => ?_, fun x hx => ?_, fun x hx => ?_, ?_⟩
  · rw [hasI_iff]
    exact ⟨⟨((i.toNat - 1 : Nat) : Int) + 1, (ls[i.toNat - 1]?.getD 0) % 8, ((i.toNat - 1 : Nat) : Int)⟩, List.mem_map.2 ⟨i.toNat - 1, List.mem_range.2 (by omega), rfl⟩, by simp; omega⟩
  · obtain ⟨i, hi, rfl⟩ := List.mem_map.1 hx
    have := List.mem_range.1 hi
    simp; omega
  · obtain ⟨i, hi, rfl⟩ := List.mem_map.1 hx
    simp; omega
  · unfold IdsApart mkT
    rw [List.pairwise_map]
    exact (List.pairwise_lt_range).imp fun {a b} h e => by simp at e; omega
theorem mkT_put (ls : List Int) (k : Nat) (hk : k < 1000) : putR (mkT ls k) k ((k : Int) + 1) ((ls[k]?.getD 0) % 8) = (mkT ls (k + 1), (k : Int) + 1, 0) := by
  have hg := mkT_good ls k
  have hne : ∀ x ∈ mkT ls k, x.id ≠ (k : Int) + 1 := fun x hx e => by have := (hg.lo x hx).2; omega
  have hf := hasI_false hne
  unfold putR
  rw [if_neg (by rw [hf]; simp; omega), if_neg (by omega), mkT_succ, filter_out hne]
/-- What a Use of the making turns. -/
def useF (n : Nat) (s : List Inf × Int) (k : Int) : List Inf × Int := ((useR s.1 s.2 (1 + k % n) (k % 11)).1, (useR s.1 s.2 (1 + k % n) (k % 11)).2.1)
theorem use_good {n : Nat} {T : List Inf} (h : Good n T) (c i l : Int) (h1 : 1 ≤ i) (h2 : i ≤ n) (hl : 0 ≤ l) :
    useR T c i l = (T.filter (fun y => y.id ≠ i) ++ [⟨i, min (infoOf T i).lev l, c⟩], c + 1, 0) ∧ Good n (useR T c i l).1 := by
  have hi := h.ids i h1 h2
  have e : useR T c i l = (T.filter (fun y => y.id ≠ i) ++ [⟨i, min (infoOf T i).lev l, c⟩], c + 1, 0) := by
    unfold useR; rw [if_neg (by rw [hi]; simp), if_neg (by omega)]
  refine ⟨e, ?_⟩
  rw [e]
  have hinf : 0 ≤ (infoOf T i).lev := by
    unfold infoOf findI
    cases hf : T.find? (fun x => x.id == i) with
    | none => simp
    | some y => exact h.lev y (List.mem_of_find?_eq_some hf)
  refine ⟨?_, fun j hj1 hj2 => ?_, fun x hx => ?_, fun x hx => ?_, ?_⟩
  · have := len_out h.apart hi
    rw [List.length_append, List.length_singleton, this, h.len]
  · rw [hasI_iff]
    by_cases hji : j = i
    · exact ⟨⟨i, min (infoOf T i).lev l, c⟩, by simp, hji.symm⟩
    · obtain ⟨x, hx, hxj⟩ := hasI_iff.1 (h.ids j hj1 hj2)
      exact ⟨x, by rw [List.mem_append]; exact .inl (List.mem_filter.2 ⟨hx, by rw [hxj]; simpa using hji⟩), hxj⟩
  · rcases List.mem_append.1 hx with hx | hx
    · exact h.lo x (List.mem_filter.1 hx).1
    · simp at hx; subst hx; exact ⟨h1, h2⟩
  · rcases List.mem_append.1 hx with hx | hx
    · exact h.lev x (List.mem_filter.1 hx).1
    · simp at hx; subst hx; simp; omega
  · exact apart_put h.apart ⟨i, _, c⟩
theorem useF_good {n : Nat} (hn : 0 < n) {s : List Inf × Int} (h : Good n s.1) (k : Int) :
    Good n (useF n s k).1 ∧ (useF n s k).2 = s.2 + 1 ∧ (useR s.1 s.2 (1 + k % n) (k % 11)).2.2 = 0 := by
  have h0 := Int.emod_nonneg k (show (n : Int) ≠ 0 by omega)
  have h1 := Int.emod_lt_of_pos k (show (0 : Int) < n by omega)
  obtain ⟨e, hg⟩ := use_good h s.2 (1 + k % n) (k % 11) (by omega) (by omega) (by omega)
  exact ⟨hg, by unfold useF; rw [e], by rw [e]⟩
/-- The clauses and the clock of a made table. -/
def madeN (ls : List Int) : Nat := min ls.length 60
def madeS (ls us : List Int) (j : Nat) : List Inf × Int := if madeN ls = 0 then ([], 0) else (us.take j).foldl (useF (madeN ls)) (mkT ls (madeN ls), (madeN ls : Int))
theorem madeS_zero (ls us : List Int) : madeS ls us 0 = (mkT ls (madeN ls), (madeN ls : Int)) := by
  unfold madeS
  split
  · rename_i h; rw [h]; simp [mkT]
  · rfl
theorem madeS_succ (ls us : List Int) (j : Nat) (hj : j < us.length) (hn : 0 < madeN ls) : madeS ls us (j + 1) = useF (madeN ls) (madeS ls us j) (us[j]?.getD 0) := by
  unfold madeS
  rw [if_neg (by omega), if_neg (by omega), List.take_succ_eq_append_getElem hj, List.foldl_append]
  simp [hj]
theorem madeS_none (ls us : List Int) (j : Nat) (hn : madeN ls = 0) : madeS ls us j = ([], 0) := by unfold madeS; rw [if_pos hn]
theorem madeS_good (ls us : List Int) (j : Nat) (hj : j ≤ us.length) : Good (madeN ls) (madeS ls us j).1 ∧ (madeS ls us j).2 = (madeN ls : Int) + (j : Int) * min (madeN ls : Int) 1 := by
  by_cases hn : madeN ls = 0
  · rw [madeS_none _ _ _ hn, hn]
    exact ⟨by simpa [mkT] using mkT_good [] 0, by rw [show min ((0 : Nat) : Int) 1 = 0 from rfl, Int.mul_zero]; rfl⟩
  · induction j with
    | zero => rw [madeS_zero]; exact ⟨mkT_good _ _, by simp⟩
    | succ j ih =>
      obtain ⟨h1, h2⟩ := ih (by omega)
      rw [madeS_succ _ _ _ (by omega) (by omega)]
      obtain ⟨g, hc, _⟩ := useF_good (n := madeN ls) (by omega) h1 (us[j]?.getD 0)
      refine ⟨g, ?_⟩
      rw [hc, h2]
      have : min (madeN ls : Int) 1 = 1 := by omega
      rw [this]; simp; omega
def madeJ (us : List Int) : Nat := min us.length 20
def madeT (ls us : List Int) : List Inf := (madeS ls us (madeJ us)).1
def madeC (ls us : List Int) : Int := (madeS ls us (madeJ us)).2
end Go.Proofs.Ytcpcoomkapblcaa
