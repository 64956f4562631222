/- Plain facts for LitsVars. -/
import Derived.Test.YthpdndkfdiphmaaDoorVars
import Derived.Test.YthpdndkfdiphmaaDoorGreatest
import Derived.Lib.SlicesCompact
namespace Go.Proofs.YthpdndkfdiphmaaDoor
open Go Go.RowKit
theorem strict_ext : ∀ {xs ys : List Int}, xs.Pairwise (· < ·) → ys.Pairwise (· < ·) → (∀ y, y ∈ xs ↔ y ∈ ys) → xs = ys
  | [], [], _, _, _ => rfl
  | [], y :: ys, _, _, h => absurd ((h y).2 (by simp)) (by simp)
  | x :: xs, [], _, _, h => absurd ((h x).1 (by simp)) (by simp)
  | x :: xs, y :: ys, hx, hy, h => by
    obtain ⟨hx1, hx2⟩ := List.pairwise_cons.1 hx
    obtain ⟨hy1, hy2⟩ := List.pairwise_cons.1 hy
    have e : x = y := by
      rcases List.mem_cons.1 ((h x).1 (by simp)) with e | e
      · exact e
      · rcases List.mem_cons.1 ((h y).2 (by simp)) with e' | e'
        · exact e'.symm
        · have := hy1 x e; have := hx1 y e'; omega
    subst e
    congr 1
    refine strict_ext hx2 hy2 (fun z => ⟨fun hz => ?_, fun hz => ?_⟩)
    · rcases List.mem_cons.1 ((h z).1 (List.mem_cons_of_mem _ hz)) with e | e
      · subst e; have := hx1 z hz; omega
      · exact e
    · rcases List.mem_cons.1 ((h z).2 (List.mem_cons_of_mem _ hz)) with e | e
      · subst e; have := hy1 z hz; omega
      · exact e
theorem cU_sorted (d : Array Int) (hd : ∀ i j, i < j → j < d.size → d[i]! ≤ d[j]!) : ∀ m, m ≤ d.size → (Lib.compactUpTo d m).Pairwise (· < ·) ∧ ∀ y, y ∈ Lib.compactUpTo d m ↔ ∃ j, j < m ∧ d[j]! = y := by
  intro m
  induction m with
  | zero => intro _; simp [Lib.compactUpTo]
  | succ m ih =>
    intro hm
    obtain ⟨h1, h2⟩ := ih (by omega)
    rw [Lib.compactUpTo_succ]
    by_cases hk : m = 0 ∨ d[m]! ≠ d[m - 1]!
    · have hk' : Lib.keeps d m = true := decide_eq_true hk
      rw [hk', if_pos rfl]
      refine ⟨List.pairwise_append.2 ⟨h1, by simp, fun a ha b hb => ?_⟩, fun y => ?_⟩
      · rw [List.mem_singleton] at hb
        subst hb
        obtain ⟨j, hj, rfl⟩ := (h2 a).1 ha
        have hne := hk.resolve_left (by omega)
        have e1 := hd (m - 1) m (by omega) (by omega)
        by_cases e : j = m - 1
        · subst e; omega
        · have := hd j (m - 1) (by omega) (by omega); omega
      · rw [List.mem_append, List.mem_singleton, h2]
        constructor
        · rintro (⟨j, hj, e⟩ | e)
          · exact ⟨j, by omega, e⟩
          · exact ⟨m, by omega, e.symm⟩
        · rintro ⟨j, hj, e⟩
          by_cases e2 : j = m
          · subst e2; exact .inr e.symm
          · exact .inl ⟨j, by omega, e⟩
    · have hk' : Lib.keeps d m = false := decide_eq_false hk
      rw [hk']
      simp only [Bool.false_eq_true, if_false, List.append_nil]
      refine ⟨h1, fun y => ?_⟩
      rw [h2]
      have hm0 : m ≠ 0 := fun e => hk (.inl e)
      have he : d[m]! = d[m - 1]! := Classical.byContradiction fun e => hk (.inr e)
      constructor
      · rintro ⟨j, hj, e⟩; exact ⟨j, by omega, e⟩
      · rintro ⟨j, hj, e⟩
        by_cases e2 : j = m
        · subst e2; exact ⟨j - 1, by omega, by rw [← he]; exact e⟩
        · exact ⟨j, by omega, e⟩
theorem compact_of_sorted {zs : List Int} (hz : zs.Pairwise (· ≤ ·)) : (Lib.compact zs).Pairwise (· < ·) ∧ ∀ y, y ∈ Lib.compact zs ↔ y ∈ zs := by
  have hb : ∀ i, i < zs.length → zs.toArray[i]! = zs[i]?.getD 0 := fun i hi => by simp [hi]
  have h := cU_sorted zs.toArray (fun i j hij hj => by
    have hj' : j < zs.length := by simpa using hj
    rw [hb i (by omega), hb j hj']
    have := List.pairwise_iff_getElem.1 hz i j (by omega) hj' hij
    simpa [hj', show i < zs.length by omega] using this) zs.length (by simp)
  refine ⟨h.1, fun y => (h.2 y).trans ⟨?_, fun hy => ?_⟩⟩
  · rintro ⟨j, hj, e⟩
    rw [hb j hj] at e
    subst e
    simp [hj]
  · obtain ⟨j, hj, rfl⟩ := List.getElem_of_mem hy
    exact ⟨j, hj, by rw [hb j hj]; simp [hj]⟩
def sortZ (xs : List Int) : List Int := xs.mergeSort fun x y => decide (x ≤ y)
theorem sortZ_le (xs : List Int) : (sortZ xs).Pairwise (· ≤ ·) := by
  have := List.pairwise_mergeSort (le := fun x y : Int => decide (x ≤ y)) (fun a b c h1 h2 => by simp at *; omega) (fun a b => by simp; omega) xs
  exact this.imp (fun h => by simpa using h)
theorem sortZ_mem (xs : List Int) (y : Int) : y ∈ sortZ xs ↔ y ∈ xs := (List.mergeSort_perm _ _).mem_iff
theorem vl_append (a b : List Int) : vl (a ++ b) = vl a ++ vl b := by simp [vl]
theorem vset_lt (l : List Int) : (vset l).Pairwise (· < ·) := (vset_sorted _ l rfl).1
theorem vset_mem (l : List Int) (y : Int) : y ∈ vset l ↔ y ∈ l := (vset_sorted _ l rfl).2.1 y
theorem vset_len (l : List Int) : (vset l).length ≤ l.length := (vset_sorted _ l rfl).2.2
theorem all_eq (a b : List Int) : Lib.compact (sortZ (vset (vl a) ++ vset (vl b))) = vset (vl (a ++ b)) := by
  have h := compact_of_sorted (sortZ_le (vset (vl a) ++ vset (vl b)))
  refine strict_ext h.1 (vset_lt _) (fun y => ?_)
  rw [h.2, sortZ_mem, List.mem_append, vset_mem, vset_mem, vset_mem, vl_append, List.mem_append]
theorem compact_strict {xs : List Int} (h : xs.Pairwise (· < ·)) : Lib.compact xs = xs := by
  have hc := compact_of_sorted (h.imp (fun h => Int.le_of_lt h))
  exact strict_ext hc.1 h hc.2
theorem LNeg_right {z : Int} : LRight (LNeg z) = LRight z := by
  unfold LNeg
  cases h : LRight z with
  | false => simp [LRight]
  | true =>
    have := LRight_t h
    simp only [if_true]
    exact decide_eq_true (by omega)
theorem LNeg_var {z : Int} (h : LRight z = true) : LVar (LNeg z) = LVar z := by
  have h1 : LRight (LNeg z) = true := by rw [LNeg_right]; exact h
  have h2 := LRight_t h
  have e : LNeg z = -z := by unfold LNeg; rw [if_pos h]
  unfold LVar
  rw [if_pos h1, if_pos h, e]
  split <;> split <;> omega
theorem vl_neg : ∀ a : List Int, vl (a.map LNeg) = vl a
  | [] => rfl
  | z :: a => by
    have ih := vl_neg a
    unfold vl at *
    rw [List.map_cons, List.filter_cons, List.filter_cons, LNeg_right]
    cases h : LRight z with
    | false => simpa using ih
    | true => simp only [if_true, List.map_cons, LNeg_var h]; rw [ih]
theorem grl_aux : ∀ (l : List Int) (acc : Int), acc ≤ l.foldl (fun a b => if a < b then b else a) acc ∧ (∀ y ∈ l, y ≤ l.foldl (fun a b => if a < b then b else a) acc) ∧ (l.foldl (fun a b => if a < b then b else a) acc = acc ∨ l.foldl (fun a b => if a < b then b else a) acc ∈ l)
  | [], acc => ⟨Int.le_refl _, by simp, .inl rfl⟩
  | x :: l, acc => by
    simp only [List.foldl_cons]
    obtain ⟨h1, h2, h3⟩ := grl_aux l (if acc < x then x else acc)
    generalize hr : l.foldl (fun a b => if a < b then b else a) (if acc < x then x else acc) = r at *
    by_cases h : acc < x
    · rw [if_pos h] at h1 h3
      refine ⟨by omega, fun y hy => ?_, ?_⟩
      · rcases List.mem_cons.1 hy with rfl | hy
        · exact h1
        · exact h2 y hy
      · rcases h3 with e | e
        · exact .inr (by rw [e]; simp)
        · exact .inr (List.mem_cons_of_mem _ e)
    · rw [if_neg h] at h1 h3
      refine ⟨h1, fun y hy => ?_, ?_⟩
      · rcases List.mem_cons.1 hy with rfl | hy
        · omega
        · exact h2 y hy
      · rcases h3 with e | e
        · exact .inl e
        · exact .inr (List.mem_cons_of_mem _ e)
theorem vl_pos (a : List Int) : ∀ y ∈ vl a, 1 ≤ y := by
  intro y hy
  unfold vl at hy
  obtain ⟨z, hz, rfl⟩ := List.mem_map.1 hy
  have h := (List.mem_filter.1 hz).2
  have h2 := LRight_t h
  unfold LVar
  rw [if_pos h]
  split <;> omega
theorem grl_nil {a : List Int} (h : vset (vl a) = []) : grl (vl a) = 0 := by
  have e : vl a = [] := List.eq_nil_iff_forall_not_mem.2 fun y hy => by
    have := (vset_mem (vl a) y).2 hy
    rw [h] at this; cases this
  rw [e]; rfl
theorem grl_last {a : List Int} (h : 0 < (vset (vl a)).length) : (vset (vl a))[(vset (vl a)).length - 1]?.getD 0 = grl (vl a) := by
  obtain ⟨h1, h2, h3⟩ := grl_aux (vl a) 0
  have hm : grl (vl a) ∈ vset (vl a) := by
    rw [vset_mem]
    rcases h3 with e | e
    · have hy := List.getElem_mem (l := vset (vl a)) (n := 0) h
      have hy' := (vset_mem _ _).1 hy
      have := h2 _ hy'
      have := vl_pos a _ hy'
      exfalso
      omega
    · exact e
  have hle : ∀ y ∈ vset (vl a), y ≤ grl (vl a) := fun y hy => h2 y ((vset_mem _ _).1 hy)
  have hs := vset_lt (vl a)
  generalize grl (vl a) = g at *
  generalize vset (vl a) = xs at *
  obtain ⟨i, hi, rfl⟩ := List.getElem_of_mem hm
  have e1 : xs[xs.length - 1]?.getD 0 = xs[xs.length - 1] := by simp [show xs.length - 1 < xs.length by omega]
  rw [e1]
  have e2 := hle _ (List.getElem_mem (l := xs) (n := xs.length - 1) (by omega))
  by_cases e : i = xs.length - 1
  · subst e; rfl
  · have := List.pairwise_iff_getElem.1 hs i (xs.length - 1) hi (by omega) (by omega)
    omega
end Go.Proofs.YthpdndkfdiphmaaDoor
