/- The plain law of reading: lits.Read and the reference's Read agree at every string. -/
import Derived.Test.YthpdndkfdiphmaaDoorLits5
namespace Go.Proofs.YthpdndkfdiphmaaDoor
open Go Go.RowKit
theorem vGo_snoc : ∀ (l : List UInt8) (n : Int) (c : UInt8), vGo n (l ++ [c]) = match vGo n l with | some m => (if 48 ≤ c.toNat ∧ c.toNat ≤ 57 then some (m * 10 + (c.toNat : Int) - 48) else none) | none => none
  | [], n, c => by simp only [List.nil_append, vGo]
  | a :: t, n, c => by
    simp only [List.cons_append, vGo]
    split
    · exact vGo_snoc t _ c
    · rfl
theorem digit_toNat (d : Nat) (h : d < 10) : (UInt8.ofNat (48 + d)).toNat = 48 + d := by
  rw [UInt8.toNat_ofNat', Nat.mod_eq_of_lt (by omega)]
theorem vGo_dd (m : Nat) : vGo 0 (dd m) = some (m : Int) := by
  induction m using Nat.strongRecOn with
  | _ m ih =>
    by_cases hm : m = 0
    · subst hm; rfl
    · rw [dd_step (by omega), vGo_snoc, ih (m / 10) (by omega)]
      simp only [digit_toNat _ (Nat.mod_lt m (by omega : 0 < 10))]
      rw [if_pos (by omega)]
      congr 1
      omega
theorem vGo_ge : ∀ (d : List UInt8) (n m : Int), 0 ≤ n → vGo n d = some m → n ≤ m
  | [], n, m, _, h => by simp only [vGo, Option.some.injEq] at h; omega
  | c :: t, n, m, h0, h => by
    simp only [vGo] at h
    split at h
    · have := vGo_ge t _ m (by omega) h
      omega
    · cases h
theorem rdGo_digits : ∀ (d : List UInt8) (k : Nat) (n m : Int), 0 ≤ n → vGo n d = some m → m ≤ 1048576 → rdGo k n d = m
  | [], k, n, m, _, h, _ => by simp only [vGo, Option.some.injEq] at h; simp only [rdGo]; exact h
  | c :: t, k, n, m, h0, h, hm => by
    have hge := vGo_ge _ _ _ h0 h
    simp only [vGo] at h
    split at h
    · rename_i hc
      have e : rdStep k n c = some (10 * n + ((c.toNat : Int) - 48)) := by
        unfold rdStep
        rw [if_neg (fun h => by omega), if_pos ⟨hc.1, hc.2, by omega⟩]
      simp only [rdGo, e]
      rw [show 10 * n + ((c.toNat : Int) - 48) = n * 10 + (c.toNat : Int) - 48 by omega]
      exact rdGo_digits t (k + 1) _ m (by omega) h hm
    · cases h
theorem dd_ne {m : Nat} (h : 0 < m) : dd m ≠ [] := by rw [dd_step h]; simp
theorem dd_head : ∀ (m : Nat), 0 < m → ∃ c t, dd m = c :: t ∧ 49 ≤ c.toNat ∧ c.toNat ≤ 57 := by
  intro m
  induction m using Nat.strongRecOn with
  | _ m ih =>
    intro h
    rw [dd_step h]
    by_cases h' : m < 10
    · refine ⟨UInt8.ofNat (48 + m % 10), [], ?_, ?_, ?_⟩
      · rw [show m / 10 = 0 by omega]; simp [dd]
      · rw [digit_toNat _ (by omega)]; omega
      · rw [digit_toNat _ (by omega)]; omega
    · obtain ⟨c, t, e, h1, h2⟩ := ih (m / 10) (by omega) (by omega)
      exact ⟨c, t ++ [UInt8.ofNat (48 + m % 10)], by rw [e]; rfl, h1, h2⟩
theorem dd_of_vGo : ∀ (k : Nat) (d : List UInt8) (m : Int), d.length = k → vGo 0 d = some m → d.head? ≠ some 48 → dd m.toNat = d ∧ 0 ≤ m := by
  intro k
  induction k with
  | zero =>
    intro d m hl h _
    have : d = [] := List.eq_nil_of_length_eq_zero hl
    subst this
    simp only [vGo, Option.some.injEq] at h
    subst h; exact ⟨rfl, by omega⟩
  | succ k ih =>
    intro d m hl h hh
    have hne : d ≠ [] := by intro e; subst e; simp at hl
    obtain ⟨l, c, rfl⟩ : ∃ l c, d = l ++ [c] := ⟨d.dropLast, d.getLast hne, (List.dropLast_concat_getLast hne).symm⟩
    rw [vGo_snoc] at h
    have hll : l.length = k := by simpa using hl
    cases hv : vGo 0 l with
    | none => rw [hv] at h; cases h
    | some m' =>
      rw [hv] at h
      simp only at h
      split at h
      · rename_i hc
        simp only [Option.some.injEq] at h
        by_cases hl0 : l = []
        · subst hl0
          simp only [vGo, Option.some.injEq] at hv
          have hc48 : c.toNat ≠ 48 := by
            intro e
            apply hh
            simp only [List.nil_append, List.head?_cons, Option.some.injEq]
            rw [← UInt8.toNat_inj]; exact e
          refine ⟨?_, by omega⟩
          have hm : m.toNat = c.toNat - 48 := by omega
          rw [hm, dd_step (by omega), show (c.toNat - 48) / 10 = 0 by omega]
          simp only [dd, if_true, List.nil_append, List.cons.injEq, and_true]
          rw [← UInt8.toNat_inj, digit_toNat _ (by omega)]; omega
        · have hh' : l.head? ≠ some 48 := by
            intro e; apply hh
            rw [List.head?_append, e]; rfl
          obtain ⟨h1, h2⟩ := ih l m' hll hv hh'
          have hpos : 0 < m'.toNat := by
            rcases Nat.eq_zero_or_pos m'.toNat with e | e
            · rw [e] at h1; simp [dd] at h1; exact absurd h1 hl0
            · exact e
          refine ⟨?_, by omega⟩
          rw [dd_step (by omega), show m.toNat / 10 = m'.toNat by omega, h1]
          congr 1
          simp only [List.cons.injEq, and_true]
          rw [← UInt8.toNat_inj, digit_toNat _ (by omega)]; omega
      · cases h
theorem headMinus_dd {m : Nat} (h : 0 < m) : HeadMinus (dd m) = false := by
  obtain ⟨c, t, e, h1, h2⟩ := dd_head m h
  rw [e]; unfold HeadMinus
  have : c ≠ 45 := by intro e; rw [e] at h1; simp at h1
  simp [this]
theorem LRd_itoa {l : Int} (h : LRight l = true) : LRd (Lib.itoa l) = l := by
  obtain ⟨h0, h1, h2⟩ := LRight_t h
  have key : LReadL (Lib.itoa l) = l := by
    by_cases hn : l < 0
    · rw [itoa_neg l hn]
      have e : LReadV (45 :: dd (-l).toNat) = -l := by
        show rdGo 0 0 (45 :: dd (-l).toNat) = -l
        have e1 : rdStep 0 0 45 = some 0 := by unfold rdStep; rw [if_pos ⟨by decide, rfl⟩]
        simp only [rdGo, e1]
        have := rdGo_digits (dd (-l).toNat) 1 0 (-l) (by omega) (by rw [vGo_dd]; congr 1; omega) (by omega)
        exact this
      unfold LReadL
      rw [e]; unfold LOf
      rw [if_pos (show LOfOk (-l) = true from decide_eq_true (by omega))]
      simp
    · rw [itoa_pos l (by omega)]
      have e : LReadV (dd l.toNat) = l := rdGo_digits (dd l.toNat) 0 0 l (by omega) (by rw [vGo_dd]; congr 1; omega) (by omega)
      have hm := headMinus_dd (m := l.toNat) (by omega)
      unfold LReadL
      rw [e]
      unfold HeadMinus at hm
      rw [hm]; unfold LOf
      rw [if_pos (show LOfOk l = true from decide_eq_true (by omega))]
      simp
  unfold LRd
  rw [key, if_pos]
  unfold LText; rw [if_pos h]
theorem LOf_right {v : Int} {b : Bool} (h : LOf v b ≠ 0) : LRight (LOf v b) = true := by
  unfold LOf at *
  cases hk : LOfOk v
  · rw [hk] at h; simp at h
  · obtain ⟨h1, h2⟩ := LOfOk_t hk
    rw [if_pos (by rfl)]
    cases b <;> exact decide_eq_true (by simp; omega)
theorem LRd_some {s : List UInt8} (h : LRd s ≠ 0) : LRight (LRd s) = true ∧ Lib.itoa (LRd s) = s := by
  unfold LRd at *
  split at h
  · rename_i ht
    rw [if_pos ht]
    have hr : LRight (LReadL s) = true := LOf_right h
    refine ⟨hr, ?_⟩
    unfold LText at ht; rw [if_pos hr] at ht; exact ht
  · exact absurd rfl h
theorem RVal_ne {d : List UInt8} (h : RVal d ≠ 0) : vGo 0 d = some (RVal d) ∧ LRight (RVal d) = true := by
  unfold RVal at *
  cases hv : vGo 0 d with
  | none => rw [hv] at h; exact absurd rfl h
  | some n =>
    rw [hv] at h
    simp only at h ⊢
    split at h
    · rename_i hr; rw [if_pos hr]; exact ⟨rfl, hr⟩
    · exact absurd rfl h
theorem headMinus_cons {s : List UInt8} (h : HeadMinus s = true) : s = 45 :: s.drop 1 := by
  cases s with
  | nil => cases h
  | cons c t =>
    have : c = 45 := by simpa [HeadMinus] using h
    rw [this]; rfl
theorem RRd_some {s : List UInt8} (h : RRd s ≠ 0) : LRight (RRd s) = true ∧ Lib.itoa (RRd s) = s := by
  unfold RRd at *
  cases hb : RBad (RDigs s)
  · rw [hb] at h
    simp only [Bool.false_eq_true, if_false] at h ⊢
    have hv : RVal (RDigs s) ≠ 0 := by intro e; rw [e] at h; simp at h
    obtain ⟨h1, h2⟩ := RVal_ne hv
    have hh : (RDigs s).head? ≠ some 48 := by
      intro e; unfold RBad at hb; rw [e] at hb; simp at hb
    obtain ⟨h3, h4⟩ := dd_of_vGo _ _ _ rfl h1 hh
    obtain ⟨r0, r1, r2⟩ := LRight_t h2
    generalize RVal (RDigs s) = v at *
    unfold RSign RDigs at *
    cases hm : HeadMinus s
    · simp only [hm, Bool.false_eq_true, if_false, Int.one_mul] at *
      exact ⟨h2, by rw [itoa_pos v (by omega)]; exact h3⟩
    · have hs := headMinus_cons hm
      simp only [hm, if_true] at *
      refine ⟨decide_eq_true (by omega), ?_⟩
      rw [itoa_neg _ (by omega), show (- (-1 * v)).toNat = v.toNat by omega, h3]
      exact hs.symm
  · rw [hb] at h; simp at h
theorem RRd_itoa {l : Int} (h : LRight l = true) : RRd (Lib.itoa l) = l := by
  obtain ⟨h0, h1, h2⟩ := LRight_t h
  have bad : ∀ m : Nat, 0 < m → m ≤ 1048576 → RBad (dd m) = false := by
    intro m hm hm2
    obtain ⟨c, t, e, e1, e2⟩ := dd_head m hm
    have hl := dd_len_le 7 m (by omega)
    unfold RBad
    rw [decide_eq_false (by have := List.length_pos_iff.2 (dd_ne hm); omega), e]
    have : c ≠ 48 := by intro e; rw [e] at e1; simp at e1
    simp [this]
  have val : ∀ m : Nat, 0 < m → m ≤ 1048576 → RVal (dd m) = m := by
    intro m hm hm2
    unfold RVal
    rw [vGo_dd]
    simp only
    rw [if_pos (show LRight (m : Int) = true from decide_eq_true (by omega))]
  by_cases hn : l < 0
  · rw [itoa_neg l hn]
    have hm : HeadMinus (45 :: dd (-l).toNat) = true := rfl
    unfold RRd RDigs RSign
    rw [hm]
    simp only [if_true, List.drop_succ_cons, List.drop_zero]
    rw [bad _ (by omega) (by omega), val _ (by omega) (by omega)]
    simp; omega
  · rw [itoa_pos l (by omega)]
    unfold RRd RDigs RSign
    rw [headMinus_dd (by omega)]
    simp only [Bool.false_eq_true, if_false]
    rw [bad _ (by omega) (by omega), val _ (by omega) (by omega)]
    simp; omega
theorem LRd_eq (s : List UInt8) : LRd s = RRd s := by
  by_cases h : RRd s = 0
  · by_cases h' : LRd s = 0
    · rw [h, h']
    · obtain ⟨h1, h2⟩ := LRd_some h'
      rw [← h2, RRd_itoa h1, h2]
  · obtain ⟨h1, h2⟩ := RRd_some h
    have e := LRd_itoa h1
    rw [h2] at e; exact e
end Go.Proofs.YthpdndkfdiphmaaDoor
