import Derived.Test.YtcpcoomkapblcaaTimesW
open Go Go.RowKit
namespace Go.Proofs.Ytcpcoomkapblcaa
/-- After k conflicts the program's times and the reference's tell the same. -/
structure TR (F S : Int) (k : Nat) (x : Ti) (r : Rt) : Prop where
  f : r.f = F
  s : r.s = S
  a : x.a = F + r.n * S
  b : x.b = S
  c : x.c = leftR r
  d : x.d = r.n
  n0 : 0 ≤ r.n
  n1 : r.n ≤ k
  c0 : 0 ≤ r.c
  l1 : 1 ≤ leftR r
theorem TR.mul {f s : Int} {k : Nat} {x : Ti} {r : Rt} (h : TR f s k x r) (hn : newOk f s) (hk : k ≤ 1000) : 0 ≤ r.n * s ∧ r.n * s ≤ 1048576000 := by
  obtain ⟨h1, h2, h3, h4⟩ := hn
  have := h.n0; have := h.n1
  exact ⟨Int.mul_nonneg h.n0 h3, Int.le_trans (Int.mul_le_mul (show r.n ≤ 1000 by omega) h4 h3 (by omega)) (by omega)⟩
theorem TR.ok {f s : Int} {k : Nat} {x : Ti} {r : Rt} (h : TR f s k x r) (hn : newOk f s) (hk : k ≤ 1000) : r.Ok := by
  have hm := h.mul hn hk
  have hl := h.l1
  unfold leftR at hl
  rw [h.s] at hl
  obtain ⟨h1, h2, h3, h4⟩ := hn
  have := h.n0; have := h.n1; have hf := h.f; have hs := h.s; have := h.c0
  exact ⟨by omega, by omega, by omega, by omega, by omega, by omega, by omega, by omega⟩
theorem TR.bounds {f s : Int} {k : Nat} {x : Ti} {r : Rt} (h : TR f s k x r) (hn : newOk f s) (hk : k ≤ 1000) :
    (0 ≤ x.b ∧ x.b ≤ 1048576) ∧ (1 ≤ x.a ∧ x.a ≤ 1099511627776) ∧ (1 ≤ x.c ∧ x.c ≤ 1099511627776) ∧ (0 ≤ x.d ∧ x.d ≤ 1000000) := by
  have hm := h.mul hn hk
  have hl := h.l1
  have hc := h.c
  have hll : leftR r = r.f + r.n * r.s - r.c := rfl
  rw [h.s, h.f] at hll
  obtain ⟨h1, h2, h3, h4⟩ := hn
  have := h.n0; have := h.n1; have := h.a; have := h.b; have := h.d; have := h.c0
  refine ⟨⟨?_, ?_⟩, ⟨?_, ?_⟩, ⟨?_, ?_⟩, ⟨?_, ?_⟩⟩ <;> omega
theorem TR.start {f s : Int} (hn : newOk f s) : TR f s 0 ⟨f, s, f, 0⟩ ⟨f, s, 0, 0⟩ := by
  obtain ⟨h1, h2, h3, h4⟩ := hn
  refine ⟨rfl, rfl, ?_, rfl, ?_, rfl, ?_, ?_, ?_, ?_⟩ <;> simp [leftR]
  omega
theorem TR.step {f s : Int} {k : Nat} {x : Ti} {r : Rt} (h : TR f s k x r) (hn : newOk f s) (hk : k ≤ 1000) :
    TR f s (k + 1) (conR x).1 (refCon r).1 ∧ (conR x).2 = (refCon r).2 := by
  have hm := h.mul hn hk
  obtain ⟨rf, rs, rn, rc⟩ := r
  obtain ⟨xa, xb, xc, xd⟩ := x
  obtain ⟨h5, h6, h7, h8, h9, h10, n0, n1, c0, l1⟩ := h
  simp only [] at h5 h6 h7 h8 h9 h10 n0 n1 c0 l1 hm
  subst h10; subst h9; subst h8; subst h7; cases h6; cases h5
  obtain ⟨h1, h2, h3, h4⟩ := hn
  simp only [leftR] at *
  have e1 : (xd + 1) * rs = xd * rs + rs := by rw [Int.add_mul, Int.one_mul]
  unfold conR refCon
  simp only [leftR]
  rw [e1]
  generalize hq : xd * rs = q at *
  by_cases hl : 1 < f + q - rc
  · rw [if_neg (by omega), if_pos hl, if_pos hl]
    exact ⟨⟨rfl, rfl, by simp [hq], rfl, by simp [leftR, hq]; omega, rfl, n0, by simp; omega, by simp; omega, by simp [leftR, hq]; omega⟩, rfl⟩
  · rw [if_neg (by omega), if_neg hl, if_neg hl, if_neg (by omega)]
    exact ⟨⟨rfl, rfl, by simp [e1]; omega, rfl, by simp [leftR, e1]; omega, rfl, by simp; omega, by simp; omega, by simp, by simp [leftR, e1]; omega⟩, rfl⟩
end Go.Proofs.Ytcpcoomkapblcaa
