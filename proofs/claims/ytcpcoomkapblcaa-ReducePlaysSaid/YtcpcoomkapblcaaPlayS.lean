/- The state of plays: the table, the reference's table in its box, the same list in both. -/
import Derived.Test.YtcpcoomkapblcaaPlayP
open Go Go.RowKit Go.Maps
namespace Go.Proofs.Ytcpcoomkapblcaa
structure PS (w wr : World) (p m q : Nat) (T : List Inf) (c : Int) (sv : Value) : Prop where
  tab : Tab wr p m T c
  good : GoodT T
  box : wr.heap[q]? = some (.cells #[sv, .int .i64 c] 94 (0, 0))
  rd : RdS wr.heap.size wr sv T
  bel : Below w.heap.size w wr
  hp : w.heap.size ≤ p
  hm : w.heap.size ≤ m
  hq : w.heap.size ≤ q
variable {w wr : World} {p m q : Nat} {T : List Inf} {c : Int} {sv : Value}
theorem PS.qlt (h : PS w wr p m q T c sv) : q < wr.heap.size := (Array.getElem?_eq_some_iff.1 h.box).1
theorem PS.qp (h : PS w wr p m q T c sv) : q ≠ p := by
  rintro rfl
  have h1 := h.box
  rw [h.tab.head] at h1
  injection h1 with h1
  injection h1 with _ h2
  cases h2
theorem PS.qm (h : PS w wr p m q T c sv) : q ≠ m := by
  rintro rfl
  obtain ⟨es, k, hk, -⟩ := h.tab.map
  have h1 := h.box
  rw [hk] at h1
  injection h1 with h1
  cases h1
theorem PS.below {w' : World} (h : PS w wr p m q T c sv) (hb : Below wr.heap.size wr w') : PS w w' p m q T c sv :=
  ⟨h.tab.below hb, h.good, (hb.block q h.qlt).trans h.box, (h.rd.below hb).more hb.size, h.bel.trans (hb.mono h.bel.size), h.hp, h.hm, h.hq⟩
/-- A call of the table, the same call of the reference, and the store of what the reference returns. -/
theorem PS.step {w1 w2 : World} {T1 : List Inf} {c1 : Int} {sv1 : Value} (h : PS w wr p m q T c sv) (ht : Tab w1 p m T1 c1) (hb : But p m wr w1) (hg : GoodT T1) (hb2 : Below w1.heap.size w1 w2) (hr : RdS w2.heap.size w2 sv1 T1) :
    w2.heap[q]? = some (.cells #[sv, .int .i64 c] 94 (0, 0)) ∧ PS w ((w2.setCell ⟨q, 0, none⟩ sv1).setCell ⟨q, 1, none⟩ (.int .i64 c1)) p m q T1 c1 sv1 := by
  have hq1 : w1.heap[q]? = some (.cells #[sv, .int .i64 c] 94 (0, 0)) := (hb.block q h.qlt h.qp h.qm).trans h.box
  have hq2 : w2.heap[q]? = some (.cells #[sv, .int .i64 c] 94 (0, 0)) := (hb2.block q (Nat.lt_of_lt_of_le h.qlt hb.size)).trans hq1
  have r1 := RdS.two (j := 0) (u := sv1) hr hq2
  have r2 := RdS.two (j := 1) (u := .int .i64 c1) r1.1 r1.2
  refine ⟨hq2, ⟨?_, hg, by simpa using r2.2, r2.1.more (by simp), ?_, h.hp, h.hm, h.hq⟩⟩
  · exact ((ht.below hb2).setCell (a := ⟨q, 0, none⟩) (Ne.symm h.qp) (Ne.symm h.qm) sv1).setCell (a := ⟨q, 1, none⟩) (Ne.symm h.qp) (Ne.symm h.qm) (.int .i64 c1)
  · have hb1 : Below w.heap.size w w1 := hb.below h.bel h.hp h.hm h.bel.size
    exact ((hb1.trans (hb2.mono hb1.size)).setCell (p := ⟨q, 0, none⟩) h.hq sv1).setCell (p := ⟨q, 1, none⟩) h.hq (.int .i64 c1)
end Go.Proofs.Ytcpcoomkapblcaa
