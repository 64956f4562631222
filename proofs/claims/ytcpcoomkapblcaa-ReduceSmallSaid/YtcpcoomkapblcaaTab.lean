import Derived.Test.YtcpcoomkapblcaaProg
import Derived.Test.YtcpcoomkapblcaaTabD
import Derived.WalkKit
import Derived.Handy
import Derived.Carry
import Derived.Lib.Hide
open Go Go.RowKit Go.Maps
namespace Go.Proofs.Ytcpcoomkapblcaa
theorem law3 : Keyed Try.prog 3 := int_keyed Try.underlying3
theorem key3 {a : Int} (h : (Lit.int .i64 a).wf = true) : keyOf Try.prog 3 (.int .i64 a) = some (.int .i64 a) := keyOf_int_mk Try.underlying3 h
theorem zero32 (w : World) : (zeroValue 32).run Try.prog w = .ok (Inf.val ⟨0, 0, 0⟩) w := by kernel_rfl
/-- Block p is a table: its map is block m, which holds T; its clock is at c. -/
structure Tab (w : World) (p m : Nat) (T : List Inf) (c : Int) : Prop where
  head : w.heap[p]? = some (.cells #[.map (some m), .int .i64 c] 78)
  map : w.ownsMap Try.prog 3 rInf m T.length (tabD T)
  apart : IdsApart T
  wf : ∀ x ∈ T, (Lit.int .i64 x.id).wf = true
  ne : p ≠ m
/-- Nothing but blocks p and m has turned; new ones may have come. -/
structure But (p m : Nat) (w w' : World) : Prop where
  os : w'.os = w.os
  tape : w'.tape = w.tape
  output : w'.output = w.output
  size : w.heap.size ≤ w'.heap.size
  block : ∀ k, k < w.heap.size → k ≠ p → k ≠ m → w'.heap[k]? = w.heap[k]?
theorem But.refl (p m : Nat) (w : World) : But p m w w := ⟨rfl, rfl, rfl, Nat.le_refl _, fun _ _ _ _ => rfl⟩
theorem But.trans {p m : Nat} {a b c : World} (h : But p m a b) (k : But p m b c) : But p m a c :=
  ⟨k.os.trans h.os, k.tape.trans h.tape, k.output.trans h.output, Nat.le_trans h.size k.size, fun i hi hp hm => (k.block i (Nat.lt_of_lt_of_le hi h.size) hp hm).trans (h.block i hi hp hm)⟩
theorem But.of_below {p m : Nat} {a b : World} (h : Below a.heap.size a b) : But p m a b := ⟨h.os, h.tape, h.output, h.size, fun i hi _ _ => h.block i hi⟩
theorem But.below {p m B : Nat} {a b c : World} (h : But p m b c) (k : Below B a b) (hp : B ≤ p) (hm : B ≤ m) (hB : B ≤ b.heap.size) : Below B a c :=
  ⟨h.os.trans k.os, h.tape.trans k.tape, h.output.trans k.output, Nat.le_trans k.size h.size, fun i hi => (h.block i (Nat.lt_of_lt_of_le hi hB) (by omega) (by omega)).trans (k.block i hi)⟩
theorem Tab.lt {w : World} {p m : Nat} {T : List Inf} {c : Int} (h : Tab w p m T c) : p < w.heap.size := (Array.getElem?_eq_some_iff.1 h.head).1
theorem Tab.cell0 {w : World} {p m : Nat} {T : List Inf} {c : Int} (h : Tab w p m T c) : w.cell? ⟨p, 0, none⟩ = some (.map (some m)) := by
  simp [World.cell?, h.head]
theorem Tab.cell1 {w : World} {p m : Nat} {T : List Inf} {c : Int} (h : Tab w p m T c) : w.cell? ⟨p, 1, none⟩ = some (.int .i64 c) := by
  simp [World.cell?, h.head]
theorem Tab.frozen {w : World} {p m : Nat} {T : List Inf} {c : Int} (h : Tab w p m T c) (o : Nat) : w.frozen? ⟨p, o, none⟩ = false := by
  simp [World.frozen?, h.head]
theorem own_sharp {w : World} {m n : Nat} {T : List Inf} (h : w.ownsMap Try.prog 3 rInf m n (tabD T)) : w.ownsMap Try.prog 3 rInf m T.length (tabD T) := by
  obtain ⟨es, clock, hb, F, hs, hD⟩ := h
  have e1 : Maps.size (tabD T) = es.size := by rw [hD]; simp [Maps.size, length_sorted]
  rw [size_tab] at e1
  exact ⟨es, clock, hb, F, by omega, hD⟩
theorem heap_set_same {w : World} {p : Nat} {o : Nat} {v : Value} {cs : Array Value} {t : TypeId} (h : w.heap[p]? = some (.cells cs t)) : (w.setCell ⟨p, o, none⟩ v).heap[p]? = some (.cells (cs.setIfInBounds o v) t) := by
  simp [World.setCell, Array.getElem?_modify, h]
theorem new_any (w : World) : Calls Try.prog 42 #[] w fun e w' => ∃ p m, e = .returned (.pointer (some ⟨p, 0, none⟩)) ∧ Tab w' p m [] 0 ∧ w.heap.size ≤ p ∧ w.heap.size ≤ m ∧ Below w.heap.size w w' := by
  have hmm := @run_makeMap Try.prog
  go_enter Try.func42, Try.ntmps42
  go_wp2
  go_ret
  refine ⟨_, w.heap.size, rfl, ⟨?_, (World.ownsMap_made w _ _ _).alloc _, by simp [IdsApart], by simp, by omega⟩, by omega, Nat.le_refl _, ((Below.refl _ _).alloc (Nat.le_refl _) _).alloc (by simp) _⟩
  exact (by simp : w.heap.size + 1 = (w.alloc (.map #[] 0)).heap.size) ▸ (MapKept.heap_alloc (w.alloc (.map #[] 0)) _).1
theorem apart_put {T : List Inf} (h : IdsApart T) (x : Inf) : IdsApart (T.filter (fun y => y.id ≠ x.id) ++ [x]) := by
  unfold IdsApart
  rw [List.pairwise_append]
  refine ⟨List.Pairwise.filter _ h, by simp, fun y hy z hz => ?_⟩
  simp at hy hz
  subst hz
  exact hy.2
theorem wf_put {T : List Inf} (h : ∀ x ∈ T, (Lit.int .i64 x.id).wf = true) {a b c i : Int} (ha : (Lit.int .i64 a).wf = true) : ∀ x ∈ T.filter (fun y => y.id ≠ i) ++ [⟨a, b, c⟩], (Lit.int .i64 x.id).wf = true := by
  intro x hx
  rcases List.mem_append.1 hx with hx | hx
  · exact h x (List.mem_filter.1 hx).1
  · simp at hx; subst hx; exact ha
theorem note_any (w : World) (p m : Nat) (T : List Inf) (c a b : Int) (h : Tab w p m T c) (ha : (Lit.int .i64 a).wf = true) (hc : 0 ≤ c ∧ c < 1000000) (hT : T.length < 1000000) :
    Calls Try.prog 52 #[.pointer (some ⟨p, 0, none⟩), .int .i64 a, .int .i64 b] w fun e w' => e = .returned (.tuple #[]) ∧ Tab w' p m (T.filter (fun y => y.id ≠ a) ++ [⟨a, b, c⟩]) (c + 1) ∧ But p m w w' := by
  have h0 := h.cell0
  have h1 := h.cell1
  have h2 := h.frozen 0
  have h3 := h.frozen 1
  obtain ⟨w1, hrun, hown, hturn⟩ := h.map.drew.store (H := Unit) law3 Try.underlying76 (by unfold maxLen; omega) (key := .int .i64 a) (val := .agg #[.int .i64 a, .int .i64 b, .int .i64 c]) (key3 ha) (rInf_mk ⟨a, b, c⟩)
  go_enter Try.func52, Try.ntmps52
  go_wp2_with fail
  have hg := hturn.grown
  have hh : w1.heap[p]? = some (.cells #[.map (some m), .int .i64 c] 78) := (hg.block p h.lt (by simpa using h.ne)).trans h.head
  have e1 : w1.cell? ⟨p, 1, none⟩ = some (.int .i64 c) := by simp [World.cell?, hh]
  have e3 : w1.frozen? ⟨p, 1, none⟩ = false := by simp [World.frozen?, hh]
  go_region
  go_wp2
  go_returns
  have hown1 := hown
  have hput : (tabD T).put (.int .i64 a) (dInf ⟨a, b, c⟩) = tabD (T.filter (fun y => y.id ≠ a) ++ [⟨a, b, c⟩]) := put_tab h.apart ⟨a, b, c⟩
  rw [hput] at hown1
  have hown2 := own_sharp (hown1.setCell (a := ⟨p, 1, none⟩) h.ne.symm (.int .i64 (c + 1)))
  refine ⟨rfl, ⟨heap_set_same hh, hown2, apart_put h.apart ⟨a, b, c⟩, wf_put h.wf ha, h.ne⟩, ?_⟩
  refine ⟨hg.os, hg.tape, hg.output, by simpa using hg.size, fun k hk hp hm => ?_⟩
  exact (heap_setCell_other _ _ _ _ hp).trans (hg.block k hk (by simpa using hm))
end Go.Proofs.Ytcpcoomkapblcaa
