/- A queue of numbers in a row of one's own: taken from the front, appended at the end. -/
import Derived.Test.YthcboallnbaimaaGreatDoorCalls
import Derived.ArgAppend
namespace Go.Proofs.YthcboallnbaimaaGreatDoor
open Go Go.RowKit
/-- The slice v holds the numbers l, in a block of its own from q on. -/
structure QRow (q : Nat) (W : World) (v : Value) (l : List Nat) : Prop where
  ex : ∃ ao cap, v = .slice ao l.length cap ∧ l.length ≤ cap ∧ cap ≤ maxLen ∧ (ao = none → cap = 0) ∧
    (0 < cap → ∃ g off cur, ao = some ⟨g, off, none⟩ ∧ q ≤ g ∧ W.heap[g]? = some (.cells cur 3 (0, 0)) ∧ cur.size = off + cap ∧ ∀ j (h : j < l.length), cur[off + j]? = some (.int .i64 (l[j] : Nat)))
/-- Objects from q on that are no cells of numbers stay. -/
def KeepsO (q : Nat) (W W' : World) : Prop := ∀ k o, q ≤ k → W.heap[k]? = some o → (∀ cs fr, o ≠ .cells cs 3 fr) → W'.heap[k]? = some o
theorem KeepsO.trans {q : Nat} {A B C : World} (h : KeepsO q A B) (k : KeepsO q B C) : KeepsO q A C := fun i o hi ho hc => k i o hi (h i o hi ho hc) hc
theorem KeepsO.of_new {q : Nat} {A B : World} (h : Below A.heap.size A B) : KeepsO q A B := fun i _ _ ho _ => (h.block i (Array.getElem?_eq_some_iff.1 ho).1).trans ho
theorem QRow.kept {q : Nat} {W W' : World} {v : Value} {l : List Nat} (h : QRow q W v l) (hk : ∀ k cs fr, q ≤ k → W.heap[k]? = some (.cells cs 3 fr) → W'.heap[k]? = W.heap[k]?) : QRow q W' v l := by
  obtain ⟨ao, cap, h1, h2, h3, h3b, h4⟩ := h.ex
  refine ⟨ao, cap, h1, h2, h3, h3b, fun hc => ?_⟩
  obtain ⟨g, off, cur, e1, e2, e3, e4, e5⟩ := h4 hc
  exact ⟨g, off, cur, e1, e2, (hk g _ _ e2 e3).trans e3, e4, e5⟩
theorem QRow.new {q : Nat} {W W' : World} {v : Value} {l : List Nat} (h : QRow q W v l) (hb : Below W.heap.size W W') : QRow q W' v l :=
  h.kept fun k _ _ _ hk => hb.block k (Array.getElem?_eq_some_iff.1 hk).1
theorem QRow.first {q : Nat} {W : World} (i : Nat) (hq : q ≤ W.heap.size) : QRow q (W.alloc (.cells #[.int .i64 i] 3)) (.slice (some ⟨W.heap.size, 0, none⟩) 1 1) [i] :=
  ⟨_, 1, rfl, Nat.le_refl _, by simp [maxLen], by simp, fun _ => ⟨W.heap.size, 0, _, rfl, hq, World.alloc_heap_new _ _, rfl, fun j hj => by
    have : j = 0 := by simp at hj; omega
    subst this; rfl⟩⟩
/-- What is at the front, and the rest. -/
theorem QRow.front {q : Nat} {W : World} {v : Value} {i : Nat} {l : List Nat} (h : QRow q W v (i :: l)) : ∃ g off cap, v = .slice (some ⟨g, off, none⟩) (l.length + 1) (cap + 1) ∧ l.length ≤ cap ∧ cap + 1 ≤ maxLen ∧ W.cell? ⟨g, off, none⟩ = some (.int .i64 i) ∧ QRow q W (.slice (if cap = 0 then some ⟨g, off, none⟩ else some ⟨g, off + 1, none⟩) l.length cap) l := by
  obtain ⟨ao, cap, rfl, h2, h3, h3b, h4⟩ := h.ex
  have hc : 0 < cap := by simp at h2; omega
  obtain ⟨g, off, cur, rfl, e2, e3, e4, e5⟩ := h4 hc
  simp only [List.length_cons] at h2 e5
  refine ⟨g, off, cap - 1, by rw [Nat.sub_add_cancel hc]; rfl, by omega, by omega, ?_, ?_⟩
  · have := e5 0 (by omega)
    simp only [Nat.add_zero, List.getElem_cons_zero] at this
    simp [World.cell?, e3, this]
  · by_cases h0 : cap - 1 = 0
    · rw [if_pos h0]
      exact ⟨_, cap - 1, rfl, by omega, by omega, by simp, fun h => by omega⟩
    · rw [if_neg h0]
      refine ⟨_, cap - 1, rfl, by omega, by omega, by simp, fun _ => ⟨g, off + 1, cur, rfl, e2, e3, by omega, fun j hj => ?_⟩⟩
      have := e5 (j + 1) (by omega)
      simp only [List.getElem_cons_succ] at this
      rw [← this]
      congr 1; omega
theorem int_info : (Tryz.prog.info? 3).map (fun i => (i.zero, i.size, i.bytes)) = some (some (.int .i64 0), 1, 8) := by kernel_rfl
theorem append_q (q : Nat) (w : World) (ty : TypeId) (v : Value) (l : List Nat) (k : Nat) (h : QRow q w v l) (hl : l.length ≤ 1000000) (hq : q ≤ w.heap.size) (ad : Addr) (c : Nat) (hc : w.cell? (ad.add 0) = some (.int .i64 k)) :
    ∃ v' w', (Builtin.append_ #[27, 27] ty #[v, .slice (some ad) 1 c]).run Tryz.prog w = .ok v' w' ∧ QRow q w' v' (l ++ [k]) ∧ Below q w w' ∧ KeepsO q w w' := by
  obtain ⟨i0, hi, hz0, hz1, hz2⟩ := info_of int_info
  obtain ⟨ao, cap, rfl, h2, h3, h3b, h4⟩ := h.ex
  have hnews : ∀ j u, [Value.int .i64 k][j]? = some u → w.cell? (ad.add j) = some u := by
    intro j u hj
    match j, hj with
    | 0, hj => simp at hj; subst hj; exact hc
  have ofGrown : ∀ v' w' n, w'.ownsRow w.heap.size 3 1 v' n ((l ++ [k]).map fun x => Value.int .i64 (x : Nat)) → n = l.length + 1 → w.grownBy w' none → QRow q w' v' (l ++ [k]) ∧ Below q w w' ∧ KeepsO q w w' := by
    intro v' w' n ho hn hg
    refine ⟨?_, ⟨hg.os, hg.tape, hg.output, hg.size, fun k hk => hg.block k (by omega) (by simp)⟩, fun k o _ hk _ => (hg.block k (Array.getElem?_eq_some_iff.1 hk).1 (by simp)).trans hk⟩
    obtain ⟨hlen, ho⟩ := ho
    rcases ho with ⟨_, h0⟩ | ⟨g, cp, cur, rfl, g1, g2, g3, g4, g5, g6⟩
    · omega
    · refine ⟨_, cp, by rw [hn]; simp, by simp; omega, g4, by simp, fun _ => ⟨g, 0, cur, rfl, by omega, g2, by omega, fun j hj => ?_⟩⟩
      have e : (cur.toList.take (n * 1))[j]? = ((l ++ [k]).map fun x => Value.int .i64 (x : Nat))[j]? := by rw [g6]
      rw [List.getElem?_take_of_lt (by simp at hj; omega), List.getElem?_map, List.getElem?_eq_getElem hj] at e
      rw [Nat.zero_add, ← Array.getElem?_toList, e]; rfl
  by_cases hr : l.length + 1 ≤ cap
  · obtain ⟨g, off, cur, rfl, e2, e3, e4, e5⟩ := h4 (by omega)
    have hidx : off + l.length < cur.size := by omega
    have hrun := run_append_room_cells (P := Tryz.prog) w 27 ty 3 i0 Tryz.underlying27 hi g off l.length cap ad 1 c [.int .i64 k] (by simp [hz1]) hnews (by simp [Value.oneCell']) hr
      (fun j hj => by
        have : j = 0 := by simp at hj; omega
        subst this
        simp [World.cell?, e3, hz1, hidx])
      (fun j hj => by simp [World.frozen?, e3])
    rw [hz1, Nat.mul_one] at hrun
    refine ⟨_, _, hrun, ?_, ?_, ?_⟩
    · refine ⟨_, cap, by simp, by simp; omega, h3, by simp, fun _ => ⟨g, off, cur.set! (off + l.length) (.int .i64 k), rfl, e2, ?_, by simp; omega, fun j hj => ?_⟩⟩
      · simp [World.setCells, World.setCell, Array.getElem?_modify, e3, Array.set!_eq_setIfInBounds]
      · by_cases hjl : j = l.length
        · subst hjl
          simp [hidx]
        · have hj2 : j < l.length := by simp at hj; omega
          rw [Array.set!_eq_setIfInBounds, Array.getElem?_setIfInBounds_ne (by omega), e5 j hj2, List.getElem_append_left hj2]
    · exact (Below.refl _ _).setCell (p := ⟨g, _, none⟩) e2 _
    · intro k' o hk' ho hcell
      refine (Below.heap_setCell _ _ _ k' (fun e => ?_)).trans ho
      simp only at e
      rw [e, e3] at ho
      cases ho
      exact absurd rfl (hcell _ _)
  · cases ao with
    | some b =>
      have holds : ∀ j u, (l.map fun x => Value.int .i64 (x : Nat))[j]? = some u → w.cell? (b.add j) = some u := by
        intro j u hj
        have hjl : j < l.length := by have := (List.getElem?_eq_some_iff.1 hj).1; simpa using this
        obtain ⟨g, off, cur, e1, e2, e3, e4, e5⟩ := h4 (by omega)
        cases e1
        have := e5 j hjl
        rw [List.getElem?_map, List.getElem?_eq_getElem hjl] at hj
        simp at hj
        rw [← hj, Addr.add_lit]
        simp [World.cell?, e3, this]
      obtain ⟨v', w', hrun, r1, r2⟩ := run_append_arg_grows (P := Tryz.prog) w 27 ty 3 i0 (.int .i64 0) 1 8 Tryz.underlying27 hi hz0 hz1 hz2 rfl (by decide) b l.length cap (l.map fun x => Value.int .i64 (x : Nat)) (by simp) holds ad 1 c [.int .i64 k] (by simp) hnews (by omega) (by simp only [maxLen]; omega) (by omega)
      obtain ⟨a1, a2, a3⟩ := ofGrown v' w' _ (by simpa using r1) rfl r2
      exact ⟨v', w', hrun, a1, a2, a3⟩
    | none =>
      have hcap := h3b rfl
      subst hcap
      have hl0 : l = [] := List.eq_nil_of_length_eq_zero (by omega)
      subst hl0
      obtain ⟨v', w', hrun, r1, r2, _⟩ := run_append_own (P := Tryz.prog) w w.heap.size 27 ty 3 i0 (.int .i64 0) 1 8 Tryz.underlying27 hi hz0 hz1 hz2 rfl (by decide) (.slice none 0 0) 0 [] (World.ownsRow_nil w _ _ 1) ad 1 c [.int .i64 k] (by simp) hnews (by simp [Value.oneCell']) (by simp [maxLen]) (by omega) (Nat.le_refl _)
      obtain ⟨a1, a2, a3⟩ := ofGrown v' w' _ (by simpa using r1) rfl r2
      exact ⟨v', w', hrun, a1, a2, a3⟩
/-- At the operation, for the walk. -/
theorem wpList_append_q {ops : Array Oper} {rest : List Oper} {o : Oper} {a : Act} {w : World} {Q : Exit → Act → World → Prop} (hgd : o.guard = none) (s x : Operand)
    (ho : o.op = .call { callee := .builtin .append, args := #[s, x], argTypes := #[27, 27] }) (q : Nat) (v : Value) (l : List Nat) (k : Nat) (hs : a.eval s = v) (h : QRow q w v l) (hl : l.length ≤ 1000000) (hq : q ≤ w.heap.size)
    (ad : Addr) (c : Nat) (hx : a.eval x = .slice (some ad) 1 c) (hc : w.cell? (ad.add 0) = some (.int .i64 k))
    (hK : ∀ v' w', QRow q w' v' (l ++ [k]) → Below q w w' → KeepsO q w w' → wpList Tryz.prog ops Q rest (a.put o.dst v') w') : wpList Tryz.prog ops Q (o :: rest) a w := by
  refine wpList_plain hgd fun K hK' => ?_
  obtain ⟨v', w', hr, h2, h3, h4⟩ := append_q q w o.type v l k h hl hq ad c hc
  unfold Oper.wp execOp
  simp only [ho, resolve, invoke, builtin, Sem.run_bind, Sem.run_pure, Result.andThen_ok, List.map_toArray, List.map_cons, List.map_nil, hs, hx, hr]
  exact hK' _ _ (hK v' w' h2 h3 h4)
theorem QRow.turned {q b : Nat} {W W' : World} {v : Value} {l : List Nat} (h : QRow q W v l) (ht : W.mapTurned W' b) : QRow q W' v l := by
  obtain ⟨es, cl, es', cl', hb, e⟩ := id ht
  exact h.kept fun k cs fr _ hk => ht.grown.block k (Array.getElem?_eq_some_iff.1 hk).1 (fun e2 => by cases e2; rw [hb] at hk; cases hk)
end Go.Proofs.YthcboallnbaimaaGreatDoor
