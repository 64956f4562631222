/- slices.Concat of two lists of ints, and of two lists of literals. -/
import Derived.Test.YthpdndkfdiphmaaDoorWLists
import Derived.Shelf.Spec.SlicesGrow
import Derived.Laws.AppendOwnNone
import Derived.Handy
namespace Go.Proofs.YthpdndkfdiphmaaDoor
open Go Go.RowKit
open Go.Sort Go.Lib Go.Shelf
theorem cells_two {W : World} {b : Nat} {v0 v1 : Value} {t : TypeId} (h : W.heap[b]? = some (.cells #[v0, v1] t)) :
    W.cell? ⟨b, 0, none⟩ = some v0 ∧ W.cell? ⟨b, 1, none⟩ = some v1 ∧ W.frozen? ⟨b, 0, none⟩ = false ∧ W.frozen? ⟨b, 1, none⟩ = false := by
  simp [World.cell?, World.frozen?, h]
set_option maxRecDepth 100000 in
theorem growZ (n : Nat) (w : World) (hn : n ≤ 1000000) :
    Calls Tryd.prog 60 #[.slice none 0 0, .int .i64 n] w fun e w' => ∃ v, e = .returned v ∧ w'.ownsRow w.heap.size 3 1 v 0 [] ∧ RowKit.Below w.heap.size w w' := by
  obtain ⟨i0, hi, hz0, hz1, hz2⟩ := info_parts int_info
  by_cases h : n = 0
  · subst h
    refine (Any8.slices_Grow_room Tryd.growZS none 0 0 0 w (by omega) (by omega) (by omega) (by omega)).mono ?_
    rintro e w' ⟨rfl, rfl⟩
    exact ⟨_, rfl, World.ownsRow_nil _ _ _ _, RowKit.Below.refl _ _⟩
  · refine (Any8.slices_Grow_grow Tryd.growZS i0 _ hi hz0 (by rw [hz1]; decide) none 0 0 n [] w (by omega) (by omega) (by rw [hz2]; omega) (by omega) (by simp) (fun _ => rfl) (fun a ha => by cases ha)).mono ?_
    rintro e w' ⟨rfl, rfl⟩
    refine ⟨_, rfl, ?_, ((RowKit.Below.refl _ w).drew).alloc (Nat.le_refl _) _⟩
    have hcap : grownCap w (0 + n) 0 3 ≤ maxLen := grownCap_le_maxLen w (0 + n) 0 3 (by simp only [maxLen]; omega)
    have hge := grownCap_ge w (0 + n) 0 3
    refine World.ownsRow_made w.drew _ _ (Nat.le_refl _) hcap ?_
    simp only [Array.size_append, size_zeroCells]
    show 0 + (0 + n - 0) * 1 + (grownCap w (0 + n) 0 3 - (0 + n)) * 1 = grownCap w (0 + n) 0 3 * 1
    omega
set_option maxRecDepth 100000 in
/-- An append of a list that reads, empty or not, onto a row of the call's own. -/
theorem wpList_append_rdZ {w : World} {ops : Array Oper} {rest : List Oper} {o : Oper} {a : Act} {Q : Exit → Act → World → Prop} (hgd : o.guard = none) (s x : Operand)
    (ho : o.op = .call { callee := .builtin .append, args := #[s, x], argTypes := #[42, 42] })
    (base : Nat) (v : Value) (n : Nat) (xs : List Value) (hs : a.eval s = v) (hown : w.ownsRow base 3 1 v n xs)
    (B : Nat) (A : Option Addr) (m c : Nat) (T : List Int) (hx : a.eval x = .slice A m c) (hm : m = T.length) (hA : A = none → c = 0) (hr : RdI B w (.slice A m c) T)
    (hbig : n + m ≤ 1000000) (hbase : base ≤ w.heap.size)
    (h : ∀ v' w', w'.ownsRow base 3 1 v' (n + m) (xs ++ T.map (.int .i64)) → w.grownBy w' v.ownBlock → wpList Tryd.prog ops Q rest (a.put o.dst v') w') : wpList Tryd.prog ops Q (o :: rest) a w := by
  subst hm
  obtain ⟨i0, hi, hz0, hz1, hz2⟩ := info_parts int_info
  have hlen : (T.map (Value.int .i64)).length = T.length * 1 := by simp
  cases A with
  | none =>
    have hT : T.length = 0 := by
      rcases Nat.eq_zero_or_pos T.length with h0 | h0
      · exact h0
      · obtain ⟨A', c', e, _, h2⟩ := hr
        obtain ⟨b, off, e2, _⟩ := h2 h0
        injection e with e1
        rw [← e1] at e2; cases e2
    have hT0 : T = [] := List.eq_nil_of_length_eq_zero hT
    subst hT0
    have hc := hA rfl
    subst hc
    refine wpList_append_own_none hgd s x 42 ho base 3 i0 1 Tryd.underlying42 hi v n xs hs (by rw [← hz1] at hown ⊢; exact hown) (by simpa using hx) ?_
    exact h v w (by simpa using hown) (World.grownBy.refl _ _)
  | some ad =>
    refine wpList_append_own w hgd s x 42 ho base 3 i0 _ 1 8 Tryd.underlying42 hi hz0 hz1 hz2 rfl (by decide) v n xs hs hown ad T.length c (T.map (.int .i64)) hx hlen ?_ (ints_one T) (by simp only [maxLen]; omega) (by omega) hbase (fun v' w' h1 h2 _ => h v' w' h1 h2)
    intro j u hu
    have hj : j < T.length := by
      have := (List.getElem?_eq_some_iff.1 hu).1
      simpa using this
    obtain ⟨A', c', e, _, h2⟩ := hr
    injection e with e1 e2 e3
    obtain ⟨b, off, e4, _, hcell⟩ := h2 (by omega)
    rw [← e1] at e4
    injection e4 with e4
    subst e4
    have := hcell j hj
    rw [show ((⟨b, off, none⟩ : Addr).add j) = ⟨b, off + j, none⟩ from Go.WideShapes.add_plain _ _ _, this]
    rw [List.getElem?_map] at hu
    simp [hj] at hu ⊢
    exact hu
set_option maxRecDepth 1000000 in
set_option maxHeartbeats 1000000 in
theorem concatZ (w : World) (q : Nat) (A1 A2 : Option Addr) (c1 c2 : Nat) (T1 T2 : List Int) (hq : w.heap[q]? = some (.cells #[.slice A1 T1.length c1, .slice A2 T2.length c2] 42 (0, 0)))
    (hr1 : RdI w.heap.size w (.slice A1 T1.length c1) T1) (hr2 : RdI w.heap.size w (.slice A2 T2.length c2) T2) (hA1 : A1 = none → c1 = 0) (hA2 : A2 = none → c2 = 0) (hb : T1.length + T2.length ≤ 1000) :
    Calls Tryd.prog 38 #[.slice (some ⟨q, 0, none⟩) 2 2] w fun e w' => ∃ v, e = .returned v ∧ w'.ownsRow w.heap.size 3 1 v (T1 ++ T2).length ((T1 ++ T2).map (.int .i64)) ∧ RowKit.Below w.heap.size w w' := by
  have hqlt : q < w.heap.size := (Array.getElem?_eq_some_iff.1 hq).1
  obtain ⟨g0, g1, f0, f1⟩ := cells_two hq
  have HQ := Lib.hid hq
  have HR1 := Lib.hid hr1
  have HR2 := Lib.hid hr2
  have HA1 := Lib.hid hA1
  have HA2 := Lib.hid hA2
  clear hq hr1 hr2 hA1 hA2
  go_enter Tryd.func38, Tryd.ntmps38
  go_wp2_with fail
  have p0 : (0 : Int) ≤ (T1.length : Int) := by omega
  have p1 : (0 : Int) ≤ (T1.length : Int) + (T2.length : Int) := by omega
  refine wp_loop_rounds 3 ?_
  rw [rounds_succ]
  go_wp2_with fail
  rw [rounds_succ]
  go_wp2_with fail
  rw [rounds_succ]
  go_wp2_with fail
  rw [show (T1.length : Int) + (T2.length : Int) = ((T1.length + T2.length : Nat) : Int) by omega]
  refine (growZ (T1.length + T2.length) w (by omega)).mono ?_
  rintro e w1 ⟨v0, rfl, hown0, hb1⟩
  have hb1s := hb1.size
  have hq1 := (hb1.block q hqlt).trans HQ.out
  obtain ⟨k0, k1, l0, l1⟩ := cells_two hq1
  have HO0 := Lib.hid hown0
  clear hq1 hown0 g0 g1 f0 f1
  go_wp2_with fail
  refine wp_loop_rounds 3 ?_
  rw [rounds_succ]
  go_wp2_with (at_builtin; refine wpList_append_rdZ rfl _ _ rfl w.heap.size v0 0 [] rfl HO0.out w.heap.size A1 T1.length c1 T1 rfl rfl HA1.out (HR1.out.below hb1) (by omega) hb1s ?_; intro v1 w2 hown1 hg1)
  have hne : ∀ k, v0.ownBlock = some k → w.heap.size ≤ k := fun k hk => (HO0.out.lt k hk).1
  have hb2 : RowKit.Below w.heap.size w w2 := hb1.grown hg1 hb1s hne
  have hb2s := hb2.size
  have hq2 := (hb2.block q hqlt).trans HQ.out
  obtain ⟨k0, k1, l0, l1⟩ := cells_two hq2
  have HO1 := Lib.hid hown1
  clear hq2 hown1 hg1 hne
  rw [rounds_succ]
  go_wp2_with (at_builtin; refine wpList_append_rdZ rfl _ _ rfl w.heap.size v1 (0 + T1.length) ([] ++ T1.map (.int .i64)) rfl HO1.out w.heap.size A2 T2.length c2 T2 rfl rfl HA2.out (HR2.out.below hb2) (by omega) hb2s ?_; intro v2 w3 hown2 hg2)
  have hne : ∀ k, v1.ownBlock = some k → w.heap.size ≤ k := fun k hk => (HO1.out.lt k hk).1
  have hb3 : RowKit.Below w.heap.size w w3 := hb2.grown hg2 hb2s hne
  have HO2 := Lib.hid hown2
  clear hown2 hg2 hne
  rw [rounds_succ]
  go_wp2_with fail
  go_ret
  refine ⟨v2, rfl, ?_, hb3⟩
  have h := HO2.out
  rw [List.length_append, List.map_append]
  simpa using h
set_option maxRecDepth 100000 in
theorem growL (n : Nat) (w : World) (hn : n ≤ 1000000) :
    Calls Tryd.prog 56 #[.slice none 0 0, .int .i64 n] w fun e w' => ∃ v, e = .returned v ∧ w'.ownsRow w.heap.size 25 1 v 0 [] ∧ RowKit.Below w.heap.size w w' := by
  obtain ⟨i0, hi, hz0, hz1, hz2⟩ := info_parts lit_info
  by_cases h : n = 0
  · subst h
    refine (Any8.slices_Grow_room Tryd.growLS none 0 0 0 w (by omega) (by omega) (by omega) (by omega)).mono ?_
    rintro e w' ⟨rfl, rfl⟩
    exact ⟨_, rfl, World.ownsRow_nil _ _ _ _, RowKit.Below.refl _ _⟩
  · refine (Any8.slices_Grow_grow Tryd.growLS i0 _ hi hz0 (by rw [hz1]; decide) none 0 0 n [] w (by omega) (by omega) (by rw [hz2]; omega) (by omega) (by simp) (fun _ => rfl) (fun a ha => by cases ha)).mono ?_
    rintro e w' ⟨rfl, rfl⟩
    refine ⟨_, rfl, ?_, ((RowKit.Below.refl _ w).drew).alloc (Nat.le_refl _) _⟩
    have hcap : grownCap w (0 + n) 0 25 ≤ maxLen := grownCap_le_maxLen w (0 + n) 0 25 (by simp only [maxLen]; omega)
    have hge := grownCap_ge w (0 + n) 0 25
    refine World.ownsRow_made w.drew _ _ (Nat.le_refl _) hcap ?_
    simp only [Array.size_append, size_zeroCells]
    show 0 + (0 + n - 0) * 1 + (grownCap w (0 + n) 0 25 - (0 + n)) * 1 = grownCap w (0 + n) 0 25 * 1
    omega
set_option maxRecDepth 100000 in
/-- An append of a list that reads, empty or not, onto a row of the call's own. -/
theorem wpList_append_rdL {w : World} {ops : Array Oper} {rest : List Oper} {o : Oper} {a : Act} {Q : Exit → Act → World → Prop} (hgd : o.guard = none) (s x : Operand)
    (ho : o.op = .call { callee := .builtin .append, args := #[s, x], argTypes := #[43, 43] })
    (base : Nat) (v : Value) (n : Nat) (xs : List Value) (hs : a.eval s = v) (hown : w.ownsRow base 25 1 v n xs)
    (B : Nat) (A : Option Addr) (m c : Nat) (T : List Int) (hx : a.eval x = .slice A m c) (hm : m = T.length) (hA : A = none → c = 0) (hr : RdI B w (.slice A m c) T)
    (hbig : n + m ≤ 1000000) (hbase : base ≤ w.heap.size)
    (h : ∀ v' w', w'.ownsRow base 25 1 v' (n + m) (xs ++ T.map (.int .i64)) → w.grownBy w' v.ownBlock → wpList Tryd.prog ops Q rest (a.put o.dst v') w') : wpList Tryd.prog ops Q (o :: rest) a w := by
  subst hm
  obtain ⟨i0, hi, hz0, hz1, hz2⟩ := info_parts lit_info
  have hlen : (T.map (Value.int .i64)).length = T.length * 1 := by simp
  cases A with
  | none =>
    have hT : T.length = 0 := by
      rcases Nat.eq_zero_or_pos T.length with h0 | h0
      · exact h0
      · obtain ⟨A', c', e, _, h2⟩ := hr
        obtain ⟨b, off, e2, _⟩ := h2 h0
        injection e with e1
        rw [← e1] at e2; cases e2
    have hT0 : T = [] := List.eq_nil_of_length_eq_zero hT
    subst hT0
    have hc := hA rfl
    subst hc
    refine wpList_append_own_none hgd s x 43 ho base 25 i0 1 Tryd.underlying43 hi v n xs hs (by rw [← hz1] at hown ⊢; exact hown) (by simpa using hx) ?_
    exact h v w (by simpa using hown) (World.grownBy.refl _ _)
  | some ad =>
    refine wpList_append_own w hgd s x 43 ho base 25 i0 _ 1 8 Tryd.underlying43 hi hz0 hz1 hz2 rfl (by decide) v n xs hs hown ad T.length c (T.map (.int .i64)) hx hlen ?_ (ints_one T) (by simp only [maxLen]; omega) (by omega) hbase (fun v' w' h1 h2 _ => h v' w' h1 h2)
    intro j u hu
    have hj : j < T.length := by
      have := (List.getElem?_eq_some_iff.1 hu).1
      simpa using this
    obtain ⟨A', c', e, _, h2⟩ := hr
    injection e with e1 e2 e3
    obtain ⟨b, off, e4, _, hcell⟩ := h2 (by omega)
    rw [← e1] at e4
    injection e4 with e4
    subst e4
    have := hcell j hj
    rw [show ((⟨b, off, none⟩ : Addr).add j) = ⟨b, off + j, none⟩ from Go.WideShapes.add_plain _ _ _, this]
    rw [List.getElem?_map] at hu
    simp [hj] at hu ⊢
    exact hu
set_option maxRecDepth 1000000 in
set_option maxHeartbeats 1000000 in
theorem concatL (w : World) (q : Nat) (A1 A2 : Option Addr) (c1 c2 : Nat) (T1 T2 : List Int) (hq : w.heap[q]? = some (.cells #[.slice A1 T1.length c1, .slice A2 T2.length c2] 43 (0, 0)))
    (hr1 : RdI w.heap.size w (.slice A1 T1.length c1) T1) (hr2 : RdI w.heap.size w (.slice A2 T2.length c2) T2) (hA1 : A1 = none → c1 = 0) (hA2 : A2 = none → c2 = 0) (hb : T1.length + T2.length ≤ 1000) :
    Calls Tryd.prog 34 #[.slice (some ⟨q, 0, none⟩) 2 2] w fun e w' => ∃ v, e = .returned v ∧ w'.ownsRow w.heap.size 25 1 v (T1 ++ T2).length ((T1 ++ T2).map (.int .i64)) ∧ RowKit.Below w.heap.size w w' := by
  have hqlt : q < w.heap.size := (Array.getElem?_eq_some_iff.1 hq).1
  obtain ⟨g0, g1, f0, f1⟩ := cells_two hq
  have HQ := Lib.hid hq
  have HR1 := Lib.hid hr1
  have HR2 := Lib.hid hr2
  have HA1 := Lib.hid hA1
  have HA2 := Lib.hid hA2
  clear hq hr1 hr2 hA1 hA2
  go_enter Tryd.func34, Tryd.ntmps34
  go_wp2_with fail
  have p0 : (0 : Int) ≤ (T1.length : Int) := by omega
  have p1 : (0 : Int) ≤ (T1.length : Int) + (T2.length : Int) := by omega
  refine wp_loop_rounds 3 ?_
  rw [rounds_succ]
  go_wp2_with fail
  rw [rounds_succ]
  go_wp2_with fail
  rw [rounds_succ]
  go_wp2_with fail
  rw [show (T1.length : Int) + (T2.length : Int) = ((T1.length + T2.length : Nat) : Int) by omega]
  refine (growL (T1.length + T2.length) w (by omega)).mono ?_
  rintro e w1 ⟨v0, rfl, hown0, hb1⟩
  have hb1s := hb1.size
  have hq1 := (hb1.block q hqlt).trans HQ.out
  obtain ⟨k0, k1, l0, l1⟩ := cells_two hq1
  have HO0 := Lib.hid hown0
  clear hq1 hown0 g0 g1 f0 f1
  go_wp2_with fail
  refine wp_loop_rounds 3 ?_
  rw [rounds_succ]
  go_wp2_with (at_builtin; refine wpList_append_rdL rfl _ _ rfl w.heap.size v0 0 [] rfl HO0.out w.heap.size A1 T1.length c1 T1 rfl rfl HA1.out (HR1.out.below hb1) (by omega) hb1s ?_; intro v1 w2 hown1 hg1)
  have hne : ∀ k, v0.ownBlock = some k → w.heap.size ≤ k := fun k hk => (HO0.out.lt k hk).1
  have hb2 : RowKit.Below w.heap.size w w2 := hb1.grown hg1 hb1s hne
  have hb2s := hb2.size
  have hq2 := (hb2.block q hqlt).trans HQ.out
  obtain ⟨k0, k1, l0, l1⟩ := cells_two hq2
  have HO1 := Lib.hid hown1
  clear hq2 hown1 hg1 hne
  rw [rounds_succ]
  go_wp2_with (at_builtin; refine wpList_append_rdL rfl _ _ rfl w.heap.size v1 (0 + T1.length) ([] ++ T1.map (.int .i64)) rfl HO1.out w.heap.size A2 T2.length c2 T2 rfl rfl HA2.out (HR2.out.below hb2) (by omega) hb2s ?_; intro v2 w3 hown2 hg2)
  have hne : ∀ k, v1.ownBlock = some k → w.heap.size ≤ k := fun k hk => (HO1.out.lt k hk).1
  have hb3 : RowKit.Below w.heap.size w w3 := hb2.grown hg2 hb2s hne
  have HO2 := Lib.hid hown2
  clear hown2 hg2 hne
  rw [rounds_succ]
  go_wp2_with fail
  go_ret
  refine ⟨v2, rfl, ?_, hb3⟩
  have h := HO2.out
  rw [List.length_append, List.map_append]
  simpa using h
end Go.Proofs.YthpdndkfdiphmaaDoor
