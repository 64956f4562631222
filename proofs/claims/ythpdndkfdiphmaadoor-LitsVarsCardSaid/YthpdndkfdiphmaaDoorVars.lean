/- lits.Vars over the iterator: the closure that inserts, and the whole. -/
import Derived.Test.YthpdndkfdiphmaaDoorGreatest
import Derived.Test.YthpdndkfdiphmaaDoorInsert
import Derived.Deep.Draws
import Derived.Laws.EntriesVeiled
namespace Go.Proofs.YthpdndkfdiphmaaDoor
open Go Go.RowKit Go.Shelf
attribute [local go_sem] Oper.semAt_some
theorem own_cell {w : World} {base g cap n : Nat} {xs : List Int} (h : w.ownsRow base 3 1 (.slice (some ⟨g, 0, none⟩) n cap) n (xs.map (.int .i64))) (j : Nat) (hj : j < n) : w.cell? ⟨g, 0 + j, none⟩ = some (.int .i64 (xs.getD j 0)) := by
  have hl := h.1
  rw [List.length_map] at hl
  rw [Nat.zero_add, h.cellAt j (by omega), List.getElem?_map]
  have : j < xs.length := by omega
  simp [this]
theorem BinSearch_own (w : World) (base : Nat) (v : Value) (xs : List Int) (x : Int) (hown : w.ownsRow base 3 1 v xs.length (xs.map (.int .i64))) (hs : xs.Pairwise (· ≤ ·)) (hlen : xs.length ≤ 1000000) :
    Calls Tryd.prog 54 #[v, .int .i64 x] w fun e w' => e = .returned (.tuple #[.int .i64 (xs.countP (· < x) : Nat), .bool (xs.contains x)]) ∧ ∃ q, w' = w.drewN q := by
  rcases hown.2 with ⟨rfl, h0⟩ | ⟨g, cap, cur, rfl, hbg, hh, hnc, hcm, hcs', htk⟩
  · have hx0 : xs = [] := List.eq_nil_of_length_eq_zero h0
    subst hx0
    exact (Tryd.slices_BinarySearch_int_empty none 0 x w).mono fun e w' ⟨he, hw⟩ => ⟨he, 0, hw⟩
  · have := Tryd.slices_BinarySearch_int g 0 xs.length cap xs x w (Nat.le_refl _) (by omega) (fun j hj => own_cell hown j hj) (by rw [List.take_length]; exact hs)
    rw [List.take_length] at this
    exact this
def insS (x : Int) (xs : List Int) : List Int := if x ∈ xs then xs else insAt (xs.countP (· < x)) x xs
theorem countP_le_len (x : Int) (xs : List Int) : xs.countP (· < x) ≤ xs.length := List.countP_le_length
theorem insS_len (x : Int) (xs : List Int) : (insS x xs).length ≤ xs.length + 1 := by
  unfold insS
  split
  · omega
  · rw [insAt_length _ _ _ (countP_le_len x xs)]; omega
/-- What the closure leaves: the box holds a row of the call's own that has the integer too. -/
def InsPost (n₀ Bo : Nat) (ys : List Int) (W : World) (e : Ending) (W' : World) : Prop :=
  (∃ u, e = .returned u) ∧ (∃ v', Boxed W' Bo 42 v' ∧ W'.ownsRow n₀ 3 1 v' ys.length (ys.map (.int .i64)) ∧ (ys = [] → v' = .slice none 0 0)) ∧ KeepsOthers W W' ∧ Below n₀ W W' ∧ ∀ b t u, t ≠ 3 → b ≠ Bo → Boxed W b t u → Boxed W' b t u
theorem keeps_drewN (W : World) (q : Nat) : KeepsOthers W (W.drewN q) := ⟨Nat.le_refl _, fun _ _ h _ => h⟩
theorem keeps_cells {W W' : World} {row : Option Nat} (h : W.grownBy W' row) (hr : ∀ g, row = some g → ∃ cs t fr, W.heap[g]? = some (.cells cs t fr)) : KeepsOthers W W' :=
  KeepsOthers.of_grownBy h fun j o ej hj => by obtain ⟨cs, t, fr, e⟩ := hr j ej; rw [hj] at e; cases e; rfl
theorem own_isCells {w : World} {base : Nat} {e : TypeId} {v : Value} {n : Nat} {xs : List Value} (h : w.ownsRow base e 1 v n xs) : ∀ g, v.ownBlock = some g → ∃ cs t fr, w.heap[g]? = some (.cells cs t fr) := by
  intro g hg
  rcases h.2 with ⟨rfl, _⟩ | ⟨g', cap, cur, rfl, _, hh, _⟩
  · cases hg
  · simp [Value.ownBlock] at hg; subst hg; exact ⟨_, _, _, hh⟩
set_option maxRecDepth 100000 in
set_option maxHeartbeats 1000000 in
theorem Vars1_any (W : World) (n₀ Bo : Nat) (v : Value) (xs : List Int) (x : Int) (hB : n₀ ≤ Bo) (hbx : Boxed W Bo 42 v) (hown : W.ownsRow n₀ 3 1 v xs.length (xs.map (.int .i64))) (hs : xs.Pairwise (· ≤ ·)) (hlen : xs.length ≤ 999999)
    (hnil : xs = [] → v = .slice none 0 0) :
    Calls Tryd.prog 53 #[.int .i64 x, .pointer (some ⟨Bo, 0, none⟩)] W (InsPost n₀ Bo (insS x xs) W) := by
  have hc := hbx.cell
  have hf := hbx.frozen
  have hlt := hbx.lt
  have hvform : ∃ A n c, v = .slice A n c := by
    rcases hown.2 with ⟨rfl, _⟩ | ⟨g, cap, cur, rfl, _⟩
    · exact ⟨_, _, _, rfl⟩
    · exact ⟨_, _, _, rfl⟩
  obtain ⟨A, n, c, rfl⟩ := hvform
  by_cases hmem : x ∈ xs
  · have hy : insS x xs = xs := by unfold insS; rw [if_pos hmem]
    have hd : decide (x ∈ xs) = true := decide_eq_true hmem
    have Hy := Lib.hid hy; clear hy
    clear hmem
    go_enter Tryd.func53, Tryd.ntmps53
    go_wp2_with (go_at_call 54; refine (BinSearch_own _ n₀ _ xs x hown hs (by omega)).mono ?_; rintro e w' ⟨rfl, q, rfl⟩)
    refine bodyPost_end (results_none rfl _ _ _) rfl ?_
    rw [Hy.out]
    exact ⟨⟨_, rfl⟩, ⟨_, hbx, hown, hnil⟩, keeps_drewN _ _, ⟨rfl, rfl, rfl, Nat.le_refl _, fun _ _ => rfl⟩, fun b t u _ _ h => h⟩
  · have hy : insS x xs = insAt (xs.countP (· < x)) x xs := by unfold insS; rw [if_neg hmem]
    have hyl : (insS x xs).length = xs.length + 1 := by rw [hy, insAt_length _ _ _ (countP_le_len x xs)]
    have hcp := countP_le_len x xs
    have hd : decide (x ∈ xs) = false := decide_eq_false hmem
    clear hmem
    have Hy := Lib.hid hy; clear hy
    have Hyl := Lib.hid hyl; clear hyl
    generalize hk : xs.countP (· < x) = k at *
    have Hk := Lib.hid hk; clear hk
    have Hnil := Lib.hid hnil; clear hnil
    have hne : (Value.slice A n c).ownBlock ≠ some W.heap.size := fun e => by have := hown.lt _ e; omega
    go_enter Tryd.func53, Tryd.ntmps53
    go_wp2_with (go_at_call 54; refine (BinSearch_own _ n₀ _ xs x hown hs (by omega)).mono ?_; rintro e w' ⟨rfl, q, rfl⟩; rw [Hk.out])
    have hownq : (W.drewN q).ownsRow n₀ 3 1 (.slice A n c) xs.length (xs.map (.int .i64)) := hown
    refine (Insert_own _ n₀ _ xs k x W.heap.size (hownq.alloc _) hcp (by omega) (Boxed.new (W.drewN q) _ _) hne (by simp; omega)).mono ?_
    rintro e w1 ⟨v', rfl, hown1, hg1, hat1⟩
    have hbx1 : Boxed w1 Bo 42 (.slice A n c) := (hg1.block Bo (by simp; omega) (hbx.not_row (by decide) hown)).trans (hbx.alloc _)
    have hc1 := hbx1.cell
    have hf1 := hbx1.frozen
    obtain ⟨g', cap', rfl⟩ := ownsRow_succ hown1
    go_wp2
    refine bodyPost_end (results_none rfl _ _ _) rfl ?_
    have hbx2 := hbx1.set (.slice (some ⟨g', 0, none⟩) (xs.length + 1) cap')
    have hown2 := hown1.kept (grownBy_setCell' w1 Bo (.slice (some ⟨g', 0, none⟩) (xs.length + 1) cap')) (.inr (hbx1.not_row (by decide) hown1).symm)
    have hK : KeepsOthers W w1 := ((keeps_drewN W q).trans (KeepsOthers.alloc _ _)).trans (keeps_cells hg1 (own_isCells (hown.alloc _)))
    have hBl : Below n₀ W w1 := ((⟨rfl, rfl, rfl, Nat.le_refl _, fun _ _ => rfl⟩ : Below n₀ W (W.drewN q)).alloc (by simp; omega) _).grown hg1 (by simp; omega) (fun g e => (hown.lt g e).1)
    refine ⟨⟨_, rfl⟩, ⟨_, hbx2, ?_, ?_⟩, hK.trans (KeepsOthers.setCell _ _ _), hBl.setCell (p := ⟨Bo, 0, none⟩) hB _, fun b t u ht hb h => ?_⟩
    · rw [Hy.out] at Hyl ⊢
      rw [Hyl.out]; exact hown2
    · intro e
      have := Hyl.out
      rw [e] at this; simp at this
    · have h1 : Boxed w1 b t u := (hg1.block b (by simp; have := h.lt; omega) (h.not_row ht hown)).trans (h.alloc _)
      exact h1.other hb _
theorem insS_sorted (x : Int) (xs : List Int) (h : xs.Pairwise (· < ·)) : (insS x xs).Pairwise (· < ·) ∧ ∀ y, y ∈ insS x xs ↔ y = x ∨ y ∈ xs := by
  unfold insS
  by_cases hm : x ∈ xs
  · rw [if_pos hm]
    exact ⟨h, fun y => ⟨.inr, fun hy => by rcases hy with rfl | hy <;> assumption⟩⟩
  · rw [if_neg hm]
    induction xs with
    | nil => simp [insAt]
    | cons a t ih =>
      obtain ⟨h1, h2⟩ := List.pairwise_cons.1 h
      have hxa : x ≠ a := fun e => hm (by rw [e]; simp)
      have hxt : x ∉ t := fun e => hm (by simp [e])
      by_cases hax : a < x
      · have hc : (a :: t).countP (· < x) = t.countP (· < x) + 1 := by rw [List.countP_cons]; simp [hax]
        have hi : insAt ((a :: t).countP (· < x)) x (a :: t) = a :: insAt (t.countP (· < x)) x t := by rw [hc]; simp [insAt]
        rw [hi]
        obtain ⟨i1, i2⟩ := ih h2 hxt
        refine ⟨List.pairwise_cons.2 ⟨fun y hy => ?_, i1⟩, fun y => ?_⟩
        · rcases (i2 y).1 hy with rfl | hy
          · exact hax
          · exact h1 y hy
        · simp only [List.mem_cons, i2 y]
          constructor
          · rintro (h | h | h) <;> simp [h]
          · rintro (h | h | h) <;> simp [h]
      · have hc : (a :: t).countP (· < x) = 0 := by
          rw [List.countP_eq_zero]
          intro y hy
          simp only [decide_eq_true_eq]
          rcases List.mem_cons.1 hy with rfl | hy
          · exact hax
          · have := h1 y hy; omega
        rw [hc]
        have hi : insAt 0 x (a :: t) = x :: a :: t := rfl
        rw [hi]
        refine ⟨List.pairwise_cons.2 ⟨fun y hy => ?_, h⟩, fun y => by simp⟩
        rcases List.mem_cons.1 hy with rfl | hy
        · omega
        · have := h1 y hy; omega
/-- The variables of a list, each once, in order. -/
def vset (l : List Int) : List Int := l.foldl (fun a x => insS x a) []
theorem vset_snoc (l : List Int) (x : Int) : vset (l ++ [x]) = insS x (vset l) := by unfold vset; rw [List.foldl_append]; rfl
theorem vset_sorted : ∀ (k : Nat) (l : List Int), l.length = k → (vset l).Pairwise (· < ·) ∧ (∀ y, y ∈ vset l ↔ y ∈ l) ∧ (vset l).length ≤ l.length := by
  intro k
  induction k with
  | zero =>
    intro l hl
    have : l = [] := List.eq_nil_of_length_eq_zero hl
    subst this; simp [vset]
  | succ k ih =>
    intro l hl
    have hne : l ≠ [] := by intro e; subst e; simp at hl
    obtain ⟨t, x, rfl⟩ : ∃ t x, l = t ++ [x] := ⟨l.dropLast, l.getLast hne, (List.dropLast_concat_getLast hne).symm⟩
    obtain ⟨h1, h2, h3⟩ := ih t (by simpa using hl)
    obtain ⟨i1, i2⟩ := insS_sorted x (vset t) h1
    rw [vset_snoc]
    refine ⟨i1, fun y => ?_, ?_⟩
    · rw [i2 y, h2 y]; simp; exact Or.comm
    · have := insS_len x (vset t); simp; omega
theorem vset_le (l : List Int) : (vset l).Pairwise (· ≤ ·) := (vset_sorted _ l rfl).1.imp (fun h => Int.le_of_lt h)
/-- What lits.Vars returns: a row of the call's own that holds the variables; nil if there are none. -/
def VarsPost (w : World) (ys : List Int) (e : Ending) (w' : World) : Prop :=
  ∃ v, e = .returned v ∧ w'.ownsRow w.heap.size 3 1 v ys.length (ys.map (.int .i64)) ∧ (ys = [] → v = .slice none 0 0) ∧ Below w.heap.size w w'
set_option maxRecDepth 100000 in
set_option maxHeartbeats 1000000 in
theorem Vars_any (v : Value) (zs : List Int) (hlen : zs.length ≤ 900000) (w : World) (hI : RdI w.heap.size w v zs) :
    Calls Tryd.prog 28 #[v] w (VarsPost w (vset (vl zs))) := by
  refine (callsIn_wide (n := 5)).1 ?_
  obtain ⟨A, m, c, rfl⟩ := hI.form
  refine callsIn_of_wp_marks Tryd.func28 rfl trivial ?_ rfl
  simp only [Tryd.ntmps28, List.size_toArray, List.length_cons, List.length_nil, Nat.reduceAdd, Nat.reduceSub, Array.replicate_succ, Array.replicate_zero, List.push_toArray, List.append_toArray, List.nil_append, List.cons_append]
  gi_wp2_with (refine ⟨trivial, ?_⟩; gi_at_call 52; refine (callsIn_wide.2 (variables_any _ _ ⟨_, _, _, rfl⟩)).mono ?_; rintro e w' ⟨rfl, rfl⟩)
  have hb0 := (Boxed.new w 42 (.slice none 0 0)).alloc (.cells #[.func (.func 53) #[] #[.pointer (some ⟨w.heap.size, 0, none⟩)]] 75)
  have hb1 := Boxed.new (w.alloc (.cells #[.slice none 0 0] 42)) 75 (.func (.func 53) #[] #[.pointer (some ⟨w.heap.size, 0, none⟩)])
  rw [World.size_alloc] at hb1
  have hb2 := (Boxed.new ((w.alloc (.cells #[.slice none 0 0] 42)).alloc (.cells #[.func (.func 53) #[] #[.pointer (some ⟨w.heap.size, 0, none⟩)]] 75)) 43 (.slice A m c)).cell
  simp only [World.size_alloc] at hb2
  have hBl : Below w.heap.size w (((w.alloc (.cells #[.slice none 0 0] 42)).alloc (.cells #[.func (.func 53) #[] #[.pointer (some ⟨w.heap.size, 0, none⟩)]] 75)).alloc (.cells #[.slice A m c] 43)) :=
    (((Below.refl _ w).alloc (Nat.le_refl _) _).alloc (by simp) _).alloc (by simp; omega) _
  have hI2 := hI.below hBl
  refine wpIn_rangeFunc_ownF rfl (by omega) (gf := 67) (lb := #[.pointer (some ⟨w.heap.size + 1 + 1, 0, none⟩)]) rfl trivial (enters_of Tryd.func67 (by kernel_rfl) rfl)
    (vars_stops _ (by omega) (w.heap.size + 1 + 1) w.heap.size (.slice A m c) zs (by omega) _ (by simp) (by simp; omega) hb2 hI2) belowK_t (belowK_b (by simp; omega)) (Below.refl _ _) (fun _ => rfl)
    (fun pre W => ((∃ v, Boxed W w.heap.size 42 v ∧ W.ownsRow w.heap.size 3 1 v (vset pre).length ((vset pre).map (.int .i64)) ∧ (vset pre = [] → v = .slice none 0 0)) ∧
      Boxed W (w.heap.size + 1) 75 (.func (.func 53) #[] #[.pointer (some ⟨w.heap.size, 0, none⟩)])) ∧ Below w.heap.size w W)
    (fun _ _ _ => False)
    (OwnFrom.and (OwnFrom.and (Own.from (holdsRow_own w.heap.size w.heap.size 42 3 1 (fun pre => (vset pre).length) (fun pre => (vset pre).map (.int .i64)) (fun pre v => vset pre = [] → v = .slice none 0 0)) _) (Own.from (boxed_own _ _ _) _)) (ownFrom_below (Nat.le_refl _) (by simp; omega)))
    (fun _ _ _ _ _ hs _ _ => hs)
    ⟨⟨⟨_, hb0.alloc _, World.ownsRow_nil _ _ _ _, fun _ => rfl⟩, hb1.alloc _⟩, hBl⟩
    (fun x => { tmps := #[.slice A m c, undef, .slice none 0 0, .pointer (some ⟨w.heap.size, 0, none⟩), .pointer (some ⟨w.heap.size + 1, 0, none⟩), .int .i64 x, .func (.func 53) #[] #[.pointer (some ⟨w.heap.size, 0, none⟩)], .slice A m c, .func (.func 67) #[] #[.pointer (some ⟨w.heap.size + 1 + 1, 0, none⟩)], .int .i64 x, undef, undef, undef, undef], defers := [] }) ?assign ?body ?done ?stop
  case assign =>
    intro l x W K hK
    gi_wp2
    exact hK
  case body =>
    rintro l pre x W ⟨⟨⟨v, hv, hown, hnil⟩, hfb⟩, hB⟩ hpre
    have hc := hfb.cell
    have hvl := (vset_sorted _ pre rfl).2.2
    have hs := vset_le pre
    have hsn := vset_snoc pre x
    have Hsn := Lib.hid hsn; clear hsn
    gi_wp2_with (refine ⟨trivial, ?_⟩; gi_at_call 53; refine (CallsIn.inRound l (callsIn_wide.2 (Vars1_any W w.heap.size w.heap.size v (vset pre) x (Nat.le_refl _) hv hown hs (by omega) hnil))).mono ?_; rintro e w' ⟨⟨u, rfl⟩, hpost⟩)
    obtain ⟨⟨v', hv', hown', hnil'⟩, hK', hB', hfr⟩ := hpost
    exact ⟨hK', hB', ⟨⟨v', hv', by rw [Hsn.out]; exact hown', by rw [Hsn.out]; exact hnil'⟩, hfr _ _ _ (by decide) (by omega) hfb⟩, hB.trans hB'⟩
  case done =>
    rintro D ys W hD rfl ⟨⟨⟨v, hv, hown, hnil⟩, hfb⟩, hB⟩ hK
    have hc := hv.cell
    have hvform : ∃ A n c, v = .slice A n c := by
      rcases hown.2 with ⟨rfl, _⟩ | ⟨g, cap, cur, rfl, _⟩
      · exact ⟨_, _, _, rfl⟩
      · exact ⟨_, _, _, rfl⟩
    obtain ⟨A', n', c', rfl⟩ := hvform
    have Hnil := Lib.hid hnil; clear hnil
    gi_wp2
    refine ⟨by simp, .inl ⟨_, _, rfl, run_takeDeferred hK, ?_⟩⟩
    refine ⟨_, results_tmp rfl _ _ _, ?_⟩
    exact ⟨.slice A' n' c', rfl, ownsRow_putObj hown _ hK rfl, Hnil.out, hB.trans (belowK_b (w := w) (Nat.le_refl _) W D _ _ (by simp at hD; omega) hK rfl rfl)⟩
  case stop =>
    rintro D c pre W hD _ h _
    exact h.elim
end Go.Proofs.YthpdndkfdiphmaaDoor
