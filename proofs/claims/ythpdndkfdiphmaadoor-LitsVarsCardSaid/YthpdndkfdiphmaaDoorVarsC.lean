/- Contracts for LitsVars: slices.Values, AppendSeq, Collect, Sort, Sorted; Clone and Compact of ints; IsSorted; Contains; Clone of literals; what the law makes of a list. -/
import Derived.Test.YthpdndkfdiphmaaDoorConcat
import Derived.Test.YthpdndkfdiphmaaDoorVarsPl
import Derived.Test.YthpdndkfdiphmaaDoorAwake
import Derived.Test.YthpdndkfdiphmaaDoorWNeg
import Derived.Deep.QuietTactic
import Derived.BigQuiet
import Derived.IntWalk
import Derived.RangeFuncBox
import Derived.RangeFuncFrom
import Derived.RangeFuncNested
import Derived.OwnWalkIn
import Derived.Maps.OwnIn
import Derived.TacticsInMore
namespace Go.Proofs.YthpdndkfdiphmaaDoor
open Go Go.RowKit
open Go.Sort Go.Lib Go.Shelf
attribute [local go_sem] Oper.semAt_some
theorem rdI_form {n₀ : Nat} {W : World} {sv : Value} {zs : List Int} (h : RdI n₀ W sv zs) : ∃ A c, sv = .slice A zs.length c := by
  obtain ⟨A, c, e, _⟩ := h; exact ⟨A, c, e⟩
theorem own_nilform {w : World} {base n : Nat} {e : TypeId} {v : Value} {xs : List Value} (h : w.ownsRow base e 1 v n xs) : ∃ A c, v = .slice A n c ∧ (A = none → c = 0) := by
  rcases h.2 with ⟨rfl, h0⟩ | ⟨g, cap, cur, rfl, _⟩
  · exact ⟨none, 0, by rw [h0], fun _ => rfl⟩
  · exact ⟨_, _, rfl, fun h => by cases h⟩
theorem own_keep {w w' : World} {base n : Nat} {e : TypeId} {v : Value} {xs : List Value} (h : w.ownsRow base e 1 v n xs) (hb : RowKit.Below w.heap.size w w') : w'.ownsRow base e 1 v n xs := by
  refine ⟨h.1, ?_⟩
  rcases h.2 with hn | ⟨g, cap, cur, rfl, hg, hgg, rest⟩
  · exact .inl hn
  · exact .inr ⟨g, cap, cur, rfl, hg, (hb.block g (Array.getElem?_eq_some_iff.1 hgg).1).trans hgg, rest⟩
theorem own_weak {w : World} {base base' n : Nat} {e : TypeId} {v : Value} {xs : List Value} (hb : base' ≤ base) (h : w.ownsRow base e 1 v n xs) : w.ownsRow base' e 1 v n xs := by
  refine ⟨h.1, ?_⟩
  rcases h.2 with hn | ⟨g, cap, cur, rfl, hg, rest⟩
  · exact .inl hn
  · exact .inr ⟨g, cap, cur, rfl, Nat.le_trans hb hg, rest⟩
theorem own_at {w w' : World} {base n : Nat} {e : TypeId} {v : Value} {xs : List Value} (h : w.ownsRow base e 1 v n xs) (hk : ∀ g, v.ownBlock = some g → w'.heap[g]? = w.heap[g]?) : w'.ownsRow base e 1 v n xs := by
  refine ⟨h.1, ?_⟩
  rcases h.2 with hn | ⟨g, cap, cur, rfl, hb, hgg, rest⟩
  · exact .inl hn
  · exact .inr ⟨g, cap, cur, rfl, hb, (hk g rfl).trans hgg, rest⟩
/-- slices.Values: the slice is boxed; the function value captures the box. -/
theorem values_any (v : Value) (w : World) (hv : ∃ A n c, v = .slice A n c) :
    Calls Tryd.prog 37 #[v] w fun e w' => e = .returned (.func (.func 59) #[] #[.pointer (some ⟨w.heap.size, 0, none⟩)]) ∧ w' = w.alloc (.cells #[v] 42) := by
  obtain ⟨A, n, c, rfl⟩ := hv
  go_enter Tryd.func37, Tryd.ntmps37
  go_wp2
  go_ret
  exact ⟨rfl, rfl⟩
set_option maxRecDepth 100000 in
set_option maxHeartbeats 1000000 in
theorem values1_in (n : Nat) (hn : 1 ≤ n) (l Bs n₀ b off cap : Nat) (zs : List Int) (hlen : zs.length ≤ 1000000) (hb : b < n₀) (J Jx : List Int → World → Prop)
    (hY : ∀ pre x W, J pre W → pre.length < zs.length → YieldAt Fence.wide (n - 1) Tryd.prog l #[.int .i64 x] W fun e W' =>
      (e = .returned (.bool true) ∧ J (pre ++ [x]) W' ∧ RowKit.Below n₀ W W') ∨ (e = .returned (.bool false) ∧ Jx (pre ++ [x]) W'))
    (W : World) (hBs : W.cell? ⟨Bs, 0, none⟩ = some (.slice (some ⟨b, off, none⟩) zs.length cap)) (hc : ∀ j, j < zs.length → W.cell? ⟨b, off + j, none⟩ = some (.int .i64 (zs[j]?.getD 0))) (h0 : J [] W) :
    CallsIn Fence.wide n Tryd.prog 59 #[.func (.yield l) #[] #[], .pointer (some ⟨Bs, 0, none⟩)] W fun e W' => (∃ v, e = .returned v) ∧
      ((∃ ys, ys = zs ∧ J ys W') ∨ (∃ pre, pre <+: zs ∧ Jx pre W')) := by
  refine callsIn_of_wp Tryd.func59 rfl trivial ?_ rfl
  simp only [Tryd.ntmps59, List.size_toArray, List.length_cons, List.length_nil, Nat.reduceAdd, Nat.reduceSub, Array.replicate_succ, Array.replicate_zero, List.push_toArray, List.append_toArray, List.nil_append, List.cons_append]
  gi_wp2
  gi_loopw [7] (fun i wr => ∃ k : Nat, k ≤ zs.length ∧ i = .int .i64 k ∧ J (zs.take k) wr ∧ RowKit.Below n₀ W wr)
    (fun i _ => zs.length - (intOf i).toNat)
  case atStart => exact ⟨0, Nat.zero_le _, rfl, h0, RowKit.Below.refl _ _⟩
  case round =>
    obtain ⟨k, hk, rfl, hJs, hnx⟩ := hrel
    by_cases hlt : k < zs.length
    · have hcx := (hnx.cell (p := ⟨b, off + k, none⟩) hb).trans (hc k hlt)
      have hs : zs.take (k + 1) = zs.take k ++ [zs[k]?.getD 0] := by
        rw [List.take_succ_eq_append_getElem hlt]; simp [hlt]
      have hle : (zs.take k).length ≤ k := List.length_take_le _ _
      generalize hx : zs[k]?.getD 0 = x at *
      have Hx := Lib.hid hx; clear hx
      have Hs := Lib.hid hs; clear hs
      obtain ⟨fn, tmps, assign, body, hy, hRd⟩ := hY _ x wr hJs (by omega)
      gi_wp2
      refine hRd.mono ?_
      rintro e W3 (⟨rfl, hJ3, hk3⟩ | ⟨rfl, hJx3⟩)
      · gi_wp2
        go_roundw
        case rel => exact ⟨k + 1, by omega, by simp, by rw [Hs.out]; exact hJ3, hnx.trans hk3⟩
        case measure => simp [intOf]; omega
      · gi_wp2
        refine bodyPost_ret (results_none rfl _ _ _) rfl ?_
        exact ⟨⟨_, rfl⟩, .inr ⟨_, by rw [← Hs.out]; exact List.take_prefix _ _, hJx3⟩⟩
    · obtain rfl : k = zs.length := by omega
      gi_wp2
      go_end0
      exact ⟨⟨_, rfl⟩, .inl ⟨_, rfl, by rw [List.take_length] at hJs; exact hJs⟩⟩
set_option maxRecDepth 100000 in
set_option maxHeartbeats 1000000 in
theorem values1_nil_in (n : Nat) (l Bs : Nat) (A : Option Addr) (cap : Nat) (J : List Int → World → Prop) (W : World) (hBs : W.cell? ⟨Bs, 0, none⟩ = some (.slice A 0 cap)) (h0 : J [] W) :
    CallsIn Fence.wide n Tryd.prog 59 #[.func (.yield l) #[] #[], .pointer (some ⟨Bs, 0, none⟩)] W fun e W' => (∃ v, e = .returned v) ∧ J [] W' := by
  refine callsIn_of_wp Tryd.func59 rfl trivial ?_ rfl
  simp only [Tryd.ntmps59, List.size_toArray, List.length_cons, List.length_nil, Nat.reduceAdd, Nat.reduceSub, Array.replicate_succ, Array.replicate_zero, List.push_toArray, List.append_toArray, List.nil_append, List.cons_append]
  gi_wp2
  gi_loopw [7] (fun i wr => i = .int .i64 0 ∧ J [] wr) (fun _ _ => 0)
  case atStart => exact ⟨rfl, h0⟩
  case round =>
    obtain ⟨rfl, hJs⟩ := hrel
    gi_wp2
    go_end0
    exact ⟨⟨_, rfl⟩, hJs⟩
theorem values_stops (n : Nat) (hn : 1 ≤ n) (Bs n₀ : Nat) (sv : Value) (zs : List Int) (hlen : zs.length ≤ 1000000) (w : World) (hBs : Bs < w.heap.size) (hn₀ : n₀ ≤ w.heap.size)
    (hc : w.cell? ⟨Bs, 0, none⟩ = some sv) (hI : RdI n₀ w sv zs) :
    SeqStopsK Fence.wide n Tryd.prog 59 #[.pointer (some ⟨Bs, 0, none⟩)] (fun x : Int => #[Value.int .i64 x]) (RowKit.Below n₀) (fun ys => ys = zs) (fun pre => pre <+: zs) zs.length w := fun l J Jx W hW _ _ hY h0 => by
  have hc' := (hW.cell (p := ⟨Bs, 0, none⟩) hBs).trans hc
  obtain ⟨A, cap, rfl, _, hr⟩ := hI.below (hW.mono hn₀)
  by_cases hz : 0 < zs.length
  · obtain ⟨b, off, rfl, hb, hcell⟩ := hr hz
    exact values1_in n hn l Bs n₀ b off cap zs hlen hb J Jx hY W hc' hcell h0
  · have hz0 : zs = [] := List.eq_nil_of_length_eq_zero (by omega)
    subst hz0
    exact (values1_nil_in n l Bs A cap J W hc' h0).mono fun e W' ⟨he, hj⟩ => ⟨he, .inl ⟨_, rfl, hj⟩⟩
theorem cell_one (W : World) (x : Value) (t : TypeId) : ∀ j u, [x][j]? = some u → (W.alloc (.cells #[x] t)).cell? ((⟨W.heap.size, 0, none⟩ : Addr).add j) = some u := by
  intro j u hj
  match j, hj with
  | 0, hj => simp at hj; subst hj; simp [Addr.add]
set_option maxRecDepth 100000 in
set_option maxHeartbeats 1000000 in
theorem appendSeq_any (w : World) (Bs : Nat) (sv : Value) (zs : List Int) (hlen : zs.length ≤ 900000) (hBs : Bs < w.heap.size) (hcb : w.cell? ⟨Bs, 0, none⟩ = some sv) (hI : RdI w.heap.size w sv zs) :
    Calls Tryd.prog 71 #[.slice none 0 0, .func (.func 59) #[] #[.pointer (some ⟨Bs, 0, none⟩)]] w fun e w' => ∃ v, e = .returned v ∧ w'.ownsRow w.heap.size 3 1 v zs.length (zs.map (.int .i64)) ∧ RowKit.Below w.heap.size w w' := by
  refine (callsIn_wide (n := 5)).1 ?_
  obtain ⟨i0, hi, hz0, hz1, hz2⟩ := info_parts int_info
  refine callsIn_of_wp_marks Tryd.func71 rfl trivial ?_ rfl
  simp only [Tryd.ntmps71, List.size_toArray, List.length_cons, List.length_nil, Nat.reduceAdd, Nat.reduceSub, Array.replicate_succ, Array.replicate_zero, List.push_toArray, List.append_toArray, List.nil_append, List.cons_append]
  gi_wp2
  have hbx0 := Boxed.new w 42 (.slice none 0 0)
  have hBl : RowKit.Below w.heap.size w (w.alloc (.cells #[.slice none 0 0] 42)) := (RowKit.Below.refl _ w).alloc (Nat.le_refl _) _
  have hI2 := hI.below hBl
  have hcb2 := (hBl.cell (p := ⟨Bs, 0, none⟩) hBs).trans hcb
  refine wpIn_rangeFunc_ownF rfl (by omega) (gf := 59) (lb := #[.pointer (some ⟨Bs, 0, none⟩)]) rfl trivial (enters_of Tryd.func59 (by kernel_rfl) rfl)
    (values_stops _ (by omega) Bs w.heap.size sv zs (by omega) _ (by simp; omega) (by simp) hcb2 hI2) belowK_t (belowK_b (by simp)) (RowKit.Below.refl _ _) (fun _ => rfl)
    (fun pre W => (∃ v, Boxed W w.heap.size 42 v ∧ W.ownsRow (w.heap.size + 1) 3 1 v pre.length (pre.map (.int .i64)) ∧ True) ∧ RowKit.Below w.heap.size w W)
    (fun _ _ _ => False)
    (OwnFrom.and (Own.from (holdsRow_own _ _ _ _ _ _ _ (fun _ _ => True)) _) (ownFrom_below (Nat.le_refl _) (by simp)))
    (fun _ _ _ _ _ hs _ _ => hs)
    ⟨⟨_, hbx0, World.ownsRow_nil _ _ _ _, trivial⟩, hBl⟩
    (fun x => { tmps := #[.slice none 0 0, .func (.func 59) #[] #[.pointer (some ⟨Bs, 0, none⟩)], .pointer (some ⟨w.heap.size, 0, none⟩), undef, .slice none 0 0, .int .i64 x, .func (.func 59) #[] #[.pointer (some ⟨Bs, 0, none⟩)], .int .i64 x, undef, undef, undef, undef, undef], defers := [] }) ?assign ?body ?done ?stop
  case assign =>
    intro l x W K hK
    gi_wp2
    exact hK
  case body =>
    rintro l pre x W ⟨⟨v, hbx, hown, _⟩, hB⟩ hpre
    have hc := hbx.cell
    have hf := hbx.frozen
    have hne : v.ownBlock ≠ some w.heap.size := fun e => by have := (hown.lt _ e).1; omega
    have hcell := cell_one W (.int .i64 x) 3
    have hsz := hB.size
    obtain ⟨A, cc, rfl, -⟩ := own_nilform hown
    gi_wp2_with (gi_at_builtin; refine wpListIn_append_own_at _ rfl _ _ 42 rfl (w.heap.size + 1) 3 i0 (.int .i64 0) 1 8 Tryd.underlying42 hi hz0 hz1 hz2 rfl (by decide) _ _ _ rfl (hown.alloc _) ⟨W.heap.size, 0, none⟩ 1 1 [.int .i64 x] rfl rfl hcell (by simp [Value.oneCell']) (by simp only [maxLen]; omega) (by omega) (by simp; omega) ?_; intro v' w2 hown2 hg2 _ hat2; obtain ⟨g', cap', rfl⟩ := ownsRow_succ hown2; have hbx1 : Boxed w2 w.heap.size 42 (.slice A pre.length cc) := (hbx.alloc _).kept hg2 (fun e => hne e.symm); have hc1 := hbx1.cell; have hf1 := hbx1.frozen)
    obtain ⟨_, hv2, _, hk2, hb2⟩ := hbx.appended (by decide) (own_weak (Nat.le_succ _) hown) hB.size (Nat.le_refl _) (own_weak (Nat.le_succ _) hown2) hg2
    have hrow2 := own_at hown2 (w' := w2.setCell ⟨w.heap.size, 0, none⟩ (.slice (some ⟨g', 0, none⟩) (pre.length + 1) cap')) (fun g hg => RowKit.Below.heap_setCell _ _ _ _ (fun e => by have := (hown2.lt g hg).1; simp at e; omega))
    refine ⟨hk2, hb2, ⟨_, hv2, ?_, trivial⟩, hB.trans hb2⟩
    rw [List.map_append, List.length_append]
    exact hrow2
  case done =>
    rintro D ys W hD rfl ⟨⟨v, hbx, hown, _⟩, hB⟩ hK
    have hc := hbx.cell
    obtain ⟨A, cc, rfl, -⟩ := own_nilform hown
    gi_wp2
    refine ⟨by simp, .inl ⟨_, _, rfl, run_takeDeferred hK, ?_⟩⟩
    exact ⟨_, results_tmp rfl _ _ _, _, rfl, ownsRow_putObj (own_weak (Nat.le_succ _) hown) _ hK rfl, hB.trans (belowK_b (w := w) (Nat.le_refl _) W D _ _ (by simp at hD; omega) hK rfl rfl)⟩
  case stop =>
    rintro D c pre W hD _ h _
    exact h.elim
theorem SortInt_own (w : World) (base : Nat) (v : Value) (xs : List Int) (hown : w.ownsRow base 3 1 v xs.length (xs.map (.int .i64))) (h1 : xs.length ≤ 1000000) :
    Calls Tryd.prog 58 #[v] w fun e w' => e = .returned (.tuple #[]) ∧ w'.ownsRow base 3 1 v xs.length ((sortZ xs).map (.int .i64)) ∧ w.grownBy w' v.ownBlock := by
  have hso := hown.2
  rcases hso with ⟨rfl, hz⟩ | ⟨g, cap, cur, rfl, hb, hg, hn, hcap, hcs, htk⟩
  · have hx0 : xs = [] := List.eq_nil_of_length_eq_zero hz
    subst hx0
    refine (Tryd.slices_Sort_int_none none 0 w).mono ?_
    rintro e w' ⟨rfl, rfl⟩
    have e0 : sortZ [] = [] := by simp [sortZ]
    rw [e0]
    exact ⟨rfl, hown, ⟨rfl, rfl, rfl, Nat.le_refl _, fun _ _ _ => rfl⟩⟩
  · have hlt : g < w.heap.size := (Array.getElem?_eq_some_iff.1 hg).1
    have hH : Holds (Value.int .i64) w g 0 xs.toArray := by
      intro j hj
      have hj' : j < xs.length := by simpa using hj
      refine ⟨?_, by simp [World.frozen?, hg]⟩
      rw [Nat.zero_add, hown.cellAt j (by omega), List.getElem?_map]
      simp [hj']
    refine (Tryd.slices_Sort_int g 0 cap xs w hH hlt (by omega)).mono ?_
    rintro e w' ⟨rfl, n, os, rfl⟩
    have hsl : (sortZ xs).length = xs.length := by simp [sortZ]
    have hheap : (grow (putRow (Value.int .i64) (Sort.ahead w n) g 0 (sortZ xs).toArray) os).heap[g]? = some (.cells (putCells (Value.int .i64) 0 (sortZ xs).toArray cur) 3 (0, 0)) := by
      rw [heap_grow_old _ _ (by simpa using hlt)]
      simp [putRow, mapBlock, Sort.ahead, Array.getElem?_modify, hg, onCells]
    refine ⟨rfl, ⟨by simp [hsl], .inr ⟨g, cap, _, rfl, hb, hheap, hn, hcap, by simp [putCells, hcs], ?_⟩⟩, ⟨rfl, rfl, rfl, by simp, fun i hi hne => ?_⟩⟩
    · apply List.ext_getElem?
      intro j
      rw [Nat.mul_one]
      by_cases hj : j < xs.length
      · rw [List.getElem?_take_of_lt hj, Array.getElem?_toList]
        simp [putCells, hsl, hj, show j < cur.size by omega]
      · rw [List.getElem?_take_eq_none (by omega), List.getElem?_eq_none (by simp [hsl]; omega)]
    · rw [heap_grow_old _ _ (by simpa using hi)]
      have : g ≠ i := fun e => hne (by simp [Value.ownBlock, e])
      simp [putRow, mapBlock, Sort.ahead, Array.getElem?_modify, this]
set_option maxRecDepth 100000 in
theorem collect_any (w : World) (Bs : Nat) (sv : Value) (zs : List Int) (hlen : zs.length ≤ 900000) (hBs : Bs < w.heap.size) (hcb : w.cell? ⟨Bs, 0, none⟩ = some sv) (hI : RdI w.heap.size w sv zs) :
    Calls Tryd.prog 57 #[.func (.func 59) #[] #[.pointer (some ⟨Bs, 0, none⟩)]] w fun e w' => ∃ v, e = .returned v ∧ w'.ownsRow w.heap.size 3 1 v zs.length (zs.map (.int .i64)) ∧ RowKit.Below w.heap.size w w' := by
  have HA := Lib.hid (appendSeq_any w Bs sv zs hlen hBs hcb hI)
  clear hcb hI
  go_enter Tryd.func57, Tryd.ntmps57
  go_wp2_with fail
  refine HA.out.mono ?_
  rintro e w1 ⟨v, rfl, hown, hb⟩
  have HO := Lib.hid hown
  clear hown
  go_wp2_with fail
  go_ret
  exact ⟨_, rfl, HO.out, hb⟩
set_option maxRecDepth 100000 in
theorem sorted_any (w : World) (Bs : Nat) (sv : Value) (zs : List Int) (hlen : zs.length ≤ 900000) (hBs : Bs < w.heap.size) (hcb : w.cell? ⟨Bs, 0, none⟩ = some sv) (hI : RdI w.heap.size w sv zs) :
    Calls Tryd.prog 36 #[.func (.func 59) #[] #[.pointer (some ⟨Bs, 0, none⟩)]] w fun e w' => ∃ v, e = .returned v ∧ w'.ownsRow w.heap.size 3 1 v zs.length ((sortZ zs).map (.int .i64)) ∧ RowKit.Below w.heap.size w w' := by
  have HA := Lib.hid (collect_any w Bs sv zs hlen hBs hcb hI)
  clear hcb hI
  go_enter Tryd.func36, Tryd.ntmps36
  go_wp2_with fail
  refine HA.out.mono ?_
  rintro e w1 ⟨v, rfl, hown, hb⟩
  have HO := Lib.hid hown
  clear hown
  go_wp2_with fail
  refine (SortInt_own w1 w.heap.size v zs HO.out (by omega)).mono ?_
  rintro e w2 ⟨rfl, hown2, hg⟩
  have HO2 := Lib.hid hown2
  have hb2 : RowKit.Below w.heap.size w w2 := hb.grown hg hb.size (fun k hk => (HO.out.lt k hk).1)
  clear hown2 hg
  go_wp2_with fail
  go_ret
  exact ⟨_, rfl, HO2.out, hb2⟩
theorem less_not (a b : Int) (h : b ≤ a) (w : World) : Calls Tryd.prog 61 #[.int .i64 a, .int .i64 b] w fun e w' => e = .returned (.bool false) ∧ w' = w := by
  have := Tryd.cmp_Less_int2 a b w
  refine this.mono fun e w' ⟨he, hw⟩ => ⟨?_, hw⟩
  rw [he]
  have : decide (a < b) = false := by simp; omega
  first | rw [this] | simp [this] | (simp; omega)
set_option maxRecDepth 1000000 in
set_option maxHeartbeats 1000000 in
theorem isSorted_yes (w : World) (B : Nat) (u : Value) (zs : List Int) (hu : RdI B w u zs) (hl : zs.length ≤ 1000000) (hs : ∀ k, k + 1 < zs.length → zs[k]?.getD 0 ≤ zs[k + 1]?.getD 0) :
    Calls Tryd.prog 39 #[u] w fun e w' => e = .returned (.bool true) ∧ ∃ q, w' = w.drewN q := by
  obtain ⟨A, c, rfl, hc, hr⟩ := hu
  have HS := Lib.hid hs; clear hs
  go_enter Tryd.func39, Tryd.ntmps39
  go_wp2_with fail
  go_loopw [3] (fun i wr => ∃ (k q : Nat), k ≤ zs.length ∧ i = .int .i64 ((k : Int) - 1) ∧ wr = w.drewN q) (fun i _ => (intOf i).toNat)
  case atStart => exact ⟨zs.length, 0, Nat.le_refl _, rfl, rfl⟩
  case round =>
    obtain ⟨k, q, hk, rfl, rfl⟩ := hrel
    by_cases hlt : 1 < k
    · obtain ⟨b, off, rfl, hb, hcell⟩ := hr (by omega)
      obtain ⟨j, rfl⟩ : ∃ j, k = j + 2 := ⟨k - 2, by omega⟩
      have h1 := hcell (j + 1) (by omega)
      have h2 := hcell j (by omega)
      have hle := HS.out j (by omega)
      replace h1 : (w.drewN q).cell? ⟨b, off + (j + 1), none⟩ = _ := h1
      replace h2 : (w.drewN q).cell? ⟨b, off + j, none⟩ = _ := h2
      generalize hwq : w.drewN q = wq at *
      have HWQ := Lib.hid hwq; clear hwq
      generalize zs[j]?.getD 0 = x at *
      generalize zs[j + 1]?.getD 0 = y at *
      clear hcell hr
      have e1 : ((j + 2 : Nat) : Int) - 1 = (j : Int) + 1 := by omega
      rw [e1]
      have e2 : (j : Int) + 1 - 1 = (j : Int) := by omega
      have E1 := Lib.hid e1; clear e1
      have hj0 : (0 : Int) ≤ (j : Int) := Int.natCast_nonneg _
      have hj1 : (j : Int) + 1 < (zs.length : Int) := by omega
      have hj2 : (j : Int) < (zs.length : Int) := by omega
      have hw := IntWalk.i64_in ((j : Int) + 1 - 1) (by omega)
      rw [e2] at hw
      have hL := less_not y x hle
      have HL := Lib.hid hL
      clear hL hle
      have E2 := Lib.hid e2; clear e2
      have n1 : (0 : Int) ≤ (j : Int) + 1 := by omega
      have n2 : ((j : Int) + 1).toNat = j + 1 := by omega
      go_wp2_with fail
      go_quiet ((go_at_call 61; exact Calls.quiet_of_same (HL.out _)))
      clear n2 hw
      go_wp2_with fail
      go_roundw
      case rel => exact ⟨j + 1, q + _, by omega, by rw [show ((j + 1 : Nat) : Int) - 1 = (j : Int) by omega], by rw [← HWQ.out, World.drewN_drewN]⟩
      case measure => simp [intOf]
    · have h1 : ¬ (0 : Int) < (k : Int) - 1 := by omega
      go_wp2_with fail
      go_ret
      exact ⟨rfl, q, rfl⟩
theorem ContainsInt_any (w : World) (B : Nat) (u : Value) (xs : List Int) (x : Int) (hx : RdI B w u xs) (h1 : xs.length ≤ 1000000) :
    Calls Tryd.prog 41 #[u, .int .i64 x] w fun e w' => e = .returned (.bool (xs.contains x)) ∧ w = w' := by
  obtain ⟨A, c, rfl, hc, hr⟩ := hx
  by_cases h0 : 0 < xs.length
  · obtain ⟨b, o, rfl, hb, hcell⟩ := hr h0
    have := Tryd.slices_Contains_int b o xs.length c xs x w (Nat.le_refl _) (by omega) (fun j hj => by rw [hcell j hj]; simp)
    rw [List.take_length] at this
    exact this.mono fun e w' ⟨he, hw⟩ => ⟨he, hw.symm⟩
  · have hx0 : xs = [] := List.eq_nil_of_length_eq_zero (by omega)
    subst hx0
    exact (Tryd.slices_Contains_int_empty A c x w).mono fun e w' ⟨he, hw⟩ => ⟨he, hw.symm⟩
theorem CloneInt_any (w : World) (B : Nat) (u : Value) (xs : List Int) (hx : RdI B w u xs) (h1 : xs.length ≤ 1000000) :
    Calls Tryd.prog 40 #[u] w fun e w' => ∃ v', e = .returned v' ∧ w'.ownsRow w.heap.size 3 1 v' xs.length (xs.map (.int .i64)) ∧ RowKit.Below w.heap.size w w' := by
  obtain ⟨A, c, rfl, hc, hr⟩ := hx
  by_cases h0 : 0 < xs.length
  · obtain ⟨b, o, rfl, hb, hcell⟩ := hr h0
    have := Tryd.slices_Clone_int b o xs.length c xs w (Nat.le_refl _) (by omega) (fun j hj => by rw [hcell j hj]; simp)
    rw [List.take_length] at this
    exact this.mono fun e w' ⟨v', he, hown, _, hb⟩ => ⟨v', he, hown, hb⟩
  · have hx0 : xs = [] := List.eq_nil_of_length_eq_zero (by omega)
    subst hx0
    cases A with
    | none => exact (Tryd.slices_Clone_int_nil 0 c w).mono fun e w' ⟨he, hw⟩ => ⟨_, he, by subst hw; exact World.ownsRow_nil _ _ _ _, by subst hw; exact RowKit.Below.refl _ _⟩
    | some a => exact (Tryd.slices_Clone_int_zero a c w).mono fun e w' ⟨v', he, hown, _, hb⟩ => ⟨v', he, hown, hb⟩
set_option maxRecDepth 10000000 in
set_option maxHeartbeats 1000000 in
theorem CloneLit_own (w : World) (base : Nat) (v : Value) (xs : List Int) (hown : w.ownsRow base 25 1 v xs.length (xs.map (.int .i64))) (hlen : xs.length ≤ 1000000) :
    Calls Tryd.prog 29 #[v] w fun e w' => ∃ v', e = .returned v' ∧ w'.ownsRow w.heap.size 25 1 v' xs.length (xs.map (.int .i64)) ∧ RowKit.Below w.heap.size w w' := by
  obtain ⟨i0, hi, hz0, hz1, hz2⟩ := info_parts lit_info
  rcases hown.2 with ⟨rfl, h0⟩ | ⟨g, cap, cur, rfl, hbg, hh, hnc, hcm, hcs', htk⟩
  · have hx0 : xs = [] := List.eq_nil_of_length_eq_zero h0
    subst hx0
    have hsn := fun (W : World) => Lib.run_eql_slice_nil (P := Tryd.prog) W 43 25 none 0 0 0 0 Tryd.underlying43
    go_enter Tryd.func29, Tryd.ntmps29
    go_wp2
    go_ret
    exact ⟨.slice none 0 0, rfl, World.ownsRow_nil _ _ _ _, RowKit.Below.refl _ _⟩
  · have hsn := fun (W : World) => Lib.run_eql_slice_nil (P := Tryd.prog) W 43 25 (some ⟨g, 0, none⟩) xs.length cap 0 0 Tryd.underlying43
    have hlit := World.ownsRow_lit (base := w.heap.size) (e := 25) (size := 1) w #[] 0 (Nat.le_refl _) (by simp [maxLen]) rfl
    have hsrc : ∀ j u, (xs.map (Value.int .i64))[j]? = some u → (w.alloc (.cells #[] 25)).cell? ((⟨g, 0, none⟩ : Addr).add j) = some u := fun j u hu => (hown.alloc _).cells (g := g) rfl j u hu
    have Hown := Lib.hid hown; have Hlit := Lib.hid hlit; have Hsrc := Lib.hid hsrc
    have hxl : (xs.map (Value.int .i64)).length = xs.length := by simp
    have Hxl := Lib.hid hxl
    clear hown hlit hsrc hh htk hcs' hxl
    go_enter Tryd.func29, Tryd.ntmps29
    go_wp2_with (at_builtin; refine wpList_append_own _ rfl _ _ 43 rfl w.heap.size 25 i0 (.int .i64 0) 1 8 Tryd.underlying43 hi hz0 hz1 hz2 rfl (by decide) _ _ _ rfl Hlit.out ⟨g, 0, none⟩ xs.length cap (xs.map (Value.int .i64)) rfl (by simp) Hsrc.out (ints_one xs) (by simp only [maxLen]; omega) (by omega) (by simp) ?_; intro v' w1 hown' hgrow _)
    go_ret
    have hown2 : w1.ownsRow w.heap.size 25 1 v' (0 + xs.length) (xs.map (.int .i64)) := by simpa using hown'
    exact ⟨v', rfl, by rw [Nat.zero_add] at hown2; exact hown2, ((RowKit.Below.refl _ w).alloc (Nat.le_refl _) _).grown hgrow (by simp) (fun k e => by cases e; exact Nat.le_refl _)⟩
theorem compact_len (zs : List Int) : (Lib.compact zs).length ≤ zs.length := by
  unfold Lib.compact Lib.compactUpTo
  rw [List.length_map]
  have := List.length_filter_le (Lib.keeps zs.toArray) (List.range zs.length)
  simpa using this
theorem Compact_own (w : World) (base : Nat) (v : Value) (xs : List Int) (hown : w.ownsRow base 3 1 v xs.length (xs.map (.int .i64))) (h1 : xs.length ≤ 1000000) :
    Calls Tryd.prog 35 #[v] w fun e w' => ∃ v', e = .returned v' ∧ RdI w'.heap.size w' v' (Lib.compact xs) ∧ w.grownBy w' v.ownBlock := by
  have hso := hown.2
  rcases hso with ⟨rfl, hz⟩ | ⟨g, cap, cur, rfl, hb, hg, hn, hcap, hcs, htk⟩
  · have hx0 : xs = [] := List.eq_nil_of_length_eq_zero hz
    subst hx0
    refine (Tryd.slices_Compact_int_empty none 0 w).mono ?_
    rintro e w' ⟨rfl, rfl⟩
    exact ⟨_, rfl, ⟨none, 0, rfl, Nat.le_refl _, fun h => by simp [Lib.compact, Lib.compactUpTo] at h⟩, ⟨rfl, rfl, rfl, Nat.le_refl _, fun _ _ _ => rfl⟩⟩
  · have hlt : g < w.heap.size := (Array.getElem?_eq_some_iff.1 hg).1
    have hH : Holds (Value.int .i64) w g 0 xs.toArray := by
      intro j hj
      have hj' : j < xs.length := by simpa using hj
      refine ⟨?_, by simp [World.frozen?, hg]⟩
      rw [Nat.zero_add, hown.cellAt j (by omega), List.getElem?_map]
      simp [hj']
    have hcl := compact_len xs
    refine (Tryd.slices_Compact_int g 0 cap xs w hH (by omega) hn).mono ?_
    rintro e w' ⟨rfl, n, rfl⟩
    generalize hL : Lib.compact xs ++ List.replicate (xs.length - (Lib.compact xs).length) 0 = L at *
    have hLl : L.length = xs.length := by rw [← hL]; simp; omega
    have hheap : (putRow (Value.int .i64) (Sort.ahead w n) g 0 L.toArray).heap[g]? = some (.cells (putCells (Value.int .i64) 0 L.toArray cur) 3 (0, 0)) := by
      simp [putRow, mapBlock, Sort.ahead, Array.getElem?_modify, hg, onCells]
    refine ⟨_, rfl, ⟨_, cap, rfl, by omega, fun h0 => ⟨g, 0, rfl, (Array.getElem?_eq_some_iff.1 hheap).1, fun j hj => ?_⟩⟩, ⟨rfl, rfl, rfl, by simp [putRow, mapBlock, Sort.ahead], fun i hi hne => ?_⟩⟩
    · unfold World.cell?
      rw [hheap]
      have hjc : j < cur.size := by omega
      have e1 : L[j]? = (Lib.compact xs)[j]? := by rw [← hL, List.getElem?_append_left hj]
      have hjL : j < L.length := by omega
      have e2 : (Lib.compact xs)[j]?.getD 0 = L[j] := by rw [← e1]; simp [hjL]
      rw [e2]
      simp [putCells, hjc, hjL]
    · have : g ≠ i := fun e => hne (by simp [Value.ownBlock, e])
      simp [putRow, mapBlock, Sort.ahead, Array.getElem?_modify, this]
end Go.Proofs.YthpdndkfdiphmaaDoor
