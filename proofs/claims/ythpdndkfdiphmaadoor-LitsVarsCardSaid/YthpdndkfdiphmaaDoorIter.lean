/- Slices of integers as they are read, and the iterator lits.variables over one: its contract for every loop body that keeps what lay before. -/
import Derived.RangeFuncBox
import Derived.RangeFuncLeaves
import Derived.RangeFuncFrom
import Derived.Shelf.Abstract
import Derived.WalkKit
import Derived.OwnWalkIn
import Derived.TacticsInMore
import Derived.LoopNIn
import Derived.LoopIn
import Derived.Test.YthpdndkfdiphmaaDoorLits2
namespace Go.Proofs.YthpdndkfdiphmaaDoor
open Go Go.RowKit Go.Shelf

attribute [local go_sem] Oper.semAt_some

/-- The slice value sv reads as the integers zs, in a block below n₀ (or has no element). -/
def RdI (n₀ : Nat) (W : World) (sv : Value) (zs : List Int) : Prop :=
  ∃ A cap, sv = .slice A zs.length cap ∧ zs.length ≤ cap ∧ (0 < zs.length → ∃ b off, A = some ⟨b, off, none⟩ ∧ b < n₀ ∧ ∀ j, j < zs.length → W.cell? ⟨b, off + j, none⟩ = some (.int .i64 (zs[j]?.getD 0)))
theorem RdI.below {n₀ : Nat} {A B : World} {sv : Value} {zs : List Int} (h : RdI n₀ A sv zs) (hb : Below n₀ A B) : RdI n₀ B sv zs := by
  obtain ⟨a, cap, rfl, hc, hr⟩ := h
  refine ⟨a, cap, rfl, hc, fun h0 => ?_⟩
  obtain ⟨b, off, e, hlt, hcell⟩ := hr h0
  exact ⟨b, off, e, hlt, fun j hj => (hb.cell (p := ⟨b, off + j, none⟩) hlt).trans (hcell j hj)⟩
theorem RdI.more {n₀ n₁ : Nat} {A : World} {sv : Value} {zs : List Int} (h : RdI n₀ A sv zs) (hn : n₀ ≤ n₁) : RdI n₁ A sv zs := by
  obtain ⟨a, cap, rfl, hc, hr⟩ := h
  refine ⟨a, cap, rfl, hc, fun h0 => ?_⟩
  obtain ⟨b, off, e, hlt, hcell⟩ := hr h0
  exact ⟨b, off, e, by omega, hcell⟩

/-- The variables of the literals of a list, in order. -/
def vl (zs : List Int) : List Int := (zs.filter LRight).map LVar
theorem vl_snoc (zs : List Int) (k : Nat) (h : k < zs.length) : vl (zs.take (k + 1)) = vl (zs.take k) ++ (if LRight (zs[k]?.getD 0) then [LVar (zs[k]?.getD 0)] else []) := by
  unfold vl
  rw [List.take_succ_eq_append_getElem h, List.filter_append, List.map_append]
  congr 1
  have e : zs[k]?.getD 0 = zs[k] := by simp [h]
  rw [e]
  cases hr : LRight zs[k] <;> simp [hr]
theorem vl_take_le (zs : List Int) (k : Nat) : (vl (zs.take k)).length ≤ k := by
  unfold vl
  have h1 := List.length_filter_le LRight (zs.take k)
  have h2 : (zs.take k).length ≤ k := List.length_take_le _ _
  simp only [List.length_map]; omega
theorem vl_prefix (zs : List Int) (k : Nat) : vl (zs.take k) <+: vl zs := by
  unfold vl
  have := (List.take_prefix k zs).filter LRight
  exact this.map LVar

set_option maxRecDepth 100000 in
set_option maxHeartbeats 1000000 in
theorem vars1_in (n : Nat) (hn : 1 ≤ n) (l Bs n₀ b off cap : Nat) (zs : List Int) (hlen : zs.length ≤ 1000000) (hb : b < n₀) (J Jx : List Int → World → Prop)
    (hY : ∀ pre x W, J pre W → pre.length < zs.length → YieldAt Fence.wide (n - 1) Tryd.prog l #[.int .i64 x] W fun e W' =>
      (e = .returned (.bool true) ∧ J (pre ++ [x]) W' ∧ Below n₀ W W') ∨ (e = .returned (.bool false) ∧ Jx (pre ++ [x]) W'))
    (W : World) (hBs : W.cell? ⟨Bs, 0, none⟩ = some (.slice (some ⟨b, off, none⟩) zs.length cap)) (hc : ∀ j, j < zs.length → W.cell? ⟨b, off + j, none⟩ = some (.int .i64 (zs[j]?.getD 0))) (h0 : J [] W) :
    CallsIn Fence.wide n Tryd.prog 67 #[.func (.yield l) #[] #[], .pointer (some ⟨Bs, 0, none⟩)] W fun e W' => (∃ v, e = .returned v) ∧
      ((∃ ys, ys = vl zs ∧ J ys W') ∨ (∃ pre, pre <+: vl zs ∧ Jx pre W')) := by
  refine callsIn_of_wp Tryd.func67 rfl trivial ?_ rfl
  simp only [Tryd.ntmps67, List.size_toArray, List.length_cons, List.length_nil, Nat.reduceAdd, Nat.reduceSub, Array.replicate_succ, Array.replicate_zero, List.push_toArray, List.append_toArray, List.nil_append, List.cons_append]
  gi_wp2
  gi_loopw [7] (fun i wr => ∃ k : Nat, k ≤ zs.length ∧ i = .int .i64 k ∧ J (vl (zs.take k)) wr ∧ Below n₀ W wr)
    (fun i _ => zs.length - (intOf i).toNat)
  case atStart => exact ⟨0, Nat.zero_le _, rfl, h0, Below.refl _ _⟩
  case round =>
    obtain ⟨k, hk, rfl, hJs, hnx⟩ := hrel
    by_cases hlt : k < zs.length
    · have hcx := (hnx.cell (p := ⟨b, off + k, none⟩) hb).trans (hc k hlt)
      have hs := vl_snoc zs k hlt
      have hle := vl_take_le zs k
      generalize hx : zs[k]?.getD 0 = x at *
      have Hx := Lib.hid hx; clear hx
      cases hR : LRight x
      · rw [hR] at hs
        simp only [Bool.false_eq_true, if_false, List.append_nil] at hs
        have Hs := Lib.hid hs; clear hs
        gi_wp2_with (refine ⟨trivial, ?_⟩; gi_at_call 18; refine (callsIn_wide.2 (Right_any _ _)).mono ?_; rintro e w' ⟨rfl, rfl⟩)
        refine ⟨trivial, ?_⟩
        gi_wp2
        refine ⟨fun _ h => (by cases h), ?_⟩
        gi_wp2
        go_roundw
        case rel => exact ⟨k + 1, by omega, by simp, by rw [Hs.out]; exact hJs, hnx⟩
        case measure => simp [intOf]; omega
      · rw [hR] at hs
        simp only [if_true] at hs
        have Hs := Lib.hid hs; clear hs
        obtain ⟨fn, tmps, assign, body, hy, hRd⟩ := hY _ (LVar x) wr hJs (by omega)
        gi_wp2_with (first
          | (refine ⟨trivial, ?_⟩; gi_at_call 18; refine (callsIn_wide.2 (Right_any _ _)).mono ?_; rintro e w' ⟨rfl, rfl⟩)
          | (refine ⟨trivial, ?_⟩; gi_at_call 19; refine (callsIn_wide.2 (Var_any _ _)).mono ?_; rintro e w' ⟨rfl, rfl⟩))
        refine hRd.mono ?_
        rintro e W3 (⟨rfl, hJ3, hk3⟩ | ⟨rfl, hJx3⟩)
        · gi_wp2
          go_roundw
          case rel => exact ⟨k + 1, by omega, by simp, by rw [Hs.out]; exact hJ3, hnx.trans hk3⟩
          case measure => simp [intOf]; omega
        · gi_wp2
          refine bodyPost_ret (results_none rfl _ _ _) rfl ?_
          exact ⟨⟨_, rfl⟩, .inr ⟨_, by rw [← Hs.out]; exact vl_prefix zs (k + 1), hJx3⟩⟩
    · obtain rfl : k = zs.length := by omega
      gi_wp2
      go_end0
      exact ⟨⟨_, rfl⟩, .inl ⟨_, rfl, by rw [List.take_length] at hJs; exact hJs⟩⟩
set_option maxRecDepth 100000 in
set_option maxHeartbeats 1000000 in
theorem vars1_nil_in (n : Nat) (l Bs : Nat) (A : Option Addr) (cap : Nat) (J : List Int → World → Prop) (W : World) (hBs : W.cell? ⟨Bs, 0, none⟩ = some (.slice A 0 cap)) (h0 : J [] W) :
    CallsIn Fence.wide n Tryd.prog 67 #[.func (.yield l) #[] #[], .pointer (some ⟨Bs, 0, none⟩)] W fun e W' => (∃ v, e = .returned v) ∧ J [] W' := by
  refine callsIn_of_wp Tryd.func67 rfl trivial ?_ rfl
  simp only [Tryd.ntmps67, List.size_toArray, List.length_cons, List.length_nil, Nat.reduceAdd, Nat.reduceSub, Array.replicate_succ, Array.replicate_zero, List.push_toArray, List.append_toArray, List.nil_append, List.cons_append]
  gi_wp2
  gi_loopw [7] (fun i wr => i = .int .i64 0 ∧ J [] wr) (fun _ _ => 0)
  case atStart => exact ⟨rfl, h0⟩
  case round =>
    obtain ⟨rfl, hJs⟩ := hrel
    gi_wp2
    go_end0
    exact ⟨⟨_, rfl⟩, hJs⟩
/-- lits.variables(l): the slice is boxed; the function value captures the box. -/
theorem variables_any (v : Value) (w : World) (hv : ∃ A n c, v = .slice A n c) :
    Calls Tryd.prog 52 #[v] w fun e w' => e = .returned (.func (.func 67) #[] #[.pointer (some ⟨w.heap.size, 0, none⟩)]) ∧ w' = w.alloc (.cells #[v] 43) := by
  obtain ⟨A, n, c, rfl⟩ := hv
  go_enter Tryd.func52, Tryd.ntmps52
  go_wp2
  go_ret
  exact ⟨rfl, rfl⟩
theorem vars_stops (n : Nat) (hn : 1 ≤ n) (Bs n₀ : Nat) (sv : Value) (zs : List Int) (hlen : zs.length ≤ 1000000) (w : World) (hBs : Bs < w.heap.size) (hn₀ : n₀ ≤ w.heap.size)
    (hc : w.cell? ⟨Bs, 0, none⟩ = some sv) (hI : RdI n₀ w sv zs) :
    SeqStopsK Fence.wide n Tryd.prog 67 #[.pointer (some ⟨Bs, 0, none⟩)] (fun x : Int => #[Value.int .i64 x]) (Below n₀) (fun ys => ys = vl zs) (fun pre => pre <+: vl zs) zs.length w := fun l J Jx W hW _ _ hY h0 => by
  have hc' := (hW.cell (p := ⟨Bs, 0, none⟩) hBs).trans hc
  obtain ⟨A, cap, rfl, _, hr⟩ := hI.below (hW.mono hn₀)
  by_cases hz : 0 < zs.length
  · obtain ⟨b, off, rfl, hb, hcell⟩ := hr hz
    exact vars1_in n hn l Bs n₀ b off cap zs hlen hb J Jx hY W hc' hcell h0
  · have hz0 : zs = [] := List.eq_nil_of_length_eq_zero (by omega)
    subst hz0
    exact (vars1_nil_in n l Bs A cap J W hc' h0).mono fun e W' ⟨he, hj⟩ => ⟨he, .inl ⟨_, rfl, hj⟩⟩
end Go.Proofs.YthpdndkfdiphmaaDoor
