/- tree.countExpr. -/
import Derived.Test.YthcboallnbaimaaGreatDoorExprs
import Derived.Scope
import Derived.WalkMore
import Derived.RangeFuncBox
import Derived.IntWalk
namespace Go.Proofs.YthcboallnbaimaaGreatDoor
open Go Go.RowKit
attribute [local go_sem] Oper.semAt_some
/-- How many nodes, with those before; up to one more than there may be. -/
def cntN (n : Nat) (b : Int) : Int := if b + n ≤ 20000 then b + n else max (b + 1) 20001
theorem pre_pos (e : ExprV) : 0 < e.pre.length := by rw [ExprV.pre_eq]; simp
set_option maxRecDepth 1000000 in
set_option maxHeartbeats 2000000 in
theorem countExpr_any (w : World) (e : ExprV) (b : Int) (h : RdX w.heap.size w e) (hb : 0 ≤ b ∧ b ≤ 4611686018427387904) :
    Calls Tryz.prog 64 #[e.val, .int .i64 b] w fun o w' => o = .returned (.int .i64 (cntN e.pre.length b)) ∧ Below w.heap.size w w' := by
  refine (callsIn_wide (n := 5)).1 ?_
  have hE := exprs_any e
  simp only [ExprV.val, Sp.val, ExprV.cells] at hE ⊢
  have HE := Lib.hid hE
  clear hE
  refine callsIn_of_wp_marks Tryz.func64 rfl trivial ?_ rfl
  simp only [Tryz.ntmps64, List.size_toArray, List.length_cons, List.length_nil, Nat.reduceAdd, Nat.reduceSub, Array.replicate_succ, Array.replicate_zero, List.push_toArray, List.append_toArray, List.nil_append, List.cons_append]
  gi_wp2
  refine wpIn_wide.2 (wp_scope_straight (wpIn_wide (n := 5).1 ?_))
  refine wpIn_seq (wpIn_label ?_)
  gi_wp2_with (refine ⟨trivial, ?_⟩; gi_at_call 100; refine (callsIn_wide.2 (HE.out _)).mono ?_; rintro o4 w4 ⟨rfl, rfl⟩)
  have hbw : Below w.heap.size w (((w.alloc (.cells #[.int .u8 e.kind, .int .u8 e.op, .int .u32 e.value, .int .i64 e.width, .string e.name, .slice e.sp.at_ e.subs.length e.sp.cap] 34)).alloc (.cells #[.int .i64 b] 3)).alloc (.cells #[.int .u8 e.kind, .int .u8 e.op, .int .u32 e.value, .int .i64 e.width, .string e.name, .slice e.sp.at_ e.subs.length e.sp.cap] 34)) := (((Below.refl _ w).alloc (Nat.le_refl _) _).alloc (by simp) _).alloc (by simp; omega) _
  have hB5 := World.alloc_heap_new ((w.alloc (.cells #[.int .u8 e.kind, .int .u8 e.op, .int .u32 e.value, .int .i64 e.width, .string e.name, .slice e.sp.at_ e.subs.length e.sp.cap] 34)).alloc (.cells #[.int .i64 b] 3)) (.cells #[.int .u8 e.kind, .int .u8 e.op, .int .u32 e.value, .int .i64 e.width, .string e.name, .slice e.sp.at_ e.subs.length e.sp.cap] 34)
  have hbx : Boxed (((w.alloc (.cells #[.int .u8 e.kind, .int .u8 e.op, .int .u32 e.value, .int .i64 e.width, .string e.name, .slice e.sp.at_ e.subs.length e.sp.cap] 34)).alloc (.cells #[.int .i64 b] 3)).alloc (.cells #[.int .u8 e.kind, .int .u8 e.op, .int .u32 e.value, .int .i64 e.width, .string e.name, .slice e.sp.at_ e.subs.length e.sp.cap] 34)) (w.heap.size + 1) 3 (.int .i64 b) := by
    have := (Boxed.new (w.alloc (.cells #[.int .u8 e.kind, .int .u8 e.op, .int .u32 e.value, .int .i64 e.width, .string e.name, .slice e.sp.at_ e.subs.length e.sp.cap] 34)) 3 (.int .i64 b)).alloc (.cells #[.int .u8 e.kind, .int .u8 e.op, .int .u32 e.value, .int .i64 e.width, .string e.name, .slice e.sp.at_ e.subs.length e.sp.cap] 34)
    rwa [World.size_alloc] at this
  have hs3 : w.heap.size + 3 ≤ (((w.alloc (.cells #[.int .u8 e.kind, .int .u8 e.op, .int .u32 e.value, .int .i64 e.width, .string e.name, .slice e.sp.at_ e.subs.length e.sp.cap] 34)).alloc (.cells #[.int .i64 b] 3)).alloc (.cells #[.int .u8 e.kind, .int .u8 e.op, .int .u32 e.value, .int .i64 e.width, .string e.name, .slice e.sp.at_ e.subs.length e.sp.cap] 34)).heap.size := by simp
  simp only [World.size_alloc] at hB5
  generalize ((w.alloc (.cells #[.int .u8 e.kind, .int .u8 e.op, .int .u32 e.value, .int .i64 e.width, .string e.name, .slice e.sp.at_ e.subs.length e.sp.cap] 34)).alloc (.cells #[.int .i64 b] 3)).alloc (.cells #[.int .u8 e.kind, .int .u8 e.op, .int .u32 e.value, .int .i64 e.width, .string e.name, .slice e.sp.at_ e.subs.length e.sp.cap] 34) = w3 at *
  refine wpIn_rangeFunc_net (T := TT) rfl (fun h => by cases h) (gf := 135) (lb := #[.pointer (some ⟨w.heap.size + 1 + 1, 0, none⟩)]) rfl trivial (enters_of Tryz.func135 (by kernel_rfl) rfl)
    (exprs_seq h _ w3 (w.heap.size + 1 + 1) hbw (by omega) hB5) (by omega) (Below.refl _ _) (fun _ => rfl)
    (fun pre W' => (Boxed W' (w.heap.size + 1) 3 (.int .i64 (b + (pre.length : Int))) ∧ (pre.length = 0 ∨ b + (pre.length : Int) ≤ 20000)) ∧ Below w.heap.size w W' ∧ w3.heap.size ≤ W'.heap.size)
    (fun c pre W' => c = .exit 0 ∧ Boxed W' (w.heap.size + 1) 3 (.int .i64 (b + (pre.length : Int))) ∧ 20000 < b + (pre.length : Int) ∧ 0 < pre.length ∧ (pre.length = 1 ∨ b + (pre.length : Int) = 20001) ∧ Below w.heap.size w W' ∧ w3.heap.size ≤ W'.heap.size)
    ?hI ?hIx ⟨⟨by simpa using hbx, .inl rfl⟩, hbw, Nat.le_refl _⟩
    (fun _ a' _ => ∃ v7, a' = { tmps := #[.agg #[.int .u8 e.kind, .int .u8 e.op, .int .u32 e.value, .int .i64 e.width, .string e.name, .slice e.sp.at_ e.subs.length e.sp.cap], .int .i64 b, .pointer (some ⟨w.heap.size, 0, none⟩), .pointer (some ⟨w.heap.size + 1, 0, none⟩), .int .i64 0, .agg #[.int .u8 e.kind, .int .u8 e.op, .int .u32 e.value, .int .i64 e.width, .string e.name, .slice e.sp.at_ e.subs.length e.sp.cap], .func (.func 135) #[] #[.pointer (some ⟨w.heap.size + 1 + 1, 0, none⟩)], v7, undef, undef, undef, undef, undef], defers := [] })
    ?hAx ?assign ?body ?done ?stop
  case hI =>
    rintro s X' Y rw ⟨⟨h1, h2⟩, h4, h5⟩ hg hr
    exact ⟨⟨h1.kept hg (fun e' => by have := (hr _ e'.symm).1; omega), h2⟩, h4.grown hg (by omega) (fun q hq => by have := (hr q hq).1; omega), Nat.le_trans h5 hg.size⟩
  case hIx =>
    rintro c s X' Y rw ⟨hc, h1, h2, h0, h3, h4, h5⟩ hg hr
    exact ⟨hc, h1.kept hg (fun e' => by have := (hr _ e'.symm).1; omega), h2, h0, h3, h4.grown hg (by omega) (fun q hq => by have := (hr q hq).1; omega), Nat.le_trans h5 hg.size⟩
  case hAx =>
    rintro y a' _ X' Y rw h hg hr
    exact h
  case assign =>
    rintro l2 pre y Wc K hi hK
    gi_wp2
    exact hK _ _ (KeepsT.refl _ _ _) (Below.refl _ _) hi ⟨y.val, by simp⟩
  case body =>
    rintro l2 pre y a' Wc hl2 ⟨⟨h1, h2⟩, h4, h5⟩ ⟨v7, rfl⟩ hlen _
    have hc := h1.cell
    have hf := h1.frozen
    have hwr : wrap64 (b + (pre.length : Int) + 1) = b + (pre.length : Int) + 1 := IntWalk.wrap64_in _ (by omega)
    have hk : KeepsT TT w3.heap.size Wc (Wc.setCell ⟨w.heap.size + 1, 0, none⟩ (.int .i64 (b + (pre.length : Int) + 1))) := KeepsT.set (a := ⟨w.heap.size + 1, 0, none⟩) h1 rfl _
    have hbb : Below w.heap.size Wc (Wc.setCell ⟨w.heap.size + 1, 0, none⟩ (.int .i64 (b + (pre.length : Int) + 1))) := (Below.refl _ Wc).setCell (p := ⟨w.heap.size + 1, 0, none⟩) (by simp) _
    have hst : Boxed (Wc.setCell ⟨w.heap.size + 1, 0, none⟩ (.int .i64 (b + (pre.length : Int) + 1))) (w.heap.size + 1) 3 (.int .i64 (b + (((pre ++ [y]).length : Nat) : Int))) := by
      rw [show b + (((pre ++ [y]).length : Nat) : Int) = b + (pre.length : Int) + 1 by simp; omega]
      exact h1.set _
    have hl1 : (pre ++ [y]).length = pre.length + 1 := by simp
    by_cases hgt : 20000 < b + (pre.length : Int) + 1
    · have x1 : 20000 < b + (((pre ++ [y]).length : Nat) : Int) := by omega
      have x2 : 0 < (pre ++ [y]).length := by omega
      have x3 : (pre ++ [y]).length = 1 ∨ b + (((pre ++ [y]).length : Nat) : Int) = 20001 := by omega
      have X := Lib.hid (And.intro x1 (And.intro x2 x3))
      clear x1 x2 x3 hl1
      gi_wp2
      exact ⟨hk, rfl, hst, X.out.1, X.out.2.1, X.out.2.2, h4.trans hbb, Nat.le_trans h5 hk.size⟩
    · have x1 : b + (((pre ++ [y]).length : Nat) : Int) ≤ 20000 := by omega
      have X := Lib.hid x1
      clear x1 hl1
      gi_wp2
      exact ⟨hk, hbb, ⟨hst, .inr X.out⟩, h4.trans hbb, Nat.le_trans h5 hk.size⟩
  case done =>
    rintro Dq ys Wd hD rfl ⟨⟨h1, h2⟩, h4, h5⟩ hK
    have hc := h1.cell
    have hp := pre_pos e
    gi_wp2
    refine ⟨by simp, .inl ⟨_, _, rfl, run_takeDeferred hK, ?_⟩⟩
    have e1 : cntN e.pre.length b = b + (e.pre.length : Int) := by unfold cntN; rw [if_pos (by omega)]
    exact ⟨_, results_tmp rfl _ _ _, by rw [e1]; rfl, h4.trans (below_put _ _ (by omega))⟩
  case stop =>
    rintro Dq c pre Wd hD hp ⟨rfl, h1, h2, h0, h3, h4, h5⟩ hK
    have hc := h1.cell
    have hle := hp.length_le
    gi_wp2
    refine ⟨by simp, .inl ⟨_, _, rfl, run_takeDeferred hK, ?_⟩⟩
    have e1 : cntN e.pre.length b = b + (pre.length : Int) := by unfold cntN; rw [if_neg (by omega)]; omega
    exact ⟨_, results_tmp rfl _ _ _, by rw [e1]; rfl, h4.trans (below_put _ _ (by omega))⟩
end Go.Proofs.YthcboallnbaimaaGreatDoor
