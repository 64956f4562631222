import Derived.RangeFuncBox
import Derived.RangeFuncLeaves
import Derived.RangeFuncFrom
import Derived.RangeFuncNested
import Derived.RangeFuncBound
import Derived.RangeFuncCalls
import Derived.Shelf.Abstract
import Derived.Shelf.RegionOpen
import Derived.WalkKit
import Derived.OwnWalkIn
import Derived.TacticsInMore
import Derived.LoopNIn
import Derived.LoopIn
import Derived.Test.YtcpcoomkapblcaaSorted
open Go Go.RowKit Go.Maps
namespace Go.Proofs.Ytcpcoomkapblcaa
open Go.Shelf
attribute [local go_sem] Oper.semAt_some
theorem all_any (w : World) (p : Nat) :
    Calls Try.prog 45 #[.pointer (some ⟨p, 0, none⟩)] w fun e w' => e = .returned (.func (.func 65) #[] #[.pointer (some ⟨w.heap.size, 0, none⟩)]) ∧ w' = w.alloc (.cells #[.pointer (some ⟨p, 0, none⟩)] 25) := by
  go_enter Try.func45, Try.ntmps45
  go_wp2
  go_ret
  exact ⟨rfl, rfl⟩
/-- The block of the slice that the box holds. -/
def ptrOf (W : World) (ob : Nat) : Option Nat :=
  match W.heap[ob]? with
  | some (.cells cs _ _) => (match cs[0]? with | some v => v.ownBlock | none => none)
  | _ => none
/-- What a body does that appends to the slice in a box: of the cells it turns the box's and the slice's alone. -/
structure OutK (ob : Nat) (W W' : World) : Prop where
  size : W.heap.size ≤ W'.heap.size
  same : ∀ k cs t fr, W.heap[k]? = some (.cells cs t fr) → k ≠ ob → ptrOf W ob ≠ some k → W'.heap[k]? = W.heap[k]?
  ptr : ptrOf W' ob = ptrOf W ob ∨ ∃ k, ptrOf W' ob = some k ∧ W.heap.size ≤ k
theorem OutK.trans {ob : Nat} {A B C : World} (h : OutK ob A B) (k : OutK ob B C) : OutK ob A C := by
  refine ⟨Nat.le_trans h.size k.size, fun i cs t fr hi hne hp => ?_, ?_⟩
  · have h1 := h.same i cs t fr hi hne hp
    have hlt : i < A.heap.size := (Array.getElem?_eq_some_iff.1 hi).1
    refine (k.same i cs t fr (h1.trans hi) hne (fun e => ?_)).trans h1
    rcases h.ptr with h2 | ⟨j, h2, hj⟩
    · rw [h2] at e; exact hp e
    · rw [h2] at e; cases e; omega
  · rcases k.ptr with h2 | ⟨j, h2, hj⟩
    · rw [h2]; exact h.ptr
    · exact .inr ⟨j, h2, Nat.le_trans h.size hj⟩
theorem OutK.put {ob : Nat} {w : World} (hob : ob < w.heap.size) (W : World) (l : Nat) (o o' : Obj) (hl : w.heap.size ≤ l) (h : W.heap[l]? = some o) (hc : o.isCells = false) (_ : o.isWalk = false) : OutK ob W (W.putObj l o') := by
  have hk : ∀ k, k ≠ l → (W.putObj l o').heap[k]? = W.heap[k]? := fun k hk => World.putObj_heap_other hk
  refine ⟨by simp, fun k cs t fr hi hne hp => hk k (fun e => ?_), .inl ?_⟩
  · subst e; rw [h] at hi; cases hi; cases hc
  · unfold ptrOf; rw [hk ob (by omega)]
theorem ptr_of_same {W W' : World} {ob : Nat} (h : W'.heap[ob]? = W.heap[ob]?) : ptrOf W' ob = ptrOf W ob := by unfold ptrOf; rw [h]
theorem own_of_block {w w' : World} {base e size : Nat} {v : Value} {n : Nat} {xs : List Value} (h : w.ownsRow base e size v n xs) (hk : ∀ g, v.ownBlock = some g → w'.heap[g]? = w.heap[g]?) : w'.ownsRow base e size v n xs := by
  refine ⟨h.1, ?_⟩
  rcases h.2 with hn | ⟨g, cap, cur, rfl, hb, hgg, rest⟩
  · exact .inl hn
  · exact .inr ⟨g, cap, cur, rfl, hb, (hk g rfl).trans hgg, rest⟩
theorem row_cells {w : World} {base g cap n : Nat} {l : List Inf} (h : w.ownsRow base 32 3 (.slice (some ⟨g, 0, none⟩) n cap) n (l.flatMap Inf.enc)) (k : Nat) (hk : k < l.length) :
    w.cell? ⟨g, k * 3, none⟩ = some (.int .i64 (l[k]?.getD ⟨0, 0, 0⟩).id) ∧ w.cell? ⟨g, k * 3 + 1, none⟩ = some (.int .i64 (l[k]?.getD ⟨0, 0, 0⟩).lev) ∧ w.cell? ⟨g, k * 3 + 2, none⟩ = some (.int .i64 (l[k]?.getD ⟨0, 0, 0⟩).used) := by
  have hlen : (l.flatMap Inf.enc).length = l.length * 3 := flat_length (enc := Inf.enc) (k := 3) (fun _ => rfl) l
  have hn := h.1
  rw [hlen] at hn
  have hnl : n = l.length := by omega
  have e : ∀ r, r < 3 → w.cell? ⟨g, k * 3 + r, none⟩ = (Inf.enc (l[k]?.getD ⟨0, 0, 0⟩))[r]? := fun r hr => by
    rw [h.cellAt (k * 3 + r) (by omega), flat_get (enc := Inf.enc) (k := 3) (fun _ => rfl) (by decide) l (k * 3 + r) (by omega)]
    have e1 : (k * 3 + r) / 3 = k := by omega
    have e2 : (k * 3 + r) % 3 = r := by omega
    rw [e1, e2]
    rfl
  exact ⟨e 0 (by decide), e 1 (by decide), e 2 (by decide)⟩
set_option maxRecDepth 100000 in
set_option maxHeartbeats 1000000 in
theorem all1_in (n : Nat) (hn : 1 ≤ n) (l Bs p m ob : Nat) (T : List Inf) (c : Int) (hT : T.length < 1000000) (J Jx : List Inf → World → Prop) (W : World) (hob : ob < W.heap.size)
    (hJ : AbidesFrom W.heap.size J)
    (hY : ∀ pre x W1, J pre W1 → pre.length < T.length → YieldAt Fence.wide (n - 1) Try.prog l #[Inf.val x] W1 fun e W' =>
      (e = .returned (.bool true) ∧ J (pre ++ [x]) W' ∧ OutK ob W1 W') ∨ (e = .returned (.bool false) ∧ Jx (pre ++ [x]) W'))
    (hp0 : ∀ k, ptrOf W ob = some k → k < W.heap.size)
    (hBs : W.cell? ⟨Bs, 0, none⟩ = some (.pointer (some ⟨p, 0, none⟩))) (hTab : Tab W p m T c) (h0 : J [] W) :
    CallsIn Fence.wide n Try.prog 65 #[.func (.yield l) #[] #[], .pointer (some ⟨Bs, 0, none⟩)] W fun e W' => (∃ v, e = .returned v) ∧
      ((∃ ys, ys = sortI T ∧ J ys W') ∨ (∃ pre, pre <+: sortI T ∧ Jx pre W')) := by
  refine callsIn_of_wp Try.func65 rfl trivial ?_ rfl
  simp only [Try.ntmps65, List.size_toArray, List.length_cons, List.length_nil, Nat.reduceAdd, Nat.reduceSub, Array.replicate_succ, Array.replicate_zero, List.push_toArray, List.append_toArray, List.nil_append, List.cons_append]
  gi_wp2_with fail
  refine ⟨trivial, ?_⟩
  refine (callsIn_wide.2 (sorted_any _ p m T c hTab hT)).mono ?_
  rintro e w1 ⟨v, rfl, hown, hbw⟩
  have hJ1 : J [] w1 := hJ [] W w1 none h0 ⟨hbw.os, hbw.tape, hbw.output, hbw.size, fun k hk _ => hbw.block k hk⟩ (fun r e => by cases e)
  have hS0 : (sortI T).length = T.length := by simp [sortI]
  rcases hown.2 with ⟨rfl, hz⟩ | ⟨g, cap, cur, rfl, hb, hg, hg2⟩
  · have hT0 : sortI T = [] := List.eq_nil_of_length_eq_zero (by omega)
    gi_wp2
    gi_loopw [8] (fun i wr => i = .int .i64 0 ∧ J [] wr) (fun _ _ => 0)
    case atStart => exact ⟨rfl, hJ1⟩
    case round =>
      obtain ⟨rfl, hJs⟩ := hrel
      gi_wp2
      go_end0
      exact ⟨⟨_, rfl⟩, .inl ⟨_, rfl, by rw [hT0]; exact hJs⟩⟩
  · gi_wp2
    gi_loopw [8] (fun i wr => ∃ k : Nat, k ≤ T.length ∧ i = .int .i64 k ∧ J ((sortI T).take k) wr ∧ wr.heap[g]? = w1.heap[g]? ∧ ptrOf wr ob ≠ some g ∧ w1.heap.size ≤ wr.heap.size)
      (fun i _ => T.length - (intOf i).toNat)
    case atStart => exact ⟨0, Nat.zero_le _, rfl, hJ1, rfl, (fun e => by rw [ptr_of_same (hbw.block ob hob)] at e; have := hp0 g e; omega), Nat.le_refl _⟩
    case round =>
      obtain ⟨k, hk, rfl, hJs, hgk, hpk, hsz⟩ := hrel
      by_cases hlt : k < T.length
      · have hownr := own_of_block hown (w' := wr) (fun j hj => by simp [Value.ownBlock] at hj; subst hj; exact hgk)
        obtain ⟨c0, c1, c2⟩ := row_cells hownr k (by omega)
        have hs : (sortI T).take (k + 1) = (sortI T).take k ++ [(sortI T)[k]?.getD ⟨0, 0, 0⟩] := by
          rw [List.take_succ_eq_append_getElem (by omega)]; simp [show k < (sortI T).length by omega]
        generalize hx : (sortI T)[k]?.getD ⟨0, 0, 0⟩ = x at *
        have Hx := Lib.hid hx; clear hx
        have Hs := Lib.hid hs; clear hs
        have hJa := hJ _ _ (wr.alloc (.cells #[.int .i64 x.id, .int .i64 x.lev, .int .i64 x.used] 32)) none hJs (World.grownBy_alloc _ _ none) (fun r e => by cases e)
        obtain ⟨fn, tmps, assign, body, hy, hRd⟩ := hY _ x (wr.alloc (.cells #[.int .i64 x.id, .int .i64 x.lev, .int .i64 x.used] 32)) hJa (by simp; omega)
        have hy' : (Instr.yield l #[.agg #[.int .i64 x.id, .int .i64 x.lev, .int .i64 x.used]]).run Try.prog (wr.alloc (.cells #[.int .i64 x.id, .int .i64 x.lev, .int .i64 x.used] 32)) = .ok (.round l fn tmps assign body) (wr.alloc (.cells #[.int .i64 x.id, .int .i64 x.lev, .int .i64 x.used] 32)) := hy
        gi_wp2
        have hgl : g < w1.heap.size := (Array.getElem?_eq_some_iff.1 hg).1
        have hpa : ptrOf (wr.alloc (.cells #[.int .i64 x.id, .int .i64 x.lev, .int .i64 x.used] 32)) ob = ptrOf wr ob := ptr_of_same (Below.heap_alloc _ _ _ (by have := hbw.size; omega))
        refine hRd.mono ?_
        rintro e W3 (⟨rfl, hJ3, hk3⟩ | ⟨rfl, hJx3⟩)
        · have hg3 : W3.heap[g]? = w1.heap[g]? := (hk3.same g _ _ _ (((Below.heap_alloc _ _ _ (by omega)).trans hgk).trans hg) (by omega) (by rw [hpa]; exact hpk)).trans ((Below.heap_alloc _ _ _ (by omega)).trans hgk)
          have hp3 : ptrOf W3 ob ≠ some g := fun e => by
            rcases hk3.ptr with h2 | ⟨j, h2, hj⟩
            · rw [h2, hpa] at e; exact hpk e
            · rw [h2] at e; cases e; simp at hj; omega
          have hz3 := hk3.size
          gi_wp2
          go_roundw
          case rel => exact ⟨k + 1, by omega, by simp, by rw [Hs.out]; exact hJ3, hg3, hp3, by simp at hz3; omega⟩
          case measure => simp [intOf]; omega
        · gi_wp2
          refine bodyPost_ret (results_none rfl _ _ _) rfl ?_
          exact ⟨⟨_, rfl⟩, .inr ⟨_, by rw [← Hs.out]; exact List.take_prefix _ _, hJx3⟩⟩
      · obtain rfl : k = T.length := by omega
        gi_wp2
        go_end0
        exact ⟨⟨_, rfl⟩, .inl ⟨_, rfl, by rw [← hS0, List.take_length] at hJs; exact hJs⟩⟩
end Go.Proofs.Ytcpcoomkapblcaa
