/- ShrinkerMeasures: its drawn region that lays two measures into two boxes. -/
import Derived.Test.YtlibeobmdjeilaaGreatDoorShI
import Derived.Test.YtlibeobmdjeilaaGreatDoorStepsV
import Derived.Test.YtlibeobmdjeilaaGreatDoorActS
set_option linter.all false
namespace Go.Proofs.YtlibeobmdjeilaaGreatDoor
open Go Go.RowKit
noncomputable def opsM3 : Array Oper := ((Tryz.f9.body.bind (opsOf 3)).getD #[])
def keepM3 (t : Nat) : Bool := decide (t ≤ 8) || (decide (11 ≤ t) && decide (t ≤ 33)) || decide (38 ≤ t)
theorem opsM3_ok : stepsB opsM3 8 77 keepM3 = true := by kernel_rfl
theorem mSize {x y z : Value} : (Tryz.prog.info? 95).map (·.size) = some (#[x, y, z] : Array Value).size := by kernel_rfl
structure SMb (w0 : World) (X Y : Array Value) (f8 f9 f10 f11 : Bool) (v6 v7 : Value) (w : World) : Prop where
  low : Below w0.heap.size w0 w
  p6 : f8 = true → ∃ b : Nat, v6 = .pointer (some ⟨b, 0, none⟩) ∧ w0.heap.size ≤ b ∧ w.heap[b]? = some (.cells (if f10 = true then X else #[.int .i64 0, .int .i64 0, .int .i64 0]) 95 (0, 0))
  p7 : f9 = true → ∃ b : Nat, v7 = .pointer (some ⟨b, 0, none⟩) ∧ w0.heap.size ≤ b ∧ w.heap[b]? = some (.cells (if f11 = true then Y else #[.int .i64 0, .int .i64 0, .int .i64 0]) 95 (0, 0))
  ne : f8 = true → f9 = true → v6 ≠ v7
section
variable {w0 : World} {X Y : Array Value} {f8 f9 f10 f11 : Bool} {v6 v7 : Value} {w w' : World}
theorem SMb.on (h : SMb w0 X Y f8 f9 f10 f11 v6 v7 w) (hb : Below w.heap.size w w') : SMb w0 X Y f8 f9 f10 f11 v6 v7 w' where
  low := h.low.trans (hb.mono h.low.size)
  p6 := fun e => by
    obtain ⟨b, h1, h2, h3⟩ := h.p6 e
    exact ⟨b, h1, h2, (hb.block b (Array.getElem?_eq_some_iff.1 h3).1).trans h3⟩
  p7 := fun e => by
    obtain ⟨b, h1, h2, h3⟩ := h.p7 e
    exact ⟨b, h1, h2, (hb.block b (Array.getElem?_eq_some_iff.1 h3).1).trans h3⟩
  ne := h.ne
theorem SMb.box6 (h : SMb w0 X Y false f9 false f11 v6 v7 w) : SMb w0 X Y true f9 false f11 (.pointer (some ⟨w.heap.size, 0, none⟩)) v7 (w.alloc (.cells #[.int .i64 0, .int .i64 0, .int .i64 0] 95)) := by
  have hb : Below w.heap.size w (w.alloc (.cells #[.int .i64 0, .int .i64 0, .int .i64 0] 95)) := (Below.refl _ _).alloc (Nat.le_refl _) _
  refine ⟨h.low.trans (hb.mono h.low.size), fun _ => ⟨_, rfl, h.low.size, heap_alloc_new _ _⟩, (h.on hb).p7, fun _ e => ?_⟩
  obtain ⟨b, rfl, _, h3⟩ := h.p7 e
  have := (Array.getElem?_eq_some_iff.1 h3).1
  intro e2
  simp at e2
theorem SMb.box7 (h : SMb w0 X Y f8 false f10 false v6 v7 w) : SMb w0 X Y f8 true f10 false v6 (.pointer (some ⟨w.heap.size, 0, none⟩)) (w.alloc (.cells #[.int .i64 0, .int .i64 0, .int .i64 0] 95)) := by
  have hb : Below w.heap.size w (w.alloc (.cells #[.int .i64 0, .int .i64 0, .int .i64 0] 95)) := (Below.refl _ _).alloc (Nat.le_refl _) _
  refine ⟨h.low.trans (hb.mono h.low.size), (h.on hb).p6, fun _ => ⟨_, rfl, h.low.size, heap_alloc_new _ _⟩, fun e _ => ?_⟩
  obtain ⟨b, rfl, _, h3⟩ := h.p6 e
  have := (Array.getElem?_eq_some_iff.1 h3).1
  intro e2
  simp at e2
end
def SMS (w0 : World) (X Y : Array Value) (L : Nat → Bool) (a : Act) (w : World) : Prop := a.tmps.size = 77 ∧ SMb w0 X Y (L 4) (L 5) (L 6) (L 7) (a.eval (.tmp 9)) (a.eval (.tmp 10)) w
theorem SMS.flag {w0 : World} {X Y : Array Value} {L : Nat → Bool} {a : Act} {w : World} (k d : Nat) {v : Value} (hk : k ≠ 4 ∧ k ≠ 5 ∧ k ≠ 6 ∧ k ≠ 7) (hd : d ≠ 9 ∧ d ≠ 10) (h : SMS w0 X Y L a w) : SMS w0 X Y (onL L k) (a.put (some d) v) w := by
  unfold SMS at h ⊢
  rw [onL_other (Ne.symm hk.1), onL_other (Ne.symm hk.2.1), onL_other (Ne.symm hk.2.2.1), onL_other (Ne.symm hk.2.2.2), eval_put_other hd.1, eval_put_other hd.2]
  exact ⟨by rw [size_put]; exact h.1, h.2⟩
theorem SMS.on {w0 : World} {X Y : Array Value} {L : Nat → Bool} {a : Act} {w w' : World} (h : SMS w0 X Y L a w) (hb : Below w.heap.size w w') : SMS w0 X Y L a w' := ⟨h.1, h.2.on hb⟩
set_option maxRecDepth 10000000 in
set_option maxHeartbeats 64000000 in
theorem regM3 {a0 : Act} {w0 : World} (hsz : a0.tmps.size = 77) (b4 b5 : Nat) (s0 s1 s2 t0 t1 t2 x0 x1 x2 y0 y1 y2 : Value) (f4 : a0.tmps[4]?.getD undef = .pointer (some ⟨b4, 0, none⟩)) (f5 : a0.tmps[5]?.getD undef = .pointer (some ⟨b5, 0, none⟩))
    (h4 : w0.heap[b4]? = some (.cells #[s0, s1, s2] 93 (0, 0))) (h5 : w0.heap[b5]? = some (.cells #[t0, t1, t2] 93 (0, 0))) (hx1 : (#[x0, x1, x2] : Array Value).all (·.oneCell') = true) (hy1 : (#[y0, y1, y2] : Array Value).all (·.oneCell') = true)
    (hO1 : ∀ W, Below w0.heap.size w0 W → Calls Tryz.prog 47 #[.agg #[s0, s1, s2]] W fun o w' => o = .returned (.agg #[x0, x1, x2]) ∧ Below W.heap.size W w')
    (hO2 : ∀ W, Below w0.heap.size w0 W → Calls Tryz.prog 47 #[.agg #[t0, t1, t2]] W fun o w' => o = .returned (.agg #[y0, y1, y2]) ∧ Below W.heap.size W w') :
    (Code.region 3 opsM3 true).wp Tryz.prog (fun e a w => e = .normal ∧ a.tmps.size = 77 ∧ a.defers = a0.defers ∧ (∀ t : Nat, keepM3 t = true → a.tmps[t]?.getD undef = a0.tmps[t]?.getD undef) ∧ Below w0.heap.size w0 w ∧ ∃ b9 b10 : Nat, a.tmps[9]?.getD undef = .pointer (some ⟨b9, 0, none⟩) ∧ a.tmps[10]?.getD undef = .pointer (some ⟨b10, 0, none⟩) ∧ w.heap[b9]? = some (.cells #[x0, x1, x2] 95 (0, 0)) ∧ w.heap[b10]? = some (.cells #[y0, y1, y2] 95 (0, 0))) a0 w0 := by
  refine wp_region_stepsV (n := 8) (sz := 77) (keep := keepM3) rfl opsM3_ok hsz (SMS w0 #[x0, x1, x2] #[y0, y1, y2]) (fun _ _ _ => True) ⟨hsz, (Below.refl _ _).drew, fun h => (by cases h), fun h => (by cases h), fun h => (by cases h)⟩ ?_
  have e : opsM3.toList = opsM3.toList := rfl
  conv at e => rhs; arg 1; whnf
  simp only at e
  rw [e]
  clear e
  refine StepsV.exact (c := .agg #[s0, s1, s2]) rfl rfl ?_ ?_ ?_ ?_
  · exact fun _ _ _ h => SMS.flag 0 34 (by decide) (by decide) h
  · exact fun _ => trivial
  · rintro L a w ⟨-, hS, hbeh, hsm, haft⟩
    have f4 : a.tmps[4]?.getD undef = _ := (hsm 4 rfl).trans f4
    obtain ⟨c0, c1, c2⟩ := three_on h4 hS.2.low
    simp [go_sem, f4, c0, c1, c2]
  refine StepsV.call (c := .agg #[x0, x1, x2]) (f := 47) (args := #[.agg #[s0, s1, s2]]) rfl rfl ?_ ?_ ?_ ?_
  · exact fun _ _ _ _ h hb => SMS.flag 1 35 (by decide) (by decide) (h.on hb)
  · exact fun _ _ _ => trivial
  · rintro L a w ⟨-, hS, hbeh, hsm, haft⟩
    have e1 : a.tmps[34]?.getD undef = _ := tmps_of (haft.1 rfl).2
    exact ⟨by simp [go_sem, e1], hO1 w hS.2.low⟩
  refine StepsV.exact (c := .agg #[t0, t1, t2]) rfl rfl ?_ ?_ ?_ ?_
  · exact fun _ _ _ h => SMS.flag 2 36 (by decide) (by decide) h
  · exact fun _ => trivial
  · rintro L a w ⟨-, hS, hbeh, hsm, haft⟩
    have f5 : a.tmps[5]?.getD undef = _ := (hsm 5 rfl).trans f5
    obtain ⟨c0, c1, c2⟩ := three_on h5 hS.2.low
    simp [go_sem, f5, c0, c1, c2]
  refine StepsV.call (c := .agg #[y0, y1, y2]) (f := 47) (args := #[.agg #[t0, t1, t2]]) rfl rfl ?_ ?_ ?_ ?_
  · exact fun _ _ _ _ h hb => SMS.flag 3 37 (by decide) (by decide) (h.on hb)
  · exact fun _ _ _ => trivial
  · rintro L a w ⟨-, hS, hbeh, hsm, haft⟩
    have e1 : a.tmps[36]?.getD undef = _ := tmps_of (haft.1 rfl).2
    exact ⟨by simp [go_sem, e1], hO2 w hS.2.low⟩
  refine StepsV.any (fun L v w => True) rfl ?_ ?_ ?_
  · exact fun _ _ _ _ _ _ _ h => h
  · rintro L a w ⟨hL, hS, hbeh, hsm, haft⟩
    have hst : L 6 = false := hbeh 6 rfl
    have hS2 := hS.2
    rw [hL, hst] at hS2
    refine Oper.wp_value (v := .pointer (some ⟨w.heap.size, 0, none⟩)) (w' := w.alloc (.cells #[.int .i64 0, .int .i64 0, .int .i64 0] 95)) ?_ ?_
    · simp [go_sem]
    · refine ⟨_, rfl, fun e => (by cases e), trivial, ⟨by rw [size_put]; exact hS.1, ?_⟩, trivial⟩
      rw [onL_same, onL_other (show 5 ≠ 4 by decide), onL_other (show 6 ≠ 4 by decide), onL_other (show 7 ≠ 4 by decide), hst, eval_put_same (by rw [hS.1]; decide), eval_put_other (show 9 ≠ 10 by decide)]
      exact hS2.box6
  refine StepsV.any (fun L v w => True) rfl ?_ ?_ ?_
  · exact fun _ _ _ _ _ _ _ h => h
  · rintro L a w ⟨hL, hS, hbeh, hsm, haft⟩
    have hst : L 7 = false := hbeh 7 rfl
    have hS2 := hS.2
    rw [hL, hst] at hS2
    refine Oper.wp_value (v := .pointer (some ⟨w.heap.size, 0, none⟩)) (w' := w.alloc (.cells #[.int .i64 0, .int .i64 0, .int .i64 0] 95)) ?_ ?_
    · simp [go_sem]
    · refine ⟨_, rfl, fun e => (by cases e), trivial, ⟨by rw [size_put]; exact hS.1, ?_⟩, trivial⟩
      rw [onL_same, onL_other (show 4 ≠ 5 by decide), onL_other (show 6 ≠ 5 by decide), onL_other (show 7 ≠ 5 by decide), hst, eval_put_same (by rw [hS.1]; decide), eval_put_other (show 10 ≠ 9 by decide)]
      exact hS2.box7
  refine StepsV.any (fun L v w => True) rfl ?_ ?_ ?_
  · exact fun _ _ _ _ _ _ _ h => h
  · rintro L a w ⟨hL, hS, hbeh, hsm, haft⟩
    have hal : L 4 = true := (haft.1 rfl).1
    have ev : a.eval (.tmp 35) = .agg #[x0, x1, x2] := (haft.2.1 rfl).2
    obtain ⟨b, e6, hlb, hz⟩ := hS.2.p6 hal
    rw [hL] at hz
    refine wp_store_row 95 (.tmp 9) (.tmp 35) rfl b _ e6 ev 95 _ hz mSize rfl hx1 ?_
    refine ⟨undef, rfl, fun _ => rfl, trivial, ⟨hS.1, ?_⟩, trivial⟩
    rw [onL_same, onL_other (show 4 ≠ 6 by decide), onL_other (show 5 ≠ 6 by decide), onL_other (show 7 ≠ 6 by decide)]
    have hoth : L 5 = true → ∃ b2 : Nat, a.eval (.tmp 10) = .pointer (some ⟨b2, 0, none⟩) ∧ w0.heap.size ≤ b2 ∧ (w.setRow b #[x0, x1, x2]).heap[b2]? = some (.cells (if L 7 = true then #[y0, y1, y2] else #[.int .i64 0, .int .i64 0, .int .i64 0]) 95 (0, 0)) := fun e => by
      obtain ⟨b2, h1, h2, h3⟩ := hS.2.p7 e
      refine ⟨b2, h1, h2, (setRow_other _ _ _ _ fun e2 => ?_).trans h3⟩
      have hne := hS.2.ne hal e
      rw [e6, h1] at hne
      exact hne (by rw [e2])
    exact ⟨below_setRow hS.2.low hlb _, fun _ => ⟨b, e6, hlb, setRow_heap _ _ _ _ _ _ hz⟩, hoth, hS.2.ne⟩
  refine StepsV.any (fun L v w => True) rfl ?_ ?_ ?_
  · exact fun _ _ _ _ _ _ _ h => h
  · rintro L a w ⟨hL, hS, hbeh, hsm, haft⟩
    have hal : L 5 = true := (haft.1 rfl).1
    have ev : a.eval (.tmp 37) = .agg #[y0, y1, y2] := (haft.2.1 rfl).2
    obtain ⟨b, e6, hlb, hz⟩ := hS.2.p7 hal
    rw [hL] at hz
    refine wp_store_row 95 (.tmp 10) (.tmp 37) rfl b _ e6 ev 95 _ hz mSize rfl hy1 ?_
    refine ⟨undef, rfl, fun _ => rfl, trivial, ⟨hS.1, ?_⟩, trivial⟩
    rw [onL_same, onL_other (show 4 ≠ 7 by decide), onL_other (show 5 ≠ 7 by decide), onL_other (show 6 ≠ 7 by decide)]
    have hoth : L 4 = true → ∃ b2 : Nat, a.eval (.tmp 9) = .pointer (some ⟨b2, 0, none⟩) ∧ w0.heap.size ≤ b2 ∧ (w.setRow b #[y0, y1, y2]).heap[b2]? = some (.cells (if L 6 = true then #[x0, x1, x2] else #[.int .i64 0, .int .i64 0, .int .i64 0]) 95 (0, 0)) := fun e => by
      obtain ⟨b2, h1, h2, h3⟩ := hS.2.p6 e
      refine ⟨b2, h1, h2, (setRow_other _ _ _ _ fun e2 => ?_).trans h3⟩
      have hne := hS.2.ne e hal
      rw [h1, e6] at hne
      exact hne (by rw [e2])
    exact ⟨below_setRow hS.2.low hlb _, hoth, fun _ => ⟨b, e6, hlb, setRow_heap _ _ _ _ _ _ hz⟩, hS.2.ne⟩
  rintro L a w hL ⟨hS, hsame, hv⟩
  obtain ⟨b6, h1, _, h2⟩ := hS.2.p6 (hL 4 (by decide))
  obtain ⟨b7, h3, _, h4⟩ := hS.2.p7 (hL 5 (by decide))
  rw [hL 6 (by decide)] at h2
  rw [hL 7 (by decide)] at h4
  exact ⟨rfl, hsame.1.trans hsz, hsame.2.1, hsame.2.2, hS.2.low, b6, b7, tmps_of h1, tmps_of h3, h2, h4⟩
end Go.Proofs.YtlibeobmdjeilaaGreatDoor
