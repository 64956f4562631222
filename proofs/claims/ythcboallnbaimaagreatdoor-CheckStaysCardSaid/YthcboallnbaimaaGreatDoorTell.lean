/- check: tell, where the problems are yielded to a loop. -/
import Derived.Test.YthcboallnbaimaaGreatDoorFind
import Derived.Test.YthcboallnbaimaaGreatDoorStillIn
import Derived.Test.YthcboallnbaimaaGreatDoorExprs
import Derived.BigRegion
import Derived.Deep.QuietTactic
import Derived.BigQuiet
import Derived.Outline
namespace Go.Proofs.YthcboallnbaimaaGreatDoor
open Go Go.RowKit Go.Maps
attribute [local go_sem] Oper.semAt_some
/-- What a loop's body does with a problem. -/
def YieldsTo (K : CkE) (l : Nat) (J Jx : List (Int × Int) → World → Prop) : Prop :=
  ∀ pre (x : Int × Int) W1, J pre W1 → pre.length < 1000000 → YieldAt Fence.wide 0 Tryz.prog l #[.agg #[.int .i64 x.1, .int .i64 x.2]] W1 fun e W' =>
    (e = .returned (.bool true) ∧ J (pre ++ [x]) W' ∧ KeepsT TK K.B W1 W' ∧ Below K.n₀ W1 W') ∨ (e = .returned (.bool false) ∧ Jx (pre ++ [x]) W' ∧ KeepsT TK K.B W1 W' ∧ Below K.n₀ W1 W')
theorem set_place {K : CkE} {pm : Option Nat} {E : Env} {n n' : Int} {over : Bool} {W : World} (h : W.heap[K.q]? = some (.cells (K.cells pm E n over) 129 (0, 0))) :
    (W.setCell ⟨K.q, 26, none⟩ (.int .i64 n')).heap[K.q]? = some (.cells (K.cells pm E n' over) 129 (0, 0)) := by
  simp [World.setCell, Array.getElem?_modify, h, CkE.cells]
theorem set_over {K : CkE} {pm : Option Nat} {E : Env} {n : Int} {over over' : Bool} {W : World} (h : W.heap[K.q]? = some (.cells (K.cells pm E n over) 129 (0, 0))) :
    (W.setCell ⟨K.q, 29, none⟩ (.bool over')).heap[K.q]? = some (.cells (K.cells pm E n over') 129 (0, 0)) := by
  simp [World.setCell, Array.getElem?_modify, h, CkE.cells]
theorem TellSt.keep {J Jx : List (Int × Int) → World → Prop} {cs : List Int} {over : Bool} {W W' : World} (h : TellSt J Jx cs over W) (h1 : ∀ l, J l W → J l W') (h2 : ∀ l, Jx l W → Jx l W') : TellSt J Jx cs over W' := by
  rcases h with ⟨e, h⟩ | ⟨e, l, a, b, h⟩
  · exact .inl ⟨e, h1 _ h⟩
  · exact .inr ⟨e, l, a, b, h2 _ h⟩
/-- What was told stands in its cell: the end of telling. -/
theorem tell_end {K : CkE} {J Jx : List (Int × Int) → World → Prop} (hJ : OwnC 129 K.B J) (hJx : OwnC 129 K.B Jx) {pm : Option Nat} {E : Env} {cs : List Int} {c : Int} {n : Int} {over : Bool} {W W2 : World}
    (hk : KeepsQ K W W2) (h : Ckr K pm E n over W2) (hs : TellSt J Jx (cs ++ [c]) over W2) : Told K J Jx pm E (cs ++ [c]) W (W2.setCell ⟨K.q, 26, none⟩ (.int .i64 ((cs.length : Int) + 1))) := by
  have hn : K.n₀ ≤ K.q := by have := h.q; have := h.n0; omega
  have hk2 : KeepsQ K W2 (W2.setCell ⟨K.q, 26, none⟩ (.int .i64 ((cs.length : Int) + 1))) := .set h.box hn _
  refine ⟨⟨over, ?_, hs.keep (fun l hl => hJ.cell _ hl h.q h.box) (fun l hl => hJx.cell _ hl h.q h.box)⟩, hk.trans hk2⟩
  have e : ((cs ++ [c]).length : Int) = (cs.length : Int) + 1 := by simp
  rw [e]
  exact h.stays hk2 (set_place h.box)
theorem TellSt.quiet {J Jx : List (Int × Int) → World → Prop} {cs : List Int} {c : Int} {over : Bool} {W : World} (h : TellSt J Jx cs over W) (hc : c = 0 ∨ over = true) : TellSt J Jx (cs ++ [c]) over W := by
  rcases h with ⟨e, h⟩ | ⟨e, l, a, b, h⟩
  · rcases hc with hc | hc
    · exact .inl ⟨e, by rw [probs_snoc, if_pos hc, List.append_nil]; exact h⟩
    · rw [hc] at e; cases e
  · exact .inr ⟨e, l, a, by rw [probs_snoc]; exact b.trans (List.prefix_append _ _), h⟩
set_option maxRecDepth 1000000 in
set_option maxHeartbeats 1000000 in
theorem tell_loop (K : CkE) (l : Nat) (hy : K.yv = .func (.yield l) #[] #[]) (J Jx : List (Int × Int) → World → Prop) (hJ : OwnC 129 K.B J) (hJx : OwnC 129 K.B Jx)
    (hY : YieldsTo K l J Jx) : TellOk K J Jx := by
  intro pm E cs W c hst hlen
  obtain ⟨over, hk, hs⟩ := hst.ex
  have HY := Lib.hid hY
  clear hY hst
  have c26 := hk.c26
  have c28 := hk.c28
  have c29 := hk.c29
  have f26 := hk.frozen 26
  have f29 := hk.frozen 29
  rw [hy] at c28
  have hb0 : ∀ nq, Below W.heap.size W (W.drewN nq) := fun nq => ⟨rfl, rfl, rfl, Nat.le_refl _, fun _ _ => rfl⟩
  have hn : K.n₀ ≤ W.heap.size := by have := hk.lt; have := hk.q; have := hk.n0; omega
  have HQ : Hid (∀ nq, (c = 0 ∨ over = true) → Told K J Jx pm E (cs ++ [c]) W ((W.drewN nq).setCell ⟨K.q, 26, none⟩ (.int .i64 ((cs.length : Int) + 1)))) :=
    Lib.hid fun nq hc => tell_end hJ hJx (.of_below (hb0 nq) hn) (hk.new (hb0 nq)) ((hs.quiet hc).keep (fun l hl => hJ.new hl (hb0 nq)) (fun l hl => hJx.new hl (hb0 nq)))
  have HK := Lib.hid hk
  have HS := Lib.hid hs
  clear hk hs hb0 hn
  by_cases hc : c = 0
  · subst hc
    clear hy
    go_enter Tryz.func110, Tryz.ntmps110
    go_wp2
    go_quiet (fail)
    go_wp2
    go_returns
    exact ⟨rfl, HQ.out nq (by simp)⟩
  · have h0 : (c == 0) = false := by simpa using hc
    have h1 : (c != 0) = true := by simpa using hc
    cases over with
    | true =>
      clear hy
      go_enter Tryz.func110, Tryz.ntmps110
      go_wp2
      go_quiet (fail)
      go_wp2
      go_returns
      exact ⟨rfl, HQ.out nq (by simp)⟩
    | false =>
      have hn : K.n₀ ≤ W.heap.size := by have := HK.out.lt; have := HK.out.q; have := HK.out.n0; omega
      have hbd : Below W.heap.size W W.drew := (Below.refl _ _).drew
      have hJ0 : J (probs cs 0) W.drew := by
        rcases HS.out with ⟨_, h⟩ | ⟨e, _⟩
        · exact hJ.new h hbd
        · cases e
      obtain ⟨fn, tmps, assign, body, hyl, hR⟩ := HY.out (probs cs 0) ((cs.length : Int), c) W.drew hJ0 (by have := probs_len cs 0; omega)
      have HC := Lib.hid hc
      have HBD := Lib.hid hbd
      clear hy HQ hc hJ0 hbd
      refine (callsIn_wide (n := 1)).1 ?_
      refine callsIn_of_wp_marks Tryz.func110 rfl trivial ?_ rfl
      simp only [Tryz.ntmps110, List.size_toArray, List.length_cons, List.length_nil, Nat.reduceAdd, Nat.reduceSub, Array.replicate_succ, Array.replicate_zero, List.push_toArray, List.append_toArray, List.nil_append, List.cons_append]
      gi_wp2
      refine wpIn_region_still_tail 20 (by kernel_rfl) (by kernel_rfl) ?_
      simp only [List.take_succ_cons, List.take_zero, List.drop_succ_cons, List.drop_zero]
      repeat still_step
      refine wpStill_nil ?_
      clear c26 c28 c29 f26 f29
      gi_wp2
      refine hR.mono ?_
      clear hR hyl
      have hq : KeepsQ K W W.drew := .of_below HBD.out hn
      have hbox := (HBD.out.block _ HK.out.lt).trans HK.out.box
      rintro o3 W3 (⟨rfl, hJ3, hk3, hb3⟩ | ⟨rfl, hJ3, hk3, hb3⟩)
      · have hq3 : KeepsQ K W W3 := hq.trans (.of_keeps hk3 hb3)
        have hck := HK.out.stays hq3 (hk3.cells _ _ _ _ hbox rfl)
        have c26 := hck.c26
        have f26 := hck.frozen 26
        have HE := Lib.hid (tell_end hJ hJx hq3 hck (.inl ⟨rfl, by rw [probs_snoc, if_neg HC.out]; exact hJ3⟩ : TellSt J Jx (cs ++ [c]) false W3))
        clear hq3 hck hJ3 hk3 hb3 hbox hq
        gi_wp2
        exact ⟨_, results_none rfl _ _ _, rfl, HE.out⟩
      · have hq3 : KeepsQ K W W3 := hq.trans (.of_keeps hk3 hb3)
        have hck := HK.out.stays hq3 (hk3.cells _ _ _ _ hbox rfl)
        have f29 := hck.frozen 29
        have c29 := hck.c29
        have hn3 : K.n₀ ≤ K.q := by have := hck.q; have := hck.n0; omega
        have hq4 : KeepsQ K W (W3.setCell ⟨K.q, 29, none⟩ (.bool true)) := hq3.trans (.set hck.box hn3 _)
        have hck4 := HK.out.stays hq4 (set_over (over' := true) hck.box)
        have c26 := hck4.c26
        have f26 := hck4.frozen 26
        have HE := Lib.hid (tell_end hJ hJx hq4 hck4 (.inr ⟨rfl, _, by simp, by rw [probs_snoc, if_neg HC.out]; exact List.prefix_refl _, hJx.cell _ hJ3 hck.q hck.box⟩ : TellSt J Jx (cs ++ [c]) true _))
        clear hq3 hck hJ3 hk3 hb3 hbox hq hq4 hck4
        gi_wp2
        exact ⟨_, results_none rfl _ _ _, rfl, HE.out⟩
end Go.Proofs.YthcboallnbaimaaGreatDoor
