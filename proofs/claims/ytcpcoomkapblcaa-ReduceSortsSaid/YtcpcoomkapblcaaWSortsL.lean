/- ReduceSorts' walk; an argument that is a slice of Infos reads as a list. -/
import Derived.Test.YtcpcoomkapblcaaWSorts
import Derived.Test.YtcpcoomkapblcaaRow
import Derived.Deep.Slices
import Derived.Deep.Fields
import Derived.ChangeSame
open Go Go.RowKit Go.Maps
namespace Go.Proofs.Ytcpcoomkapblcaa
open Go.Shelf
set_option maxRecDepth 1000000 in
set_option maxHeartbeats 1000000 in
theorem reduceSorts_any (w : World) (v : Value) (T : List Inf) (hr : RdS w.heap.size w v T) (hT : T.length ≤ maxLen) :
    Calls Try.prog 10 #[v] w fun e w' => e = .returned (.bool true) ∧ Below w.heap.size w w' := by
  obtain ⟨A, c, rfl⟩ := hr.form
  unfold maxLen at hT
  by_cases h : T.length ≤ 40
  · have h1 : ¬ (40 : Int) < (T.length : Int) := by omega
    have HS := Lib.hid (sorts_any w A c T hr h)
    go_enter Try.func10, Try.ntmps10
    go_wp2_with fail
    refine HS.out.mono ?_
    rintro e w1 ⟨rfl, hb1⟩
    go_wp2_with fail
    refine (awake_any _).mono ?_
    rintro e w2 ⟨rfl, hb2⟩
    go_wp2_with fail
    go_ret
    exact ⟨rfl, hb1.trans (hb2.mono hb1.size)⟩
  · have h1 : (40 : Int) < (T.length : Int) := by omega
    go_enter Try.func10, Try.ntmps10
    go_wp2_with fail
    refine (awake_any _).mono ?_
    rintro e w2 ⟨rfl, hb2⟩
    go_wp2_with fail
    go_ret
    exact ⟨rfl, hb2⟩
section
open Go.ChangeShapes Go.WideShapes Go.Deep
theorem cellsInf : Try.prog.cellsOf 32 = 3 := by kernel_rfl
theorem cellsInt3 : Try.prog.cellsOf 3 = 1 := by kernel_rfl
set_option maxRecDepth 100000 in
/-- An argument that is a slice of Infos reads as a list. -/
theorem rdS_of_arg {H : Type} {enc : TypeId × Value → H} {W : World} {base : Nat} {v : Value} {d : DataW H} {p : List MemPlace}
    (hval : Value.okWide Try.prog W .any base 29 v) (h : DataW.Trod enc Try.prog W 0 (fun _ => true) true 29 v d p) : ∃ T, RdS W.heap.size W v T ∧ T.length ≤ maxLen := by
  obtain ⟨a0, len, cap, rfl⟩ := okWide_slice Try.underlying29 hval
  obtain ⟨fuel, hf⟩ := h
  rcases open_slice Try.underlying29 hf with ⟨hcs, hx⟩ | ⟨a, len', cap', m, n, D, Pl, hcs, _, hl, hm, hmm, hx, hi⟩
  · injection hcs with e
    injection e with e1 e2 e3
    subst e1 e2 e3
    exact ⟨[], RdS.nil _ _, by simp⟩
  · injection hcs with e
    injection e with e1 e2 e3
    subst e1 e2 e3
    simp only [if_true] at hmm
    subst hmm
    have hcell : ∀ i, i < len → ∃ x : Inf, W.cell? (a.add (i * 3)) = some (.int .i64 x.id) ∧ W.cell? ((a.add (i * 3)).add 1) = some (.int .i64 x.lev) ∧ W.cell? ((a.add (i * 3)).add 2) = some (.int .i64 x.used) := by
      intro i hil
      obtain ⟨cs', hc, ht'⟩ := hi i (by omega)
      rw [cellsInf] at hc
      obtain ⟨ys, n', hn', hy, hlen, hyl, hfd⟩ := DataW.trod_struct Try.underlying32 ht'
      obtain ⟨_, hcl, hat⟩ := World.cells?_some hc
      match cs', hcl with
      | [c0, c1, c2], _ =>
        match ys, hyl with
        | [y0, y1, y2], _ =>
          have h0 : DataW.trod enc Try.prog W 0 (fun _ => true) true n' 3 (List.take (Try.prog.cellsOf 3) (List.drop 0 [c0, c1, c2])) = some y0 := hfd 0 _ rfl
          have h1 : DataW.trod enc Try.prog W 0 (fun _ => true) true n' 3 (List.take (Try.prog.cellsOf 3) (List.drop 1 [c0, c1, c2])) = some y1 := hfd 1 _ rfl
          have h2 : DataW.trod enc Try.prog W 0 (fun _ => true) true n' 3 (List.take (Try.prog.cellsOf 3) (List.drop 2 [c0, c1, c2])) = some y2 := hfd 2 _ rfl
          rw [cellsInt3] at h0 h1 h2
          obtain ⟨z0, e0, _⟩ := DataW.trod_int Try.underlying3 (show DataW.trod enc Try.prog W 0 (fun _ => true) true n' 3 [c0] = some y0 from h0)
          obtain ⟨z1, e1, _⟩ := DataW.trod_int Try.underlying3 (show DataW.trod enc Try.prog W 0 (fun _ => true) true n' 3 [c1] = some y1 from h1)
          obtain ⟨z2, e2, _⟩ := DataW.trod_int Try.underlying3 (show DataW.trod enc Try.prog W 0 (fun _ => true) true n' 3 [c2] = some y2 from h2)
          injection e0 with e0
          injection e1 with e1
          injection e2 with e2
          have g0 := hat 0 (by omega)
          have g1 := hat 1 (by omega)
          have g2 := hat 2 (by omega)
          exact ⟨⟨z0, z1, z2⟩, by rw [show (a.add (i * 3)).add 0 = a.add (i * 3) by simp [Addr.add]] at g0; rw [g0, ← e0]; rfl, by rw [g1, ← e1]; rfl, by rw [g2, ← e2]; rfl⟩
    have hT : ∀ k : Nat, k ≤ len → ∃ T : List Inf, T.length = k ∧ ∀ i, i < k → W.cell? (a.add (i * 3)) = some (.int .i64 (T[i]?.getD ⟨0, 0, 0⟩).id) ∧ W.cell? ((a.add (i * 3)).add 1) = some (.int .i64 (T[i]?.getD ⟨0, 0, 0⟩).lev) ∧ W.cell? ((a.add (i * 3)).add 2) = some (.int .i64 (T[i]?.getD ⟨0, 0, 0⟩).used) := by
      intro k
      induction k with
      | zero => exact fun _ => ⟨[], rfl, fun i h => by omega⟩
      | succ k ih =>
        intro hk
        obtain ⟨T, hl, hc⟩ := ih (by omega)
        obtain ⟨x, hx⟩ := hcell k (by omega)
        refine ⟨T ++ [x], by simp [hl], fun i hi => ?_⟩
        by_cases e : i < k
        · rw [List.getElem?_append_left (by omega)]; exact hc i e
        · obtain rfl : i = k := by omega
          rw [List.getElem?_append_right (by omega), hl, Nat.sub_self]; exact hx
    obtain ⟨T, hl', hc⟩ := hT len (Nat.le_refl _)
    refine ⟨T, ⟨some a, m, by rw [hl'], by omega, fun h0 => ?_⟩, by omega⟩
    rw [hl'] at h0
    have hspot : a.spot = none := by
      have := World.cell?_spot (hc 0 h0).1
      simpa [Addr.add] using this
    obtain ⟨b, off, spot⟩ := a
    simp only at hspot
    subst hspot
    have hb : b < W.heap.size := by
      have := (hc 0 h0).1
      rw [show ((⟨b, off, none⟩ : Addr).add (0 * 3)) = ⟨b, off, none⟩ by simp [Addr.add]] at this
      rcases Nat.lt_or_ge b W.heap.size with h1 | h1
      · exact h1
      · simp [World.cell?, Array.getElem?_eq_none h1] at this
    refine ⟨b, off, rfl, hb, fun k hk => ?_⟩
    obtain ⟨q0, q1, q2⟩ := hc k (by omega)
    have e0 : ((⟨b, off, none⟩ : Addr).add (k * 3)) = ⟨b, off + k * 3, none⟩ := Go.WideShapes.add_plain _ _ _
    have e1 : ((⟨b, off + k * 3, none⟩ : Addr).add 1) = ⟨b, off + k * 3 + 1, none⟩ := Go.WideShapes.add_plain _ _ _
    have e2 : ((⟨b, off + k * 3, none⟩ : Addr).add 2) = ⟨b, off + k * 3 + 2, none⟩ := Go.WideShapes.add_plain _ _ _
    rw [e0] at q0 q1 q2
    rw [e1] at q1
    rw [e2] at q2
    exact ⟨q0, q1, q2⟩
end
end Go.Proofs.Ytcpcoomkapblcaa
