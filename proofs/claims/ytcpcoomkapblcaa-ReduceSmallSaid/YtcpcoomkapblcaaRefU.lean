/- The reference's Use. -/
import Derived.Test.YtcpcoomkapblcaaRefP
import Derived.RegionTactic
import Derived.Deep.RegionWith
open Go Go.RowKit Go.Maps
namespace Go.Proofs.Ytcpcoomkapblcaa
open Go.Shelf
attribute [local go_sem ↓] Go.wp_at_zero Go.wp_at_succ
theorem findX_at (T : List Inf) (i : Int) (k : Nat) (h : hasI T i = true) : ∃ j, j < T.length ∧ findX T i k = ((k + j : Nat) : Int) ∧ T[j]?.getD ⟨0, 0, 0⟩ = infoOf T i := by
  induction T generalizing k with
  | nil => simp [hasI] at h
  | cons x l ih =>
    rw [findX]
    by_cases e : x.id = i
    · rw [if_pos e]
      exact ⟨0, by simp, by simp, by simp [infoOf, findI, e]⟩
    · rw [if_neg e]
      have h' : hasI l i = true := by unfold hasI at h ⊢; simpa [e] using h
      obtain ⟨j, h1, h2, h3⟩ := ih (k + 1) h'
      refine ⟨j + 1, by simp; omega, by rw [h2]; congr 1; omega, ?_⟩
      rw [List.getElem?_cons_succ, h3]
      simp [infoOf, findI, e]
/-- A list of Infos does not lie in a block of two cells. -/
theorem RdS.two {B q : Nat} {W : World} {sv u : Value} {T : List Inf} {a b : Value} {t : TypeId} {j : Nat} (h : RdS B W sv T) (hq : W.heap[q]? = some (.cells #[a, b] t (0, 0))) : RdS B (W.setCell ⟨q, j, none⟩ u) sv T ∧ (W.setCell ⟨q, j, none⟩ u).heap[q]? = some (.cells ((#[a, b] : Array Value).setIfInBounds j u) t (0, 0)) := by
  refine ⟨?_, by simp [World.setCell, Array.getElem?_modify, hq]⟩
  obtain ⟨A, c, e, hc, hr⟩ := h
  refine ⟨A, c, e, hc, fun h0 => ?_⟩
  obtain ⟨g, off, e1, hg, hcell⟩ := hr h0
  have hne : g ≠ q := by
    rintro rfl
    have h2 := (hcell 0 h0).2.2
    rw [Nat.zero_mul, Nat.add_zero] at h2
    simp [World.cell?, hq] at h2
  refine ⟨g, off, e1, hg, fun k hk => ?_⟩
  obtain ⟨h1, h2, h3⟩ := hcell k hk
  exact ⟨(World.cell?_setCell_other W ⟨q, j, none⟩ ⟨g, off + k * 3, none⟩ u (fun e => hne (by injection e with e; exact e.symm))).trans h1, (World.cell?_setCell_other W ⟨q, j, none⟩ ⟨g, off + k * 3 + 1, none⟩ u (fun e => hne (by injection e with e; exact e.symm))).trans h2, (World.cell?_setCell_other W ⟨q, j, none⟩ ⟨g, off + k * 3 + 2, none⟩ u (fun e => hne (by injection e with e; exact e.symm))).trans h3⟩
theorem useR_put {T : List Inf} {c i l : Int} (h : hasI T i = true) (h1 : 1 ≤ i) (h2 : i ≤ 1073741824) (h3 : 0 ≤ min (infoOf T i).lev l) (hl : 0 ≤ l) : useR T c i l = putR (T.filter (fun y => y.id ≠ i)) c i (min (infoOf T i).lev l) := by
  have hn : hasI (T.filter (fun y => y.id ≠ i)) i = false := by
    unfold hasI
    rw [List.any_eq_false]
    intro x hx
    have := (List.mem_filter.1 hx).2
    simpa using this
  unfold useR putR
  rw [if_neg (by rw [h]; simp), if_neg (by omega), if_neg (by rw [hn]; simp; omega), if_neg (by omega), List.filter_filter]
  simp
set_option maxRecDepth 1000000 in
set_option maxHeartbeats 4000000 in
theorem refUse_any (w : World) (B : Nat) (sv : Value) (T : List Inf) (c i l : Int) (hB : B ≤ w.heap.size) (hs : RdS B w sv T) (hT : T.length ≤ 1000) (hc0 : 0 ≤ c) (hc1 : c ≤ 1000000) (hgood : ∀ x ∈ T, 1 ≤ x.id ∧ x.id ≤ 1073741824 ∧ 0 ≤ x.lev) :
    Calls Try.prog 55 #[.agg #[sv, .int .i64 c], .int .i64 i, .int .i64 l] w (RefPutP w (useR T c i l).1 (useR T c i l).2.1 (useR T c i l).2.2) := by
  obtain ⟨A, cap, rfl, hcp, hr⟩ := id hs
  have hp := heap_two w (.cells #[.slice A T.length cap, .int .i64 c] 94) (.cells #[.slice none 0 0, .int .i64 0] 94)
  have hb1 : Below w.heap.size w ((w.alloc (.cells #[.slice A T.length cap, .int .i64 c] 94)).alloc (.cells #[.slice none 0 0, .int .i64 0] 94)) := ((Below.refl _ w).alloc (Nat.le_refl _) _).alloc (by simp) _
  have hz1' : ((w.alloc (.cells #[.slice A T.length cap, .int .i64 c] 94)).alloc (.cells #[.slice none 0 0, .int .i64 0] 94)).heap.size = w.heap.size + 2 := by simp
  have HP := Lib.hid hp; clear hp
  have HZ1 := Lib.hid hz1'; clear hz1'
  obtain ⟨hx1, hx2, hx3, hx4⟩ := findX_has T i 0
  have hf := fun W hW => refFind_any W B (.slice A T.length cap) T c i hW
  have HF := Lib.hid hf; clear hf
  have HG := Lib.hid hgood
  clear hgood
  cases hh : hasI T i with
  | false =>
    have hneg := hx2.2 hh
    have hput : useR T c i l = (T, c, 160) := by unfold useR; rw [if_pos hh]
    rw [hput]
    clear hput hx1 hx2 hh hr
    go_enter Try.func55, Try.ntmps55
    go_wp2_with fail
    generalize (w.alloc (.cells #[.slice A T.length cap, .int .i64 c] 94)).alloc (.cells #[.slice none 0 0, .int .i64 0] 94) = w1 at *
    have hsz1 := HZ1.out
    refine (HF.out w1 (by omega) (hs.below (hb1.mono hB)) (by omega)).mono ?_
    rintro e w2 ⟨rfl, hb2⟩
    generalize findX T i 0 = fx at *
    have e1 : w2.heap[w.heap.size]? = some (.cells #[.slice A T.length cap, .int .i64 c] 94) := (hb2.block _ (by omega)).trans HP.out.1
    have e2 : w2.heap[w.heap.size + 1]? = some (.cells #[.slice none 0 0, .int .i64 0] 94) := (hb2.block _ (by omega)).trans HP.out.2
    obtain ⟨g0, g1, f0, f1⟩ := two_cells e1
    obtain ⟨k0, k1, j0, j1⟩ := two_cells e2
    have hb02 := hb1.trans (hb2.mono (by omega))
    have hsz2 := hb2.size
    clear e1 e2 hb1 hb2
    go_wp2_with fail
    refine bodyPost_ret (by simp [results, Try.results55, go_sem, k0, k1]; try rfl) rfl ?_
    refine ⟨_, rfl, ?_, ?_⟩
    · refine RdS.more (hs.below (B := _) ?_) (n₁ := _) ?_
      · repeat' (first | exact hb02.mono hB | refine Below.setCell ?_ (by first | omega | (simp; done) | (simp; omega)) _)
      · simp; omega
    · repeat' (first | exact hb02 | refine Below.setCell ?_ (by simp) _)
  | true =>
    have hneg := hx1.2 hh
    by_cases hl : l < 0
    · have hput : useR T c i l = (T, c, 2) := by unfold useR; rw [if_neg (by rw [hh]; simp), if_pos hl]
      rw [hput]
      clear hput hx1 hx2 hh hr
      go_enter Try.func55, Try.ntmps55
      go_wp2_with fail
      generalize (w.alloc (.cells #[.slice A T.length cap, .int .i64 c] 94)).alloc (.cells #[.slice none 0 0, .int .i64 0] 94) = w1 at *
      have hsz1 := HZ1.out
      refine (HF.out w1 (by omega) (hs.below (hb1.mono hB)) (by omega)).mono ?_
      rintro e w2 ⟨rfl, hb2⟩
      generalize findX T i 0 = fx at *
      have e1 : w2.heap[w.heap.size]? = some (.cells #[.slice A T.length cap, .int .i64 c] 94) := (hb2.block _ (by omega)).trans HP.out.1
      have e2 : w2.heap[w.heap.size + 1]? = some (.cells #[.slice none 0 0, .int .i64 0] 94) := (hb2.block _ (by omega)).trans HP.out.2
      obtain ⟨g0, g1, f0, f1⟩ := two_cells e1
      obtain ⟨k0, k1, j0, j1⟩ := two_cells e2
      have hb02 := hb1.trans (hb2.mono (by omega))
      have hsz2 := hb2.size
      clear e1 e2 hb1 hb2
      go_wp2_with fail
      refine bodyPost_ret (by simp [results, Try.results55, go_sem, k0, k1]; try rfl) rfl ?_
      refine ⟨_, rfl, ?_, ?_⟩
      · refine RdS.more (hs.below (B := _) ?_) (n₁ := _) ?_
        · repeat' (first | exact hb02.mono hB | refine Below.setCell ?_ (by first | omega | (simp; done) | (simp; omega)) _)
        · simp; omega
      · repeat' (first | exact hb02 | refine Below.setCell ?_ (by simp) _)
    · obtain ⟨j, hj, hfx, hat⟩ := findX_at T i 0 hh
      have hinT : infoOf T i ∈ T ∧ (infoOf T i).id = i := by
        unfold infoOf findI
        cases hfd : T.find? (fun x => x.id == i) with
        | none =>
          rw [List.find?_eq_none] at hfd
          obtain ⟨x, hx, hxi⟩ := hasI_iff.1 hh
          exact absurd (by simpa using hxi) (hfd x hx)
        | some x => exact ⟨List.mem_of_find?_eq_some hfd, by simpa using List.find?_some hfd⟩
      obtain ⟨gg1, gg2, gg3⟩ := HG.out _ hinT.1
      rw [hinT.2] at gg1 gg2
      have hput := useR_put (c := c) (l := l) hh gg1 gg2 (by omega) (by omega)
      rw [hput]
      have hll : 0 ≤ l := by omega
      rw [Nat.zero_add] at hfx
      have hw := fun W hW hs => without_any W B (.slice A T.length cap) T c i hW hs hT
      have HW := Lib.hid hw; clear hw
      have hfl : (T.filter (fun y => y.id ≠ i)).length ≤ 1000 := Nat.le_trans (List.length_filter_le _ _) hT
      obtain ⟨b, off, rfl, hbB, hcell⟩ := hr (by omega)
      have hq := (hcell j hj).2.1
      rw [hat] at hq
      have HQ := Lib.hid hq
      have HFX := Lib.hid hfx
      generalize (infoOf T i).lev = lv at *
      generalize hF : T.filter (fun y => y.id ≠ i) = F at *
      clear hput hx1 hx2 hx3 hx4 hh hinT hat hcell hr hq hfx hF
      go_enter Try.func55, Try.ntmps55
      go_wp2_with fail
      generalize (w.alloc (.cells #[.slice (some ⟨b, off, none⟩) T.length cap, .int .i64 c] 94)).alloc (.cells #[.slice none 0 0, .int .i64 0] 94) = w1 at *
      have hsz1 := HZ1.out
      refine (HF.out w1 (by omega) (hs.below (hb1.mono hB)) (by omega)).mono ?_
      rintro e w2 ⟨rfl, hb2⟩
      rw [HFX.out] at hneg ⊢
      have e1 : w2.heap[w.heap.size]? = some (.cells #[.slice (some ⟨b, off, none⟩) T.length cap, .int .i64 c] 94) := (hb2.block _ (by omega)).trans HP.out.1
      have e2 : w2.heap[w.heap.size + 1]? = some (.cells #[.slice none 0 0, .int .i64 0] 94) := (hb2.block _ (by omega)).trans HP.out.2
      obtain ⟨g0, g1, f0, f1⟩ := two_cells e1
      have hb02 := hb1.trans (hb2.mono (by omega))
      have hs2 : RdS B w2.drew (.slice (some ⟨b, off, none⟩) T.length cap) T := hs.below (hb02.mono hB).drew
      have hsz2 : w.heap.size + 2 ≤ w2.heap.size := by have := hb2.size; omega
      have q2 : w2.cell? ⟨b, off + j * 3 + 1, none⟩ = some (.int .i64 lv) := (hb02.cell (p := ⟨b, off + j * 3 + 1, none⟩) (by show b < _; omega)).trans HQ.out
      have HE1 := Lib.hid e1
      have HE2 := Lib.hid e2
      have HS2 := Lib.hid hs2
      have hbw : b < w.heap.size := by omega
      have hj1 : (0 : Int) ≤ (j : Int) := by omega
      have hj2 : (j : Int) < (T.length : Int) := by omega
      have hB2 : B ≤ w2.heap.size := by omega
      clear e1 e2 hb1 hb2 hs2
      go_wp2_with fail
      go_region_with (first
        | (go_at_call 74; refine (HW.out w2.drew hB2 HS2.out).mono ?_; rintro e w3 ⟨sv3, rfl, hown3, hb3⟩; have p0 := (hb3.cell (p := ⟨w.heap.size, 0, none⟩) (by show w.heap.size < w2.heap.size; omega)).trans g0; have p1 := (hb3.cell (p := ⟨b, off + j * 3 + 1, none⟩) (by show b < w2.heap.size; omega)).trans q2; have hrd3 := RdS.of_ownE hown3; have hsz3 : w2.heap.size ≤ w3.heap.size := hb3.size; have E3 := Lib.hid ((hb3.block (w.heap.size + 1) (by show w.heap.size + 1 < w2.heap.size; omega)).trans HE2.out))
        | (go_at_call 54; refine (refPut_any w3 w3.heap.size sv3 F c i (min lv l) (Nat.le_refl _) hrd3 hfl hc0 hc1).mono ?_; rintro e w4 ⟨sv4, rfl, hrd4, hb4⟩; obtain ⟨A4, c4, rfl⟩ := hrd4.form; have E4 := Lib.hid ((hb4.block (w.heap.size + 1) (by omega)).trans E3.out); obtain ⟨k0, k1, j0, j1⟩ := two_cells E4.out)
        | fail)
      all_goals
        have hr1 := RdS.two (j := 0) (u := .slice A4 (putR F c i (min lv l)).1.length c4) hrd4 E4.out
        have hr2 := RdS.two (j := 1) (u := .int .i64 (putR F c i (min lv l)).2.1) hr1.1 hr1.2
        have hb23 : Below w2.heap.size w2 w3 := ⟨hb3.os, hb3.tape, hb3.output, hb3.size, hb3.block⟩
        have hb04 : Below w.heap.size w w4 := hb02.trans ((hb23.trans (hb4.mono hsz3)).mono (by omega))
        have HR2 := Lib.hid hr2.1
        have HB4 := Lib.hid hb04
        have hsz4 := hb4.size
        clear hr1 hr2 hb04 hb23 hrd3 hrd4 hb3 hb4 p0 p1
        generalize putR F c i (min lv l) = R at *
        go_wp2_with fail
        refine bodyPost_ret (by simp [results, Try.results55, go_sem, k0, k1]; try rfl) rfl ?_
        refine ⟨_, rfl, ?_, ?_⟩
        · exact HR2.out.more (by simp)
        · exact (HB4.out.setCell (by simp) _).setCell (by simp) _
end Go.Proofs.Ytcpcoomkapblcaa
