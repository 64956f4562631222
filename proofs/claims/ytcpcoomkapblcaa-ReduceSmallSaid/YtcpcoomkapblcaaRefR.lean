import Derived.Test.YtcpcoomkapblcaaRefQ
open Go Go.RowKit Go.Maps
namespace Go.Proofs.Ytcpcoomkapblcaa
set_option maxRecDepth 1000000 in
set_option maxHeartbeats 2000000 in
theorem refRemove_any (w : World) (B : Nat) (sv : Value) (T : List Inf) (c i : Int) (hB : B ≤ w.heap.size) (hs : RdS B w sv T) (hT : T.length ≤ 1000) :
    Calls Try.prog 56 #[.agg #[sv, .int .i64 c], .int .i64 i] w (RefPutP w (remR T i).1 c (remR T i).2) := by
  obtain ⟨A, cap, rfl, hcp, hr⟩ := id hs
  have hp := heap_two w (.cells #[.slice A T.length cap, .int .i64 c] 94) (.cells #[.slice none 0 0, .int .i64 0] 94)
  have hb1 : Below w.heap.size w ((w.alloc (.cells #[.slice A T.length cap, .int .i64 c] 94)).alloc (.cells #[.slice none 0 0, .int .i64 0] 94)) := ((Below.refl _ w).alloc (Nat.le_refl _) _).alloc (by simp) _
  have hz1' : ((w.alloc (.cells #[.slice A T.length cap, .int .i64 c] 94)).alloc (.cells #[.slice none 0 0, .int .i64 0] 94)).heap.size = w.heap.size + 2 := by simp
  have HP := Lib.hid hp; clear hp
  have HZ1 := Lib.hid hz1'; clear hz1'
  obtain ⟨hx1, hx2, hx3, hx4⟩ := findX_has T i 0
  have hf := fun W hW => refFind_any W B (.slice A T.length cap) T c i hW
  have HF := Lib.hid hf; clear hf hr
  cases hh : hasI T i with
  | false =>
    have hneg := hx2.2 hh
    have hput : remR T i = (T, 160) := by unfold remR; rw [if_pos hh]
    rw [hput]
    clear hput hx1 hx2 hh
    go_enter Try.func56, Try.ntmps56
    go_wp2_with fail
    generalize (w.alloc (.cells #[.slice A T.length cap, .int .i64 c] 94)).alloc (.cells #[.slice none 0 0, .int .i64 0] 94) = w1 at *
    have hsz1 := HZ1.out
    refine (HF.out w1 (by omega) (hs.below (hb1.mono hB)) (by omega)).mono ?_
    rintro e w2 ⟨rfl, hb2⟩
    generalize findX T i 0 = fx at *
    have e1 : w2.heap[w.heap.size]? = some (.cells #[.slice A T.length cap, .int .i64 c] 94) := (hb2.block _ (by omega)).trans HP.out.1
    have e2 : w2.heap[w.heap.size + 1]? = some (.cells #[.slice none 0 0, .int .i64 0] 94) := (hb2.block _ (by omega)).trans HP.out.2
    obtain ⟨g0, g1, f0, f1⟩ := two_cells e1
    obtain ⟨k0, k1, j0, j1⟩ := two_cells e2
    have hb02 := hb1.trans (hb2.mono (by omega))
    have hsz2 := hb2.size
    clear e1 e2 hb1 hb2
    go_wp2_with fail
    refine bodyPost_ret (by simp [results, Try.results56, go_sem, k0, k1]; try rfl) rfl ?_
    refine ⟨_, rfl, ?_, ?_⟩
    · refine RdS.more (hs.below (B := _) ?_) (n₁ := _) ?_
      · repeat' (first | exact hb02.mono hB | refine Below.setCell ?_ (by first | omega | (simp; done) | (simp; omega)) _)
      · simp; omega
    · repeat' (first | exact hb02 | refine Below.setCell ?_ (by simp) _)
  | true =>
    have hneg := hx1.2 hh
    have hput : remR T i = (T.filter (fun y => y.id ≠ i), 0) := by unfold remR; rw [if_neg (by rw [hh]; simp)]
    rw [hput]
    clear hput hx1 hx2 hh
    have hw := fun W hW hs => without_any W B (.slice A T.length cap) T c i hW hs hT
    have HW := Lib.hid hw; clear hw
    go_enter Try.func56, Try.ntmps56
    go_wp2_with fail
    generalize (w.alloc (.cells #[.slice A T.length cap, .int .i64 c] 94)).alloc (.cells #[.slice none 0 0, .int .i64 0] 94) = w1 at *
    have hsz1 := HZ1.out
    refine (HF.out w1 (by omega) (hs.below (hb1.mono hB)) (by omega)).mono ?_
    rintro e w2 ⟨rfl, hb2⟩
    generalize findX T i 0 = fx at *
    have e1 : w2.heap[w.heap.size]? = some (.cells #[.slice A T.length cap, .int .i64 c] 94) := (hb2.block _ (by omega)).trans HP.out.1
    have e2 : w2.heap[w.heap.size + 1]? = some (.cells #[.slice none 0 0, .int .i64 0] 94) := (hb2.block _ (by omega)).trans HP.out.2
    obtain ⟨g0, g1, f0, f1⟩ := two_cells e1
    have hb02 := hb1.trans (hb2.mono (by omega))
    have hs2 := hs.below (hb02.mono hB)
    have hsz2 := hb2.size
    have hz2 : w.heap.size + 2 ≤ w2.heap.size := by omega
    have E2 := Lib.hid e2
    clear e1 e2 hb1 hb2 hsz1 hsz2
    go_wp2_with fail
    refine (HW.out w2 (by omega) hs2).mono ?_
    rintro e w3 ⟨sv3, rfl, hown3, hb3⟩
    have e3 : w3.heap[w.heap.size + 1]? = some (.cells #[.slice none 0 0, .int .i64 0] 94) := (hb3.block _ (by omega)).trans E2.out
    obtain ⟨k0, k1, j0, j1⟩ := two_cells e3
    have hb03 := hb02.trans (hb3.mono (by omega))
    have hown9 := hown3
    obtain ⟨A9, c9, rfl⟩ := own_shape hown3
    clear e3 E2 hb02 hb3 g0 g1 f0 f1 hown3
    generalize hF : T.filter (fun y => y.id ≠ i) = F at *
    have HFF := Lib.hid hF; clear hF
    go_wp2_with fail
    refine bodyPost_ret (by simp [results, Try.results56, go_sem, k0, k1]; try rfl) rfl ?_
    refine ⟨_, rfl, ?_, ?_⟩
    · rw [HFF.out]
      refine RdS.of_ownE (base := w2.heap.size) (n := F.length) (e := 103) (own_of_block hown9 (fun j hj => ?_))
      have := own_lt hown9 j hj
      repeat' (first | rfl | refine (Below.heap_setCell _ _ _ _ (by simp; omega)).trans ?_)
    · repeat' (first | refine Below.setCell ?_ (by simp) _ | exact hb03)
end Go.Proofs.Ytcpcoomkapblcaa
