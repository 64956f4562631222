import Derived.Test.YtcpcoomkapblcaaRefT
import Derived.Test.YtcpcoomkapblcaaTimesW
open Go Go.RowKit Go.Maps
namespace Go.Proofs.Ytcpcoomkapblcaa
open Go.Shelf
/-- A table of the reference: a list of its own, and the clock. -/
def RefTabP (w : World) (T : List Inf) (c : Int) (e : Ending) (w' : World) : Prop :=
  ∃ sv, e = .returned (.agg #[sv, .int .i64 c]) ∧ w'.ownsRow w.heap.size 103 3 sv T.length (T.flatMap Inf.enc) ∧ Below w.heap.size w w'
theorem own_shape {w : World} {base e size : Nat} {v : Value} {n : Nat} {xs : List Value} (h : w.ownsRow base e size v n xs) : ∃ A c, v = .slice A n c := by
  rcases h.2 with ⟨rfl, h0⟩ | ⟨g, cap, cur, rfl, _⟩
  · exact ⟨none, 0, by rw [h0]⟩
  · exact ⟨_, _, rfl⟩
set_option maxRecDepth 1000000 in
set_option maxHeartbeats 1000000 in
theorem without_any (w : World) (B : Nat) (sv : Value) (T : List Inf) (c i : Int) (hB : B ≤ w.heap.size) (hs : RdS B w sv T) (hT : T.length ≤ 1000) :
    Calls Try.prog 74 #[.agg #[sv, .int .i64 c], .int .i64 i] w (RefTabP w (T.filter (fun y => y.id ≠ i)) c) := by
  obtain ⟨A, cap, rfl, hc, hr⟩ := hs
  obtain ⟨i0, hi, hz0, hz1, hz2⟩ := info_parts rinf_info
  have hp := heap_two w (.cells #[.slice A T.length cap, .int .i64 c] 94) (.cells #[.slice none 0 0, .int .i64 0] 94)
  have hb1 : Below w.heap.size w ((w.alloc (.cells #[.slice A T.length cap, .int .i64 c] 94)).alloc (.cells #[.slice none 0 0, .int .i64 0] 94)) := ((Below.refl _ w).alloc (Nat.le_refl _) _).alloc (by simp) _
  have hz1' : ((w.alloc (.cells #[.slice A T.length cap, .int .i64 c] 94)).alloc (.cells #[.slice none 0 0, .int .i64 0] 94)).heap.size = w.heap.size + 2 := by simp
  have HP := Lib.hid hp; clear hp
  have HZ1 := Lib.hid hz1'; clear hz1'
  go_enter Try.func74, Try.ntmps74
  go_wp2_with fail
  generalize (w.alloc (.cells #[.slice A T.length cap, .int .i64 c] 94)).alloc (.cells #[.slice none 0 0, .int .i64 0] 94) = w1 at *
  go_loopw [5, 6] (fun v ix wr => ∃ k : Nat, k ≤ T.length ∧ ix = .int .i64 k ∧ wr.ownsRow (w.heap.size + 2) 103 3 v ((T.take k).filter (fun y => y.id ≠ i)).length (((T.take k).filter (fun y => y.id ≠ i)).flatMap Inf.enc) ∧ Below (w.heap.size + 2) w1 wr) (fun _ ix _ => T.length - (intOf ix).toNat)
  case atStart => exact ⟨0, Nat.zero_le _, rfl, World.ownsRow_nil _ _ _ _, Below.refl _ _⟩
  case round =>
    obtain ⟨k, hk, rfl, hown, hbk⟩ := hrel
    have hz := HZ1.out
    have e1 : wr.heap[w.heap.size]? = some (.cells #[.slice A T.length cap, .int .i64 c] 94) := (hbk.block _ (by omega)).trans HP.out.1
    have e2 : wr.heap[w.heap.size + 1]? = some (.cells #[.slice none 0 0, .int .i64 0] 94) := (hbk.block _ (by omega)).trans HP.out.2
    obtain ⟨g0, g1, f0, f1⟩ := two_cells e1
    obtain ⟨k0, k1, j0, j1⟩ := two_cells e2
    clear e1 e2 hz
    by_cases hlt : k < T.length
    · obtain ⟨b, off, rfl, hb, hcell⟩ := hr (by omega)
      obtain ⟨q1, q2, q3⟩ := hcell k hlt
      have hbw := hb1.trans (hbk.mono (show w.heap.size ≤ w.heap.size + 2 by omega))
      replace q1 := (hbw.cell (p := ⟨b, off + k * 3, none⟩) (by show b < _; omega)).trans q1
      replace q2 := (hbw.cell (p := ⟨b, off + k * 3 + 1, none⟩) (by show b < _; omega)).trans q2
      replace q3 := (hbw.cell (p := ⟨b, off + k * 3 + 2, none⟩) (by show b < _; omega)).trans q3
      have hs : (T.take (k + 1)).filter (fun y => y.id ≠ i) = (T.take k).filter (fun y => y.id ≠ i) ++ (if (T[k]?.getD ⟨0, 0, 0⟩).id ≠ i then [T[k]?.getD ⟨0, 0, 0⟩] else []) := by
        rw [List.take_succ_eq_append_getElem hlt, List.filter_append]
        simp [hlt, List.filter_cons]
      have hfl : ((T.take k).filter (fun y => y.id ≠ i)).length ≤ k := Nat.le_trans (List.length_filter_le _ _) (by rw [List.length_take]; omega)
      generalize T[k]?.getD ⟨0, 0, 0⟩ = x at *
      have HB := Lib.hid hbw
      clear hcell hr hbw
      have hszk := hbk.size
      have hzz : w.heap.size + 2 ≤ wr.heap.size := by have := HZ1.out; omega
      by_cases hx : x.id = i
      · rw [if_neg (by simpa using hx), List.append_nil] at hs
        have HS := Lib.hid hs
        have hxe : (x.id != i) = false := by simpa using hx
        have HX := Lib.hid hx
        clear hs hx
        go_wp2_with fail
        go_roundw
        case rel => exact ⟨k + 1, by omega, by go_num, by rw [HS.out]; exact hown, hbk⟩
        case measure => simp [intOf]; omega
      · rw [if_pos hx] at hs
        have HS := Lib.hid hs
        have hxe : (x.id != i) = true := by simpa using hx
        clear hs
        generalize hF : (T.take k).filter (fun y => y.id ≠ i) = F at *
        have HF := Lib.hid hF; clear hF
        have hcellN : ∀ j u, [Value.int .i64 x.id, .int .i64 x.lev, .int .i64 x.used][j]? = some u → (wr.alloc (.cells #[.int .i64 x.id, .int .i64 x.lev, .int .i64 x.used] 103)).cell? ((⟨wr.heap.size, 0, none⟩ : Addr).add j) = some u := cell_three_new _ _ _ _ _
        go_wp2_with (at_builtin; refine wpList_append_own _ rfl _ _ 92 rfl (w.heap.size + 2) 103 i0 (.agg #[.int .i64 0, .int .i64 0, .int .i64 0]) 3 24 Try.underlying92 hi hz0 hz1 hz2 rfl (by decide) _ _ _ rfl (hown.alloc _) ⟨wr.heap.size, 0, none⟩ 1 1 [.int .i64 x.id, .int .i64 x.lev, .int .i64 x.used] rfl rfl hcellN (enc1 x) (by simp only [maxLen]; omega) (by omega) (by simp; omega) ?_; intro v' w3 hown3 hg3 _)
        go_roundw
        case rel =>
          refine ⟨k + 1, by omega, by go_num, ?_, ?_⟩
          · rw [HS.out, List.length_append, List.flatMap_append]
            simpa [Inf.enc] using hown3
          · exact (hbk.alloc (by omega) _).grown hg3 (by simp; omega) (fun j hj => own_lt hown j hj)
        case measure => simp [intOf]; omega
    · obtain rfl : k = T.length := by omega
      clear hr
      rw [List.take_length] at hown
      have hbw := hb1.trans (hbk.mono (show w.heap.size ≤ w.heap.size + 2 by omega))
      generalize hF : T.filter (fun y => y.id ≠ i) = F at *
      have HF := Lib.hid hF; clear hF
      have hown' := hown
      obtain ⟨A5, c5, rfl⟩ := own_shape hown
      have hzz : w.heap.size + 2 ≤ wr.heap.size := by have := HZ1.out; have := hbk.size; omega
      go_wp2_with fail
      refine bodyPost_ret (by simp [results, Try.results74, go_sem, k0, k1]; try rfl) rfl ?_
      refine ⟨_, rfl, ?_, ?_⟩
      · rw [HF.out]
        exact own_weaken (base := w.heap.size + 2) (by omega) (own_of_block hown' (fun j hj => by
          have := own_lt hown' j hj
          repeat' (first | rfl | refine (Below.heap_setCell _ _ _ _ (by simp; omega)).trans ?_)))
      · repeat' (first | refine Below.setCell ?_ (by simp) _ | exact hbw)
end Go.Proofs.Ytcpcoomkapblcaa
