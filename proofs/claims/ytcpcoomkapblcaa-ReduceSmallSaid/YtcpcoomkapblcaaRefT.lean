import Derived.Test.YtcpcoomkapblcaaStructs
import Derived.Test.YtcpcoomkapblcaaMadeP
open Go Go.RowKit Go.Maps
namespace Go.Proofs.Ytcpcoomkapblcaa
open Go.Shelf
theorem rinf_info : (Try.prog.info? 103).map (fun i => (i.zero, i.size, i.bytes)) = some (some (.agg #[.int .i64 0, .int .i64 0, .int .i64 0]), 3, 24) := by kernel_rfl
/-- The index of a clause; -1 if it is not there. -/
def findX : List Inf → Int → Nat → Int
  | [], _, _ => -1
  | x :: l, i, k => if x.id = i then (k : Int) else findX l i (k + 1)
theorem findX_drop (T : List Inf) (i : Int) (k : Nat) (h : k < T.length) : findX (T.drop k) i k = if (T[k]?.getD ⟨0, 0, 0⟩).id = i then (k : Int) else findX (T.drop (k + 1)) i (k + 1) := by
  rw [List.drop_eq_getElem_cons h, findX]
  simp [h]
theorem findX_none (T : List Inf) (i : Int) (k : Nat) (h : T.length ≤ k) : findX (T.drop k) i k = -1 := by
  rw [List.drop_eq_nil_of_le h]; rfl
theorem two_cells {W : World} {b : Nat} {v0 v1 : Value} {t : TypeId} (h : W.heap[b]? = some (.cells #[v0, v1] t)) :
    W.cell? ⟨b, 0, none⟩ = some v0 ∧ W.cell? ⟨b, 1, none⟩ = some v1 ∧ W.frozen? ⟨b, 0, none⟩ = false ∧ W.frozen? ⟨b, 1, none⟩ = false := by
  simp [World.cell?, World.frozen?, h]
set_option maxRecDepth 1000000 in
set_option maxHeartbeats 1000000 in
theorem refFind_any (w : World) (B : Nat) (sv : Value) (T : List Inf) (c i : Int) (hB : B ≤ w.heap.size) (hs : RdS B w sv T) (hT : T.length ≤ 100000) :
    Calls Try.prog 60 #[.agg #[sv, .int .i64 c], .int .i64 i] w fun e w' => e = .returned (.int .i64 (findX T i 0)) ∧ Below w.heap.size w w' := by
  obtain ⟨A, cap, rfl, hc, hr⟩ := hs
  have hb1 := (Below.refl w.heap.size w).alloc (Nat.le_refl _) (.cells #[.slice A T.length cap, .int .i64 c] 94)
  have hk := World.alloc_heap_new w (.cells #[.slice A T.length cap, .int .i64 c] 94)
  obtain ⟨g0, g1, -, -⟩ := two_cells hk
  clear hk
  go_enter Try.func60, Try.ntmps60
  go_wp2_with fail
  generalize w.alloc (.cells #[.slice A T.length cap, .int .i64 c] 94) = w1 at *
  go_loop [5] (fun v => ∃ k : Nat, k ≤ T.length ∧ v = .int .i64 k ∧ findX T i 0 = findX (T.drop k) i k) (fun v => T.length - (intOf v).toNat)
  case atStart => exact ⟨0, Nat.zero_le _, rfl, by simp⟩
  case round =>
    obtain ⟨k, hk, rfl, hf⟩ := hrel
    by_cases hlt : k < T.length
    · obtain ⟨b, off, rfl, hb, hcell⟩ := hr (by omega)
      obtain ⟨q1, -, -⟩ := hcell k hlt
      replace q1 := (hb1.cell (p := ⟨b, off + k * 3, none⟩) (by show b < _; omega)).trans q1
      have hd := findX_drop T i k hlt
      generalize T[k]?.getD ⟨0, 0, 0⟩ = x at *
      by_cases hx : x.id = i
      · rw [if_pos hx] at hd
        have HD := Lib.hid (hf.trans hd)
        have hxe : (x.id == i) = true := by simpa using hx
        clear hd hf hcell hr hx
        go_wp2_with fail
        go_ret
        exact ⟨by rw [HD.out]; rfl, hb1⟩
      · rw [if_neg hx] at hd
        have HD := Lib.hid (hf.trans hd)
        have hxe : (x.id == i) = false := by simpa using hx
        clear hd hf hcell hr
        go_wp2_with fail
        go_round
        case rel => exact ⟨k + 1, by omega, by go_num, HD.out⟩
        case measure => simp [intOf]; omega
    · have hn := findX_none T i k (by omega)
      have HD := Lib.hid (hf.trans hn)
      clear hn hf hr
      obtain rfl : k = T.length := by omega
      go_wp2_with fail
      go_ret
      exact ⟨by rw [HD.out]; rfl, hb1⟩
end Go.Proofs.Ytcpcoomkapblcaa
