import Derived.Test.YtcpcoomkapblcaaRefW
import Derived.Test.YtcpcoomkapblcaaSortI
import Derived.Laws.StructEq
open Go Go.RowKit Go.Maps
namespace Go.Proofs.Ytcpcoomkapblcaa
set_option maxRecDepth 1000000 in
set_option maxHeartbeats 1000000 in
theorem refBetter_any (x y : Inf) (w : World) :
    Calls Try.prog 62 #[.agg #[.int .i64 x.id, .int .i64 x.lev, .int .i64 x.used], .agg #[.int .i64 y.id, .int .i64 y.lev, .int .i64 y.used]] w fun e w' => e = .returned (.bool (bt x y)) ∧ Below w.heap.size w w' := by
  have hB : Below w.heap.size w ((w.alloc (.cells #[.int .i64 x.id, .int .i64 x.lev, .int .i64 x.used] 103)).alloc (.cells #[.int .i64 y.id, .int .i64 y.lev, .int .i64 y.used] 103)) := ((Below.refl _ w).alloc (Nat.le_refl _) _).alloc (by simp) _
  by_cases h1 : x.lev = y.lev
  · by_cases h2 : x.used = y.used
    · have hb : bt x y = decide (y.id < x.id) := by unfold bt; rw [if_pos h1, if_pos h2]
      have e1 : (x.lev != y.lev) = false := by simpa using h1
      have e2 : (x.used != y.used) = false := by simpa using h2
      have HBT := Lib.hid hb
      clear hb h1 h2
      go_enter Try.func62, Try.ntmps62
      go_wp2
      go_ret
      exact ⟨by rw [HBT.out]; rfl, hB⟩
    · have hb : bt x y = decide (y.used < x.used) := by unfold bt; rw [if_pos h1, if_neg h2]
      have e1 : (x.lev != y.lev) = false := by simpa using h1
      have e2 : (x.used != y.used) = true := by simpa using h2
      have HBT := Lib.hid hb
      clear hb h1
      go_enter Try.func62, Try.ntmps62
      go_wp2
      go_ret
      exact ⟨by rw [HBT.out]; rfl, hB⟩
  · have hb : bt x y = decide (x.lev < y.lev) := by unfold bt; rw [if_neg h1]
    have e1 : (x.lev != y.lev) = true := by simpa using h1
    have HBT := Lib.hid hb
    clear hb
    go_enter Try.func62, Try.ntmps62
    go_wp2
    go_ret
    exact ⟨by rw [HBT.out]; rfl, hB⟩
set_option maxRecDepth 1000000 in
theorem same1_same (x : Inf) (w : World) :
    Calls Try.prog 76 #[.agg #[.int .i64 x.id, .int .i64 x.lev, .int .i64 x.used], .agg #[.int .i64 x.id, .int .i64 x.lev, .int .i64 x.used]] w fun e w' => e = .returned (.bool true) ∧ Below w.heap.size w w' := by
  have hB : Below w.heap.size w ((w.alloc (.cells #[.int .i64 x.id, .int .i64 x.lev, .int .i64 x.used] 32)).alloc (.cells #[.int .i64 x.id, .int .i64 x.lev, .int .i64 x.used] 103)) := ((Below.refl _ w).alloc (Nat.le_refl _) _).alloc (by simp) _
  go_enter Try.func76, Try.ntmps76
  go_wp2
  go_ret
  exact ⟨rfl, hB⟩
set_option maxRecDepth 1000000 in
set_option maxHeartbeats 1000000 in
theorem equalFunc_same (w : World) (B C : Nat) (u v : Value) (l : List Inf) (hB : B ≤ w.heap.size) (hC : C ≤ w.heap.size) (hu : RdS B w u l) (hv : RdS C w v l) (hl : l.length ≤ 1000000) :
    Calls Try.prog 75 #[u, v, .func (.func 76) #[] #[]] w fun e w' => e = .returned (.bool true) ∧ Below w.heap.size w w' := by
  obtain ⟨A, c, rfl, hc, hr⟩ := hu
  obtain ⟨A', c', rfl, hc', hr'⟩ := hv
  go_enter Try.func75, Try.ntmps75
  go_wp2_with fail
  go_loopw [17] (fun i wr => ∃ k : Nat, k ≤ l.length ∧ i = .int .i64 k ∧ Below w.heap.size w wr) (fun i _ => l.length - (intOf i).toNat)
  case atStart => exact ⟨0, Nat.zero_le _, rfl, Below.refl _ _⟩
  case round =>
    obtain ⟨k, hk, rfl, hbk⟩ := hrel
    by_cases hlt : k < l.length
    · obtain ⟨b, off, rfl, hb, hcell⟩ := hr (by omega)
      obtain ⟨b', off', rfl, hb', hcell'⟩ := hr' (by omega)
      obtain ⟨h1, h2, h3⟩ := hcell k hlt
      obtain ⟨h4, h5, h6⟩ := hcell' k hlt
      generalize l[k]?.getD ⟨0, 0, 0⟩ = x at *
      have hb1 := hbk.alloc hbk.size (.cells #[.int .i64 x.id, .int .i64 x.lev, .int .i64 x.used] 32)
      have q1 := (hbk.cell (p := ⟨b, off + k * 3, none⟩) (by show b < _; omega)).trans h1
      have q2 := (hbk.cell (p := ⟨b, off + k * 3 + 1, none⟩) (by show b < _; omega)).trans h2
      have q3 := (hbk.cell (p := ⟨b, off + k * 3 + 2, none⟩) (by show b < _; omega)).trans h3
      have q4 := (hb1.cell (p := ⟨b', off' + k * 3, none⟩) (by show b' < _; omega)).trans h4
      have q5 := (hb1.cell (p := ⟨b', off' + k * 3 + 1, none⟩) (by show b' < _; omega)).trans h5
      have q6 := (hb1.cell (p := ⟨b', off' + k * 3 + 2, none⟩) (by show b' < _; omega)).trans h6
      have hb2 := hb1.alloc hb1.size (.cells #[.int .i64 x.id, .int .i64 x.lev, .int .i64 x.used] 103)
      clear hcell hcell' hr hr' h1 h2 h3 h4 h5 h6
      go_wp2_with fail
      refine (same1_same x _).mono ?_
      rintro e w3 ⟨rfl, hb3⟩
      have hb4 := hb2.trans (hb3.mono hb2.size)
      go_wp2_with fail
      go_roundw
      case rel => exact ⟨k + 1, by omega, by go_num, hb4⟩
      case measure => simp [intOf]; omega
    · obtain rfl : k = l.length := by omega
      go_wp2_with fail
      go_ret
      exact ⟨rfl, hbk⟩
set_option maxRecDepth 1000000 in
theorem same_same (w : World) (B C : Nat) (u v : Value) (l : List Inf) (hB : B ≤ w.heap.size) (hC : C ≤ w.heap.size) (hu : RdS B w u l) (hv : RdS C w v l) (hl : l.length ≤ 1000000) :
    Calls Try.prog 58 #[u, v] w fun e w' => e = .returned (.bool true) ∧ Below w.heap.size w w' := by
  have hq := equalFunc_same w B C u v l hB hC hu hv hl
  obtain ⟨A, c, rfl⟩ := hu.form
  obtain ⟨A', c', rfl⟩ := hv.form
  have HQ := Lib.hid hq; clear hq hu hv
  go_enter Try.func58, Try.ntmps58
  go_wp2_with fail
  refine HQ.out.mono ?_
  rintro e w1 ⟨rfl, hb⟩
  go_wp2_with fail
  go_ret
  exact ⟨rfl, hb⟩
end Go.Proofs.Ytcpcoomkapblcaa
