import Derived.Test.YtcpcoomkapblcaaEqualS
open Go Go.RowKit Go.Maps
namespace Go.Proofs.Ytcpcoomkapblcaa
theorem inf_ne {x y : Inf} (h : x ≠ y) : ¬ ((x.id = y.id ∧ x.lev = y.lev) ∧ x.used = y.used) := by
  rintro ⟨⟨h1, h2⟩, h3⟩
  cases x; cases y; simp at h1 h2 h3; subst h1 h2 h3; exact h rfl
theorem eql_ne {x y : Inf} (h : x ≠ y) (W : World) : (binOp .eql 32 (.agg #[.int .i64 x.id, .int .i64 x.lev, .int .i64 x.used]) (.agg #[.int .i64 y.id, .int .i64 y.lev, .int .i64 y.used])).run Try.prog W = .ok (.bool false) W := by
  by_cases h1 : x.id = y.id
  · by_cases h2 : x.lev = y.lev
    · have h3 : x.used ≠ y.used := fun h3 => inf_ne h ⟨⟨h1, h2⟩, h3⟩
      rw [run_eql_struct]
      simp [go_sem, h1, h2, h3]
    · rw [run_eql_struct]
      simp [go_sem, h1, h2]
  · rw [run_eql_struct]
    simp [go_sem, h1]
theorem below_drewQ {B : Nat} {a w : World} (h : Below B a w) (q : Nat) : Below B a (w.drewN q) := ⟨h.os, h.tape, h.output, h.size, h.block⟩
set_option maxRecDepth 1000000 in
set_option maxHeartbeats 1000000 in
theorem indexS_none (w : World) (B : Nat) (u : Value) (l : List Inf) (x : Inf) (hB : B ≤ w.heap.size) (hu : RdS B w u l) (hl : l.length ≤ 1000000) (hx : x ∉ l) :
    Calls Try.prog 50 #[u, .agg #[.int .i64 x.id, .int .i64 x.lev, .int .i64 x.used]] w fun e w' => e = .returned (.int .i64 (-1)) ∧ Below w.heap.size w w' := by
  have hb1 := (Below.refl w.heap.size w).alloc (Nat.le_refl _) (.cells #[.int .i64 x.id, .int .i64 x.lev, .int .i64 x.used] 32)
  have hu1 := hu.below (hb1.mono hB)
  have hk8 : (w.alloc (.cells #[.int .i64 x.id, .int .i64 x.lev, .int .i64 x.used] 32)).heap[w.heap.size]? = some (.cells #[.int .i64 x.id, .int .i64 x.lev, .int .i64 x.used] 32) := World.alloc_heap_new _ _
  clear hu
  obtain ⟨A, c, rfl, hc, hr⟩ := hu1
  have HK := Lib.hid hk8; clear hk8
  go_enter Try.func50, Try.ntmps50
  go_wp2_with fail
  generalize w.alloc (.cells #[.int .i64 x.id, .int .i64 x.lev, .int .i64 x.used] 32) = w1 at *
  have hk8 := HK.out
  have g4 : w1.cell? ⟨w.heap.size, 0, none⟩ = some (.int .i64 x.id) := by simp [World.cell?, hk8]
  have g5 : w1.cell? ⟨w.heap.size, 1, none⟩ = some (.int .i64 x.lev) := by simp [World.cell?, hk8]
  have g6 : w1.cell? ⟨w.heap.size, 2, none⟩ = some (.int .i64 x.used) := by simp [World.cell?, hk8]
  clear hk8
  go_loopw [8] (fun i wr => ∃ (k q : Nat), k ≤ l.length ∧ i = .int .i64 k ∧ wr = w1.drewN q) (fun i _ => l.length - (intOf i).toNat)
  case atStart => exact ⟨0, 0, Nat.zero_le _, rfl, rfl⟩
  case round =>
    obtain ⟨k, q, hk, rfl, rfl⟩ := hrel
    by_cases hlt : k < l.length
    · obtain ⟨b, off, rfl, hb, hcell⟩ := hr (by omega)
      obtain ⟨h1, h2, h3⟩ := hcell k hlt
      have hne : x ≠ l[k]?.getD ⟨0, 0, 0⟩ := fun e => hx (by rw [e, List.getElem?_eq_getElem hlt]; exact List.getElem_mem _)
      generalize l[k]?.getD ⟨0, 0, 0⟩ = y at *
      clear hcell hr
      have hf := eql_ne hne
      have hk0 : (0 : Int) ≤ (k : Int) := Int.natCast_nonneg _
      have hk1 : (k : Int) < (l.length : Int) := by omega
      clear hne
      go_wp2_with fail
      go_quiet (fail)
      go_wp2_with fail
      go_roundw
      case rel => exact ⟨k + 1, _, by omega, by go_num, rfl⟩
      case measure => simp [intOf]; omega
    · obtain rfl : k = l.length := by omega
      go_wp2_with fail
      go_ret
      exact ⟨rfl, below_drewQ hb1 q⟩
def SomeIdx (w : World) (e : Ending) (w' : World) : Prop := ∃ k : Nat, k ≤ 1000000 ∧ e = .returned (.int .i64 k) ∧ Below w.heap.size w w'
set_option maxRecDepth 1000000 in
set_option maxHeartbeats 1000000 in
theorem indexS_some (w : World) (B : Nat) (u : Value) (l : List Inf) (x : Inf) (hB : B ≤ w.heap.size) (hu : RdS B w u l) (hl : l.length ≤ 1000000) (hx : x ∈ l) :
    Calls Try.prog 50 #[u, .agg #[.int .i64 x.id, .int .i64 x.lev, .int .i64 x.used]] w (SomeIdx w) := by
  have hb1 := (Below.refl w.heap.size w).alloc (Nat.le_refl _) (.cells #[.int .i64 x.id, .int .i64 x.lev, .int .i64 x.used] 32)
  have hu1 := hu.below (hb1.mono hB)
  have hk8 : (w.alloc (.cells #[.int .i64 x.id, .int .i64 x.lev, .int .i64 x.used] 32)).heap[w.heap.size]? = some (.cells #[.int .i64 x.id, .int .i64 x.lev, .int .i64 x.used] 32) := World.alloc_heap_new _ _
  clear hu
  obtain ⟨A, c, rfl, hc, hr⟩ := hu1
  have HK := Lib.hid hk8; clear hk8
  go_enter Try.func50, Try.ntmps50
  go_wp2_with fail
  generalize w.alloc (.cells #[.int .i64 x.id, .int .i64 x.lev, .int .i64 x.used] 32) = w1 at *
  have hk8 := HK.out
  have g4 : w1.cell? ⟨w.heap.size, 0, none⟩ = some (.int .i64 x.id) := by simp [World.cell?, hk8]
  have g5 : w1.cell? ⟨w.heap.size, 1, none⟩ = some (.int .i64 x.lev) := by simp [World.cell?, hk8]
  have g6 : w1.cell? ⟨w.heap.size, 2, none⟩ = some (.int .i64 x.used) := by simp [World.cell?, hk8]
  clear hk8
  go_loopw [8] (fun i wr => ∃ (k q : Nat), k ≤ l.length ∧ i = .int .i64 k ∧ x ∈ l.drop k ∧ wr = w1.drewN q) (fun i _ => l.length - (intOf i).toNat)
  case atStart => exact ⟨0, 0, Nat.zero_le _, rfl, by simpa using hx, rfl⟩
  case round =>
    obtain ⟨k, q, hk, rfl, hmem, rfl⟩ := hrel
    by_cases hlt : k < l.length
    · obtain ⟨b, off, rfl, hb, hcell⟩ := hr (by omega)
      obtain ⟨h1, h2, h3⟩ := hcell k hlt
      have hdrop : l.drop k = l[k]?.getD ⟨0, 0, 0⟩ :: l.drop (k + 1) := by rw [List.drop_eq_getElem_cons hlt]; simp [hlt]
      rw [hdrop, List.mem_cons] at hmem
      clear hdrop
      generalize l[k]?.getD ⟨0, 0, 0⟩ = y at *
      clear hcell hr hx
      have hk0 : (0 : Int) ≤ (k : Int) := Int.natCast_nonneg _
      have hk1 : (k : Int) < (l.length : Int) := by omega
      by_cases hxy : x = y
      · subst hxy
        clear hmem
        go_wp2_with fail
        go_quiet (fail)
        go_wp2_with fail
        go_ret
        exact ⟨k, by omega, rfl, below_drewQ (below_drewQ hb1 q) _⟩
      · have hm := hmem.resolve_left hxy
        have hf := eql_ne hxy
        have HM := Lib.hid hm
        clear hmem hxy hm
        go_wp2_with fail
        go_quiet (fail)
        go_wp2_with fail
        go_roundw
        case rel => exact ⟨k + 1, _, by omega, by go_num, HM.out, rfl⟩
        case measure => simp [intOf]; omega
    · have : l.drop k = [] := List.drop_eq_nil_of_le (by omega)
      rw [this] at hmem; cases hmem
theorem containsS_any (w : World) (B : Nat) (u : Value) (l : List Inf) (x : Inf) (hB : B ≤ w.heap.size) (hu : RdS B w u l) (hl : l.length ≤ 1000000) :
    Calls Try.prog 26 #[u, .agg #[.int .i64 x.id, .int .i64 x.lev, .int .i64 x.used]] w fun e w' => e = .returned (.bool (decide (x ∈ l))) ∧ Below w.heap.size w w' := by
  have hb1 := (Below.refl w.heap.size w).alloc (Nat.le_refl _) (.cells #[.int .i64 x.id, .int .i64 x.lev, .int .i64 x.used] 32)
  have hu1 := hu.below (hb1.mono hB)
  obtain ⟨A, c, rfl, hc, hr⟩ := id hu
  clear hr
  by_cases hx : x ∈ l
  · have hd : decide (x ∈ l) = true := by simpa using hx
    rw [hd]
    have hq := indexS_some (w.alloc (.cells #[.int .i64 x.id, .int .i64 x.lev, .int .i64 x.used] 32)) B _ l x (by simp; omega) hu1 hl hx
    have HQ := Lib.hid hq
    clear hu1 hu hx hd hq
    go_enter Try.func26, Try.ntmps26
    go_wp2_with fail
    refine HQ.out.mono ?_
    rintro e w2 ⟨k, hk, rfl, hb2⟩
    go_wp2_with fail
    go_ret
    exact ⟨rfl, hb1.trans (hb2.mono (by simp))⟩
  · have hd : decide (x ∈ l) = false := by simpa using hx
    rw [hd]
    have hq := indexS_none (w.alloc (.cells #[.int .i64 x.id, .int .i64 x.lev, .int .i64 x.used] 32)) B _ l x (by simp; omega) hu1 hl hx
    have HQ := Lib.hid hq
    clear hu1 hu hx hd hq
    go_enter Try.func26, Try.ntmps26
    go_wp2_with fail
    refine HQ.out.mono ?_
    rintro e w2 ⟨rfl, hb2⟩
    go_wp2_with fail
    go_ret
    exact ⟨rfl, hb1.trans (hb2.mono (by simp))⟩
end Go.Proofs.Ytcpcoomkapblcaa
