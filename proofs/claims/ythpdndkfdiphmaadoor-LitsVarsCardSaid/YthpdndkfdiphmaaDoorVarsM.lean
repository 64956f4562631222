/- What LitsVars makes of a list of int32s: a list of literals. -/
import Derived.Test.YthpdndkfdiphmaaDoorVarsC
namespace Go.Proofs.YthpdndkfdiphmaaDoor
open Go Go.RowKit
open Go.Sort Go.Lib Go.Shelf
/-- The slice value sv reads as the int32s zs, in a block below n₀. -/
def RdJ (n₀ : Nat) (W : World) (sv : Value) (zs : List Int) : Prop :=
  ∃ A cap, sv = .slice A zs.length cap ∧ zs.length ≤ cap ∧ (0 < zs.length → ∃ b off, A = some ⟨b, off, none⟩ ∧ b < n₀ ∧ ∀ j, j < zs.length → W.cell? ⟨b, off + j, none⟩ = some (.int .i32 (zs[j]?.getD 0)) ∧ -2147483648 ≤ zs[j]?.getD 0 ∧ zs[j]?.getD 0 ≤ 2147483647)
theorem RdJ.below {n₀ : Nat} {A B : World} {sv : Value} {zs : List Int} (h : RdJ n₀ A sv zs) (hb : RowKit.Below n₀ A B) : RdJ n₀ B sv zs := by
  obtain ⟨a, cap, rfl, hc, hr⟩ := h
  refine ⟨a, cap, rfl, hc, fun h0 => ?_⟩
  obtain ⟨b, off, e, hlt, hcell⟩ := hr h0
  exact ⟨b, off, e, hlt, fun j hj => ⟨(hb.cell (p := ⟨b, off + j, none⟩) hlt).trans (hcell j hj).1, (hcell j hj).2⟩⟩
theorem RdJ.more {n₀ n₁ : Nat} {A : World} {sv : Value} {zs : List Int} (h : RdJ n₀ A sv zs) (hn : n₀ ≤ n₁) : RdJ n₁ A sv zs := by
  obtain ⟨a, cap, rfl, hc, hr⟩ := h
  refine ⟨a, cap, rfl, hc, fun h0 => ?_⟩
  obtain ⟨b, off, e, hlt, hcell⟩ := hr h0
  exact ⟨b, off, e, by omega, hcell⟩
theorem RdJ.form {n₀ : Nat} {W : World} {sv : Value} {zs : List Int} (h : RdJ n₀ W sv zs) : ∃ A c, sv = .slice A zs.length c := by
  obtain ⟨A, c, e, _⟩ := h; exact ⟨A, c, e⟩
/-- A list of literals, in a row of the call's own. -/
def LitsPost (w : World) (e : Ending) (w' : World) : Prop :=
  ∃ (v : Value) (A : List Int), e = .returned v ∧ w'.ownsRow w.heap.size 25 1 v A.length (A.map (.int .i64)) ∧ A.length ≤ 60 ∧ (∀ z ∈ A, LRight z = true) ∧ RowKit.Below w.heap.size w w'
set_option maxRecDepth 100000 in
set_option maxHeartbeats 1000000 in
theorem madeList_any (w : World) (v : Value) (zs : List Int) (h : RdJ w.heap.size w v zs) (hl : zs.length ≤ maxLen) : Calls Tryd.prog 33 #[v] w (LitsPost w) := by
  obtain ⟨i0, hi, hz0, hz1, hz2⟩ := info_parts lit_info
  unfold maxLen at hl
  obtain ⟨A, cap, rfl, hc, hr⟩ := h
  have hm : ∃ m : Nat, min (zs.length : Int) 60 = (m : Int) ∧ m ≤ zs.length ∧ m ≤ 60 ∧ m ≤ cap := ⟨min zs.length 60, by omega, by omega, by omega, by omega⟩
  go_enter Tryd.func33, Tryd.ntmps33
  go_wp2_with fail
  obtain ⟨m, hm1, hm2, hm3, hm4⟩ := hm
  rw [hm1, show max (m : Int) 0 = (m : Int) by omega, Int.toNat_natCast]
  clear hm1
  go_loopw [3, 12] (fun v i wr => ∃ (k : Nat) (B : List Int), k ≤ m ∧ i = .int .i64 k ∧ B.length = k ∧ wr.ownsRow w.heap.size 25 1 v k (B.map (.int .i64)) ∧ Hid (∀ z ∈ B, LRight z = true) ∧ RowKit.Below w.heap.size w wr) (fun _ i _ => m - (intOf i).toNat)
  case atStart => exact ⟨0, [], Nat.zero_le _, rfl, rfl, World.ownsRow_nil _ _ _ _, Lib.hid (by simp), RowKit.Below.refl _ _⟩
  case round =>
    obtain ⟨k, B, hk, rfl, hBk, hown, HB, hbk⟩ := hrel
    have hszk := hbk.size
    by_cases hlt : k < m
    · obtain ⟨b, off, rfl, hbl, hcell⟩ := hr (by omega)
      obtain ⟨c1, c2, c3⟩ := hcell k (by omega)
      have cx := (hbk.cell (p := ⟨b, off + k, none⟩) hbl).trans c1
      generalize zs[k]?.getD 0 = x at *
      have hk0 : (0 : Int) ≤ (k : Int) := by omega
      have hk1 : (k : Int) < (m : Int) := by omega
      have t1 : -64 ≤ x.tmod 64 ∧ x.tmod 64 ≤ 64 := by
        have h1 := Int.tmod_lt_of_pos x (show (0 : Int) < 64 by decide)
        have h2 : -64 < x.tmod 64 := by
          rcases Int.le_total 0 x with h | h
          · have := Int.tmod_nonneg 64 h; omega
          · have := Int.tmod_lt_of_pos (-x) (show (0 : Int) < 64 by decide)
            rw [Int.neg_tmod] at this; omega
        omega
      have HOWN := Lib.hid hown
      clear hown hcell hr c1
      go_wp2_with fail
      refine (Made_any _ _ (by omega) (by omega)).mono ?_
      rintro e w2 ⟨y, hy, rfl, rfl⟩
      have hcl := cell_one wr (.int .i64 y) 25
      have HCL := Lib.hid hcl
      clear hcl
      go_wp2_with (at_builtin; refine wpList_append_own _ rfl _ _ 43 rfl w.heap.size 25 i0 (.int .i64 0) 1 8 Tryd.underlying43 hi hz0 hz1 hz2 rfl (by decide) _ _ _ rfl (HOWN.out.alloc _) ⟨wr.heap.size, 0, none⟩ 1 1 [.int .i64 y] rfl rfl HCL.out (by simp [Value.oneCell']) (by simp only [maxLen]; omega) (by omega) (by simp; omega) ?_; intro v' w2 hown2 hg2 _)
      have hb2 : RowKit.Below w.heap.size w w2 := (hbk.alloc hszk _).grown hg2 (by simp; omega) (fun q hq => (HOWN.out.lt q hq).1)
      have HO2 := Lib.hid hown2
      clear hown2 hg2
      go_wp2_with fail
      exact ⟨⟨k + 1, B ++ [y], by omega, by go_num, by simp [hBk], by rw [List.map_append]; exact HO2.out, Lib.hid (fun z hz => by
        rcases List.mem_append.1 hz with h | h
        · exact HB.out z h
        · rw [List.mem_singleton] at h; rw [h]; exact hy), hb2⟩, by simp [intOf]; omega⟩
    · obtain rfl : k = m := by omega
      have HOWN := Lib.hid hown
      clear hown
      go_wp2_with fail
      go_ret
      exact ⟨_, B, rfl, by rw [hBk]; exact HOWN.out, by omega, HB.out, hbk⟩
end Go.Proofs.YthpdndkfdiphmaaDoor
