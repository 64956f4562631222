import Derived.Test.YtcpcoomkapblcaaTimesC
import Derived.Test.YtcpcoomkapblcaaAwake
open Go Go.RowKit
namespace Go.Proofs.Ytcpcoomkapblcaa
/-- How many conflicts k reductions took. -/
def cameD (a b : Int) : Nat → Int
  | 0 => 0
  | k + 1 => cameD a b k + (a + (k : Int) * b)
theorem tri_step (k : Nat) : (((k : Int) + 1) * (k : Int)) / 2 = ((k : Int) * ((k : Int) - 1)) / 2 + k := by
  have : ((k : Int) + 1) * (k : Int) = (k : Int) * ((k : Int) - 1) + (k : Int) * 2 := by
    rw [Int.add_mul, Int.mul_sub, Int.one_mul, Int.mul_one]; omega
  rw [this, Int.add_mul_ediv_right _ _ (by decide)]
theorem cameD_eq (a b : Int) : ∀ k : Nat, cameD a b k = (k : Int) * a + ((k : Int) * ((k : Int) - 1)) / 2 * b
  | 0 => by simp [cameD]
  | k + 1 => by
    have e : ((k + 1 : Nat) : Int) - 1 = k := by omega
    rw [cameD, cameD_eq a b k, e]
    have := tri_step k
    have e2 : ((k + 1 : Nat) : Int) = (k : Int) + 1 := by omega
    rw [e2, this, Int.add_mul, Int.add_mul, Int.one_mul]; omega
theorem cameD_le {a b : Int} (ha : 1 ≤ a ∧ a ≤ 20) (hb : 0 ≤ b ∧ b ≤ 10) : ∀ k : Nat, k ≤ 12 → 0 ≤ cameD a b k ∧ cameD a b k ≤ 140 * k
  | 0, _ => by simp [cameD]
  | k + 1, h => by
    have := cameD_le ha hb k (by omega)
    have h1 : 0 ≤ (k : Int) * b := Int.mul_nonneg (by omega) hb.1
    have h2 : (k : Int) * b ≤ 12 * 10 := Int.mul_le_mul (by omega) hb.2 hb.1 (by omega)
    simp only [cameD]
    omega
theorem w64 {n : Int} (h0 : 0 ≤ n) (h1 : n ≤ 1000000000) : wrap64 n = n := by unfold wrap64; omega
theorem mul_bd {a b A B : Int} (ha : 0 ≤ a ∧ a ≤ A) (hb : 0 ≤ b ∧ b ≤ B) : 0 ≤ a * b ∧ a * b ≤ A * B :=
  ⟨Int.mul_nonneg ha.1 hb.1, Int.mul_le_mul ha.2 hb.2 hb.1 (by omega)⟩
theorem due_eq {a b : Int} (ha : 1 ≤ a ∧ a ≤ 20) (hb : 0 ≤ b ∧ b ≤ 10) (k : Nat) (hk : k < 12) :
    wrap64 (wrap64 (((k : Int) + 1) * a) + wrap64 (wrap64 ((wrap64 (((k : Int) + 1) * (k : Int))).tdiv 2) * b)) = cameD a b (k + 1) := by
  have h1 := mul_bd (a := (k : Int) + 1) (b := a) (A := 12) (B := 20) (by omega) (by omega)
  have h2 := mul_bd (a := (k : Int) + 1) (b := k) (A := 12) (B := 12) (by omega) (by omega)
  have h3 := mul_bd (a := (((k : Int) + 1) * (k : Int)) / 2) (b := b) (A := 72) (B := 10) (by omega) hb
  have h4 := cameD_eq a b (k + 1)
  rw [show ((k + 1 : Nat) : Int) = (k : Int) + 1 by omega, show (k : Int) + 1 - 1 = k by omega] at h4
  rw [h4, w64 h2.1 (by omega), Int.tdiv_eq_ediv_of_nonneg h2.1, w64 (n := (((k : Int) + 1) * (k : Int)) / 2) (by omega) (by omega), w64 h3.1 (by omega), w64 h1.1 (by omega), w64 (by omega) (by omega)]
theorem left_eq {a b : Int} (ha : 1 ≤ a ∧ a ≤ 20) (hb : 0 ≤ b ∧ b ≤ 10) (k : Nat) (hk : k < 12) : wrap64 (a + wrap64 (((k : Int) + 1) * b)) = a + (k : Int) * b + b := by
  have h1 := mul_bd (a := (k : Int) + 1) (b := b) (A := 12) (B := 10) (by omega) hb
  rw [w64 h1.1 (by omega), w64 (by omega) (by omega), Int.add_mul, Int.one_mul]; omega
set_option maxRecDepth 10000000 in
set_option maxHeartbeats 4000000 in
theorem reduceDue_any (x y z : Int) (hx : 0 ≤ x ∧ x ≤ 255) (hy : 0 ≤ y ∧ y ≤ 255) (hz : 0 ≤ z ∧ z ≤ 255) (w : World) :
    Calls Try.prog 5 #[.int .u8 x, .int .u8 y, .int .u8 z] w fun e w' => e = .returned (.bool true) ∧ Below w.heap.size w w' := by
  obtain ⟨hx0, hx1⟩ := hx
  obtain ⟨hy0, hy1⟩ := hy
  obtain ⟨hz0, hz1⟩ := hz
  go_enter Try.func5, Try.ntmps5
  go_wp2_with fail
  refine (awake_any _).mono ?_
  rintro e w1 ⟨rfl, hb1⟩
  go_wp2_with fail
  have ha : 1 ≤ 1 + x % 20 ∧ 1 + x % 20 ≤ 20 := by omega
  have hb : 0 ≤ y % 11 ∧ y % 11 ≤ 10 := by omega
  have hn : 0 ≤ z % 13 ∧ z % 13 ≤ 12 := by omega
  generalize 1 + x % 20 = a at *
  generalize y % 11 = b at *
  generalize z % 13 = n at *
  obtain ⟨n, rfl⟩ := Int.eq_ofNat_of_zero_le hn.1
  have hn' : n ≤ 12 := by omega
  have hcl := fun k => cameD_le ha hb k
  obtain ⟨ha0, ha1⟩ := ha
  obtain ⟨hb0, hbb1⟩ := hb
  clear hn
  have HCL := Lib.hid hcl; clear hcl
  refine (newTimes_ok a b w1 ⟨by omega, by omega, by omega, by omega⟩).mono ?_
  rintro e w2 ⟨t, rfl, rfl⟩
  go_wp2_with fail
  have hszb := hb1.size
  go_loopw [12, 13] (fun c i wr => ∃ k : Nat, k ≤ n ∧ i = .int .i64 ((k : Int) + 1) ∧ c = .int .i64 (cameD a b k) ∧ Tim wr w1.heap.size ⟨a + (k : Int) * b, b, a + (k : Int) * b, k⟩ t ∧ Below w.heap.size w wr) (fun _ i _ => 14 - (intOf i).toNat)
  case atStart => exact ⟨0, by omega, rfl, rfl, by unfold Tim; simpa using World.alloc_heap_new w1 (.cells #[.int .i64 a, .int .i64 b, .int .i64 a, .int .i64 0] t), hb1.alloc hszb _⟩
  case round =>
    obtain ⟨k, hk, rfl, rfl, hT, hbk⟩ := hrel
    by_cases hlt : k < n
    · have hc1 := HCL.out k (by omega)
      have hm1 : 0 ≤ (k : Int) * b := Int.mul_nonneg (by omega) hb0
      have hm2 : (k : Int) * b ≤ 12 * 10 := Int.mul_le_mul (by omega) hbb1 hb0 (by omega)
      have hm3 : cameD a b (k + 1) = cameD a b k + (a + (k : Int) * b) := rfl
      have HM3 := Lib.hid hm3; clear hm3
      have hL0 : 1 ≤ a + (k : Int) * b := by omega
      have hL1 : a + (k : Int) * b ≤ 140 := by omega
      generalize hL : a + (k : Int) * b = L at *
      have HL := Lib.hid hL; clear hL
      obtain ⟨hc0, hc2⟩ := hc1
      have hc2' : cameD a b k ≤ 1680 := by omega
      generalize hC : cameD a b k = C at *
      have HC := Lib.hid hC; clear hC
      obtain ⟨wo, rfl⟩ : ∃ wo : World, wo = wr := ⟨_, rfl⟩
      have hle : (k : Int) + 1 ≤ (n : Int) := by omega
      have hled : decide ((k : Int) + 1 ≤ (n : Int)) = true := by simpa using hle
      go_wp2_with fail
      go_loopw [12] (fun v wr => ∃ c : Int, 1 ≤ c ∧ c ≤ L ∧ v = .int .i64 (C + (L - c)) ∧ Tim wr w1.heap.size ⟨L, b, c, k⟩ t ∧ Below w.heap.size w wr) (fun v _ => 2000 - (intOf v).toNat)
      case atStart => exact ⟨L, by omega, by omega, by go_num, hT, hbk⟩
      case round =>
        clear hT hbk
        obtain ⟨c, hc1, hcL, rfl, hT, hbk⟩ := hrel
        have hcell : wr.cell? ⟨w1.heap.size, 2, none⟩ = some (.int .i64 c) := (four_cells hT).1.2.2.1
        by_cases h1 : c = 1
        · subst h1
          have hR : conR ⟨L, b, 1, k⟩ = (⟨L + b, b, L + b, (k : Int) + 1⟩, true, 0) := by unfold conR; rw [if_neg (by simp; omega), if_neg (by simp)]
          go_wp2_with fail
          refine (left_any wr _ 1 hcell).mono ?_
          rintro e w3 ⟨rfl, rfl⟩
          go_wp2_with fail
          refine (conflict_any wr w1.heap.size ⟨L, b, 1, k⟩ t hT (by simp; omega) (by simp; omega) (by simp) (by simp; omega)).mono ?_
          rw [hR]
          rintro e w3 ⟨rfl, hT3, hbt⟩
          have hb3 : Below w.heap.size w w3 := hbt.below hbk (by omega) (by omega) (by have := hbk.size; omega)
          obtain ⟨⟨-, -, q2, q3⟩, -⟩ := four_cells hT3
          simp only [] at q2 q3
          have hd := due_eq ⟨ha0, ha1⟩ ⟨hb0, hbb1⟩ k (by omega)
          have hlf := left_eq ⟨ha0, ha1⟩ ⟨hb0, hbb1⟩ k (by omega)
          rw [HM3.out] at hd
          rw [HL.out] at hlf
          have HD := Lib.hid hd; clear hd
          have HLF := Lib.hid hlf; clear hlf
          go_wp2_with fail
          all_goals first
            | (exfalso
               have hne : ¬ C + (L - 1) + 1 = wrap64 (wrap64 (((k : Int) + 1) * a) + wrap64 (wrap64 ((wrap64 (((k : Int) + 1) * (k : Int))).tdiv 2) * b)) := by assumption
               rw [HD.out] at hne
               omega)
            | skip
          refine (count_any w3 _ ((k : Int) + 1) q3).mono ?_
          rintro e w4 ⟨rfl, rfl⟩
          go_wp2_with fail
          refine (left_any w3 _ (L + b) q2).mono ?_
          rintro e w4 ⟨rfl, rfl⟩
          go_wp2_with fail
          · exfalso
            have hne : (L + b != wrap64 (a + wrap64 (((k : Int) + 1) * b))) = true := by assumption
            rw [HLF.out] at hne
            simp at hne
          · exact ⟨⟨k + 1, by omega, by simp, by rw [HD.out, HM3.out], by rw [show ((k + 1 : Nat) : Int) * b = (k : Int) * b + b by rw [show ((k + 1 : Nat) : Int) = (k : Int) + 1 by omega, Int.add_mul, Int.one_mul], show a + ((k : Int) * b + b) = L + b by have := HL.out; omega]; exact hT3, hb3⟩, by simp [intOf]; omega⟩
        · have hR : conR ⟨L, b, c, k⟩ = (⟨L, b, c - 1, k⟩, false, 0) := by unfold conR; rw [if_neg (by simp; omega), if_pos (by simp; omega)]
          have hce : (c == 1) = false := by simpa using h1
          go_wp2_with fail
          refine (left_any wr _ c hcell).mono ?_
          rintro e w3 ⟨rfl, rfl⟩
          go_wp2_with fail
          refine (conflict_any wr w1.heap.size ⟨L, b, c, k⟩ t hT (by simp; omega) (by simp; omega) (by simp; omega) (by simp; omega)).mono ?_
          rw [hR]
          rintro e w3 ⟨rfl, hT3, hbt⟩
          have hb3 : Below w.heap.size w w3 := hbt.below hbk (by omega) (by omega) (by have := hbk.size; omega)
          go_wp2_with fail
          go_roundw
          case rel => exact ⟨c - 1, by omega, by omega, by go_num, hT3, hb3⟩
          case measure => simp [intOf]; omega
    · obtain rfl : k = n := by omega
      have hq := (four_cells hT).1.2.2.2
      go_wp2_with fail
      refine (count_any wr _ k hq).mono ?_
      rintro e w3 ⟨rfl, rfl⟩
      go_wp2_with fail
      go_ret
      exact ⟨rfl, hbk⟩
end Go.Proofs.Ytcpcoomkapblcaa
