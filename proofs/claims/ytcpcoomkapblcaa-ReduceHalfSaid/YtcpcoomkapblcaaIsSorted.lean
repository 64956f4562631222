import Derived.Test.YtcpcoomkapblcaaIntsMore
import Derived.Deep.QuietTactic
import Derived.BigQuiet
import Derived.IntWalk
open Go Go.RowKit Go.Maps
namespace Go.Proofs.Ytcpcoomkapblcaa
theorem less_not (a b : Int) (h : b ≤ a) (w : World) : Calls Try.prog 48 #[.int .i64 a, .int .i64 b] w fun e w' => e = .returned (.bool false) ∧ w' = w := by
  have := Try.cmp_Less_int2 a b w
  refine this.mono fun e w' ⟨he, hw⟩ => ⟨?_, hw⟩
  rw [he]
  have : decide (a < b) = false := by simp; omega
  first | rw [this] | simp [this] | (simp; omega)
theorem sortZ_sorted (xs : List Int) (k : Nat) (hk : k + 1 < (sortZ xs).length) : (sortZ xs)[k]?.getD 0 ≤ (sortZ xs)[k + 1]?.getD 0 := by
  have h : (sortZ xs).Pairwise (fun x y => decide (x ≤ y) = true) :=
    List.pairwise_mergeSort (fun a b c h1 h2 => by simp at *; omega) (fun a b => by simp; omega) xs
  rw [List.pairwise_iff_getElem] at h
  have := h k (k + 1) (by omega) hk (by omega)
  simpa [show k < (sortZ xs).length by omega, hk] using this
set_option maxRecDepth 1000000 in
set_option maxHeartbeats 1000000 in
theorem isSorted_yes (w : World) (B : Nat) (u : Value) (zs : List Int) (hu : RdI B w u zs) (hl : zs.length ≤ 1000000) (hs : ∀ k, k + 1 < zs.length → zs[k]?.getD 0 ≤ zs[k + 1]?.getD 0) :
    Calls Try.prog 24 #[u] w fun e w' => e = .returned (.bool true) ∧ ∃ q, w' = w.drewN q := by
  obtain ⟨A, c, rfl, hc, hr⟩ := hu
  have HS := Lib.hid hs; clear hs
  go_enter Try.func24, Try.ntmps24
  go_wp2_with fail
  go_loopw [3] (fun i wr => ∃ (k q : Nat), k ≤ zs.length ∧ i = .int .i64 ((k : Int) - 1) ∧ wr = w.drewN q) (fun i _ => (intOf i).toNat)
  case atStart => exact ⟨zs.length, 0, Nat.le_refl _, rfl, rfl⟩
  case round =>
    obtain ⟨k, q, hk, rfl, rfl⟩ := hrel
    by_cases hlt : 1 < k
    · obtain ⟨b, off, rfl, hb, hcell⟩ := hr (by omega)
      obtain ⟨j, rfl⟩ : ∃ j, k = j + 2 := ⟨k - 2, by omega⟩
      have h1 := hcell (j + 1) (by omega)
      have h2 := hcell j (by omega)
      have hle := HS.out j (by omega)
      replace h1 : (w.drewN q).cell? ⟨b, off + (j + 1), none⟩ = _ := h1
      replace h2 : (w.drewN q).cell? ⟨b, off + j, none⟩ = _ := h2
      generalize hwq : w.drewN q = wq at *
      have HWQ := Lib.hid hwq; clear hwq
      generalize zs[j]?.getD 0 = x at *
      generalize zs[j + 1]?.getD 0 = y at *
      clear hcell hr
      have e1 : ((j + 2 : Nat) : Int) - 1 = (j : Int) + 1 := by omega
      rw [e1]
      have e2 : (j : Int) + 1 - 1 = (j : Int) := by omega
      have E1 := Lib.hid e1; clear e1
      have hj0 : (0 : Int) ≤ (j : Int) := Int.natCast_nonneg _
      have hj1 : (j : Int) + 1 < (zs.length : Int) := by omega
      have hj2 : (j : Int) < (zs.length : Int) := by omega
      have hw := IntWalk.i64_in ((j : Int) + 1 - 1) (by omega)
      rw [e2] at hw
      have hL := less_not y x hle
      have HL := Lib.hid hL
      clear hL hle
      have E2 := Lib.hid e2; clear e2
      have n1 : (0 : Int) ≤ (j : Int) + 1 := by omega
      have n2 : ((j : Int) + 1).toNat = j + 1 := by omega
      go_wp2_with fail
      go_quiet ((go_at_call 48; exact Calls.quiet_of_same (HL.out _)))
      clear n2 hw
      go_wp2_with fail
      go_roundw
      case rel => exact ⟨j + 1, q + _, by omega, by rw [show ((j + 1 : Nat) : Int) - 1 = (j : Int) by omega], by rw [← HWQ.out, World.drewN_drewN]⟩
      case measure => simp [intOf]
    · have h1 : ¬ (0 : Int) < (k : Int) - 1 := by omega
      go_wp2_with fail
      go_ret
      exact ⟨rfl, q, rfl⟩
end Go.Proofs.Ytcpcoomkapblcaa
