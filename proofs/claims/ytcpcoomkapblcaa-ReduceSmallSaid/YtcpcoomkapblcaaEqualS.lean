import Derived.Test.YtcpcoomkapblcaaStructs
import Derived.Laws.StructEq
import Derived.Deep.QuietTactic
import Derived.BigQuiet
import Derived.BigRegion
open Go Go.RowKit Go.Maps
namespace Go.Proofs.Ytcpcoomkapblcaa
set_option maxRecDepth 1000000 in
set_option maxHeartbeats 1000000 in
theorem equalS_same (w : World) (B C : Nat) (u v : Value) (l : List Inf) (hu : RdS B w u l) (hv : RdS C w v l) (hl : l.length ≤ 1000000) :
    Calls Try.prog 31 #[u, v] w fun e w' => e = .returned (.bool true) ∧ ∃ q, w' = w.drewN q := by
  obtain ⟨A, c, rfl, hc, hr⟩ := hu
  obtain ⟨A', c', rfl, hc', hr'⟩ := hv
  go_enter Try.func31, Try.ntmps31
  go_wp2_with fail
  go_loopw [13] (fun i wr => ∃ (k q : Nat), k ≤ l.length ∧ i = .int .i64 k ∧ wr = w.drewN q) (fun i _ => l.length - (intOf i).toNat)
  case atStart => exact ⟨0, 0, Nat.zero_le _, rfl, rfl⟩
  case round =>
    obtain ⟨k, q, hk, rfl, rfl⟩ := hrel
    by_cases hlt : k < l.length
    · obtain ⟨b, off, rfl, hb, hcell⟩ := hr (by omega)
      obtain ⟨b', off', rfl, hb', hcell'⟩ := hr' (by omega)
      obtain ⟨h1, h2, h3⟩ := hcell k hlt
      obtain ⟨h4, h5, h6⟩ := hcell' k hlt
      generalize l[k]?.getD ⟨0, 0, 0⟩ = x at *
      clear hcell hcell' hr hr'
      have hk0 : (0 : Int) ≤ (k : Int) := Int.natCast_nonneg _
      have hk1 : (k : Int) < (l.length : Int) := by omega
      have hd1 : ∀ p, (w.drewN q).cell? p = w.cell? p := fun _ => rfl
      go_wp2_with fail
      go_quiet (fail)
      go_wp2_with fail
      go_roundw
      case rel => exact ⟨k + 1, _, by omega, by go_num, rfl⟩
      case measure => simp [intOf]; omega
    · obtain rfl : k = l.length := by omega
      go_wp2_with fail
      go_ret
      exact ⟨rfl, q, rfl⟩
end Go.Proofs.Ytcpcoomkapblcaa
