/- slices.SortStableFunc at []reduce.Info with reduce's own order: a sorted permutation. -/
import Derived.Test.YtcpcoomkapblcaaStabE
import Derived.Lib.Hide
import Derived.Deep.CutBlock
import Derived.Deep.DeepCutAuto
import Derived.Deep.CutRange
namespace Go.Proofs.Ytcpcoomkapblcaa
open Go Go.Shelf Go.RowKit Go.Lib Go.Sort
set_option maxHeartbeats 4000000 in
set_option maxRecDepth 1000000 in
theorem stable_any (blk off cap : Nat) (d : Array Inf) (w : World) (R : RowK Inf.enc 3 w blk off d) (hsz : d.size < 1152921504606846976) :
    Calls Try.prog 77 #[.slice (some ⟨blk, off, none⟩) d.size cap, .int .i64 d.size, .func (.func 51) #[] #[]] w fun e w' => e = .returned (.tuple #[]) ∧ ∃ d', PermIn 0 d.size d d' ∧ SortedIn (ltOf cf) 0 d.size d' ∧ SWK Inf.enc 3 w blk off d' w' := by
  have S0 : Aside (SWK Inf.enc 3 w blk off d w) := SWK.start R.hH
  obtain ⟨n, hn⟩ : ∃ n, n = d.size := ⟨_, rfl⟩
  have HI : Aside (∀ (a b : Nat) (dk : Array Inf) (W : World), dk.size = n → SWK Inf.enc 3 w blk off dk W → a ≤ b → b ≤ n →
      Calls Try.prog 89 #[.slice (some ⟨blk, off, none⟩) n cap, .int .i64 a, .int .i64 b, .func (.func 51) #[] #[]] W fun e w' => e = .returned (.tuple #[]) ∧ ∃ d', PermIn a b dk d' ∧ SortedIn (ltOf cf) a b d' ∧ SWK Inf.enc 3 w blk off d' w') := by
    intro a b dk W h1 h2 h3 h4
    have := insert_any blk off cap a b d dk w W R (by omega) h2 h3 (by omega) (by omega)
    rwa [h1] at this
  have HM : Aside (∀ (a m b : Nat) (dk : Array Inf) (W : World), dk.size = n → SWK Inf.enc 3 w blk off dk W → a < m → m < b → b ≤ n → SortedIn (ltOf cf) a m dk → SortedIn (ltOf cf) m b dk →
      Calls Try.prog 90 #[.slice (some ⟨blk, off, none⟩) n cap, .int .i64 a, .int .i64 m, .int .i64 b, .func (.func 51) #[] #[]] W fun e w' => e = .returned (.tuple #[]) ∧ ∃ d', PermIn a b dk d' ∧ SortedIn (ltOf cf) a b d' ∧ SWK Inf.enc 3 w blk off d' w') := by
    intro a m b dk W h1 h2 h3 h4 h5 s1 s2
    have := merge_any blk off cap a m b d dk w W R (by omega) h2 h3 h4 (by omega) (by omega) s1 s2
    rwa [h1] at this
  have HN : Hid (n = d.size) := hn
  rw [← hn] at hsz ⊢
  clear hn R
  go_enter Try.func77, Try.ntmps77
  go_wp2_with fail
  go_loopg [7, 8] n (fun kx s7 s8 wr => ∃ (a j : Nat) (dk : Array Inf), s7 = .int .i64 a ∧ s8 = .int .i64 ((a : Int) + 20) ∧ a ≤ n ∧ n - a ≤ kx ∧ Aside (a = j * 20 ∧ dk.size = n ∧ PermIn 0 n d dk ∧ Firsts (ltOf cf) 20 j dk) ∧ Aside (SWK Inf.enc 3 w blk off dk wr))
  case atStart => exact ⟨0, 0, d, rfl, rfl, Nat.zero_le _, Nat.le_refl _, ⟨by omega, HN.out.symm, permIn_refl _ _ _, firsts_zero _ _⟩, S0⟩
  case round =>
    clear S0
    obtain ⟨a, j, dk, rfl, rfl, han, hkx, HF, S1⟩ := hrel
    by_cases hlt : a + 20 ≤ n
    · have hltz : (a : Int) + 20 ≤ (n : Int) := by omega
      go_wp2_with fail
      have hc := HI.out a (a + 20) dk wr HF.out.2.1 S1.out (by omega) hlt
      rw [show ((a + 20 : Nat) : Int) = (a : Int) + 20 by omega] at hc
      refine hc.mono ?_
      rintro e w' ⟨rfl, d', h1, h2, h3⟩
      have HF2 : Aside (a + 20 = (j + 1) * 20 ∧ d'.size = n ∧ PermIn 0 n d d' ∧ Firsts (ltOf cf) 20 (j + 1) d') := by
        obtain ⟨q1, q2, q3, q4⟩ := HF.out
        have hz := h1.1
        have hN := HN.out
        refine ⟨by omega, by omega, permIn_trans _ _ _ _ _ q3 (permIn_mono _ _ _ _ _ _ (Nat.zero_le _) hlt (by omega) h1), firsts_step (b := a + 20) q4 ?_ ?_⟩
        · rw [← q1]; exact h1
        · rw [show (j + 1) * 20 = a + 20 by omega, ← q1]; exact h2
      have S2 : Aside (SWK Inf.enc 3 w blk off d' w') := h3
      clear h1 h2 h3 hc HF S1
      go_wp2_with fail
      go_roundg (n - (a + 20))
      case measure => omega
      case rel => exact ⟨a + 20, j + 1, d', by go_num, by go_num, hlt, Nat.le_refl _, HF2, S2⟩
    · have hltz : ¬ (a : Int) + 20 ≤ (n : Int) := by omega
      go_wp2_with fail
      have hc := HI.out a n dk wr HF.out.2.1 S1.out han (Nat.le_refl _)
      refine hc.mono ?_
      rintro e w' ⟨rfl, d1, h1, h2, h3⟩
      have HB : Aside (d1.size = n ∧ PermIn 0 n d d1 ∧ Blocks (ltOf cf) 20 n d1) := by
        obtain ⟨q1, q2, q3, q4⟩ := HF.out
        have hz := h1.1
        refine ⟨by omega, permIn_trans _ _ _ _ _ q3 (permIn_mono _ _ _ _ _ _ (Nat.zero_le _) (Nat.le_refl _) (by omega) h1), ?_⟩
        refine blocks_of (j := j) (fun j' hj => ?_) (by rw [← q1]; exact h2) (by rw [mul_succ', ← q1]; omega)
        have := mul_le_of_lt (bs := 20) hj
        exact sortedIn_part (q4 j' hj) (fun i _ hi => h1.2.1 i (.inl (by omega)))
      have S2 : Aside (SWK Inf.enc 3 w blk off d1 w') := h3
      clear h1 h2 h3 hc HF S1 hkx han
      go_wp2_with fail
      go_loopg [6] n (fun kx s6 wr => ∃ (bs : Nat) (dk : Array Inf), s6 = .int .i64 bs ∧ 20 ≤ bs ∧ bs ≤ 2 * n + 20 ∧ n - bs ≤ kx ∧ Aside (dk.size = n ∧ PermIn 0 n d dk ∧ Blocks (ltOf cf) bs n dk) ∧ Aside (SWK Inf.enc 3 w blk off dk wr))
      case atStart => exact ⟨20, d1, rfl, Nat.le_refl _, by omega, by omega, HB, S2⟩
      case round =>
        clear S2 HB
        obtain ⟨bs, dk, rfl, hb1, hb2, hkx, HB, S2⟩ := hrel
        by_cases hlt2 : bs < n
        · have hltz2 : (bs : Int) < (n : Int) := by omega
          go_wp2_with fail
          go_loopg [7, 8] n (fun kx s7 s8 wr => ∃ (a j : Nat) (dq : Array Inf), s7 = .int .i64 a ∧ s8 = .int .i64 ((a : Int) + 2 * (bs : Int)) ∧ a ≤ n ∧ n - a ≤ kx ∧ Aside (a = j * (2 * bs) ∧ dq.size = n ∧ PermIn 0 n d dq ∧ Firsts (ltOf cf) (2 * bs) j dq ∧ ∀ i, a ≤ i → dq[i]! = dk[i]!) ∧ Aside (SWK Inf.enc 3 w blk off dq wr))
          case atStart => exact ⟨0, 0, dk, rfl, by go_num, Nat.zero_le _, Nat.le_refl _, ⟨by omega, HB.out.1, HB.out.2.1, firsts_zero _ _, fun _ _ => rfl⟩, S2⟩
          case round =>
            clear S2
            obtain ⟨a, j, dq, rfl, rfl, han, hkx2, HF, S3⟩ := hrel
            have hpair : SortedIn (ltOf cf) a (min (a + bs) n) dq ∧ SortedIn (ltOf cf) (a + bs) (min (a + 2 * bs) n) dq := by
              obtain ⟨q1, _, _, _, q5⟩ := HF.out
              have h0 := blocks_pair (j := j) HB.out.2.2
              rw [← q1] at h0
              exact ⟨sortedIn_part h0.1 (fun i hi _ => q5 i hi), sortedIn_part h0.2 (fun i hi _ => q5 i (by omega))⟩
            have HP : Aside _ := hpair
            clear hpair
            by_cases hlt3 : a + 2 * bs ≤ n
            · have hltz3 : (a : Int) + 2 * (bs : Int) ≤ (n : Int) := by omega
              go_wp2_with fail
              have hp := HP.out
              rw [Nat.min_eq_left (by omega), Nat.min_eq_left (by omega)] at hp
              have hc := HM.out a (a + bs) (a + 2 * bs) dq wr HF.out.2.1 S3.out (by omega) (by omega) hlt3 hp.1 hp.2
              rw [show ((a + 2 * bs : Nat) : Int) = (a : Int) + 2 * (bs : Int) by omega, show ((a + bs : Nat) : Int) = (a : Int) + (bs : Int) by omega] at hc
              refine hc.mono ?_
              rintro e w' ⟨rfl, d', h1, h2, h3⟩
              have HF2 : Aside (a + 2 * bs = (j + 1) * (2 * bs) ∧ d'.size = n ∧ PermIn 0 n d d' ∧ Firsts (ltOf cf) (2 * bs) (j + 1) d' ∧ ∀ i, a + 2 * bs ≤ i → d'[i]! = dk[i]!) := by
                obtain ⟨q1, q2, q3, q4, q5⟩ := HF.out
                have hz := h1.1
                have hN := HN.out
                have e1 := mul_succ' j (2 * bs)
                rw [← q1] at e1
                refine ⟨e1.symm, by omega, permIn_trans _ _ _ _ _ q3 (permIn_mono _ _ _ _ _ _ (Nat.zero_le _) hlt3 (by omega) h1), firsts_step (b := a + 2 * bs) q4 ?_ ?_, fun i hi => ?_⟩
                · rw [← q1]; exact h1
                · rw [e1, ← q1]; exact h2
                · rw [h1.2.1 i (.inr hi)]; exact q5 i (by omega)
              have S4 : Aside (SWK Inf.enc 3 w blk off d' w') := h3
              clear h1 h2 h3 hc HF S3 hp HP
              go_wp2_with fail
              go_roundg (n - (a + 2 * bs))
              case measure => omega
              case rel => exact ⟨a + 2 * bs, j + 1, d', by rw [show ((a + 2 * bs : Nat) : Int) = (a : Int) + 2 * (bs : Int) by omega], by rw [show ((a + 2 * bs : Nat) : Int) = (a : Int) + 2 * (bs : Int) by omega], hlt3, Nat.le_refl _, HF2, S4⟩
            · have hltz3 : ¬ (a : Int) + 2 * (bs : Int) ≤ (n : Int) := by omega
              by_cases hlt4 : a + bs < n
              · have hltz4 : (a : Int) + (bs : Int) < (n : Int) := by omega
                go_wp2_with fail
                have hp := HP.out
                rw [Nat.min_eq_left (by omega), Nat.min_eq_right (by omega)] at hp
                have hc := HM.out a (a + bs) n dq wr HF.out.2.1 S3.out (by omega) hlt4 (Nat.le_refl _) hp.1 hp.2
                rw [show ((a + bs : Nat) : Int) = (a : Int) + (bs : Int) by omega] at hc
                refine hc.mono ?_
                rintro e w' ⟨rfl, d', h1, h2, h3⟩
                have HB2 : Aside (d'.size = n ∧ PermIn 0 n d d' ∧ Blocks (ltOf cf) (bs * 2) n d') := by
                  obtain ⟨q1, q2, q3, q4, q5⟩ := HF.out
                  have hz := h1.1
                  have hN := HN.out
                  rw [Nat.mul_comm bs 2]
                  refine ⟨by omega, permIn_trans _ _ _ _ _ q3 (permIn_mono _ _ _ _ _ _ (Nat.zero_le _) (Nat.le_refl _) (by omega) h1), ?_⟩
                  refine blocks_of (j := j) (fun j' hj => ?_) (by rw [← q1]; exact h2) (by rw [mul_succ', ← q1]; omega)
                  have := mul_le_of_lt (bs := 2 * bs) hj
                  exact sortedIn_part (q4 j' hj) (fun i _ hi => h1.2.1 i (.inl (by omega)))
                have S4 : Aside (SWK Inf.enc 3 w blk off d' w') := h3
                clear h1 h2 h3 hc HF S3 hp HP
                go_wp2_with fail
                go_roundg (n - bs * 2)
                case measure => omega
                case rel => exact ⟨bs * 2, d', by go_num, by omega, by omega, Nat.le_refl _, HB2, S4⟩
              · have hltz4 : ¬ (a : Int) + (bs : Int) < (n : Int) := by omega
                have HB2 : Aside (dq.size = n ∧ PermIn 0 n d dq ∧ Blocks (ltOf cf) (bs * 2) n dq) := by
                  obtain ⟨q1, q2, q3, q4, q5⟩ := HF.out
                  have hp := HP.out.1
                  rw [Nat.min_eq_right (by omega)] at hp
                  rw [Nat.mul_comm bs 2]
                  exact ⟨q2, q3, blocks_of (j := j) q4 (by rw [← q1]; exact hp) (by rw [mul_succ', ← q1]; omega)⟩
                clear HF HP
                go_wp2_with fail
                go_roundg (n - bs * 2)
                case measure => omega
                case rel => exact ⟨bs * 2, dq, by go_num, by omega, by omega, Nat.le_refl _, HB2, S3⟩
        · have hltz2 : ¬ (bs : Int) < (n : Int) := by omega
          go_wp2_with fail
          go_end0
          exact ⟨rfl, dk, HB.out.2.1, blocks_whole HB.out.2.2 (by omega), S2.out⟩
end Go.Proofs.Ytcpcoomkapblcaa
