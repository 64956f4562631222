/- slices.SortStableFunc's helpers at []reduce.Info: swapRange and rotate, from a world of the sort's to a world of the sort's, over any program that bears their bodies. -/
import Derived.Test.YtcpcoomkapblcaaChecked
import Derived.Test.YtcpcoomkapblcaaMergeP
import Derived.Shelf.SlSortCmp.KitK
import Derived.Sort.WalkB2
import Derived.Sort.WalkB12
import Derived.Deep.LoopGhost
namespace Go.Proofs.Ytcpcoomkapblcaa
open Go Go.Shelf Go.RowKit Go.Lib Go.Sort
variable {P : Program} {α : Type} [Inhabited α]
/-- What is known of the types, in the seat's numbers, at elements of k cells. -/
structure HostK (P : Program) (k : Nat) : Prop where
  mixed : P.follows .mixedOrders = true
  t3 : P.underlying 3 = some (TypeDesc.int IntKind.i64)
  a3 : ∀ w, (isAgg 3).run P w = .ok false w
  z3 : ∀ w, (Go.sizeOf 3).run P w = .ok 1 w
  v3 : ∀ w, (zeroValue 3).run P w = .ok (Value.int IntKind.i64 0) w
  t4 : P.underlying 4 = some (TypeDesc.bool)
  a4 : ∀ w, (isAgg 4).run P w = .ok false w
  z4 : ∀ w, (Go.sizeOf 4).run P w = .ok 1 w
  v4 : ∀ w, (zeroValue 4).run P w = .ok (Value.bool false) w
  t112 : P.underlying 112 = some (TypeDesc.int IntKind.u64)
  a112 : ∀ w, (isAgg 112).run P w = .ok false w
  z112 : ∀ w, (Go.sizeOf 112).run P w = .ok 1 w
  v112 : ∀ w, (zeroValue 112).run P w = .ok (Value.int IntKind.u64 0) w
  t29 : P.underlying 29 = some (TypeDesc.slice 32)
  a29 : ∀ w, (isAgg 29).run P w = .ok false w
  z29 : ∀ w, (Go.sizeOf 29).run P w = .ok 1 w
  v29 : ∀ w, (zeroValue 29).run P w = .ok (Value.slice none 0 0) w
  a32 : ∀ w, (isAgg 32).run P w = .ok true w
  z32 : ∀ w, (Go.sizeOf 32).run P w = .ok k w
  t89 : P.underlying 89 = some (TypeDesc.func #[32, 32] #[3] false)
  a89 : ∀ w, (isAgg 89).run P w = .ok false w
  z89 : ∀ w, (Go.sizeOf 89).run P w = .ok 1 w
  v89 : ∀ w, (zeroValue 89).run P w = .ok (Value.nilFunc) w

set_option maxHeartbeats 4000000 in
set_option maxRecDepth 1000000 in
theorem swapRange_gen {k : Nat} (L : HostK P k) (FG : P.funcs[106]? = some Try.f106) (enc : α → List Value) (fv : Value) (blk off cap a b n : Nat) (d0 d : Array α) (w0 w : World)
    (R : RowK enc k w0 blk off d0) (hs : d0.size = d.size) (S : SWK enc k w0 blk off d w) (hab : a + n ≤ b) (hb : b + n ≤ d.size) (hsz : d.size < 4611686018427387904) :
    Calls P 106 #[.slice (some ⟨blk, off, none⟩) d.size cap, .int .i64 a, .int .i64 b, .int .i64 n, fv] w fun e w' => e = .returned (.tuple #[]) ∧ ∃ d', SwR a b n d d' ∧ SWK enc k w0 blk off d' w' := by
  have mixed := L.mixed; have t3 := L.t3; have a3 := L.a3; have z3 := L.z3; have v3 := L.v3; have t4 := L.t4; have a4 := L.a4; have z4 := L.z4; have v4 := L.v4; have t22 := L.t29; have a22 := L.a29; have z22 := L.z29; have v22 := L.v29; have aE := L.a32; have zE := L.z32; have t25 := L.t89; have a25 := L.a89; have z25 := L.z89; have v25 := L.v89
  have S0 : Aside (SWK enc k w0 blk off d w) := S
  clear S
  go_enter FG, Try.ntmps106
  go_wp2_with fail
  go_loopg [10] n (fun kx s10 wr => ∃ (i : Nat) (dk : Array α), s10 = .int .i64 i ∧ i ≤ n ∧ n - i ≤ kx ∧ dk.size = d.size ∧ Aside (SWK enc k w0 blk off dk wr) ∧ Aside (SwR a b i d dk))
  case atStart => exact ⟨0, d, rfl, Nat.zero_le _, by omega, rfl, S0, SwR.zero a b d⟩
  case round =>
    clear S0
    obtain ⟨i, dk, rfl, hin, hkx, hds, S1, HR⟩ := hrel
    by_cases hlt : i < n
    · have hltz : (i : Int) < (n : Int) := by omega
      go_wp2_with fail
      have ea44 : ((a : Int) + (i : Int)).toNat = a + i := by omega
      have pa44 : (0 : Int) ≤ (a : Int) + (i : Int) := by omega
      have ba44 : (a : Int) + (i : Int) < (d.size : Int) := by omega
      have ra44 : IntKind.i64.wrap ((a : Int) + (i : Int)) = (a : Int) + (i : Int) := by rw [IntKind.wrap_i64]; omega
      have ec44 : ((b : Int) + (i : Int)).toNat = b + i := by omega
      have pc44 : (0 : Int) ≤ (b : Int) + (i : Int) := by omega
      have bc44 : (b : Int) + (i : Int) < (d.size : Int) := by omega
      have rc44 : IntKind.i64.wrap ((b : Int) + (i : Int)) = (b : Int) + (i : Int) := by rw [IntKind.wrap_i64]; omega
      have S2 : Aside (SWK enc k w0 blk off (swp dk (a + i) (b + i)) ((wr.drew.setCells blk (off + (a + i) * k) (enc dk[b + i]!)).setCells blk (off + (b + i) * k) (enc dk[a + i]!))) := S1.out.swapped R (a + i) (b + i) (by omega) (by omega)
      have l44a := S1.out.ld1 R (by omega) P (a + i) (by omega)
      have l44b := S1.out.ld1 R (by omega) P (b + i) (by omega)
      have s44a := S1.out.st1 R (by omega) P (a + i) (by omega) dk[b + i]!
      have s44b := S1.out.st2 R (by omega) P (a + i) (b + i) (by omega) (by omega) dk[b + i]! dk[a + i]!
      have n44a : (enc dk[a + i]!).length = k := R.hk _
      have n44b : (enc dk[b + i]!).length = k := R.hk _
      generalize enc dk[a + i]! = cI44 at S2 l44a s44b n44a
      generalize enc dk[b + i]! = cJ44 at S2 l44b s44a s44b n44b
      have HR2 : Aside (SwR a b (i + 1) d (swp dk (a + i) (b + i))) := HR.out.step hab hlt hb
      clear S1 HR
      go_big_region_o
      clear l44a l44b s44a s44b
      generalize (wr.drew.setCells blk (off + (a + i) * k) cJ44).setCells blk (off + (b + i) * k) cI44 = w2 at S2 ⊢
      go_wp2_with fail
      go_roundg (n - (i + 1))
      case measure => omega
      case rel => exact ⟨i + 1, swp dk (a + i) (b + i), by go_num, hlt, Nat.le_refl _, by rw [size_swp]; exact hds, S2, HR2⟩
    · have hltz : ¬ (i : Int) < (n : Int) := by omega
      obtain rfl : i = n := by omega
      go_wp2_with fail
      go_end0
      exact ⟨rfl, dk, HR.out, S1.out⟩
set_option maxHeartbeats 4000000 in
set_option maxRecDepth 1000000 in
theorem rotate_gen {k : Nat} (L : HostK P k) (F106 : P.funcs[106]? = some Try.f106) (FG : P.funcs[97]? = some Try.f97) (enc : α → List Value) (fv : Value) (blk off cap a m b : Nat) (d0 d : Array α) (w0 w : World)
    (R : RowK enc k w0 blk off d0) (hs : d0.size = d.size) (S : SWK enc k w0 blk off d w) (ham : a < m) (hmb : m < b) (hb : b ≤ d.size) (hsz : d.size < 4611686018427387904) :
    Calls P 97 #[.slice (some ⟨blk, off, none⟩) d.size cap, .int .i64 a, .int .i64 m, .int .i64 b, fv] w fun e w' => e = .returned (.tuple #[]) ∧ ∃ d', Rot a m b d d' ∧ SWK enc k w0 blk off d' w' := by
  have mixed := L.mixed; have t3 := L.t3; have a3 := L.a3; have z3 := L.z3; have v3 := L.v3; have t4 := L.t4; have a4 := L.a4; have z4 := L.z4; have v4 := L.v4; have t22 := L.t29; have a22 := L.a29; have z22 := L.z29; have v22 := L.v29; have aE := L.a32; have zE := L.z32; have t25 := L.t89; have a25 := L.a89; have z25 := L.z89; have v25 := L.v89
  have S0 : Aside (SWK enc k w0 blk off d w) := S
  have eg106 : ∀ args w, (callFunc 106 args).run P w = .ok (.enter 106 args) w := enters_of F106 (by kernel_rfl) rfl
  have hc106 := @swapRange_gen P α _ k L F106 enc fv blk off cap
  have HC : Aside _ := hc106
  clear S hc106
  go_enter FG, Try.ntmps97
  go_wp2_with fail
  go_loopg [10, 11] (b - a) (fun kx s10 s11 wr => ∃ (i j : Nat) (dk : Array α), s10 = .int .i64 i ∧ s11 = .int .i64 j ∧ 0 < i ∧ 0 < j ∧ a + i ≤ m ∧ m + j ≤ b ∧ i + j ≤ kx ∧ dk.size = d.size ∧ Aside (SWK enc k w0 blk off dk wr) ∧ Aside (∀ d', Rot (m - i) m (m + j) dk d' → Rot a m b d d'))
  case atStart => exact ⟨m - a, b - m, d, by rw [show ((m - a : Nat) : Int) = (m : Int) - a by omega], by rw [show ((b - m : Nat) : Int) = (b : Int) - m by omega], by omega, by omega, by omega, by omega, by omega, rfl, S0, fun d' h => by rwa [show m - (m - a) = a by omega, show m + (b - m) = b by omega] at h⟩
  case round =>
    clear S0
    obtain ⟨i, j, dk, rfl, rfl, hi0, hj0, hi, hj, hkx, hds, S1, HR⟩ := hrel
    by_cases hne : i = j
    · subst hne
      have hb1 : bne (i : Int) (i : Int) = false := by simp
      go_wp2_with fail
      rw [show ((m : Int) - (i : Int)) = ((m - i : Nat) : Int) by omega]
      have hc := HC.out (m - i) m i d0 dk w0 wr R (by omega) S1.out (by omega) (by omega) (by omega)
      rw [hds] at hc
      refine hc.mono ?_
      rintro e w' ⟨rfl, d', hsw, hS⟩
      have HS : Aside (SWK enc k w0 blk off d' w') := hS
      have HF : Aside (Rot a m b d d') := HR.out d' (Rot.eq hsw (by omega) (by omega))
      clear hc hsw hS HR
      go_wp2_with fail
      go_end0
      exact ⟨rfl, d', HF.out, HS.out⟩
    · have hb1 : bne (i : Int) (j : Int) = true := by simp; omega
      by_cases hgt : j < i
      · have hgz : (j : Int) < (i : Int) := by omega
        go_wp2_with fail
        rw [show ((m : Int) - (i : Int)) = ((m - i : Nat) : Int) by omega]
        have hc := HC.out (m - i) m j d0 dk w0 wr R (by omega) S1.out (by omega) (by omega) (by omega)
        rw [hds] at hc
        refine hc.mono ?_
        rintro e w' ⟨rfl, d', hsw, hS⟩
        have hd' := hsw.size
        have HS : Aside (SWK enc k w0 blk off d' w') := hS
        have HF : Aside (∀ d'', Rot (m - (i - j)) m (m + j) d' d'' → Rot a m b d d'') := fun d'' h => HR.out d'' (Rot.gt hsw (by omega) hgt (by omega) h)
        clear hc hsw hS HR
        go_wp2_with fail
        go_roundg (i - j + j)
        case measure => omega
        case rel => exact ⟨i - j, j, d', by rw [show ((i - j : Nat) : Int) = (i : Int) - j by omega], rfl, by omega, hj0, by omega, hj, Nat.le_refl _, by omega, HS, HF⟩
      · have hgz : ¬ (j : Int) < (i : Int) := by omega
        go_wp2_with fail
        rw [show ((m : Int) - (i : Int)) = ((m - i : Nat) : Int) by omega, show ((m : Int) + (j : Int) - (i : Int)) = ((m + j - i : Nat) : Int) by omega]
        have hc := HC.out (m - i) (m + j - i) i d0 dk w0 wr R (by omega) S1.out (by omega) (by omega) (by omega)
        rw [hds] at hc
        refine hc.mono ?_
        rintro e w' ⟨rfl, d', hsw, hS⟩
        have hd' := hsw.size
        have HS : Aside (SWK enc k w0 blk off d' w') := hS
        have HF : Aside (∀ d'', Rot (m - i) m (m + (j - i)) d' d'' → Rot a m b d d'') := fun d'' h => HR.out d'' (Rot.lt hsw (by omega) (by omega) (by omega) h)
        clear hc hsw hS HR
        go_wp2_with fail
        go_roundg (i + (j - i))
        case measure => omega
        case rel => exact ⟨i, j - i, d', rfl, by rw [show ((j - i : Nat) : Int) = (j : Int) - i by omega], hi0, by omega, hi, by omega, Nat.le_refl _, by omega, HS, HF⟩
end Go.Proofs.Ytcpcoomkapblcaa
