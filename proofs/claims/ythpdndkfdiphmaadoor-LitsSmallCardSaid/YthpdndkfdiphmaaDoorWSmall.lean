/- LitsSmall: the walk of the law. -/
import Derived.Test.YthpdndkfdiphmaaDoorWLists
import Derived.Test.YthpdndkfdiphmaaDoorWWrong
import Derived.StillTailTactics
import Derived.Deep.CutBlock
import Derived.Deep.DeepCutAuto
namespace Go.Proofs.YthpdndkfdiphmaaDoor
open Go Go.RowKit
theorem RdI.at_ {n₀ b o m c : Nat} {W : World} {zs : List Int} (h : RdI n₀ W (.slice (some ⟨b, o, none⟩) m c) zs) (j : Nat) (hj : j < zs.length) : W.cell? ⟨b, o + j, none⟩ = some (.int .i64 zs[j]) := by
  obtain ⟨A, cap, e, _, hr⟩ := h
  injection e with e1 e2 e3
  obtain ⟨b', o', e', _, hc⟩ := hr (by omega)
  rw [e'] at e1
  injection e1 with e1
  injection e1 with e1 e4
  subst e1 e4
  rw [hc j hj]; simp [hj]
/-- The first m cells of a block hold short strings. -/
def RdS (n₀ : Nat) (W : World) (b m : Nat) : Prop := b < n₀ ∧ ∀ j, j < m → ∃ s : ByteArray, W.cell? ⟨b, j, none⟩ = some (.string s) ∧ s.size ≤ 100
theorem RdS.below {n₀ b m : Nat} {A B : World} (h : RdS n₀ A b m) (hb : Below n₀ A B) : RdS n₀ B b m :=
  ⟨h.1, fun j hj => by obtain ⟨s, h1, h2⟩ := h.2 j hj; exact ⟨s, (hb.cell (p := ⟨b, j, none⟩) h.1).trans h1, h2⟩⟩
theorem RdS.lit (W : World) (l : List ByteArray) (t : TypeId) (hl : ∀ s ∈ l, s.size ≤ 100) : RdS (W.heap.size + 1) (W.alloc (.cells (l.map Value.string).toArray t)) W.heap.size l.length := by
  refine ⟨by omega, fun j hj => ⟨l[j], ?_, hl _ (List.getElem_mem hj)⟩⟩
  simp only [World.cell?, World.alloc_heap_new]
  simp [hj]
def ends : List Int := [-9223372036854775808, -9223372036854775807, -1048577, -1048576, -1, 0, 1, 1048576, 1048577, 2097151, 2097152, 9223372036854775807]
theorem ends_ok : ∀ x ∈ ends, -9223372036854775808 ≤ x ∧ x ≤ 9223372036854775807 := by decide
set_option maxRecDepth 10000000 in
set_option maxHeartbeats 4000000 in
theorem LitsSmall_any (w : World) (ht : Tb w) : Calls Tryd.prog 10 #[] w fun e w' => e = .returned (.bool true) ∧ Below w.heap.size w w' := by
  have Ht := Lib.hid ht; clear ht
  go_enter Tryd.func10, Tryd.ntmps10
  go_upto_block 0 with (fail)
  go_cut [0] (fun r wx => r = .bool false ∧ Below w.heap.size w wx)
  case first =>
    go_wp2
    go_loopw [0, 1] (fun r a wr => r = .bool false ∧ (∃ n : Int, -40 ≤ n ∧ n ≤ 41 ∧ a = .int .i64 n) ∧ Below w.heap.size w wr) (fun _ a _ => (41 - intOf a).toNat)
    case atStart => exact ⟨rfl, ⟨-40, by omega, by omega, rfl⟩, Below.refl _ _⟩
    case round =>
      obtain ⟨rfl, ⟨n, hn1, hn2, rfl⟩, hbw⟩ := hrel
      by_cases hlt : n ≤ 40
      · obtain ⟨wo, hwo⟩ : ∃ wo : World, wo = wr := ⟨_, rfl⟩
        rw [← hwo] at hbw ⊢
        clear hwo
        go_wp2
        go_loopw [0, 2] (fun r b wr => r = .bool false ∧ (∃ m : Int, -40 ≤ m ∧ m ≤ 41 ∧ b = .int .i64 m) ∧ Below w.heap.size w wr) (fun _ b _ => (41 - intOf b).toNat)
        case atStart => exact ⟨rfl, ⟨-40, by omega, by omega, rfl⟩, hbw⟩
        case round =>
          obtain ⟨rfl, ⟨m, hm1, hm2, rfl⟩, hbw2⟩ := hrel
          by_cases hlt2 : m ≤ 40
          · go_wp2_with (go_at_call 12; refine (tells_any _ _ _ _ (by omega) (by omega) (Ht.out.below hbw2)).mono ?_; rintro e w1 ⟨rfl, hb1⟩)
            go_roundw
            case rel => exact ⟨rfl, ⟨m + 1, by omega, by omega, rfl⟩, hbw2.trans (hb1.mono hbw2.size)⟩
            case measure => simp [intOf]; omega
          · go_wp2
            go_roundw
            case rel => exact ⟨rfl, ⟨n + 1, by omega, by omega, rfl⟩, hbw2⟩
            case measure => simp [intOf]; omega
      · go_wp2
        go_meet
        exact ⟨rfl, hbw⟩
  case rest =>
    obtain ⟨rfl, hbc⟩ := hcut
    go_upto_block 4 with (fail)
    obtain ⟨w2, hw2⟩ : ∃ W, wc.alloc (.cells #[.int .i64 (-9223372036854775808), .int .i64 (-9223372036854775807), .int .i64 (-1048577), .int .i64 (-1048576), .int .i64 (-1), .int .i64 0, .int .i64 1, .int .i64 1048576, .int .i64 1048577, .int .i64 2097151, .int .i64 2097152, .int .i64 9223372036854775807] 3) = W := ⟨_, rfl⟩
    rw [hw2]
    have rE : RdI (wc.heap.size + 1) w2 (.slice (some ⟨wc.heap.size, 0, none⟩) 12 12) ends := by rw [← hw2]; exact RdI.lit wc ends 3 12 (by decide)
    have hb2 : Below w.heap.size w w2 := by rw [← hw2]; exact hbc.alloc hbc.size _
    have hz2 : wc.heap.size + 1 ≤ w2.heap.size := by rw [← hw2]; simp
    have RE := Lib.hid rE
    clear hw2 rE
    go_cut [0] (fun r wx => r = .bool false ∧ Below w.heap.size w wx)
    case first =>
      go_wp2
      go_loopw [0, 30] (fun r i wr => r = .bool false ∧ (∃ k : Nat, k ≤ 12 ∧ i = .int .i64 k) ∧ Below w2.heap.size w2 wr) (fun _ i _ => 12 - (intOf i).toNat)
      case atStart => exact ⟨rfl, ⟨0, by omega, rfl⟩, Below.refl _ _⟩
      case round =>
        obtain ⟨rfl, ⟨k, hk, rfl⟩, hbw⟩ := hrel
        by_cases hlt : k < 12
        · obtain ⟨wo, hwo⟩ : ∃ wo : World, wo = wr := ⟨_, rfl⟩
          rw [← hwo] at hbw ⊢
          clear hwo
          have hck := (RE.out.below (hbw.mono hz2)).at_ k hlt
          rw [Nat.zero_add] at hck
          have hxb := ends_ok _ (List.getElem_mem (show k < ends.length from hlt))
          generalize ends[k] = x at *
          obtain ⟨hx1, hx2⟩ := hxb
          have hd12 : decide ((k : Int) < 12) = true := decide_eq_true (by omega)
          go_wp2
          go_loopw [0, 36] (fun r i wr => r = .bool false ∧ (∃ j : Nat, j ≤ 12 ∧ i = .int .i64 j) ∧ Below w2.heap.size w2 wr) (fun _ i _ => 12 - (intOf i).toNat)
          case atStart => exact ⟨rfl, ⟨0, by omega, rfl⟩, hbw⟩
          case round =>
            obtain ⟨rfl, ⟨j, hj, rfl⟩, hbw2⟩ := hrel
            have hB : Below w.heap.size w wr := hb2.trans (hbw2.mono hb2.size)
            have hBz := hb2.size
            by_cases hlt2 : j < 12
            · have hcj := (RE.out.below (hbw2.mono hz2)).at_ j hlt2
              rw [Nat.zero_add] at hcj
              have hyb := ends_ok _ (List.getElem_mem (show j < ends.length from hlt2))
              generalize ends[j] = y at *
              obtain ⟨hy1, hy2⟩ := hyb
              clear hck
              go_wp2_with fail
              refine (tells_any _ _ _ _ hx1 hx2 (Ht.out.below hB)).mono ?_
              rintro e w3 ⟨rfl, hb3⟩
              have hB3 := hB.trans (hb3.mono hB.size)
              go_wp2_with fail
              refine (tells_any _ _ _ _ hx1 hx2 (Ht.out.below hB3)).mono ?_
              rintro e w4 ⟨rfl, hb4⟩
              have hB4 := hB3.trans (hb4.mono hB3.size)
              go_wp2_with fail
              have rl : RdI (w4.heap.size + 1) (w4.alloc (.cells #[.int .i64 x, .int .i64 y, .int .i64 1, .int .i64 x] 3)) (.slice (some ⟨w4.heap.size, 0, none⟩) 4 4) [x, y, 1, x] := RdI.lit w4 [x, y, 1, x] 3 4 (by simp)
              have hB5 : Below w.heap.size w (w4.alloc (.cells #[.int .i64 x, .int .i64 y, .int .i64 1, .int .i64 x] 3)) := hB4.alloc hB4.size _
              refine (LitsLists_any _ [x, y, 1, x] _ (rl.more (by simp)) (by simp [maxLen]) (Ht.out.below hB5)).mono ?_
              rintro e w6 ⟨rfl, hb6⟩
              have g1 : Below w2.heap.size w2 w4 := (hbw2.trans (hb3.mono hbw2.size)).trans (hb4.mono (Nat.le_trans hbw2.size hb3.size))
              have g2 := g1.alloc g1.size (.cells #[.int .i64 x, .int .i64 y, .int .i64 1, .int .i64 x] 3)
              have g3 := g2.trans (hb6.mono g2.size)
              go_wp2_with fail
              go_roundw
              case rel => exact ⟨rfl, ⟨j + 1, by omega, by go_num⟩, g3⟩
              case measure => simp [intOf]; omega
            · obtain rfl : j = 12 := by omega
              go_wp2
              go_roundw
              case rel => exact ⟨rfl, ⟨k + 1, by omega, by go_num⟩, hbw2⟩
              case measure => simp [intOf]; omega
        · obtain rfl : k = 12 := by omega
          go_wp2
          go_meet
          exact ⟨rfl, hb2.trans (hbw.mono hb2.size)⟩
    case rest =>
      obtain ⟨rfl, hbd⟩ := hcut
      clear hb2 hbc RE
      go_upto_block 8 with (fail)
      obtain ⟨w3, hw3⟩ : ∃ W, wc.alloc (.cells #[.string ⟨#[]⟩, .string ⟨#[45]⟩, .string ⟨#[48]⟩, .string ⟨#[49]⟩, .string ⟨#[57]⟩, .string ⟨#[43]⟩, .string ⟨#[32]⟩, .string ⟨#[97]⟩] 9) = W := ⟨_, rfl⟩
      rw [hw3]
      have rS : RdS (wc.heap.size + 1) w3 wc.heap.size 8 := by rw [← hw3]; exact RdS.lit wc [⟨#[]⟩, ⟨#[45]⟩, ⟨#[48]⟩, ⟨#[49]⟩, ⟨#[57]⟩, ⟨#[43]⟩, ⟨#[32]⟩, ⟨#[97]⟩] 9 (by decide)
      have hb3 : Below w.heap.size w w3 := by rw [← hw3]; exact hbd.alloc hbd.size _
      have hz3 : wc.heap.size + 1 ≤ w3.heap.size := by rw [← hw3]; simp
      have RS := Lib.hid rS
      clear hw3 rS
      go_cut [0] (fun r wx => r = .bool false ∧ Below w.heap.size w wx)
      case first =>
        go_wp2
        go_loopw [0, 63] (fun r i wr => r = .bool false ∧ (∃ k : Nat, k ≤ 512 ∧ i = .int .i64 k) ∧ Below w3.heap.size w3 wr) (fun _ i _ => 512 - (intOf i).toNat)
        case atStart => exact ⟨rfl, ⟨0, by omega, rfl⟩, Below.refl _ _⟩
        case round =>
          obtain ⟨rfl, ⟨k, hk, rfl⟩, hbw⟩ := hrel
          have hB : Below w.heap.size w wr := hb3.trans (hbw.mono hb3.size)
          by_cases hlt : k < 512
          · have rs := RS.out.below (hbw.mono hz3)
            obtain ⟨s1, c1, z1⟩ := rs.2 (k % 8) (by omega)
            obtain ⟨s2, c2, z2⟩ := rs.2 (k / 8 % 8) (by omega)
            obtain ⟨s3, c3, z3⟩ := rs.2 (k / 64) (by omega)
            have e1 : (k : Int).tmod 8 = ((k % 8 : Nat) : Int) := by rw [Int.tmod_eq_emod_of_nonneg (by omega)]; omega
            have e2 : (k : Int).tdiv 8 = ((k / 8 : Nat) : Int) := by rw [Int.tdiv_eq_ediv_of_nonneg (by omega)]; omega
            have e3 : ((k / 8 : Nat) : Int).tmod 8 = ((k / 8 % 8 : Nat) : Int) := by rw [Int.tmod_eq_emod_of_nonneg (by omega)]; omega
            have e4 : (k : Int).tdiv 64 = ((k / 64 : Nat) : Int) := by rw [Int.tdiv_eq_ediv_of_nonneg (by omega)]; omega
            have e5 : IntKind.i64.wrap ((k / 8 : Nat) : Int) = ((k / 8 : Nat) : Int) := IntWalk.i64_in _ (by omega)
            have e6 : IntKind.i64.wrap ((k / 64 : Nat) : Int) = ((k / 64 : Nat) : Int) := IntWalk.i64_in _ (by omega)
            have l1 : k % 8 < 8 := by omega
            have l2 : k / 8 % 8 < 8 := by omega
            have l3 : k / 64 < 8 := by omega
            generalize k / 8 % 8 = b at *
            generalize k / 8 = d at *
            generalize k % 8 = a at *
            generalize k / 64 = c at *
            have m1 : (a : Int) < 8 := by omega
            have m2 : (b : Int) < 8 := by omega
            have m3 : (c : Int) < 8 := by omega
            have hsz : (s1 ++ s2 ++ s3).size ≤ 300 := by simp [ByteArray.size_append]; omega
            have g12 := fun (W : World) => run_string_add_sum (P := Tryd.prog) W s1 s2 (by omega)
            have g123 := fun (W : World) => run_string_add_sum (P := Tryd.prog) W (s1 ++ s2) s3 (by simp [ByteArray.size_append]; omega)
            go_wp2_with fail
            go_still_tail 18, (by kernel_rfl)
            change wpList _ _ _ _ _ wr.drew
            have hd1 : Below w3.heap.size w3 wr.drew := hbw.drew
            have hd2 : Below w.heap.size w wr.drew := hB.drew
            generalize wr.drew = w4 at *
            go_wp2_with fail
            refine (reads_any _ _ (by omega) (Ht.out.below hd2)).mono ?_
            rintro e w5 ⟨rfl, hb5⟩
            go_wp2_with fail
            go_roundw
            case rel => exact ⟨rfl, ⟨k + 1, by omega, by go_num⟩, hd1.trans (hb5.mono hd1.size)⟩
            case measure => simp [intOf]; omega
          · obtain rfl : k = 512 := by omega
            go_wp2
            go_meet
            exact ⟨rfl, hB⟩
      case rest =>
        obtain ⟨rfl, hbe⟩ := hcut
        clear hb3 hbd RS
        go_upto_block 10 with (fail)
        obtain ⟨w4, hw4⟩ : ∃ W, wc.alloc (.cells #[.string ⟨#[49, 48, 52, 56, 53, 55, 54]⟩, .string ⟨#[49, 48, 52, 56, 53, 55, 55]⟩, .string ⟨#[45, 49, 48, 52, 56, 53, 55, 54]⟩, .string ⟨#[45, 49, 48, 52, 56, 53, 55, 55]⟩, .string ⟨#[57, 57, 57, 57, 57, 57, 57]⟩, .string ⟨#[49, 48, 52, 56, 53, 55, 54, 48]⟩, .string ⟨#[57, 57, 57, 57, 57, 57, 57, 57, 57, 57, 57, 57, 57, 57, 57, 57, 57, 57, 57, 57, 57, 57, 57]⟩, .string ⟨#[45, 57, 57, 57, 57, 57, 57, 57, 57, 57, 57, 57, 57, 57, 57, 57, 57, 57, 57, 57, 57, 57, 57, 57]⟩, .string ⟨#[45, 45, 49]⟩, .string ⟨#[49, 45]⟩, .string ⟨#[45]⟩, .string ⟨#[49, 10]⟩, .string ⟨#[49, 56, 52, 52, 54, 55, 52, 52, 48, 55, 51, 55, 48, 57, 53, 53, 49, 54, 49, 55]⟩] 9) = W := ⟨_, rfl⟩
        rw [hw4]
        have rS : RdS (wc.heap.size + 1) w4 wc.heap.size 13 := by rw [← hw4]; exact RdS.lit wc [⟨#[49, 48, 52, 56, 53, 55, 54]⟩, ⟨#[49, 48, 52, 56, 53, 55, 55]⟩, ⟨#[45, 49, 48, 52, 56, 53, 55, 54]⟩, ⟨#[45, 49, 48, 52, 56, 53, 55, 55]⟩, ⟨#[57, 57, 57, 57, 57, 57, 57]⟩, ⟨#[49, 48, 52, 56, 53, 55, 54, 48]⟩, ⟨#[57, 57, 57, 57, 57, 57, 57, 57, 57, 57, 57, 57, 57, 57, 57, 57, 57, 57, 57, 57, 57, 57, 57]⟩, ⟨#[45, 57, 57, 57, 57, 57, 57, 57, 57, 57, 57, 57, 57, 57, 57, 57, 57, 57, 57, 57, 57, 57, 57, 57]⟩, ⟨#[45, 45, 49]⟩, ⟨#[49, 45]⟩, ⟨#[45]⟩, ⟨#[49, 10]⟩, ⟨#[49, 56, 52, 52, 54, 55, 52, 52, 48, 55, 51, 55, 48, 57, 53, 53, 49, 54, 49, 55]⟩] 9 (by decide)
        have hb4 : Below w.heap.size w w4 := by rw [← hw4]; exact hbe.alloc hbe.size _
        have hz4 : wc.heap.size + 1 ≤ w4.heap.size := by rw [← hw4]; simp
        have RS := Lib.hid rS
        clear hw4 rS
        go_wp2
        go_loopw [0, 89] (fun r i wr => r = .bool false ∧ (∃ k : Nat, k ≤ 13 ∧ i = .int .i64 k) ∧ Below w4.heap.size w4 wr) (fun _ i _ => 13 - (intOf i).toNat)
        case atStart => exact ⟨rfl, ⟨0, by omega, rfl⟩, Below.refl _ _⟩
        case round =>
          obtain ⟨rfl, ⟨k, hk, rfl⟩, hbw⟩ := hrel
          have hB : Below w.heap.size w wr := hb4.trans (hbw.mono hb4.size)
          by_cases hlt : k < 13
          · obtain ⟨s1, c1, z1⟩ := (RS.out.below (hbw.mono hz4)).2 k hlt
            go_wp2_with fail
            refine (reads_any _ _ (by omega) (Ht.out.below hB)).mono ?_
            rintro e w5 ⟨rfl, hb5⟩
            go_wp2_with fail
            go_roundw
            case rel => exact ⟨rfl, ⟨k + 1, by omega, by go_num⟩, hbw.trans (hb5.mono hbw.size)⟩
            case measure => simp [intOf]; omega
          · obtain rfl : k = 13 := by omega
            go_wp2_with fail
            refine (awake_any _ (Ht.out.below hB)).mono ?_
            rintro e w5 ⟨rfl, hb5⟩
            go_wp2_with fail
            go_ret
            exact ⟨rfl, hB.trans (hb5.mono hB.size)⟩
end Go.Proofs.YthpdndkfdiphmaaDoor
