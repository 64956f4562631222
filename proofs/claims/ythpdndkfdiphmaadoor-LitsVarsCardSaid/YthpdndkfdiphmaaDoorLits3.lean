/- The texts of literals: lits.Text over strconv.Itoa, and the reference's Text over its own decimal. -/
import Derived.Test.YthpdndkfdiphmaaDoorLits2
import Derived.Test.YthpdndkfdiphmaaDoorShelf
import Derived.WalkSpells
import Derived.Lib.ItoaNum
import Derived.Lib.AppendIntMem
import Derived.ShutString
namespace Go.Proofs.YthpdndkfdiphmaaDoor
open Go Go.RowKit
def dd (m : Nat) : List UInt8 := if m = 0 then [] else Lib.decDigits m
theorem dd_step {m : Nat} (h : 0 < m) : dd m = dd (m / 10) ++ [UInt8.ofNat (48 + m % 10)] := by
  unfold dd
  rw [if_neg (by omega), Lib.decDigits]
  by_cases h' : m < 10
  · rw [dif_pos h', if_pos (by omega)]; simp; rw [Nat.mod_eq_of_lt h']
  · rw [dif_neg h', if_neg (by omega)]
set_option maxHeartbeats 400000 in
theorem decimal_any (n : Nat) (hn : n ≤ 9223372036854775807) (w : World) : Calls Tryd.prog 63 #[.int .i64 n] w fun e w' => e = .returned (.string ⟨(dd n).toArray⟩) ∧ w = w' := by
  go_enter Tryd.func63, Tryd.ntmps63
  go_wp2
  go_loop [0, 3] (fun a b => ∃ (m : Nat) (l : List UInt8), m ≤ n ∧ a = .int .i64 m ∧ b = .string ⟨l.toArray⟩ ∧ l.length + m ≤ n ∧ dd m ++ l = dd n) (fun a _ => (intOf a).toNat)
  case atStart => exact ⟨n, [], Nat.le_refl _, rfl, rfl, by simp, by simp⟩
  case round =>
    obtain ⟨m, l, hm, rfl, rfl, hlm, hd⟩ := hrel
    have Hd := Lib.hid hd; clear hd
    by_cases hp : 0 < m
    · have h1 : (0:Int) ≤ (m : Int) % 10 := by omega
      have h2 : (m : Int) % 10 < 10 := by omega
      go_wp2
      go_round
      case rel =>
        refine ⟨m / 10, UInt8.ofNat (48 + m % 10) :: l, by omega, by go_num, ?_, by simp; omega, by rw [← Hd.out, dd_step hp]; simp⟩
        have h3 : m % 10 < 10 := by omega
        generalize m % 10 = d at *
        have : d = 0 ∨ d = 1 ∨ d = 2 ∨ d = 3 ∨ d = 4 ∨ d = 5 ∨ d = 6 ∨ d = 7 ∨ d = 8 ∨ d = 9 := by omega
        rcases this with rfl | rfl | rfl | rfl | rfl | rfl | rfl | rfl | rfl | rfl <;> rfl
      case measure => simp [intOf]; omega
    · go_wp2
      go_ret
      have hm0 : m = 0 := by omega
      subst hm0
      exact ⟨by rw [← Hd.out]; simp [dd], rfl⟩
def LText (l : Int) : List UInt8 := if LRight l then Lib.itoa l else []
def Tb (w : World) : Prop := Lib.TabIs Tryd.prog w "internal/strconv.uint64pow10" .u64 Lib.pow10Tab
theorem Tb.below {w w' : World} (h : Tb w) (hb : Below w.heap.size w w') : Tb w' := Lib.tabBelow_of_tabIs h w' hb
theorem rs {a b : List UInt8} (h : a = b) : Ending.returned (.string ⟨a.toArray⟩) = .returned (.string ⟨b.toArray⟩) := by rw [h]
theorem below_push {w w' : World} (os : Array Obj) (h1 : w'.os = w.os) (h2 : w'.tape = w.tape) (h3 : w'.output = w.output) (h4 : w'.heap = w.heap ++ os) : Below w.heap.size w w' :=
  ⟨h1, h2, h3, by rw [h4]; simp, fun k hk => by rw [h4, Array.getElem?_append_left hk]⟩
set_option maxHeartbeats 400000 in
theorem Text_any (l : Int) (w : World) (ht : Tb w) : Calls Tryd.prog 23 #[.int .i64 l] w fun e w' => e = .returned (.string ⟨(LText l).toArray⟩) ∧ Below w.heap.size w w' := by
  cases hR : LRight l
  · go_enter Tryd.func23, Tryd.ntmps23
    go_wp2_with (go_at_call 18; refine (Right_any _ _).mono ?_; rintro e w' ⟨rfl, rfl⟩)
    go_ret
    exact ⟨rs (by unfold LText; simp [hR]), Below.refl _ _⟩
  · obtain ⟨h0, h1, h2⟩ := LRight_t hR
    have Ht := Lib.hid ht; clear ht
    go_enter Tryd.func23, Tryd.ntmps23
    go_wp2_with (first
      | (go_at_call 18; refine (Right_any _ _).mono ?_; rintro e w' ⟨rfl, rfl⟩)
      | (go_at_call 49; refine (Tryd.strconv_Itoa l (by omega) (by omega) _ Ht.out).mono ?_; rintro e w' ⟨rfl, k, os, hw⟩))
    go_ret
    exact ⟨rs (by unfold LText; simp [hR]), below_push os rfl rfl rfl rfl⟩
theorem itoa_neg (l : Int) (h : l < 0) : Lib.itoa l = 45 :: dd (-l).toNat := by
  unfold Lib.itoa dd
  rw [if_pos h, if_neg (by omega)]
  congr 2
  omega
theorem itoa_pos (l : Int) (h : 0 < l) : Lib.itoa l = dd l.toNat := by
  unfold Lib.itoa dd
  rw [if_neg (by omega), if_neg (by omega)]
theorem dd_len_le : ∀ (k m : Nat), m < 10 ^ k → (dd m).length ≤ k
  | 0, m, h => by
    have : m = 0 := by simpa using h
    subst this; simp [dd]
  | k + 1, m, h => by
    by_cases hm : m = 0
    · subst hm; simp [dd]
    · rw [dd_step (by omega)]
      have := dd_len_le k (m / 10) (by rw [Nat.pow_succ] at h; omega)
      simp; exact this
set_option maxHeartbeats 400000 in
theorem RText_any (l : Int) (w : World) : Calls Tryd.prog 47 #[.int .i64 l] w fun e w' => e = .returned (.string ⟨(LText l).toArray⟩) ∧ w = w' := by
  cases hR : LRight l
  · go_enter Tryd.func47, Tryd.ntmps47
    go_wp2_with (go_at_call 42; refine (RRight_any _ _).mono ?_; rintro e w' ⟨rfl, rfl⟩)
    go_ret
    exact ⟨rs (by unfold LText; simp [hR]), rfl⟩
  · obtain ⟨h0, h1, h2⟩ := LRight_t hR
    by_cases hn : l < 0
    · obtain ⟨n, hl⟩ : ∃ n : Nat, l = -(n : Int) := ⟨(-l).toNat, by omega⟩
      subst hl
      have hlen := dd_len_le 7 n (by omega)
      have hi := itoa_neg (-(n : Int)) hn
      have Hi := Lib.hid hi; clear hi
      go_enter Tryd.func47, Tryd.ntmps47
      go_wp2_with (first
        | (go_at_call 42; refine (RRight_any _ _).mono ?_; rintro e w' ⟨rfl, rfl⟩)
        | (go_at_call 63; refine (decimal_any n (by omega) _).mono ?_; rintro e w' ⟨rfl, rfl⟩))
      go_ret
      refine ⟨?_, rfl⟩
      unfold LText
      rw [if_pos hR, Hi.out]
      have : (- -(n : Int)).toNat = n := by omega
      rw [this]
      rfl
    · obtain ⟨n, hl⟩ : ∃ n : Nat, l = (n : Int) := ⟨l.toNat, by omega⟩
      subst hl
      have hi := itoa_pos (n : Int) (by omega)
      have Hi := Lib.hid hi; clear hi
      go_enter Tryd.func47, Tryd.ntmps47
      go_wp2_with (first
        | (go_at_call 42; refine (RRight_any _ _).mono ?_; rintro e w' ⟨rfl, rfl⟩)
        | (go_at_call 63; refine (decimal_any n (by omega) _).mono ?_; rintro e w' ⟨rfl, rfl⟩))
      go_ret
      exact ⟨rs (by unfold LText; rw [if_pos hR, Hi.out]; simp), rfl⟩
end Go.Proofs.YthpdndkfdiphmaaDoor
