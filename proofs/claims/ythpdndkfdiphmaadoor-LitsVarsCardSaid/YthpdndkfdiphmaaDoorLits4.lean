/- lits.Read: what it returns. -/
import Derived.Test.YthpdndkfdiphmaaDoorLits3
import Derived.Deep.DeepCutAuto
import Derived.Deep.CutBlock
namespace Go.Proofs.YthpdndkfdiphmaaDoor
open Go Go.RowKit
def rdStep (k : Nat) (n : Int) (c : UInt8) : Option Int := if c.toNat = 45 ∧ k = 0 then some n else if 48 ≤ c.toNat ∧ c.toNat ≤ 57 ∧ n ≤ 1048576 then some (10 * n + ((c.toNat : Int) - 48)) else none
def rdGo : Nat → Int → List UInt8 → Int
  | _, n, [] => n
  | k, n, c :: t => match rdStep k n c with | some m => rdGo (k + 1) m t | none => 0
def LReadV (s : List UInt8) : Int := rdGo 0 0 s
def LReadL (s : List UInt8) : Int := LOf (LReadV s) (s.head? == some 45)
def LRd (s : List UInt8) : Int := if LText (LReadL s) = s then LReadL s else 0
theorem drop_cons (s : ByteArray) (k : Nat) (h : k < s.size) : s.data.toList.drop k = s[k] :: s.data.toList.drop (k + 1) := by
  rw [List.drop_eq_getElem_cons (by simpa using h)]; rfl

theorem st_minus {k : Nat} {n : Int} {c : UInt8} (h : (c.toNat : Int) = 45) (hk : ((k : Int) == 0) = true) : rdStep k n c = some n := by
  have : k = 0 := by simpa using hk
  unfold rdStep; rw [if_pos ⟨by omega, this⟩]
theorem st_digit {k : Nat} {n : Int} {c : UInt8} (_h0 : ¬(c.toNat : Int) = 45) (h1 : 48 ≤ (c.toNat : Int)) (h2 : (c.toNat : Int) ≤ 57) (hn : n ≤ 1048576) : rdStep k n c = some (10 * n + ((c.toNat : Int) - 48)) := by
  unfold rdStep; rw [if_neg (fun h => by omega), if_pos ⟨by omega, by omega, hn⟩]
theorem st_none {k : Nat} {n : Int} {c : UInt8} (h0 : (c.toNat : Int) = 45 → ((k : Int) == 0) = false) (h1 : ¬(48 ≤ (c.toNat : Int) ∧ (c.toNat : Int) ≤ 57 ∧ n ≤ 1048576)) : rdStep k n c = none := by
  unfold rdStep
  rw [if_neg (fun h => by have := h0 (by omega); rw [h.2] at this; simp at this), if_neg (fun h => h1 ⟨by omega, by omega, h.2.2⟩)]
theorem rdGo_at (s : ByteArray) (k : Nat) (n : Int) (h : k < s.size) : rdGo k n (s.data.toList.drop k) = match rdStep k n s[k] with | some m => rdGo (k + 1) m (s.data.toList.drop (k + 1)) | none => 0 := by
  rw [drop_cons s k h]; rfl
theorem rdGo_some {s : ByteArray} {k : Nat} {n m v : Int} {h : k < s.size} (e : rdGo k n (s.data.toList.drop k) = v) (hs : rdStep k n s[k] = some m) : rdGo (k + 1) m (s.data.toList.drop (k + 1)) = v := by
  rw [rdGo_at s k n h, hs] at e; exact e
theorem rdGo_none {s : ByteArray} {k : Nat} {n v : Int} {h : k < s.size} (e : rdGo k n (s.data.toList.drop k) = v) (hs : rdStep k n s[k] = none) : 0 = v := by
  rw [rdGo_at s k n h, hs] at e; exact e
def HeadMinus (s : List UInt8) : Bool := s.head? == some 45
theorem head_t (s : ByteArray) (h : 0 < s.size) : (((s[0]).toNat : Int) == 45) = HeadMinus s.data.toList := by
  have e : s.data.toList.head? = some s[0] := by
    have := drop_cons s 0 h
    rw [List.drop_zero] at this
    rw [this]; rfl
  unfold HeadMinus
  rw [e, Bool.eq_iff_iff]
  simp [← UInt8.toNat_inj]; omega
theorem rd_true {s : List UInt8} (hL : (!LText (LReadL s) == s) = true) : LRd s = 0 := by
  unfold LRd; rw [if_neg (by simpa using hL)]
theorem rd_false {s : List UInt8} (hL : (!LText (LReadL s) == s) = false) : LReadL s = LRd s := by
  unfold LRd; rw [if_pos (by simpa using hL)]
theorem LOf_ne (v : Int) (b : Bool) : (decide (LOf v b ≠ 0)) = LOfOk v := by
  unfold LOf
  cases h : LOfOk v
  · simp
  · obtain ⟨h1, h2⟩ := LOfOk_t h
    cases b <;> simp <;> omega
theorem rd_err {s : List UInt8} (hL : LReadL s = LRd s) : LErr (LOfOk (LReadV s)) = LErr (decide (LRd s ≠ 0)) := by
  rw [← hL]; unfold LReadL; rw [LOf_ne]
set_option maxHeartbeats 400000 in
theorem Read_any (s : ByteArray) (w : World) (hs : s.size ≤ 1000000) (ht : Tb w) : Calls Tryd.prog 22 #[.string s] w fun e w' =>
    e = .returned (.tuple #[.int .i64 (LRd s.data.toList), .int .i64 (LErr (decide (LRd s.data.toList ≠ 0)))]) ∧ Below w.heap.size w w' := by
  have Ht := Lib.hid ht; clear ht
  go_enter Tryd.func22, Tryd.ntmps22
  go_wp2
  go_step3
  go_wp2
  go_step3
  go_upto_block 0 with (fail)
  go_cut [4] (fun a wx => a = .int .i64 (LReadV s.data.toList) ∧ w = wx)
  case first =>
    go_wp2
    go_loop [4, 11] (fun a i => ∃ (k : Nat) (n : Int), k ≤ s.size ∧ 0 ≤ n ∧ n ≤ 10485769 ∧ i = .int .i64 k ∧ a = .int .i64 n ∧ rdGo k n (s.data.toList.drop k) = LReadV s.data.toList) (fun _ i => s.size - (intOf i).toNat)
    case atStart => exact ⟨0, 0, by omega, by omega, by omega, rfl, rfl, rfl⟩
    case round =>
      obtain ⟨k, n, hk, hn0, hn1, rfl, rfl, hd⟩ := hrel
      have Hd := Lib.hid hd; clear hd
      by_cases hlt : k < s.size
      · go_wp2
        · go_round
          case rel => exact ⟨k + 1, n, by omega, hn0, hn1, by go_num, rfl, rdGo_some Hd.out (st_minus (by assumption) (by assumption))⟩
          case measure => simp [intOf]; omega
        · go_meet
          exact ⟨by rw [← rdGo_none Hd.out (st_none (fun _ => by assumption) (by omega))], rfl⟩
        · go_round
          case rel => exact ⟨k + 1, _, by omega, by omega, by omega, by go_num, rfl, rdGo_some Hd.out (st_digit (by assumption) (by assumption) (by assumption) (by assumption))⟩
          case measure => simp [intOf]; omega
        all_goals
          go_meet
          exact ⟨by rw [← rdGo_none Hd.out (st_none (fun h => absurd h (by assumption)) (by omega))], rfl⟩
      · obtain rfl : k = s.size := by omega
        go_wp2
        go_meet
        exact ⟨by rw [← Hd.out, List.drop_of_length_le (by simp)]; rfl, rfl⟩
  case rest =>
    obtain ⟨rfl, rfl⟩ := hcut
    generalize hv : LReadV s.data.toList = v
    by_cases h0 : 0 < s.size
    · have hh := head_t s h0
      have hl : LReadL s.data.toList = LOf v (HeadMinus s.data.toList) := by unfold LReadL; rw [hv]; rfl
      have Hh := Lib.hid hh
      have Hl := Lib.hid hl; clear hl hh
      go_wp2_with (first
        | (go_at_call 24; refine (Of_any _ _ _).mono ?_; rintro e w' ⟨rfl, rfl⟩)
        | (go_at_call 23; refine (Text_any _ _ Ht.out).mono ?_; rintro e w' ⟨rfl, hb⟩))
      · rw [Exit.noGoto_ret]
        go_ret2
        have ht : (!LText (LOf v (((s[0]).toNat : Int) == 45)) == s.toList) = true := by assumption
        rw [Hh.out, ← Hl.out, Go.ByteArray.toList_eq] at ht
        exact ⟨ri2 (rd_true ht).symm (by rw [rd_true ht]; rfl), hb⟩
      · rw [Exit.noGoto_ret]
        go_ret2
        have ht : (!LText (LOf v (((s[0]).toNat : Int) == 45)) == s.toList) = false := by assumption
        rw [Hh.out, ← Hl.out, Go.ByteArray.toList_eq] at ht
        exact ⟨ri2 (by rw [Hh.out, ← Hl.out]; exact rd_false ht) (by rw [← hv]; exact rd_err (rd_false ht)), hb⟩
    · have hs0 : s.data.toList = [] := List.eq_nil_of_length_eq_zero (by have : s.data.toList.length = s.size := by simp
                                                                         omega)
      have hv0 : v = 0 := by rw [← hv, hs0]; rfl
      subst hv0
      have hl : LReadL s.data.toList = LOf 0 false := by unfold LReadL; rw [hv, hs0]; rfl
      have Hl := Lib.hid hl; clear hl
      have Hs0 := Lib.hid hs0; clear hs0
      have Hv := Lib.hid hv; clear hv
      go_wp2_with (first
        | (go_at_call 24; refine (Of_any _ _ _).mono ?_; rintro e w' ⟨rfl, rfl⟩)
        | (go_at_call 23; refine (Text_any _ _ Ht.out).mono ?_; rintro e w' ⟨rfl, hb⟩))
      · rw [Exit.noGoto_ret]
        go_ret2
        have ht : (!LText (LOf 0 false) == s.toList) = true := by assumption
        rw [← Hl.out, Go.ByteArray.toList_eq] at ht
        exact ⟨ri2 (rd_true ht).symm (by rw [rd_true ht]; rfl), hb⟩
      · rw [Exit.noGoto_ret]
        go_ret2
        have ht : (!LText (LOf 0 false) == s.toList) = false := by assumption
        rw [← Hl.out, Go.ByteArray.toList_eq] at ht
        exact ⟨ri2 (by rw [← Hl.out]; exact rd_false ht) (by rw [← rd_err (rd_false ht), Hv.out]), hb⟩
end Go.Proofs.YthpdndkfdiphmaaDoor
