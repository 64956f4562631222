/- reads, LitsReads, LitsBack: the walks of the laws. -/
import Derived.Test.YthpdndkfdiphmaaDoorAwake
import Derived.Test.YthpdndkfdiphmaaDoorWNeg
import Derived.WalkLawsBesides
namespace Go.Proofs.YthpdndkfdiphmaaDoor
open Go Go.RowKit
set_option maxRecDepth 100000 in
set_option maxHeartbeats 1000000 in
theorem reads_any (s : ByteArray) (w : World) (hs : s.size ≤ 1000000) (ht : Tb w) : Calls Tryd.prog 14 #[.string s] w fun e w' => e = .returned (.bool true) ∧ Below w.heap.size w w' := by
  have Ht := Lib.hid ht; clear ht
  have heq := LRd_eq s.data.toList
  have Heq := Lib.hid heq; clear heq
  have he0 : LErr false = 10 := rfl
  have he1 : LErr true = 0 := rfl
  by_cases hz : LRd s.data.toList = 0
  · have hd : decide (LRd s.data.toList ≠ 0) = false := decide_eq_false (by simpa using hz)
    have Hz := Lib.hid hz; clear hz
    have Hd := Lib.hid hd; clear hd
    go_enter Tryd.func14, Tryd.ntmps14
    go_wp2_with (first
      | (go_at_call 22; refine (Read_any _ _ hs Ht.out).mono ?_; rintro e w1 ⟨rfl, hb1⟩; rw [Hd.out, Hz.out, he0])
      | (go_at_call 48; refine (RRead_any _ _ hs).mono ?_; rintro e w2 ⟨rfl, hb2⟩; rw [← Heq.out, Hz.out]))
    go_ret
    exact ⟨rfl, hb1.trans (hb2.mono hb1.size)⟩
  · have hd : decide (LRd s.data.toList ≠ 0) = true := decide_eq_true hz
    have hne : (LRd s.data.toList != 0) = true := by rw [bne_iff_ne]; exact hz
    have Hz := Lib.hid hz; clear hz
    generalize hL : LRd s.data.toList = L at *
    have HL := Lib.hid hL; clear hL
    have Hd := Lib.hid hd; clear hd
    go_enter Tryd.func14, Tryd.ntmps14
    go_wp2_with (first
      | (go_at_call 22; refine (Read_any _ _ hs Ht.out).mono ?_; rintro e w1 ⟨rfl, hb1⟩; rw [HL.out, Hd.out, he1])
      | (go_at_call 48; refine (RRead_any _ _ hs).mono ?_; rintro e w2 ⟨rfl, hb2⟩; rw [← Heq.out]))
    go_ret
    exact ⟨rfl, hb1.trans (hb2.mono hb1.size)⟩
set_option maxRecDepth 100000 in
set_option maxHeartbeats 1000000 in
theorem LitsReads_any (s : ByteArray) (w : World) (hs : s.size ≤ maxLen) (ht : Tb w) : Calls Tryd.prog 4 #[.string s] w fun e w' => e = .returned (.bool true) ∧ Below w.heap.size w w' := by
  unfold maxLen at hs
  have Ht := Lib.hid ht; clear ht
  by_cases hb : 300 < s.size
  · have hb' : (300 : Int) < (s.size : Int) := by omega
    go_enter Tryd.func4, Tryd.ntmps4
    go_wp2_with (go_at_call 13; refine (awake_any _ Ht.out).mono ?_; rintro e w1 ⟨rfl, hb1⟩)
    go_ret
    exact ⟨rfl, hb1⟩
  · have hb' : ¬ (300 : Int) < (s.size : Int) := by omega
    go_enter Tryd.func4, Tryd.ntmps4
    go_wp2_with (first
      | (go_at_call 14; refine (reads_any _ _ (by omega) Ht.out).mono ?_; rintro e w1 ⟨rfl, hb1⟩)
      | (go_at_call 13; refine (awake_any _ (Ht.out.below hb1)).mono ?_; rintro e w2 ⟨rfl, hb2⟩))
    go_ret
    exact ⟨rfl, hb1.trans (hb2.mono hb1.size)⟩
theorem Read_list (l : List UInt8) (w : World) (hl : l.length ≤ 1000000) (ht : Tb w) : Calls Tryd.prog 22 #[.string ⟨l.toArray⟩] w fun e w' =>
    e = .returned (.tuple #[.int .i64 (LRd l), .int .i64 (LErr (decide (LRd l ≠ 0)))]) ∧ Below w.heap.size w w' := by
  have h := Read_any ⟨l.toArray⟩ w (by show l.toArray.size ≤ _; simpa using hl) ht
  simpa using h
theorem LText_len {l : Int} (h : LRight l = true) : (LText l).length ≤ 8 := by
  obtain ⟨h0, h1, h2⟩ := LRight_t h
  unfold LText
  rw [if_pos h]
  by_cases hn : l < 0
  · rw [itoa_neg l hn]
    have := dd_len_le 7 (-l).toNat (by omega)
    simp; omega
  · rw [itoa_pos l (by omega)]
    have := dd_len_le 7 l.toNat (by omega)
    omega
theorem LAt_idx {l : Int} (h : LRight l = true) : LAt (LIdx l) = l ∧ LAtOk (LIdx l) = true := by
  obtain ⟨h0, h1, h2⟩ := LRight_t h
  unfold LIdx
  rw [if_pos h]
  by_cases hn : l < 0
  · rw [if_pos hn]
    have hk : LAtOk (2 * (-l - 1) + 1) = true := decide_eq_true (by omega)
    refine ⟨?_, hk⟩
    unfold LAt; rw [if_pos hk, if_pos (by omega)]; omega
  · rw [if_neg hn]
    have hk : LAtOk (2 * (l - 1)) = true := decide_eq_true (by omega)
    refine ⟨?_, hk⟩
    unfold LAt; rw [if_pos hk, if_neg (by omega)]; omega
theorem LOf_var {l : Int} (h : LRight l = true) : LOf (LVar l) (LNegated l) = l ∧ LOfOk (LVar l) = true := by
  obtain ⟨h0, h1, h2⟩ := LRight_t h
  have hk : LOfOk (LVar l) = true := by unfold LVar; rw [if_pos h]; apply decide_eq_true; split <;> omega
  refine ⟨?_, hk⟩
  unfold LOf; rw [if_pos hk]; unfold LVar LNegated; rw [h]
  by_cases hn : l < 0
  · simp [hn]
  · simp [hn]
set_option maxRecDepth 100000 in
set_option maxHeartbeats 1000000 in
theorem LitsBack_any (n : Int) (s : ByteArray) (w : World) (h1 : -2147483648 ≤ n) (h2 : n ≤ 2147483647) (hs : s.size ≤ maxLen) (ht : Tb w) : Calls Tryd.prog 6 #[.int .i32 n, .string s] w fun e w' => e = .returned (.bool true) ∧ Below w.heap.size w w' := by
  unfold maxLen at hs
  have Ht := Lib.hid ht; clear ht
  go_enter Tryd.func6, Tryd.ntmps6
  go_wp2_with (go_at_call 15; refine (Made_any _ _ h1 h2).mono ?_; rintro e w' ⟨l, hR, rfl, rfl⟩)
  have hte : LErr true = 0 := rfl
  have hfe : LErr false = 10 := rfl
  obtain ⟨a1, a2⟩ := LAt_idx hR
  obtain ⟨o1, o2⟩ := LOf_var hR
  have t1 := LText_len hR
  have t2 : LRd (LText l) = l := by unfold LText; rw [if_pos hR]; exact LRd_itoa hR
  have t3 : decide (LRd (LText l) ≠ 0) = true := by rw [t2]; exact decide_eq_true (LRight_t hR).1
  have hl0 := (LRight_t hR).1
  have A1 := Lib.hid a1; have A2 := Lib.hid a2; have O1 := Lib.hid o1; have O2 := Lib.hid o2; have T2 := Lib.hid t2; have T3 := Lib.hid t3; have HR := Lib.hid hR
  clear a1 a2 o1 o2 t2 t3 hR
  generalize hi : LIdx l = i at *
  have HI := Lib.hid hi; clear hi
  go_wp2_with (first
    | (go_at_call 17; refine (Index_any _ _).mono ?_; rintro e w' ⟨rfl, rfl⟩; rw [HI.out, HR.out, hte])
    | (go_at_call 21; refine (At_any _ _).mono ?_; rintro e w' ⟨rfl, rfl⟩; rw [A1.out, A2.out, hte])
    | (go_at_call 23; refine (Text_any _ _ Ht.out).mono ?_; rintro e w1 ⟨rfl, hb1⟩))
  refine (Read_list _ _ (by omega) (Ht.out.below hb1)).mono ?_
  rintro e w2 ⟨rfl, hb2⟩
  rw [T3.out, T2.out, hte]
  have hw2 : Below w.heap.size w w2 := hb1.trans (hb2.mono hb1.size)
  by_cases hbig : 100 < s.size
  · have hb' : ¬ (s.size : Int) ≤ 100 := by omega
    go_wp2_with (first
      | (go_at_call 19; refine (Var_any _ _).mono ?_; rintro e w' ⟨rfl, rfl⟩)
      | (go_at_call 20; refine (Negated_any _ _).mono ?_; rintro e w' ⟨rfl, rfl⟩)
      | (go_at_call 24; refine (Of_any _ _ _).mono ?_; rintro e w' ⟨rfl, rfl⟩; rw [O1.out, O2.out, hte])
      | (go_at_call 13; refine (awake_any _ (Ht.out.below hw2)).mono ?_; rintro e w3 ⟨rfl, hb3⟩))
    go_ret
    exact ⟨rfl, hw2.trans (hb3.mono hw2.size)⟩
  · have hb' : (s.size : Int) ≤ 100 := by omega
    cases hz : decide (LRd s.data.toList ≠ 0)
    · have Hz := Lib.hid hz; clear hz
      go_wp2_with (first
        | (go_at_call 19; refine (Var_any _ _).mono ?_; rintro e w' ⟨rfl, rfl⟩)
        | (go_at_call 20; refine (Negated_any _ _).mono ?_; rintro e w' ⟨rfl, rfl⟩)
        | (go_at_call 24; refine (Of_any _ _ _).mono ?_; rintro e w' ⟨rfl, rfl⟩; rw [O1.out, O2.out, hte])
        | (go_at_call 22; refine (Read_any _ _ (by omega) (Ht.out.below hw2)).mono ?_; rintro e w3 ⟨rfl, hb3⟩; rw [Hz.out, hfe])
        | (go_at_call 13; refine (awake_any _ (Ht.out.below (hw2.trans (hb3.mono hw2.size)))).mono ?_; rintro e w4 ⟨rfl, hb4⟩))
      go_ret
      have hw3 := hw2.trans (hb3.mono hw2.size)
      exact ⟨rfl, hw3.trans (hb4.mono hw3.size)⟩
    · obtain ⟨r1, r2⟩ := LRd_some (of_decide_eq_true hz)
      have r3 : (LText (LRd s.data.toList) == s.toList) = true := by
        rw [Go.ByteArray.toList_eq, beq_iff_eq]; unfold LText; rw [if_pos r1]; exact r2
      have Hz := Lib.hid hz; clear hz r1 r2
      generalize hL : LRd s.data.toList = L at *
      have HL := Lib.hid hL; clear hL
      go_wp2_with (first
        | (go_at_call 19; refine (Var_any _ _).mono ?_; rintro e w' ⟨rfl, rfl⟩)
        | (go_at_call 20; refine (Negated_any _ _).mono ?_; rintro e w' ⟨rfl, rfl⟩)
        | (go_at_call 24; refine (Of_any _ _ _).mono ?_; rintro e w' ⟨rfl, rfl⟩; rw [O1.out, O2.out, hte])
        | (go_at_call 22; refine (Read_any _ _ (by omega) (Ht.out.below hw2)).mono ?_; rintro e w3 ⟨rfl, hb3⟩; rw [HL.out, Hz.out, hte])
        | (go_at_call 23; refine (Text_any _ _ (Ht.out.below (hw2.trans (hb3.mono hw2.size)))).mono ?_; rintro e w4 ⟨rfl, hb4⟩))
      have hw3 := hw2.trans (hb3.mono hw2.size)
      have hw4 := hw3.trans (hb4.mono hw3.size)
      refine (awake_any _ (Ht.out.below hw4)).mono ?_
      rintro e w5 ⟨rfl, hb5⟩
      go_wp2_with fail
      go_ret
      exact ⟨rfl, hw4.trans (hb5.mono hw4.size)⟩
end Go.Proofs.YthpdndkfdiphmaaDoor
