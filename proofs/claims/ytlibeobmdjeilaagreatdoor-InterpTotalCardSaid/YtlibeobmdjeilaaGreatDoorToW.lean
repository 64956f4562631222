/- The law InterpTotal: the walk as far as the numbers are made; the rest is reckoned. -/
import Derived.Test.YtlibeobmdjeilaaGreatDoorToR0
import Derived.Test.YtlibeobmdjeilaaGreatDoorToR1
import Derived.Test.YtlibeobmdjeilaaGreatDoorToR2
import Derived.Test.YtlibeobmdjeilaaGreatDoorToR3
import Derived.Test.YtlibeobmdjeilaaGreatDoorToR4
import Derived.Test.YtlibeobmdjeilaaGreatDoorToR5
import Derived.Test.YtlibeobmdjeilaaGreatDoorToR6
import Derived.Test.YtlibeobmdjeilaaGreatDoorToR7
import Derived.Test.YtlibeobmdjeilaaGreatDoorToR8
import Derived.Test.YtlibeobmdjeilaaGreatDoorToR9
import Derived.Test.YtlibeobmdjeilaaGreatDoorToR10
import Derived.Test.YtlibeobmdjeilaaGreatDoorToR11
import Derived.Test.YtlibeobmdjeilaaGreatDoorToR12
import Derived.Test.YtlibeobmdjeilaaGreatDoorToR13
import Derived.Test.YtlibeobmdjeilaaGreatDoorToR14
import Derived.Test.YtlibeobmdjeilaaGreatDoorToR15
import Derived.Test.YtlibeobmdjeilaaGreatDoorMxR
import Derived.WalkMore
set_option linter.all false
namespace Go.Proofs.YtlibeobmdjeilaaGreatDoor
open Go Go.RowKit Go.Proofs.YtlibeobmdjeilaaGreatDoor.Ex
theorem tkA1 (m : Int) : ∀ x : Nat, x < 16 → rightL m 1 ((x : Nat) : Int) = true
  | 0, _ => tk1_0 m
  | 1, _ => tk1_1 m
  | 2, _ => tk1_2 m
  | 3, _ => tk1_3 m
  | 4, _ => tk1_4 m
  | 5, _ => tk1_5 m
  | 6, _ => tk1_6 m
  | 7, _ => tk1_7 m
  | 8, _ => tk1_8 m
  | 9, _ => tk1_9 m
  | 10, _ => tk1_10 m
  | 11, _ => tk1_11 m
  | 12, _ => tk1_12 m
  | 13, _ => tk1_13 m
  | 14, _ => tk1_14 m
  | 15, _ => tk1_15 m
  | x + 16, h => absurd h (by omega)
theorem tkA2 (m : Int) : ∀ x : Nat, x < 16 → rightL m 2 ((x : Nat) : Int) = true
  | 0, _ => tk2_0 m
  | 1, _ => tk2_1 m
  | 2, _ => tk2_2 m
  | 3, _ => tk2_3 m
  | 4, _ => tk2_4 m
  | 5, _ => tk2_5 m
  | 6, _ => tk2_6 m
  | 7, _ => tk2_7 m
  | 8, _ => tk2_8 m
  | 9, _ => tk2_9 m
  | 10, _ => tk2_10 m
  | 11, _ => tk2_11 m
  | 12, _ => tk2_12 m
  | 13, _ => tk2_13 m
  | 14, _ => tk2_14 m
  | 15, _ => tk2_15 m
  | x + 16, h => absurd h (by omega)
theorem tkA3 (m : Int) : ∀ x : Nat, x < 16 → rightL m 3 ((x : Nat) : Int) = true
  | 0, _ => tk3_0 m
  | 1, _ => tk3_1 m
  | 2, _ => tk3_2 m
  | 3, _ => tk3_3 m
  | 4, _ => tk3_4 m
  | 5, _ => tk3_5 m
  | 6, _ => tk3_6 m
  | 7, _ => tk3_7 m
  | 8, _ => tk3_8 m
  | 9, _ => tk3_9 m
  | 10, _ => tk3_10 m
  | 11, _ => tk3_11 m
  | 12, _ => tk3_12 m
  | 13, _ => tk3_13 m
  | 14, _ => tk3_14 m
  | 15, _ => tk3_15 m
  | x + 16, h => absurd h (by omega)
theorem tkA4 (m : Int) : ∀ x : Nat, x < 16 → rightL m 4 ((x : Nat) : Int) = true
  | 0, _ => tk4_0 m
  | 1, _ => tk4_1 m
  | 2, _ => tk4_2 m
  | 3, _ => tk4_3 m
  | 4, _ => tk4_4 m
  | 5, _ => tk4_5 m
  | 6, _ => tk4_6 m
  | 7, _ => tk4_7 m
  | 8, _ => tk4_8 m
  | 9, _ => tk4_9 m
  | 10, _ => tk4_10 m
  | 11, _ => tk4_11 m
  | 12, _ => tk4_12 m
  | 13, _ => tk4_13 m
  | 14, _ => tk4_14 m
  | 15, _ => tk4_15 m
  | x + 16, h => absurd h (by omega)
theorem tkA5 (m : Int) : ∀ x : Nat, x < 16 → rightL m 5 ((x : Nat) : Int) = true
  | 0, _ => tk5_0 m
  | 1, _ => tk5_1 m
  | 2, _ => tk5_2 m
  | 3, _ => tk5_3 m
  | 4, _ => tk5_4 m
  | 5, _ => tk5_5 m
  | 6, _ => tk5_6 m
  | 7, _ => tk5_7 m
  | 8, _ => tk5_8 m
  | 9, _ => tk5_9 m
  | 10, _ => tk5_10 m
  | 11, _ => tk5_11 m
  | 12, _ => tk5_12 m
  | 13, _ => tk5_13 m
  | 14, _ => tk5_14 m
  | 15, _ => tk5_15 m
  | x + 16, h => absurd h (by omega)
theorem tkA6 (m : Int) : ∀ x : Nat, x < 16 → rightL m 6 ((x : Nat) : Int) = true
  | 0, _ => tk6_0 m
  | 1, _ => tk6_1 m
  | 2, _ => tk6_2 m
  | 3, _ => tk6_3 m
  | 4, _ => tk6_4 m
  | 5, _ => tk6_5 m
  | 6, _ => tk6_6 m
  | 7, _ => tk6_7 m
  | 8, _ => tk6_8 m
  | 9, _ => tk6_9 m
  | 10, _ => tk6_10 m
  | 11, _ => tk6_11 m
  | 12, _ => tk6_12 m
  | 13, _ => tk6_13 m
  | 14, _ => tk6_14 m
  | 15, _ => tk6_15 m
  | x + 16, h => absurd h (by omega)
theorem tkA7 (m : Int) : ∀ x : Nat, x < 16 → rightL m 7 ((x : Nat) : Int) = true
  | 0, _ => tk7_0 m
  | 1, _ => tk7_1 m
  | 2, _ => tk7_2 m
  | 3, _ => tk7_3 m
  | 4, _ => tk7_4 m
  | 5, _ => tk7_5 m
  | 6, _ => tk7_6 m
  | 7, _ => tk7_7 m
  | 8, _ => tk7_8 m
  | 9, _ => tk7_9 m
  | 10, _ => tk7_10 m
  | 11, _ => tk7_11 m
  | 12, _ => tk7_12 m
  | 13, _ => tk7_13 m
  | 14, _ => tk7_14 m
  | 15, _ => tk7_15 m
  | x + 16, h => absurd h (by omega)
theorem tkA8 (m : Int) : ∀ x : Nat, x < 16 → rightL m 8 ((x : Nat) : Int) = true
  | 0, _ => tk8_0 m
  | 1, _ => tk8_1 m
  | 2, _ => tk8_2 m
  | 3, _ => tk8_3 m
  | 4, _ => tk8_4 m
  | 5, _ => tk8_5 m
  | 6, _ => tk8_6 m
  | 7, _ => tk8_7 m
  | 8, _ => tk8_8 m
  | 9, _ => tk8_9 m
  | 10, _ => tk8_10 m
  | 11, _ => tk8_11 m
  | 12, _ => tk8_12 m
  | 13, _ => tk8_13 m
  | 14, _ => tk8_14 m
  | 15, _ => tk8_15 m
  | x + 16, h => absurd h (by omega)
theorem trA1 (m : Int) : ∀ x : Nat, x < 16 → runsL m 1 ((x : Nat) : Int) [0, 1, 2, 3, 4, 5, 6, 7, 8, 9, 10, 11, 12, 13, 14, 15] = true
  | 0, _ => tr1_0 m
  | 1, _ => tr1_1 m
  | 2, _ => tr1_2 m
  | 3, _ => tr1_3 m
  | 4, _ => tr1_4 m
  | 5, _ => tr1_5 m
  | 6, _ => tr1_6 m
  | 7, _ => tr1_7 m
  | 8, _ => tr1_8 m
  | 9, _ => tr1_9 m
  | 10, _ => tr1_10 m
  | 11, _ => tr1_11 m
  | 12, _ => tr1_12 m
  | 13, _ => tr1_13 m
  | 14, _ => tr1_14 m
  | 15, _ => tr1_15 m
  | x + 16, h => absurd h (by omega)
theorem trA2 (m : Int) : ∀ x : Nat, x < 16 → runsL m 2 ((x : Nat) : Int) [0, 1, 2, 3, 4, 5, 6, 7, 8, 9, 10, 11, 12, 13, 14, 15] = true
  | 0, _ => tr2_0 m
  | 1, _ => tr2_1 m
  | 2, _ => tr2_2 m
  | 3, _ => tr2_3 m
  | 4, _ => tr2_4 m
  | 5, _ => tr2_5 m
  | 6, _ => tr2_6 m
  | 7, _ => tr2_7 m
  | 8, _ => tr2_8 m
  | 9, _ => tr2_9 m
  | 10, _ => tr2_10 m
  | 11, _ => tr2_11 m
  | 12, _ => tr2_12 m
  | 13, _ => tr2_13 m
  | 14, _ => tr2_14 m
  | 15, _ => tr2_15 m
  | x + 16, h => absurd h (by omega)
theorem trA3 (m : Int) : ∀ x : Nat, x < 16 → runsL m 3 ((x : Nat) : Int) [0, 1, 2, 3, 4, 5, 6, 7, 8, 9, 10, 11, 12, 13, 14, 15] = true
  | 0, _ => tr3_0 m
  | 1, _ => tr3_1 m
  | 2, _ => tr3_2 m
  | 3, _ => tr3_3 m
  | 4, _ => tr3_4 m
  | 5, _ => tr3_5 m
  | 6, _ => tr3_6 m
  | 7, _ => tr3_7 m
  | 8, _ => tr3_8 m
  | 9, _ => tr3_9 m
  | 10, _ => tr3_10 m
  | 11, _ => tr3_11 m
  | 12, _ => tr3_12 m
  | 13, _ => tr3_13 m
  | 14, _ => tr3_14 m
  | 15, _ => tr3_15 m
  | x + 16, h => absurd h (by omega)
theorem trA4 (m : Int) : ∀ x : Nat, x < 16 → runsL m 4 ((x : Nat) : Int) [0, 1, 2, 3, 4, 5, 6, 7, 8, 9, 10, 11, 12, 13, 14, 15] = true
  | 0, _ => tr4_0 m
  | 1, _ => tr4_1 m
  | 2, _ => tr4_2 m
  | 3, _ => tr4_3 m
  | 4, _ => tr4_4 m
  | 5, _ => tr4_5 m
  | 6, _ => tr4_6 m
  | 7, _ => tr4_7 m
  | 8, _ => tr4_8 m
  | 9, _ => tr4_9 m
  | 10, _ => tr4_10 m
  | 11, _ => tr4_11 m
  | 12, _ => tr4_12 m
  | 13, _ => tr4_13 m
  | 14, _ => tr4_14 m
  | 15, _ => tr4_15 m
  | x + 16, h => absurd h (by omega)
theorem trA5 (m : Int) : ∀ x : Nat, x < 16 → runsL m 5 ((x : Nat) : Int) [0, 1, 2, 3, 4, 5, 6, 7, 8, 9, 10, 11, 12, 13, 14, 15] = true
  | 0, _ => tr5_0 m
  | 1, _ => tr5_1 m
  | 2, _ => tr5_2 m
  | 3, _ => tr5_3 m
  | 4, _ => tr5_4 m
  | 5, _ => tr5_5 m
  | 6, _ => tr5_6 m
  | 7, _ => tr5_7 m
  | 8, _ => tr5_8 m
  | 9, _ => tr5_9 m
  | 10, _ => tr5_10 m
  | 11, _ => tr5_11 m
  | 12, _ => tr5_12 m
  | 13, _ => tr5_13 m
  | 14, _ => tr5_14 m
  | 15, _ => tr5_15 m
  | x + 16, h => absurd h (by omega)
theorem trA6 (m : Int) : ∀ x : Nat, x < 16 → runsL m 6 ((x : Nat) : Int) [0, 1, 2, 3, 4, 5, 6, 7, 8, 9, 10, 11, 12, 13, 14, 15] = true
  | 0, _ => tr6_0 m
  | 1, _ => tr6_1 m
  | 2, _ => tr6_2 m
  | 3, _ => tr6_3 m
  | 4, _ => tr6_4 m
  | 5, _ => tr6_5 m
  | 6, _ => tr6_6 m
  | 7, _ => tr6_7 m
  | 8, _ => tr6_8 m
  | 9, _ => tr6_9 m
  | 10, _ => tr6_10 m
  | 11, _ => tr6_11 m
  | 12, _ => tr6_12 m
  | 13, _ => tr6_13 m
  | 14, _ => tr6_14 m
  | 15, _ => tr6_15 m
  | x + 16, h => absurd h (by omega)
theorem trA7 (m : Int) : ∀ x : Nat, x < 16 → runsL m 7 ((x : Nat) : Int) [0, 1, 2, 3, 4, 5, 6, 7, 8, 9, 10, 11, 12, 13, 14, 15] = true
  | 0, _ => tr7_0 m
  | 1, _ => tr7_1 m
  | 2, _ => tr7_2 m
  | 3, _ => tr7_3 m
  | 4, _ => tr7_4 m
  | 5, _ => tr7_5 m
  | 6, _ => tr7_6 m
  | 7, _ => tr7_7 m
  | 8, _ => tr7_8 m
  | 9, _ => tr7_9 m
  | 10, _ => tr7_10 m
  | 11, _ => tr7_11 m
  | 12, _ => tr7_12 m
  | 13, _ => tr7_13 m
  | 14, _ => tr7_14 m
  | 15, _ => tr7_15 m
  | x + 16, h => absurd h (by omega)
theorem trA8 (m : Int) : ∀ x : Nat, x < 16 → runsL m 8 ((x : Nat) : Int) [0, 1, 2, 3, 4, 5, 6, 7, 8, 9, 10, 11, 12, 13, 14, 15] = true
  | 0, _ => tr8_0 m
  | 1, _ => tr8_1 m
  | 2, _ => tr8_2 m
  | 3, _ => tr8_3 m
  | 4, _ => tr8_4 m
  | 5, _ => tr8_5 m
  | 6, _ => tr8_6 m
  | 7, _ => tr8_7 m
  | 8, _ => tr8_8 m
  | 9, _ => tr8_9 m
  | 10, _ => tr8_10 m
  | 11, _ => tr8_11 m
  | 12, _ => tr8_12 m
  | 13, _ => tr8_13 m
  | 14, _ => tr8_14 m
  | 15, _ => tr8_15 m
  | x + 16, h => absurd h (by omega)
theorem tk_all (m : Int) : ∀ (k : Nat), k < 8 → ∀ (x : Nat), x < 16 → rightL m ((k : Int) + 1) ((x : Nat) : Int) = true
  | 0, _, x, h => tkA1 m x h
  | 1, _, x, h => tkA2 m x h
  | 2, _, x, h => tkA3 m x h
  | 3, _, x, h => tkA4 m x h
  | 4, _, x, h => tkA5 m x h
  | 5, _, x, h => tkA6 m x h
  | 6, _, x, h => tkA7 m x h
  | 7, _, x, h => tkA8 m x h
  | k + 8, h, _, _ => absurd h (by omega)
theorem tr_all (m : Int) : ∀ (k : Nat), k < 8 → ∀ (x : Nat), x < 16 → runsL m ((k : Int) + 1) ((x : Nat) : Int) [0, 1, 2, 3, 4, 5, 6, 7, 8, 9, 10, 11, 12, 13, 14, 15] = true
  | 0, _, x, h => trA1 m x h
  | 1, _, x, h => trA2 m x h
  | 2, _, x, h => trA3 m x h
  | 3, _, x, h => trA4 m x h
  | 4, _, x, h => trA5 m x h
  | 5, _, x, h => trA6 m x h
  | 6, _, x, h => trA7 m x h
  | 7, _, x, h => trA8 m x h
  | k + 8, h, _, _ => absurd h (by omega)
theorem runT_all (m : Int) (k x i : Nat) (hk : k < 8) (hx : x < 16) (hi : i < 16) : runL m ((k : Int) + 1) i x = true :=
  List.all_eq_true.1 (tr_all m k hk x hx) i (by simp only [List.mem_cons, List.not_mem_nil, or_false]; omega)
theorem orcL_ok {k x : Nat} (hk : k < 8) (hx : x < 16) {fl : Nat} : OrcF Tryz.prog fl (orcL ((k : Int) + 1) (x : Int)) :=
  orc2_ok (memo_ok right_fn fun q hq => by rw [List.mem_singleton.1 hq]; exact ⟨keyT_ones _ _, key_ok fun m => tk_all m k hk x hx⟩) orcB_ok
theorem frT {k i x : Int} {tmps : Array Value} (hs : tmps.size = nL) (h6 : tmps[6]? = some (.bool false)) (h7 : tmps[7]? = some (.int .i64 k)) (h8 : tmps[8]? = some (.int .u32 i)) (h9 : tmps[9]? = some (.int .u32 x)) : FrR s1 ⟨nL, tmL k i x, []⟩ tmps := by
  refine ⟨hs, fun t y hy => ?_⟩
  change (tmL k i x).get t = some y at hy
  unfold tmL at hy
  simp only [T.get_set] at hy
  by_cases q9 : t = 9
  · rw [if_pos q9] at hy; cases hy; subst q9; exact ⟨_, h9, rfl⟩
  · rw [if_neg q9] at hy
    by_cases q8 : t = 8
    · rw [if_pos q8] at hy; cases hy; subst q8; exact ⟨_, h8, rfl⟩
    · rw [if_neg q8] at hy
      by_cases q7 : t = 7
      · rw [if_pos q7] at hy; cases hy; subst q7; exact ⟨_, h7, rfl⟩
      · rw [if_neg q7] at hy
        by_cases q6 : t = 6
        · rw [if_pos q6] at hy; cases hy; subst q6; exact ⟨_, h6, rfl⟩
        · rw [if_neg q6] at hy; exact (get_leafs hy).elim
theorem tailT (w : World) (hw : MxRow w) (k i x : Nat) (hk : k < 8) (hi : i < 16) (hx : x < 16) {a : Act} {R : Ending → World → Prop} (hs : a.tmps.size = nL) (h6 : a.tmps[6]? = some (.bool false)) (h7 : a.tmps[7]? = some (.int .i64 ((k : Int) + 1))) (h8 : a.tmps[8]? = some (.int .u32 i)) (h9 : a.tmps[9]? = some (.int .u32 x)) (hd : a.defers = []) (hR : ∀ w', Below w.heap.size w w' → R (.returned (.bool true)) w') :
    restL.wp Tryz.prog (bodyPost Tryz.prog Tryz.f4 R) a w := by
  obtain ⟨arr, ty, m, h0, h1⟩ := hw
  exact tail_ok (C := ctxL ((k : Int) + 1) x) (s := s1) (S := S1 m) (q := ⟨w.heap.size, w, fun _ => False, w, fun _ => False⟩) (lim := 100000) (k := 200) (n := nL) (tm := tmL ((k : Int) + 1) i x) (ctx1_ok eqs36 _) (orcL_ok hk hx (fl := 1)) (fun f fn hf => namesB_ok names36 fn (Array.mem_toList_iff.2 (Array.mem_of_getElem? hf))) mixed36 (Rel.start1 h0 h1) (frT hs h6 h7 h8 h9) hd (runT_all m k x i hk hx hi) hR
set_option maxRecDepth 1000000 in
set_option maxHeartbeats 4000000 in
theorem total_any (w : World) (hw : MxRow w) (x0 x1 x2 : Int) (hx : 0 ≤ x0 ∧ x0 ≤ 255) (hy : 0 ≤ x1 ∧ x1 ≤ 255) (hz : 0 ≤ x2 ∧ x2 ≤ 255) :
    Calls Tryz.prog 4 #[.int .u8 x0, .int .u8 x1, .int .u8 x2] w fun o w' => o = .returned (.bool true) ∧ Below w.heap.size w w' := by
  have HA := Lib.hid (awake36_any w hw)
  obtain ⟨i, hi, hxi⟩ : ∃ n : Nat, n < 16 ∧ x0 % 16 = n := ⟨(x0 % 16).toNat, by omega, by omega⟩
  obtain ⟨v, hv, hzv⟩ : ∃ n : Nat, n < 16 ∧ x2 % 16 = n := ⟨(x2 % 16).toNat, by omega, by omega⟩
  obtain ⟨k, hk, hyk⟩ : ∃ k : Nat, k < 8 ∧ 1 + x1 % 8 = (k : Int) + 1 := ⟨(x1 % 8).toNat, by omega, by omega⟩
  have HN := Lib.hid (And.intro hi hxi)
  have HV := Lib.hid (And.intro hv hzv)
  have HK := Lib.hid (And.intro hk hyk)
  have HW := Lib.hid hw
  clear hi hxi hv hzv hk hyk hw
  go_enter Tryz.func4, Tryz.ntmps4
  go_upto_region 3 with (first | (go_at_call 15; refine HA.out.mono ?_; rintro o1 w1 ⟨rfl, hb1⟩; have HB1 := Lib.hid hb1; clear hb1 HA) | fail)
  rename_i K hK
  have HKK := Lib.hid hK
  clear hK
  go_wp2_with fail
  refine HKK.out _ _ ?_
  refine tailT w1 (MxRow.on HW.out HB1.out) k i v HK.out.1 HN.out.1 HV.out.1 rfl rfl ?_ ?_ ?_ rfl ?_
  · rw [← HK.out.2]; rfl
  · rw [← HN.out.2]; rfl
  · rw [← HV.out.2]; rfl
  · intro w' hb
    exact ⟨rfl, HB1.out.trans (hb.mono HB1.out.size)⟩
end Go.Proofs.YtlibeobmdjeilaaGreatDoor
