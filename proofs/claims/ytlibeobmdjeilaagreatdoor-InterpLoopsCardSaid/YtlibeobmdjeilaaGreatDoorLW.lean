/- The law InterpLoops: the walk as far as the numbers are made; the rest is reckoned. -/
import Derived.Test.YtlibeobmdjeilaaGreatDoorLR0
import Derived.Test.YtlibeobmdjeilaaGreatDoorLR1
import Derived.Test.YtlibeobmdjeilaaGreatDoorLR2
import Derived.Test.YtlibeobmdjeilaaGreatDoorLR3
import Derived.Test.YtlibeobmdjeilaaGreatDoorLR4
import Derived.Test.YtlibeobmdjeilaaGreatDoorLR5
import Derived.WalkMore
set_option linter.all false
namespace Go.Proofs.YtlibeobmdjeilaaGreatDoor
open Go Go.RowKit Go.Proofs.YtlibeobmdjeilaaGreatDoor.Ex
theorem MxRow.on {w w' : World} (h : MxRow w) (hb : Below w.heap.size w w') : MxRow w' := by
  obtain ⟨arr, ty, m, h0, h1⟩ := h
  exact ⟨arr, ty, m, (hb.block 0 (Array.getElem?_eq_some_iff.1 h0).1).trans h0, h1⟩
theorem mxRow_shaped {W : World} (h : W.ShapedOpen Tryz.prog) : MxRow W := by
  obtain ⟨m, hm⟩ : ∃ m, W.cell? ⟨0, 0, none⟩ = some (.int .i64 m) := Tryz.laysM144.s1_3 W h
  obtain ⟨cs, hc, _⟩ := h.1 0 #[.int .i64 0] 3 (of_decide_eq_true (by kernel_rfl)) (by kernel_rfl)
  refine ⟨cs, 3, m, hc, ?_⟩
  simpa [World.cell?, hc] using hm
theorem orcL_ok {k : Nat} (hk : k < 16) {fl : Nat} : OrcF Tryz.prog fl (orcL ((k : Int) + 1)) :=
  orc2_ok (memo_ok right_fn fun q hq => by rw [List.mem_singleton.1 hq]; exact ⟨keyL_ones _, keyL_ok k hk⟩) orcB_ok
theorem runsL_all0 (m : Int) : ∀ k : Nat, k < 16 → runsL m ((k : Int) + 1) [0, 1, 2, 3, 4, 5, 6, 7] = true
  | 0, _ => by rw [show (((0 : Nat) : Int) + 1) = 1 from rfl]; exact runsL1_0 m
  | 1, _ => by rw [show (((1 : Nat) : Int) + 1) = 2 from rfl]; exact runsL2_0 m
  | 2, _ => by rw [show (((2 : Nat) : Int) + 1) = 3 from rfl]; exact runsL3_0 m
  | 3, _ => by rw [show (((3 : Nat) : Int) + 1) = 4 from rfl]; exact runsL4_0 m
  | 4, _ => by rw [show (((4 : Nat) : Int) + 1) = 5 from rfl]; exact runsL5_0 m
  | 5, _ => by rw [show (((5 : Nat) : Int) + 1) = 6 from rfl]; exact runsL6_0 m
  | 6, _ => by rw [show (((6 : Nat) : Int) + 1) = 7 from rfl]; exact runsL7_0 m
  | 7, _ => by rw [show (((7 : Nat) : Int) + 1) = 8 from rfl]; exact runsL8_0 m
  | 8, _ => by rw [show (((8 : Nat) : Int) + 1) = 9 from rfl]; exact runsL9_0 m
  | 9, _ => by rw [show (((9 : Nat) : Int) + 1) = 10 from rfl]; exact runsL10_0 m
  | 10, _ => by rw [show (((10 : Nat) : Int) + 1) = 11 from rfl]; exact runsL11_0 m
  | 11, _ => by rw [show (((11 : Nat) : Int) + 1) = 12 from rfl]; exact runsL12_0 m
  | 12, _ => by rw [show (((12 : Nat) : Int) + 1) = 13 from rfl]; exact runsL13_0 m
  | 13, _ => by rw [show (((13 : Nat) : Int) + 1) = 14 from rfl]; exact runsL14_0 m
  | 14, _ => by rw [show (((14 : Nat) : Int) + 1) = 15 from rfl]; exact runsL15_0 m
  | 15, _ => by rw [show (((15 : Nat) : Int) + 1) = 16 from rfl]; exact runsL16_0 m
  | k + 16, h => absurd h (by omega)
theorem runsL_all1 (m : Int) : ∀ k : Nat, k < 16 → runsL m ((k : Int) + 1) [8, 9, 10, 11] = true
  | 0, _ => by rw [show (((0 : Nat) : Int) + 1) = 1 from rfl]; exact runsL1_1 m
  | 1, _ => by rw [show (((1 : Nat) : Int) + 1) = 2 from rfl]; exact runsL2_1 m
  | 2, _ => by rw [show (((2 : Nat) : Int) + 1) = 3 from rfl]; exact runsL3_1 m
  | 3, _ => by rw [show (((3 : Nat) : Int) + 1) = 4 from rfl]; exact runsL4_1 m
  | 4, _ => by rw [show (((4 : Nat) : Int) + 1) = 5 from rfl]; exact runsL5_1 m
  | 5, _ => by rw [show (((5 : Nat) : Int) + 1) = 6 from rfl]; exact runsL6_1 m
  | 6, _ => by rw [show (((6 : Nat) : Int) + 1) = 7 from rfl]; exact runsL7_1 m
  | 7, _ => by rw [show (((7 : Nat) : Int) + 1) = 8 from rfl]; exact runsL8_1 m
  | 8, _ => by rw [show (((8 : Nat) : Int) + 1) = 9 from rfl]; exact runsL9_1 m
  | 9, _ => by rw [show (((9 : Nat) : Int) + 1) = 10 from rfl]; exact runsL10_1 m
  | 10, _ => by rw [show (((10 : Nat) : Int) + 1) = 11 from rfl]; exact runsL11_1 m
  | 11, _ => by rw [show (((11 : Nat) : Int) + 1) = 12 from rfl]; exact runsL12_1 m
  | 12, _ => by rw [show (((12 : Nat) : Int) + 1) = 13 from rfl]; exact runsL13_1 m
  | 13, _ => by rw [show (((13 : Nat) : Int) + 1) = 14 from rfl]; exact runsL14_1 m
  | 14, _ => by rw [show (((14 : Nat) : Int) + 1) = 15 from rfl]; exact runsL15_1 m
  | 15, _ => by rw [show (((15 : Nat) : Int) + 1) = 16 from rfl]; exact runsL16_1 m
  | k + 16, h => absurd h (by omega)
theorem runsL_all2 (m : Int) : ∀ k : Nat, k < 16 → runsL m ((k : Int) + 1) [12, 13, 14, 15] = true
  | 0, _ => by rw [show (((0 : Nat) : Int) + 1) = 1 from rfl]; exact runsL1_2 m
  | 1, _ => by rw [show (((1 : Nat) : Int) + 1) = 2 from rfl]; exact runsL2_2 m
  | 2, _ => by rw [show (((2 : Nat) : Int) + 1) = 3 from rfl]; exact runsL3_2 m
  | 3, _ => by rw [show (((3 : Nat) : Int) + 1) = 4 from rfl]; exact runsL4_2 m
  | 4, _ => by rw [show (((4 : Nat) : Int) + 1) = 5 from rfl]; exact runsL5_2 m
  | 5, _ => by rw [show (((5 : Nat) : Int) + 1) = 6 from rfl]; exact runsL6_2 m
  | 6, _ => by rw [show (((6 : Nat) : Int) + 1) = 7 from rfl]; exact runsL7_2 m
  | 7, _ => by rw [show (((7 : Nat) : Int) + 1) = 8 from rfl]; exact runsL8_2 m
  | 8, _ => by rw [show (((8 : Nat) : Int) + 1) = 9 from rfl]; exact runsL9_2 m
  | 9, _ => by rw [show (((9 : Nat) : Int) + 1) = 10 from rfl]; exact runsL10_2 m
  | 10, _ => by rw [show (((10 : Nat) : Int) + 1) = 11 from rfl]; exact runsL11_2 m
  | 11, _ => by rw [show (((11 : Nat) : Int) + 1) = 12 from rfl]; exact runsL12_2 m
  | 12, _ => by rw [show (((12 : Nat) : Int) + 1) = 13 from rfl]; exact runsL13_2 m
  | 13, _ => by rw [show (((13 : Nat) : Int) + 1) = 14 from rfl]; exact runsL14_2 m
  | 14, _ => by rw [show (((14 : Nat) : Int) + 1) = 15 from rfl]; exact runsL15_2 m
  | 15, _ => by rw [show (((15 : Nat) : Int) + 1) = 16 from rfl]; exact runsL16_2 m
  | k + 16, h => absurd h (by omega)
theorem runL_all (m : Int) (k n : Nat) (hk : k < 16) (hn : n < 16) : runL m ((k : Int) + 1) n = true := by
  by_cases h1 : n < 8
  · exact List.all_eq_true.1 (runsL_all0 m k hk) n (by simp only [List.mem_cons, List.not_mem_nil, or_false]; omega)
  · by_cases h2 : n < 12
    · exact List.all_eq_true.1 (runsL_all1 m k hk) n (by simp only [List.mem_cons, List.not_mem_nil, or_false]; omega)
    · exact List.all_eq_true.1 (runsL_all2 m k hk) n (by simp only [List.mem_cons, List.not_mem_nil, or_false]; omega)
theorem frL {n k : Int} {tmps : Array Value} (hs : tmps.size = nL) (h4 : tmps[4]? = some (.bool false)) (h5 : tmps[5]? = some (.int .u32 n)) (h6 : tmps[6]? = some (.int .i64 k)) : FrR s1 ⟨nL, tmL n k, []⟩ tmps := by
  refine ⟨hs, fun t x hx => ?_⟩
  change (tmL n k).get t = some x at hx
  unfold tmL at hx
  simp only [T.get_set] at hx
  by_cases q6 : t = 6
  · rw [if_pos q6] at hx; cases hx; subst q6; exact ⟨_, h6, rfl⟩
  · rw [if_neg q6] at hx
    by_cases q5 : t = 5
    · rw [if_pos q5] at hx; cases hx; subst q5; exact ⟨_, h5, rfl⟩
    · rw [if_neg q5] at hx
      by_cases q4 : t = 4
      · rw [if_pos q4] at hx; cases hx; subst q4; exact ⟨_, h4, rfl⟩
      · rw [if_neg q4] at hx; exact (get_leafs hx).elim
theorem tailL (w : World) (hw : MxRow w) (n k : Nat) (hn : n < 16) (hk : k < 16) {a : Act} {R : Ending → World → Prop} (hs : a.tmps.size = nL) (h4 : a.tmps[4]? = some (.bool false)) (h5 : a.tmps[5]? = some (.int .u32 n)) (h6 : a.tmps[6]? = some (.int .i64 ((k : Int) + 1))) (hd : a.defers = []) (hR : ∀ w', Below w.heap.size w w' → R (.returned (.bool true)) w') :
    restL.wp Tryz.prog (bodyPost Tryz.prog Tryz.f3 R) a w := by
  obtain ⟨arr, ty, m, h0, h1⟩ := hw
  exact tail_ok (C := ctxL ((k : Int) + 1)) (s := s1) (S := S1 m) (q := ⟨w.heap.size, w, fun _ => False, w, fun _ => False⟩) (lim := 100000) (k := 200) (n := nL) (tm := tmL n ((k : Int) + 1)) (ctx1_ok eqs36 _) (orcL_ok hk (fl := 1)) (fun f fn hf => namesB_ok names36 fn (Array.mem_toList_iff.2 (Array.mem_of_getElem? hf))) mixed36 (Rel.start1 h0 h1) (frL hs h4 h5 h6) hd (runL_all m k n hk hn) hR
set_option maxRecDepth 1000000 in
set_option maxHeartbeats 4000000 in
theorem loops_any (w : World) (hw : MxRow w) (x y : Int) (hx : 0 ≤ x ∧ x ≤ 255) (hy : 0 ≤ y ∧ y ≤ 255) :
    Calls Tryz.prog 3 #[.int .u8 x, .int .u8 y] w fun o w' => o = .returned (.bool true) ∧ Below w.heap.size w w' := by
  have HA := Lib.hid (awake36_any w hw)
  obtain ⟨n, hn, hxn⟩ : ∃ n : Nat, n < 16 ∧ x % 16 = n := ⟨(x % 16).toNat, by omega, by omega⟩
  obtain ⟨k, hk, hyk⟩ : ∃ k : Nat, k < 16 ∧ 1 + y % 16 = (k : Int) + 1 := ⟨(y % 16).toNat, by omega, by omega⟩
  have HN := Lib.hid (And.intro hn hxn)
  have HK := Lib.hid (And.intro hk hyk)
  have HW := Lib.hid hw
  clear hn hxn hk hyk hw
  go_enter Tryz.func3, Tryz.ntmps3
  go_upto_region 3 with (first | (go_at_call 15; refine HA.out.mono ?_; rintro o1 w1 ⟨rfl, hb1⟩; have HB1 := Lib.hid hb1; clear hb1 HA) | fail)
  rename_i K hK
  have HKK := Lib.hid hK
  clear hK
  go_wp2_with fail
  refine HKK.out _ _ ?_
  refine tailL w1 (MxRow.on HW.out HB1.out) n k HN.out.1 HK.out.1 rfl rfl ?_ ?_ rfl ?_
  · rw [← HN.out.2]; rfl
  · rw [← HK.out.2]; rfl
  · intro w' hb
    exact ⟨rfl, HB1.out.trans (hb.mono HB1.out.size)⟩
end Go.Proofs.YtlibeobmdjeilaaGreatDoor
