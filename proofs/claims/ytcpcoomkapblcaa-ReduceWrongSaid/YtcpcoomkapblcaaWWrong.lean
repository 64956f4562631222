import Derived.Test.YtcpcoomkapblcaaRedP
import Derived.Test.YtcpcoomkapblcaaMade
import Derived.Test.YtcpcoomkapblcaaAwake
import Derived.Test.YtcpcoomkapblcaaEqualS
import Derived.Deep.DeepCutAuto
open Go Go.RowKit Go.Maps
namespace Go.Proofs.Ytcpcoomkapblcaa
theorem bad_has {n : Nat} {T : List Inf} (h : Good n T) {i : Int} (hi : i < 1 ∨ (n : Int) < i) : hasI T i = false :=
  hasI_false fun x hx e => by have := h.lo x hx; omega
theorem bad_put {T : List Inf} (c l : Int) {i : Int} (hi : i < 1 ∨ 1073741824 < i) : putR T c i l = (T, c, 160) := by
  unfold putR; rw [if_pos (.inr hi)]
theorem bad_use {n : Nat} {T : List Inf} (h : Good n T) (c l : Int) {i : Int} (hi : i < 1 ∨ (n : Int) < i) : useR T c i l = (T, c, 160) := by
  unfold useR; rw [if_pos (bad_has h hi)]
theorem bad_rem {n : Nat} {T : List Inf} (h : Good n T) {i : Int} (hi : i < 1 ∨ (n : Int) < i) : remR T i = (T, 160) := by
  unfold remR; rw [if_pos (bad_has h hi)]
theorem low_put {n : Nat} {T : List Inf} (h : Good n T) (hn : n ≤ 60) (c l : Int) (hl : l < 0) : putR T c ((n : Int) + 1) l = (T, c, 2) := by
  have := bad_has h (i := (n : Int) + 1) (by omega)
  unfold putR; rw [if_neg (by rw [this]; simp; omega), if_pos hl]
theorem there_put {n : Nat} {T : List Inf} (h : Good n T) (hn : 0 < n) (c l : Int) : putR T c (n : Int) l = (T, c, 160) := by
  unfold putR; rw [if_pos (.inl (h.ids _ (by omega) (by omega)))]
theorem low_use {n : Nat} {T : List Inf} (h : Good n T) (hn : 0 < n) (c l : Int) (hl : l < 0) : useR T c (n : Int) l = (T, c, 2) := by
  unfold useR; rw [if_neg (by rw [h.ids _ (by omega) (by omega)]; simp), if_pos hl]
theorem wf_mm {n : Int} (h : -9223372036854775808 ≤ n ∧ n ≤ 9223372036854775807) : (Lit.int .i64 n).wf = true := by
  simp [Lit.wf, IntKind.min, IntKind.max, IntKind.signed, IntKind.bits]; omega
set_option maxRecDepth 10000000 in
set_option maxHeartbeats 4000000 in
theorem reduceWrong_any (w : World) (lv : Value) (ls : List Int) (n L : Int) (hl : RdB w.heap.size w lv ls) (hll : ls.length ≤ maxLen) (hn0 : -9223372036854775808 ≤ n) (hn1 : n ≤ 9223372036854775807) :
    Calls Try.prog 7 #[lv, .int .i64 n, .int .i64 L] w fun e w' => e = .returned (.bool true) ∧ Below w.heap.size w w' := by
  obtain ⟨A0, n0, c0, rfl⟩ := hl.form
  go_enter Try.func7, Try.ntmps7
  go_wp2_with fail
  refine (awake_any _).mono ?_
  rintro e w1 ⟨rfl, hb1⟩
  go_wp2_with fail
  have hsz1 := hb1.size
  refine (made_any w1 _ _ ls [] ((hl.below hb1).more hsz1) (RdB.nil _ _) hll (by simp)).mono ?_
  rintro e w2 ⟨p, m, rfl, hT2, hp, hm, hb2⟩
  have hn60 : madeN ls ≤ 60 := by unfold madeN; omega
  obtain ⟨hgd, hcl⟩ := madeS_good ls [] (madeJ []) (by simp [madeJ])
  replace hcl : madeC ls [] = (madeN ls : Int) := by
    have e0 : madeJ ([] : List Int) = 0 := rfl
    rw [e0] at hcl
    unfold madeC
    rw [e0, hcl]; simp
  rw [hcl] at hT2
  change Good (madeN ls) (madeT ls []) at hgd
  generalize madeT ls [] = T at *
  generalize hN : madeN ls = N at *
  have HN := Lib.hid hN
  clear hN hcl
  go_wp2_with fail
  refine (infos_any w2 p m _ _ hT2 (by rw [hgd.len]; omega)).mono ?_
  rintro e w3 ⟨v, rfl, hown, hb3⟩
  have hp2 : p < w2.heap.size := hT2.lt
  have hm2 : m < w2.heap.size := hT2.map.lt
  have hTl : T.length ≤ 60 := by rw [hgd.len]; omega
  have hSl : (sortI T).length ≤ 60 := by rw [show (sortI T).length = T.length from (List.mergeSort_perm _ _).length_eq]; exact hTl
  have hT3 := hT2.below hb3
  have hb02 : Below w.heap.size w w2 := hb1.trans (hb2.mono hsz1)
  have hb03 : Below w.heap.size w w3 := hb02.trans (hb3.mono hb02.size)
  clear hT2 hb1 hb2 hb3
  have hp3 : p < w3.heap.size := hT3.lt
  have hm3 : m < w3.heap.size := hT3.map.lt
  have hT4 := hT3.alloc (.cells #[.int .i64 (min n 0), .int .i64 (max n 1073741825)] 3)
  have hb04 := hb03.alloc hb03.size (.cells #[.int .i64 (min n 0), .int .i64 (max n 1073741825)] 3)
  have hrd4 := hown.alloc (.cells #[.int .i64 (min n 0), .int .i64 (max n 1073741825)] 3)
  have hblk : (w3.alloc (.cells #[.int .i64 (min n 0), .int .i64 (max n 1073741825)] 3)).heap[w3.heap.size]? = some (.cells #[.int .i64 (min n 0), .int .i64 (max n 1073741825)] 3) := World.alloc_heap_new _ _
  have hsz4 : (w3.alloc (.cells #[.int .i64 (min n 0), .int .i64 (max n 1073741825)] 3)).heap.size = w3.heap.size + 1 := by simp
  have hbad1 : min n 0 < 1 ∨ 1073741824 < min n 0 := by omega
  have hbad2 : max n 1073741825 < 1 ∨ 1073741824 < max n 1073741825 := by omega
  have hbad3 : max n ((N : Int) + 1) < 1 ∨ (N : Int) < max n ((N : Int) + 1) := by omega
  have hwf1 : (Lit.int .i64 (min n 0)).wf = true := wf_mm (by omega)
  have hwf2 : (Lit.int .i64 (max n 1073741825)).wf = true := wf_mm (by omega)
  have hwf3 : (Lit.int .i64 (max n ((N : Int) + 1))).wf = true := wf_mm (by omega)
  have hlow : min L (-1) < 0 := by omega
  clear hT3 hb03 hown
  go_wp2_with fail
  generalize w3.alloc (.cells #[.int .i64 (min n 0), .int .i64 (max n 1073741825)] 3) = w4 at *
  generalize min n 0 = x1 at *
  generalize max n 1073741825 = x2 at *
  generalize max n ((N : Int) + 1) = x3 at *
  have HB4 := Lib.hid hblk
  have HSZ4 := Lib.hid hsz4
  clear hblk hsz4
  go_loopw [42] (fun i wr => ∃ k : Nat, k ≤ 2 ∧ i = .int .i64 k ∧ Tab wr p m T N ∧ But p m w4 wr) (fun i _ => 3 - (intOf i).toNat)
  case atStart => exact ⟨0, by omega, rfl, hT4, But.refl _ _ _⟩
  case round =>
    clear hT4
    obtain ⟨k, hk, rfl, hT, hbk⟩ := hrel
    have hblk : wr.heap[w3.heap.size]? = some (.cells #[.int .i64 x1, .int .i64 x2] 3) := (hbk.block _ (by have := HSZ4.out; omega) (by omega) (by omega)).trans HB4.out
    have hkk : k = 0 ∨ k = 1 ∨ k = 2 := by omega
    rcases hkk with rfl | rfl | rfl
    · have hck : wr.cell? ⟨w3.heap.size, 0, none⟩ = some (.int .i64 x1) := by simp [World.cell?, hblk]
      clear hblk
      go_wp2_with fail
      have hq1 := put_any wr p m T N x1 L hT hwf1 (by omega) (by omega)
      rw [bad_put N L hbad1] at hq1
      refine hq1.mono ?_
      clear hq1
      rintro e w5 ⟨rfl, hT5, hb5⟩
      go_wp2_with fail
      have hq2 := use_any w5 p m T N x1 L hT5 hwf1 (by omega) (by omega)
      rw [bad_use hgd N L (by omega)] at hq2
      refine hq2.mono ?_
      clear hq2
      rintro e w6 ⟨rfl, hT6, hb6⟩
      go_wp2_with fail
      have hq3 := remove_any w6 p m T N x1 hT6 hwf1
      rw [bad_rem hgd (by omega)] at hq3
      refine hq3.mono ?_
      clear hq3
      rintro e w7 ⟨rfl, hT7, hb7⟩
      go_wp2_with fail
      exact ⟨⟨1, by omega, rfl, hT7, ((hbk.trans hb5).trans hb6).trans hb7⟩, by simp [intOf]⟩
    · have hck : wr.cell? ⟨w3.heap.size, 1, none⟩ = some (.int .i64 x2) := by simp [World.cell?, hblk]
      clear hblk
      go_wp2_with fail
      have hq1 := put_any wr p m T N x2 L hT hwf2 (by omega) (by omega)
      rw [bad_put N L hbad2] at hq1
      refine hq1.mono ?_
      clear hq1
      rintro e w5 ⟨rfl, hT5, hb5⟩
      go_wp2_with fail
      have hq2 := use_any w5 p m T N x2 L hT5 hwf2 (by omega) (by omega)
      rw [bad_use hgd N L (by omega)] at hq2
      refine hq2.mono ?_
      clear hq2
      rintro e w6 ⟨rfl, hT6, hb6⟩
      go_wp2_with fail
      have hq3 := remove_any w6 p m T N x2 hT6 hwf2
      rw [bad_rem hgd (by omega)] at hq3
      refine hq3.mono ?_
      clear hq3
      rintro e w7 ⟨rfl, hT7, hb7⟩
      go_wp2_with fail
      exact ⟨⟨2, by omega, rfl, hT7, ((hbk.trans hb5).trans hb6).trans hb7⟩, by simp [intOf]⟩
    · clear hblk hbad1 hbad2 hwf1 hwf2
      go_wp2_with fail
      have hq1 := use_any wr p m T N x3 L hT hwf3 (by omega) (by omega)
      rw [bad_use hgd N L hbad3] at hq1
      refine hq1.mono ?_
      clear hq1
      rintro e w5 ⟨rfl, hT5, hb5⟩
      go_wp2_with fail
      have hq3 := remove_any w5 p m T N x3 hT5 hwf3
      rw [bad_rem hgd hbad3] at hq3
      refine hq3.mono ?_
      clear hq3
      rintro e w6 ⟨rfl, hT6, hb6⟩
      go_wp2_with fail
      have hq2 := put_any w6 p m T N ((N : Int) + 1) (min L (-1)) hT6 (wf_small (by omega) (by omega)) (by omega) (by omega)
      rw [low_put hgd hn60 N (min L (-1)) hlow] at hq2
      refine hq2.mono ?_
      clear hq2
      rintro e w7 ⟨rfl, hT7, hb7⟩
      have hbt7 : But p m w4 w7 := ((hbk.trans hb5).trans hb6).trans hb7
      clear hT hT5 hT6 hbk hb5 hb6 hb7
      clear hbad3 hwf3
      go_upto_region 16 with (fail)
      go_cut [101] (fun s wx => s = .bool false ∧ Tab wx p m T N ∧ But p m w4 wx)
      case first =>
        by_cases hN0 : 0 < N
        · have hN0' : decide (0 < (N : Int)) = true := by simpa using hN0
          have hN1 : (0 : Int) < N := by omega
          go_wp2_with fail
          have hq1 := put_any w7 p m T N (N : Int) L hT7 (wf_small (by omega) (by omega)) (by omega) (by omega)
          rw [there_put hgd hN0 N L] at hq1
          refine hq1.mono ?_
          clear hq1
          rintro e w8 ⟨rfl, hT8, hb8⟩
          go_wp2_with fail
          have hq2 := use_any w8 p m T N (N : Int) (min L (-1)) hT8 (wf_small (by omega) (by omega)) (by omega) (by omega)
          rw [low_use hgd hN0 N (min L (-1)) hlow] at hq2
          refine hq2.mono ?_
          clear hq2
          rintro e w9 ⟨rfl, hT9, hb9⟩
          go_wp2_with fail
          go_meet
          exact ⟨rfl, hT9, (hbt7.trans hb8).trans hb9⟩
        · have hN0' : decide (0 < (N : Int)) = false := by simpa using hN0
          have hN1 : ¬ (0 : Int) < N := by omega
          go_wp2_with fail
          go_meet
          exact ⟨rfl, hT7, hbt7⟩
      case rest =>
        obtain ⟨rfl, hT8, hb8⟩ := hcut
        clear hT7 hbt7
        go_wp2_with fail
        refine (newTimes_bad (min n 0) 1 _ (by unfold newOk; omega)).mono ?_
        rintro e w9 ⟨rfl, rfl⟩
        go_wp2_with fail
        refine (newTimes_bad (max n 1048577) 1 _ (by unfold newOk; omega)).mono ?_
        rintro e w9 ⟨rfl, rfl⟩
        go_wp2_with fail
        refine (newTimes_bad 1 (min n (-1)) _ (by unfold newOk; omega)).mono ?_
        rintro e w9 ⟨rfl, rfl⟩
        go_wp2_with fail
        refine (infos_any _ p m _ _ hT8 (by omega)).mono ?_
        rintro e w9 ⟨v', rfl, hown', hb9⟩
        have hown8 := own_of_block hrd4 (fun j hj => hb8.block j (hrd4.lt j hj).2 (by have := own_lt hrd4 j hj; omega) (by have := own_lt hrd4 j hj; omega))
        have hS8 := (RdS.of_own hown8).below hb9
        have hS9 := RdS.of_own hown'
        have hT9 := hT8.below hb9
        go_wp2_with fail
        refine (equalS_same w9 _ _ _ _ _ hS9 hS8 (by omega)).mono ?_
        rintro e w10 ⟨rfl, q, rfl⟩
        clear hS8 hS9 hown8 hown'
        have hT10 : Tab (w9.drewN q) p m T N := ⟨hT9.head, hT9.map, hT9.apart, hT9.wf, hT9.ne⟩
        go_wp2_with fail
        refine (clock_any _ p m _ _ hT10).mono ?_
        rintro e w11 ⟨rfl, rfl⟩
        go_wp2_with fail
        go_ret
        have hfin := (hb8.below hb04 (by omega) (by omega) hb04.size)
        exact ⟨rfl, below_drewN' (hfin.trans (hb9.mono hfin.size)) q⟩
end Go.Proofs.Ytcpcoomkapblcaa
