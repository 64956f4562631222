import Derived.Test.YtcpcoomkapblcaaRedP
import Derived.Test.YtcpcoomkapblcaaMade
import Derived.Test.YtcpcoomkapblcaaAwake
import Derived.Test.YtcpcoomkapblcaaEqualS
import Derived.Test.YtcpcoomkapblcaaBetter
import Derived.Deep.DeepCutAuto
open Go Go.RowKit Go.Maps
namespace Go.Proofs.Ytcpcoomkapblcaa
theorem used_use {n : Nat} {T : List Inf} (h : Good n T) {c : Int} (hu : ∀ x ∈ T, x.used < c) (i l : Int) (h1 : 1 ≤ i) (h2 : i ≤ n) (hl : 0 ≤ l) : ∀ x ∈ (useR T c i l).1, x.used < c + 1 := by
  rw [(use_good h c i l h1 h2 hl).1]
  intro x hx
  rcases List.mem_append.1 hx with hx | hx
  · have := hu x (List.mem_filter.1 hx).1; omega
  · simp at hx; subst hx; simp; omega
theorem madeS_used (ls us : List Int) (j : Nat) (hj : j ≤ us.length) : ∀ x ∈ (madeS ls us j).1, x.used < (madeS ls us j).2 := by
  by_cases hn : madeN ls = 0
  · rw [madeS_none _ _ _ hn]; simp
  · induction j with
    | zero =>
      rw [madeS_zero]
      intro x hx
      obtain ⟨i, hi, rfl⟩ := List.mem_map.1 hx
      have := List.mem_range.1 hi
      simp; omega
    | succ j ih =>
      rw [madeS_succ _ _ _ (by omega) (by omega)]
      obtain ⟨hg, _⟩ := madeS_good ls us j (by omega)
      have h0 := Int.emod_nonneg (us[j]?.getD 0) (show (madeN ls : Int) ≠ 0 by omega)
      have h1 := Int.emod_lt_of_pos (us[j]?.getD 0) (show (0 : Int) < madeN ls by omega)
      intro x hx
      rw [(useF_good (n := madeN ls) (by omega) hg (us[j]?.getD 0)).2.1]
      exact used_use hg (ih (by omega)) _ _ (by omega) (by omega) (by omega) x hx
theorem infoOf_last {T : List Inf} {x : Inf} (h : ∀ y ∈ T, y.id ≠ x.id) : infoOf (T ++ [x]) x.id = x ∧ hasI (T ++ [x]) x.id = true := by
  refine ⟨?_, hasI_iff.2 ⟨x, by simp, rfl⟩⟩
  unfold infoOf findI
  rw [List.find?_append, List.find?_eq_none.2 (fun y hy => by simpa using h y hy)]
  simp
theorem filter_ne (T : List Inf) (i : Int) : ∀ y ∈ T.filter (fun y => y.id ≠ i), y.id ≠ i := fun y hy => by simpa using (List.mem_filter.1 hy).2
theorem infoOf_put (T : List Inf) (i l c : Int) : infoOf (T.filter (fun y => y.id ≠ i) ++ [⟨i, l, c⟩]) i = ⟨i, l, c⟩ ∧ hasI (T.filter (fun y => y.id ≠ i) ++ [⟨i, l, c⟩]) i = true :=
  infoOf_last (x := ⟨i, l, c⟩) (filter_ne T i)
/-- The clauses once i was used, removed, put in again. -/
def usT (T : List Inf) (i l c : Int) : List Inf := T.filter (fun y => y.id ≠ i) ++ [⟨i, min (infoOf T i).lev l, c⟩]
theorem us_rem (T : List Inf) (i l c : Int) : remR (usT T i l c) i = (T.filter (fun y => y.id ≠ i), 0) := by
  have h := (infoOf_put T i (min (infoOf T i).lev l) c).2
  unfold remR usT
  rw [if_neg (by rw [h]; simp), List.filter_append, filter_out (filter_ne T i)]
  simp
theorem us_use (T : List Inf) (i c : Int) : useR (T.filter (fun y => y.id ≠ i)) c i 1 = (T.filter (fun y => y.id ≠ i), c, 160) := by
  unfold useR; rw [if_pos (hasI_false (filter_ne T i))]
theorem us_put (T : List Inf) (i c : Int) (h1 : 1 ≤ i) (h2 : i ≤ 1073741824) : putR (T.filter (fun y => y.id ≠ i)) c i 7 = (T.filter (fun y => y.id ≠ i) ++ [⟨i, 7, c⟩], c + 1, 0) := by
  unfold putR; rw [if_neg (by rw [hasI_false (filter_ne T i)]; simp; omega), if_neg (by omega), filter_out (filter_ne T i)]
theorem us_better {T : List Inf} {c : Int} (hu : ∀ x ∈ T, x.used < c) (i l : Int) {x : Inf} (hx : x ∈ usT T i l c) (hne : x.id ≠ i) (hlev : x.lev = min (infoOf T i).lev l) : bt ⟨i, min (infoOf T i).lev l, c⟩ x = true := by
  unfold usT at hx
  rcases List.mem_append.1 hx with hx | hx
  · have h1 := hu x (List.mem_filter.1 hx).1
    unfold bt
    rw [if_pos hlev.symm, if_neg (by simp; omega)]
    simpa using h1
  · simp at hx; subst hx; exact absurd rfl hne
set_option maxRecDepth 10000000 in
set_option maxHeartbeats 1000000 in
theorem reduceUses_any (w : World) (lv uv : Value) (ls us : List Int) (y L : Int) (hl : RdB w.heap.size w lv ls) (hu : RdB w.heap.size w uv us) (hll : ls.length ≤ maxLen) (hul : us.length ≤ maxLen) (hy : 0 ≤ y ∧ y ≤ 255) (hL : 0 ≤ L ∧ L ≤ 255) :
    Calls Try.prog 8 #[lv, uv, .int .u8 y, .int .u8 L] w fun e w' => e = .returned (.bool true) ∧ Below w.heap.size w w' := by
  obtain ⟨A0, n0, c0, rfl⟩ := hl.form
  obtain ⟨A1, n1, c1, rfl⟩ := hu.form
  obtain ⟨hy0, hy1⟩ := hy
  obtain ⟨hL0, hL1⟩ := hL
  go_enter Try.func8, Try.ntmps8
  go_wp2_with fail
  refine (awake_any _).mono ?_
  rintro e w1 ⟨rfl, hb1⟩
  go_wp2_with fail
  have hsz1 := hb1.size
  refine (made_any w1 _ _ ls us ((hl.below hb1).more hsz1) ((hu.below hb1).more hsz1) hll hul).mono ?_
  rintro e w2 ⟨p, m, rfl, hT2, hp, hm, hb2⟩
  have hn60 : madeN ls ≤ 60 := by unfold madeN; omega
  obtain ⟨hgd, hcl⟩ := madeS_good ls us (madeJ us) (by unfold madeJ; omega)
  have hus := madeS_used ls us (madeJ us) (by unfold madeJ; omega)
  change Good (madeN ls) (madeT ls us) at hgd
  change ∀ x ∈ madeT ls us, x.used < madeC ls us at hus
  change madeC ls us = _ at hcl
  have hj20 : madeJ us ≤ 20 := by unfold madeJ; omega
  have hcb : 0 ≤ madeC ls us ∧ madeC ls us ≤ 100 := by
    have b1 : 0 ≤ (madeJ us : Int) * min (madeN ls : Int) 1 ∧ (madeJ us : Int) * min (madeN ls : Int) 1 ≤ 20 * 1 :=
      ⟨Int.mul_nonneg (by omega) (by omega), Int.mul_le_mul (by omega) (by omega) (by omega) (by omega)⟩
    rw [hcl]; omega
  clear hcl
  generalize madeT ls us = T at *
  generalize madeC ls us = c at *
  generalize madeN ls = n at *
  obtain ⟨hc0, hc1⟩ := hcb
  have hb02 : Below w.heap.size w w2 := hb1.trans (hb2.mono hsz1)
  have hpw : w.heap.size ≤ p := by omega
  have hmw : w.heap.size ≤ m := by omega
  clear hb1 hb2 hp hm hsz1
  by_cases hn0 : n = 0
  · subst hn0
    go_wp2_with fail
    go_ret
    exact ⟨rfl, hb02⟩
  · have hn1 : (0 : Int) < n := by omega
    have hne : ((n : Int) == 0) = false := by simpa using hn0
    have hi0 := Int.emod_nonneg y (show (n : Int) ≠ 0 by omega)
    have hi1 := Int.emod_lt_of_pos y hn1
    have hNN : ¬ (n : Int) = 0 := by omega
    go_wp2_with fail
    have hi2 : 1 ≤ 1 + y % (n : Int) := by omega
    have hi3 : 1 + y % (n : Int) ≤ n := by omega
    generalize 1 + y % (n : Int) = i at *
    have hwf := wf_small (i := i) (by omega) (by omega)
    have hti := hgd.ids i hi2 hi3
    obtain ⟨huse, hgd1⟩ := use_good hgd c i L hi2 hi3 hL0
    have hgd1' : Good n (usT T i L c) := by rw [huse] at hgd1; exact hgd1
    have hT1e : useR T c i L = (usT T i L c, c + 1, 0) := huse
    have hin1 := infoOf_put T i (min (infoOf T i).lev L) c
    change infoOf (usT T i L c) i = _ ∧ hasI (usT T i L c) i = true at hin1
    have hbet := fun x hx => us_better hus i L (x := x) hx
    have hrem := us_rem T i L c
    have hlen2 : (T.filter (fun y => y.id ≠ i)).length = n - 1 := by have := len_out hgd.apart hti; rw [hgd.len] at this; omega
    have hTl : T.length ≤ 60 := by rw [hgd.len]; exact hn60
    have hT1l : (usT T i L c).length ≤ 60 := by rw [hgd1'.len]; exact hn60
    clear huse hgd1 hgd1' hgd hus
    have hq1 := info_any w2 p m T c i hT2 hwf
    rw [hti] at hq1
    have HT1E := Lib.hid hT1e
    have HIN1 := Lib.hid hin1
    have HBET := Lib.hid hbet
    have HREM := Lib.hid hrem
    have HLEN2 := Lib.hid hlen2
    clear hT1e hin1 hbet hrem hlen2 hti
    generalize hold : infoOf T i = old at *
    have HOLD := Lib.hid hold; clear hold
    refine hq1.mono ?_
    clear hq1
    rintro e w3 ⟨rfl, hT3, hb3⟩
    unfold Inf.val
    go_wp2_with fail
    have hT4 := hT3.alloc (.cells #[.int .i64 old.id, .int .i64 old.lev, .int .i64 old.used] 32)
    have hb04 := (hb02.trans (hb3.mono hb02.size)).alloc (by have := hb02.size; have := hb3.size; omega) (.cells #[.int .i64 old.id, .int .i64 old.lev, .int .i64 old.used] 32)
    have hk4 : (w3.alloc (.cells #[.int .i64 old.id, .int .i64 old.lev, .int .i64 old.used] 32)).heap[w3.heap.size]? = some (.cells #[.int .i64 old.id, .int .i64 old.lev, .int .i64 old.used] 32) := World.alloc_heap_new _ _
    have hz4 : w3.heap.size < (w3.alloc (.cells #[.int .i64 old.id, .int .i64 old.lev, .int .i64 old.used] 32)).heap.size := by simp
    have hp3 : p < w3.heap.size := hT3.lt
    have hm3 : m < w3.heap.size := hT3.map.lt
    have hw3 : w.heap.size ≤ w3.heap.size := by have := hb02.size; have := hb3.size; omega
    clear hT2 hT3 hb3 hb02
    generalize w3.alloc (.cells #[.int .i64 old.id, .int .i64 old.lev, .int .i64 old.used] 32) = w4 at *
    generalize w3.heap.size = b13 at *
    refine (clock_any w4 p m _ _ hT4).mono ?_
    rintro e w5 ⟨rfl, rfl⟩
    have HK4 := Lib.hid hk4; clear hk4
    go_wp2_with fail
    have hq1 := use_any w4 p m T c i L hT4 hwf (by omega) (by omega)
    rw [HT1E.out] at hq1
    refine hq1.mono ?_
    clear hq1
    rintro e w5 ⟨rfl, hT5, hbt5⟩
    have hk5 := (hbt5.block b13 hz4 (by omega) (by omega)).trans HK4.out
    have HK5 := Lib.hid hk5; clear hk5
    have hb05 : Below w.heap.size w w5 := hbt5.below hb04 hpw hmw hb04.size
    have hz5 : b13 < w5.heap.size := by have := hbt5.size; omega
    clear hT4 hb04 hz4 hbt5 HK4
    go_wp2_with fail
    have hq2 := info_any w5 p m _ _ i hT5 hwf
    rw [HIN1.out.1, HIN1.out.2] at hq2
    refine hq2.mono ?_
    clear hq2
    rintro e w6 ⟨rfl, hT6, hb6⟩
    unfold Inf.val
    have hk6 := (hb6.block b13 hz5).trans HK5.out
    have hk6a : (w6.alloc (.cells #[.int .i64 i, .int .i64 (min old.lev L), .int .i64 c] 32)).heap[b13]? = some (.cells #[.int .i64 old.id, .int .i64 old.lev, .int .i64 old.used] 32) := (Below.heap_alloc _ _ _ (by have := hb6.size; omega)).trans hk6
    have q13 : (w6.alloc (.cells #[.int .i64 i, .int .i64 (min old.lev L), .int .i64 c] 32)).cell? ⟨b13, 1, none⟩ = some (.int .i64 old.lev) := by simp [World.cell?, hk6a]
    have HK6 := Lib.hid hk6; clear hk6 hk6a
    go_wp2_with fail
    have hT7 := hT6.alloc (.cells #[.int .i64 i, .int .i64 (min old.lev L), .int .i64 c] 32)
    have hb07 := (hb05.trans (hb6.mono hb05.size)).alloc (by have := hb05.size; have := hb6.size; omega) (.cells #[.int .i64 i, .int .i64 (min old.lev L), .int .i64 c] 32)
    have hk7 : (w6.alloc (.cells #[.int .i64 i, .int .i64 (min old.lev L), .int .i64 c] 32)).heap[w6.heap.size]? = some (.cells #[.int .i64 i, .int .i64 (min old.lev L), .int .i64 c] 32) := World.alloc_heap_new _ _
    have hz7 : w6.heap.size < (w6.alloc (.cells #[.int .i64 i, .int .i64 (min old.lev L), .int .i64 c] 32)).heap.size := by simp
    have hz6 : b13 < w6.heap.size := by have := hb6.size; omega
    clear hT5 hT6 hb6 hb05 q13
    generalize w6.alloc (.cells #[.int .i64 i, .int .i64 (min old.lev L), .int .i64 c] 32) = w7 at *
    generalize w6.heap.size = b16 at *
    have HK7 := Lib.hid hk7; clear hk7
    refine (clock_any w7 p m _ _ hT7).mono ?_
    rintro e w8 ⟨rfl, rfl⟩
    go_wp2_with fail
    refine (infos_any w7 p m _ _ hT7 (by omega)).mono ?_
    rintro e w8 ⟨v, rfl, hown, hb8⟩
    have hrd := RdS.of_own hown
    have hSn : (sortI (usT T i L c)).length ≤ 60 := by rw [show (sortI (usT T i L c)).length = (usT T i L c).length from (List.mergeSort_perm _ _).length_eq]; exact hT1l
    have hmem : ∀ x, x ∈ sortI (usT T i L c) → x ∈ usT T i L c := fun x hx => mem_sortI.1 hx
    have HMEM := Lib.hid hmem; clear hmem
    generalize sortI (usT T i L c) = S at *
    obtain ⟨A, cap, rfl, hcap, hr⟩ := hrd
    have hT8 := hT7.below hb8
    have hk8 := (hb8.block b16 hz7).trans HK7.out
    have HK8 := Lib.hid hk8; clear hk8
    have hz8 : b16 < w8.heap.size := by have := hb8.size; omega
    have hb08 := hb07.trans (hb8.mono hb07.size)
    clear hT7 hb07 hz7 hown hb8 HK7
    go_wp2_with fail
    go_loopw [89] (fun ix wr => ∃ k : Nat, k ≤ S.length ∧ ix = .int .i64 k ∧ Below w8.heap.size w8 wr) (fun ix _ => 61 - (intOf ix).toNat)
    case atStart => exact ⟨0, Nat.zero_le _, rfl, Below.refl _ _⟩
    case round =>
      obtain ⟨k, hk, rfl, hbk⟩ := hrel
      by_cases hlt : k < S.length
      · obtain ⟨b, off, rfl, hbl, hcell⟩ := hr (by omega)
        obtain ⟨q1, q2, q3⟩ := hcell k hlt
        replace q1 := (hbk.cell (p := ⟨b, off + k * 3, none⟩) hbl).trans q1
        replace q2 := (hbk.cell (p := ⟨b, off + k * 3 + 1, none⟩) hbl).trans q2
        replace q3 := (hbk.cell (p := ⟨b, off + k * 3 + 2, none⟩) hbl).trans q3
        have hxm : S[k]?.getD ⟨0, 0, 0⟩ ∈ S := by rw [List.getElem?_eq_getElem hlt]; exact List.getElem_mem _
        replace hxm := HMEM.out _ hxm
        generalize S[k]?.getD ⟨0, 0, 0⟩ = x at *
        clear hr hcell
        have hsz := hbk.size
        have hk9 : (wr.alloc (.cells #[.int .i64 x.id, .int .i64 x.lev, .int .i64 x.used] 32)).heap[b16]? = some (.cells #[.int .i64 i, .int .i64 (min old.lev L), .int .i64 c] 32) := (Below.heap_alloc _ _ _ (by omega)).trans ((hbk.block b16 hz8).trans HK8.out)
        have r1 : (wr.alloc (.cells #[.int .i64 x.id, .int .i64 x.lev, .int .i64 x.used] 32)).cell? ⟨b16, 0, none⟩ = some (.int .i64 i) := by simp [World.cell?, hk9]
        have r2 : (wr.alloc (.cells #[.int .i64 x.id, .int .i64 x.lev, .int .i64 x.used] 32)).cell? ⟨b16, 1, none⟩ = some (.int .i64 (min old.lev L)) := by simp [World.cell?, hk9]
        have r3 : (wr.alloc (.cells #[.int .i64 x.id, .int .i64 x.lev, .int .i64 x.used] 32)).cell? ⟨b16, 2, none⟩ = some (.int .i64 c) := by simp [World.cell?, hk9]
        have hb9 := hbk.alloc hsz (.cells #[.int .i64 x.id, .int .i64 x.lev, .int .i64 x.used] 32)
        clear hk9
        by_cases hxi : x.id = i
        · have e1 : (x.id != i) = false := by simpa using hxi
          have HX := Lib.hid hxi; clear hxi
          go_wp2_with fail
          exact ⟨⟨k + 1, by omega, by simp, hb9⟩, by simp [intOf]; omega⟩
        · have e1 : (x.id != i) = true := by simpa using hxi
          by_cases hxl : x.lev = min old.lev L
          · have e2 : (x.lev == min old.lev L) = true := by simpa using hxl
            have hbt : bt ⟨i, min old.lev L, c⟩ x = true := by
              have := HBET.out x hxm hxi
              exact this hxl
            have HX := Lib.hid hxl; clear hxl
            have hq := better_any ⟨i, min old.lev L, c⟩ x
            rw [hbt] at hq
            have HQ := Lib.hid hq; clear hq
            go_wp2_with fail
            refine (HQ.out _).mono ?_
            rintro e w9 ⟨rfl, hb10⟩
            have hb11 := hb9.trans (hb10.mono hb9.size)
            go_wp2_with fail
            exact ⟨⟨k + 1, by omega, by simp, hb11⟩, by simp [intOf]; omega⟩
          · have e2 : (x.lev == min old.lev L) = false := by simpa using hxl
            go_wp2_with fail
            exact ⟨⟨k + 1, by omega, by simp, hb9⟩, by simp [intOf]; omega⟩
      · obtain rfl : k = S.length := by omega
        clear hr
        have hT9 := hT8.below hbk
        have hb09 := hb08.trans (hbk.mono hb08.size)
        have hT2l : (T.filter (fun y => y.id ≠ i)).length ≤ 60 := by have := HLEN2.out; omega
        clear hT8 hbk hb08
        go_wp2_with fail
        have hq1 := remove_any wr p m _ _ i hT9 hwf
        rw [HREM.out] at hq1
        refine hq1.mono ?_
        clear hq1
        rintro e w10 ⟨rfl, hT10, hbt10⟩
        have hb10 := hbt10.below hb09 hpw hmw hb09.size
        clear hT9 hbt10 hb09
        go_wp2_with fail
        have hq2 := len_any w10 p m _ _ hT10
        rw [show (((T.filter (fun y => y.id ≠ i)).length : Nat) : Int) = (n : Int) - 1 by have := HLEN2.out; omega] at hq2
        refine hq2.mono ?_
        clear hq2
        rintro e w11 ⟨rfl, rfl⟩
        go_wp2_with fail
        have hq3 := use_any w10 p m _ _ i 1 hT10 hwf (by omega) (by omega)
        rw [us_use] at hq3
        refine hq3.mono ?_
        clear hq3
        rintro e w11 ⟨rfl, hT11, hbt11⟩
        have hb11 := hbt11.below hb10 hpw hmw hb10.size
        clear hT10 hbt11 hb10
        go_wp2_with fail
        have hq4 := put_any w11 p m _ _ i 7 hT11 hwf (by omega) (by omega)
        rw [us_put T i (c + 1) (by omega) (by omega)] at hq4
        refine hq4.mono ?_
        clear hq4
        rintro e w12 ⟨rfl, hT12, hbt12⟩
        have hb12 := hbt12.below hb11 hpw hmw hb11.size
        clear hT11 hbt12 hb11
        go_wp2_with fail
        have hq5 := info_any w12 p m _ _ i hT12 hwf
        rw [(infoOf_put T i 7 (c + 1)).1, (infoOf_put T i 7 (c + 1)).2] at hq5
        refine hq5.mono ?_
        clear hq5
        rintro e w13 ⟨rfl, hT13, hb13⟩
        have hb013 := hb12.trans (hb13.mono hb12.size)
        unfold Inf.val
        clear hT12 hT13 hb13 hb12
        go_wp2_with fail
        go_ret
        exact ⟨rfl, hb013.alloc hb013.size _⟩
end Go.Proofs.Ytcpcoomkapblcaa
