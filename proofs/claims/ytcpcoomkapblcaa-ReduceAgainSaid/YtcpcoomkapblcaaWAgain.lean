import Derived.Test.YtcpcoomkapblcaaRedP
import Derived.Test.YtcpcoomkapblcaaMade
import Derived.Test.YtcpcoomkapblcaaAwake
import Derived.Test.YtcpcoomkapblcaaStructs
open Go Go.RowKit Go.Maps
namespace Go.Proofs.Ytcpcoomkapblcaa
/-- How many of the first k have few levels. -/
def keepN (l : List Inf) : Nat := (l.filter (fun x => decide (x.lev ≤ 2))).length
theorem keepN_snoc (l : List Inf) (x : Inf) : keepN (l ++ [x]) = keepN l + if x.lev ≤ 2 then 1 else 0 := by
  unfold keepN
  rw [List.filter_append, List.length_append]
  by_cases h : x.lev ≤ 2 <;> simp [h]
theorem own_form {w : World} {base e size : Nat} {v : Value} {n : Nat} {xs : List Value} (h : w.ownsRow base e size v n xs) : ∃ A c, v = .slice A n c := by
  rcases h.2 with ⟨rfl, h0⟩ | ⟨g, cap, cur, rfl, _⟩
  · exact ⟨none, 0, by rw [h0]⟩
  · exact ⟨_, _, rfl⟩
theorem keepN_le (l : List Inf) : keepN l ≤ l.length := List.length_filter_le _ _
theorem keepN_sort (T : List Inf) : keepN (sortI T) = keepN T := ((List.mergeSort_perm _ _).filter _).length_eq
set_option maxRecDepth 10000000 in
set_option maxHeartbeats 4000000 in
theorem reduceAgain_any (w : World) (lv uv : Value) (ls us : List Int) (hl : RdB w.heap.size w lv ls) (hu : RdB w.heap.size w uv us) (hll : ls.length ≤ maxLen) (hul : us.length ≤ maxLen) :
    Calls Try.prog 4 #[lv, uv] w fun e w' => e = .returned (.bool true) ∧ Below w.heap.size w w' := by
  obtain ⟨A0, n0, c0, rfl⟩ := hl.form
  obtain ⟨hu0, A1, c1, rfl, hc1, hcn1, hur⟩ := id hu
  go_enter Try.func4, Try.ntmps4
  go_wp2_with fail
  refine (awake_any _).mono ?_
  rintro e w1 ⟨rfl, hb1⟩
  go_wp2_with fail
  have hsz1 := hb1.size
  refine (made_any w1 _ _ ls us ((hl.below hb1).more hsz1) ((hu.below hb1).more hsz1) hll hul).mono ?_
  rintro e w2 ⟨p, m, rfl, hT2, hp, hm, hb2⟩
  have hn60 : madeN ls ≤ 60 := by unfold madeN; omega
  have hj20 : madeJ us ≤ 20 := by unfold madeJ; omega
  obtain ⟨hgd, hcl⟩ := madeS_good ls us (madeJ us) (by unfold madeJ; omega)
  go_wp2_with fail
  refine (clock_any w2 p m _ _ hT2).mono ?_
  rintro e w3 ⟨rfl, rfl⟩
  go_wp2_with fail
  refine (infos_any w2 p m _ _ hT2 (by show (madeS ls us (madeJ us)).1.length ≤ 300; rw [hgd.len]; omega)).mono ?_
  rintro e w3 ⟨v, rfl, hown, hb3⟩
  have hTn : (madeT ls us).length = madeN ls := hgd.len
  have hrd := RdS.of_own hown
  have hSn : (sortI (madeT ls us)).length = madeN ls := by rw [← hTn]; exact (List.mergeSort_perm _ _).length_eq
  have hkS : keepN (sortI (madeT ls us)) = keepN (madeT ls us) := keepN_sort _
  have hgk := goN_keep (madeT ls us)
  have hkd : keepN (madeT ls us) = ((madeT ls us).filter (fun x => decide (x.lev ≤ 2))).length := rfl
  rw [← hkd] at hgk
  have HKS := Lib.hid hkS; clear hkS hkd
  generalize sortI (madeT ls us) = S at *
  obtain ⟨A, cap, rfl, hcap, hr⟩ := hrd
  rw [hSn]
  have HSn := Lib.hid hSn
  have HTn := Lib.hid hTn
  have HGK := Lib.hid hgk
  have hSb : S.length ≤ 60 := by omega
  clear hSn hTn hgk hown hur hgd
  have hb02 : Below w.heap.size w w2 := hb1.trans (hb2.mono hsz1)
  go_wp2_with fail
  go_loopw [9, 31] (fun v i wr => ∃ k : Nat, k ≤ madeN ls ∧ i = .int .i64 k ∧ v = .int .i64 (keepN (S.take k)) ∧ Below w3.heap.size w3 wr) (fun _ i _ => 61 - (intOf i).toNat)
  case atStart => exact ⟨0, Nat.zero_le _, rfl, rfl, Below.refl _ _⟩
  case round =>
    obtain ⟨k, hk, rfl, rfl, hbk⟩ := hrel
    have hkl := keepN_le (S.take k)
    have htl : (S.take k).length ≤ 60 := by rw [List.length_take]; omega
    by_cases hlt : k < madeN ls
    · have hlS : k < S.length := by have := HSn.out; omega
      obtain ⟨b, off, rfl, hbl, hcell⟩ := hr (by omega)
      obtain ⟨q1, q2, q3⟩ := hcell k hlS
      replace q1 := (hbk.cell (p := ⟨b, off + k * 3, none⟩) hbl).trans q1
      replace q2 := (hbk.cell (p := ⟨b, off + k * 3 + 1, none⟩) hbl).trans q2
      replace q3 := (hbk.cell (p := ⟨b, off + k * 3 + 2, none⟩) hbl).trans q3
      have hs : S.take (k + 1) = S.take k ++ [S[k]?.getD ⟨0, 0, 0⟩] := by
        rw [List.take_succ_eq_append_getElem hlS]; simp [hlS]
      have hks : keepN (S.take (k + 1)) = keepN (S.take k) + if (S[k]?.getD ⟨0, 0, 0⟩).lev ≤ 2 then 1 else 0 := by rw [hs, keepN_snoc]
      generalize S[k]?.getD ⟨0, 0, 0⟩ = x at *
      have HKs := Lib.hid hks
      clear hs hks hr hcell
      generalize keepN (S.take k) = K at *
      by_cases h2 : x.lev ≤ 2
      · go_wp2_with fail
        exact ⟨⟨k + 1, by omega, by simp, by rw [HKs.out, if_pos h2]; simp, hbk.alloc hbk.size _⟩, by simp [intOf]; omega⟩
      · go_wp2_with fail
        exact ⟨⟨k + 1, by omega, by simp, by rw [HKs.out, if_neg h2]; simp, hbk.alloc hbk.size _⟩, by simp [intOf]; omega⟩
    · obtain rfl : k = madeN ls := by omega
      clear hr hkl htl
      have hKK : (keepN (S.take (madeN ls)) : Int) = madeN ls - goN [] (madeT ls us) := by
        have h1 := HSn.out; have h2 := HTn.out; have h3 := HGK.out; have h4 := HKS.out
        rw [← h1, List.take_length, h4]; omega
      have hGn : goN [] (madeT ls us) ≤ madeN ls := by have := HGK.out; have := HTn.out; omega
      have HKK := Lib.hid hKK
      generalize keepN (S.take (madeN ls)) = K at *
      have hKn : K ≤ 60 := by omega
      clear hKK
      have hTw : Tab wr p m (madeT ls us) (madeC ls us) := hT2.below (hb3.trans (hbk.mono hb3.size))
      have hbw : Below w.heap.size w wr := hb02.trans ((hb3.trans (hbk.mono hb3.size)).mono hb02.size)
      have hTlen := agT_len hTw.apart
      have hTgo := agT_go hTw.apart
      generalize goN [] (madeT ls us) = G at *
      have HTL := Lib.hid hTlen
      have HTG := Lib.hid hTgo
      have h8 := halfs8 G (by omega)
      clear hTlen hTgo hT2 hbk hb3 hb02 HKS HSn
      go_wp2_with fail
      go_loopw [12, 44] (fun v i wr => ∃ j : Nat, j ≤ 8 ∧ i = .int .i64 j ∧ v = .int .i64 (halfs G j : Nat) ∧ Tab wr p m (agT (madeT ls us) j) (madeC ls us) ∧ Below w.heap.size w wr) (fun _ i _ => 9 - (intOf i).toNat)
      case atStart => exact ⟨0, by omega, rfl, by rw [HKK.out]; simp only [halfs]; go_num, hTw, hbw⟩
      case round =>
        clear hTw hbw
        obtain ⟨j, hj, rfl, rfl, hT, hbk⟩ := hrel
        have hl300 : (agT (madeT ls us) j).length ≤ 300 := by have := HTL.out j; have := halfs_le G j; have := HTn.out; omega
        by_cases hlt : j < 8
        · have hgl := redGs_len (agT (madeT ls us) j) []
          rw [HTG.out j] at hgl
          have hh : halfs G (j + 1) = halfs G j - halfs G j / 2 := rfl
          have hHl := halfs_le G j
          have HH := Lib.hid hh; clear hh
          generalize hhj : halfs G j = h at *
          have HHJ := Lib.hid hhj; clear hhj
          go_wp2_with fail
          refine (reduce_any wr p m _ _ hT hl300 (.slice none 0 0) [] (RdI.nil _ _) (by simp)).mono ?_
          rintro e w4 ⟨v, rfl, hown, hT4, hbt⟩
          rw [hgl] at hown
          have hrd := RdI.of_own hown
          generalize redGs (agT (madeT ls us) j) [] = gs at *
          obtain ⟨A4, c4, rfl⟩ := own_form hown
          clear hown hrd hgl hT hl300
          go_wp2_with fail
          exact ⟨⟨j + 1, by omega, by simp, by rw [HH.out, show ((h - h / 2 : Nat) : Int) = (h : Int) - (h : Int) / 2 by omega], hT4, hbt.below hbk (by omega) (by omega) (by have := hbk.size; omega)⟩, by simp [intOf]; omega⟩
        · obtain rfl : j = 8 := by omega
          have hH8 : halfs G 8 ≤ 1 := by assumption
          have hln := HTL.out 8
          have hlr := len_any wr p m _ _ hT
          have hck := clock_any wr p m _ _ hT
          have hlK : (agT (madeT ls us) 8).length = K + halfs G 8 := by
            have h2 := HKK.out; have h3 := HTn.out; omega
          rw [hlK] at hlr
          have hcl' : madeC ls us = (madeN ls : Int) + (madeJ us : Int) * min (madeN ls : Int) 1 := hcl
          generalize halfs G 8 = h at *
          have HLR := Lib.hid hlr; clear hlr
          have HCK := Lib.hid hck; clear hck
          have HCL := Lib.hid hcl'; clear hcl' hcl hln hlK hT hl300
          go_wp2_with fail
          refine HLR.out.mono ?_
          rintro e w5 ⟨rfl, rfl⟩
          go_wp2_with fail
          refine HCK.out.mono ?_
          rintro e w5 ⟨rfl, rfl⟩
          go_wp2_with fail
          go_ret
          refine ⟨rb ?_, hbk⟩
          have e1 : min (us.length : Int) 20 = (madeJ us : Int) := by unfold madeJ; omega
          have b1 : 0 ≤ (madeJ us : Int) * min (madeN ls : Int) 1 ∧ (madeJ us : Int) * min (madeN ls : Int) 1 ≤ 20 * 1 :=
            ⟨Int.mul_nonneg (by omega) (by omega), Int.mul_le_mul (by omega) (by omega) (by omega) (by omega)⟩
          rw [e1, HCL.out, show wrap64 ((madeJ us : Int) * min (madeN ls : Int) 1) = (madeJ us : Int) * min (madeN ls : Int) 1 by unfold wrap64; omega]
          generalize (madeJ us : Int) * min (madeN ls : Int) 1 = q at *
          rw [show wrap64 ((madeN ls : Int) + q) = (madeN ls : Int) + q by unfold wrap64; omega]
          simp
end Go.Proofs.Ytcpcoomkapblcaa
