import Derived.Test.YtcpcoomkapblcaaMadeP
import Derived.Test.YtcpcoomkapblcaaRow
import Derived.Deep.DeepCutAuto
open Go Go.RowKit Go.Maps
namespace Go.Proofs.Ytcpcoomkapblcaa
theorem wf_small {i : Int} (h0 : 0 ≤ i) (h1 : i ≤ 1000000) : (Lit.int .i64 i).wf = true := by
  simp [Lit.wf, IntKind.min, IntKind.max, IntKind.signed, IntKind.bits]; omega
set_option maxRecDepth 10000000 in
set_option maxHeartbeats 4000000 in
theorem made_any (w : World) (lv uv : Value) (ls us : List Int) (hl : RdB w.heap.size w lv ls) (hu : RdB w.heap.size w uv us) (hll : ls.length ≤ maxLen) (hul : us.length ≤ maxLen) :
    Calls Try.prog 15 #[lv, uv] w fun e w' => ∃ p m, e = .returned (.tuple #[.pointer (some ⟨p, 0, none⟩), .int .i64 (madeN ls), .bool true]) ∧ Tab w' p m (madeT ls us) (madeC ls us) ∧ w.heap.size ≤ p ∧ w.heap.size ≤ m ∧ Below w.heap.size w w' := by
  obtain ⟨hl0, A, cap, rfl, hcl, hcn, hlr⟩ := hl
  obtain ⟨hu0, A', cap', rfl, hcu, hcn', hur⟩ := hu
  unfold maxLen at hll hul
  have hN : madeN ls = min ls.length 60 := rfl
  have hJ : madeJ us = min us.length 20 := rfl
  have HNN := Lib.hid hN; clear hN
  have HJJ := Lib.hid hJ; clear hJ
  have hA : (A' = none ∧ cap' = 0 ∧ us = []) ∨ ∃ a, A' = some a := by
    cases A' with
    | none => exact .inl ⟨rfl, hcn' rfl, List.eq_nil_of_length_eq_zero (by have := hcn' rfl; omega)⟩
    | some a => exact .inr ⟨a, rfl⟩
  rcases hA with ⟨rfl, hc0, hus⟩ | ⟨a, rfl⟩
  all_goals first
    | (have hl0' : us.length = 0 := by (rw [hus]; rfl)
       rw [hl0', hc0]
       have hus0 : us.length ≤ 0 := by omega
       clear hcu hc0 hus hl0')
    | skip
  all_goals
    clear hcn hcn'
    go_enter Try.func15, Try.ntmps15
    go_wp2_with fail
    refine (new_any w).mono ?_
    rintro e w1 ⟨p, m, rfl, ht1, hp, hm, hb1⟩
    go_upto_region 4 with (fail)
    go_cut [8] (fun s8 wx => s8 = .int .i64 (madeN ls : Nat) ∧ wx = w1)
    case first =>
      go_wp2_with fail
      all_goals
        go_meet
        first
          | (have hm1 : madeN ls = ls.length := by (have := HNN.out; omega)
             exact ⟨by rw [hm1], rfl⟩)
          | (have hm1 : madeN ls = 60 := by (have := HNN.out; omega)
             exact ⟨by rw [hm1]; rfl, rfl⟩)
    case rest =>
      obtain ⟨rfl, rfl⟩ := hcut
      have hnl : madeN ls ≤ ls.length := by have := HNN.out; omega
      have hn60 : madeN ls ≤ 60 := by have := HNN.out; omega
      go_wp2_with fail
      go_loopw [19] (fun i wr => ∃ k : Nat, k ≤ madeN ls ∧ i = .int .i64 k ∧ Tab wr p m (mkT ls k) k ∧ Below w.heap.size w wr) (fun i _ => 61 - (intOf i).toNat)
      case atStart => exact ⟨0, Nat.zero_le _, rfl, by simpa [mkT] using ht1, hb1⟩
      case round =>
        obtain ⟨k, hk, rfl, hT, hbk⟩ := hrel
        by_cases hlt : k < madeN ls
        · obtain ⟨b, off, rfl, hbl, hcell⟩ := hlr (by omega)
          have hck : wr.cell? ⟨b, off + k, none⟩ = some (.int .u8 (ls[k]?.getD 0)) := (hbk.cell (p := ⟨b, off + k, none⟩) hbl).trans (hcell k (by omega))
          have hz : 0 ≤ ls[k]?.getD 0 ∧ ls[k]?.getD 0 ≤ 255 := by
            rw [List.getElem?_eq_getElem (by omega)]; exact hl0 _ (List.getElem_mem _)
          have hput := put_any wr p m (mkT ls k) k ((k : Int) + 1) ((ls[k]?.getD 0) % 8) hT (wf_small (by omega) (by omega)) (by omega) (by simp [mkT]; omega)
          rw [mkT_put ls k (by omega)] at hput
          generalize ls[k]?.getD 0 = z at *
          obtain ⟨hz0, hz1⟩ := hz
          have HP := Lib.hid hput; clear hput hcell hlr
          go_wp2_with fail
          refine HP.out.mono ?_
          rintro e w2 ⟨rfl, hT2, hbt⟩
          go_wp2_with fail
          go_roundw
          case rel => exact ⟨k + 1, by omega, by go_num, hT2, hbt.below hbk hp hm (by have := hbk.size; omega)⟩
          case measure => simp [intOf]; omega
        · obtain rfl : k = madeN ls := by omega
          clear hlr ht1
          go_upto_region 11 with (fail)
          go_cut [38, 39, 40] (fun s38 s39 s40 wx => (∃ A c, s38 = .slice A (madeJ us) c ∧ (0 < us.length → ∃ b off, A = some ⟨b, off, none⟩ ∧ b < w.heap.size ∧ ∀ j, j < us.length → w.cell? ⟨b, off + j, none⟩ = some (.int .u8 (us[j]?.getD 0)))) ∧ s39 = .int .i64 (madeJ us : Nat) ∧ s40 = .int .i64 0 ∧ wx = wr)
          case first =>
            clear hT
            have hnu : ¬ us.length < 0 := by omega
            go_wp2_with fail
            all_goals
              go_meet
              first
                | (have hm1 : madeJ us = 0 := by (have := HJJ.out; omega)
                   rw [hm1]
                   exact ⟨⟨none, 0, rfl, fun h => by omega⟩, rfl, rfl, rfl⟩)
                | (have hm1 : madeJ us = us.length := by (have := HJJ.out; omega)
                   rw [hm1]
                   exact ⟨⟨_, _, rfl, hur⟩, rfl, rfl, rfl⟩)
                | (have hm1 : madeJ us = 20 := by (have := HJJ.out; omega)
                   rw [hm1]
                   exact ⟨⟨_, _, rfl, hur⟩, rfl, rfl, rfl⟩)
          case rest =>
            obtain ⟨⟨A2, c2, rfl, hA2⟩, rfl, rfl, rfl⟩ := hcut
            clear hur
            have hjl : madeJ us ≤ us.length := by have := HJJ.out; omega
            have hj20 : madeJ us ≤ 20 := by have := HJJ.out; omega
            go_wp2_with fail
            go_loopw [40] (fun i wr => ∃ k : Nat, k ≤ madeJ us ∧ i = .int .i64 k ∧ Tab wr p m (madeS ls us k).1 (madeS ls us k).2 ∧ Below w.heap.size w wr) (fun i _ => 21 - (intOf i).toNat)
            case atStart => exact ⟨0, Nat.zero_le _, rfl, by rw [madeS_zero]; exact hT, hbk⟩
            case round =>
              clear hT hbk
              obtain ⟨k, hk, rfl, hT, hbk⟩ := hrel
              obtain ⟨hgd, hcl⟩ := madeS_good ls us k (by omega)
              by_cases hlt : k < madeJ us
              · try (exfalso; omega)
                all_goals
                  obtain ⟨b, off, rfl, hbl, hcell⟩ := hA2 (by omega)
                  have hck : wr.cell? ⟨b, off + k, none⟩ = some (.int .u8 (us[k]?.getD 0)) := (hbk.cell (p := ⟨b, off + k, none⟩) hbl).trans (hcell k (by omega))
                  have hz : 0 ≤ us[k]?.getD 0 ∧ us[k]?.getD 0 ≤ 255 := by
                    rw [List.getElem?_eq_getElem (by omega)]; exact hu0 _ (List.getElem_mem _)
                  by_cases hn0 : 0 < madeN ls
                  · have hsucc := madeS_succ ls us k (by omega) hn0
                    obtain ⟨-, -, hs3⟩ := useF_good hn0 hgd (us[k]?.getD 0)
                    generalize us[k]?.getD 0 = z at *
                    obtain ⟨hz0, hz1⟩ := hz
                    have hmod0 := Int.emod_nonneg z (show (madeN ls : Int) ≠ 0 by omega)
                    have hmod1 := Int.emod_lt_of_pos z (show (0 : Int) < madeN ls by omega)
                    have hm1 : min (madeN ls : Int) 1 = 1 := by omega
                    rw [hm1] at hcl
                    have huse := use_any wr p m (madeS ls us k).1 (madeS ls us k).2 (1 + z % (madeN ls : Int)) (z % 11) hT (wf_small (by omega) (by omega)) (by omega) (by rw [hgd.len]; omega)
                    rw [hs3] at huse
                    have HU := Lib.hid huse
                    have HS := Lib.hid hsucc
                    clear hs3 huse hsucc hcl hcell hA2 hm1 hgd
                    go_wp2_with fail
                    refine HU.out.mono ?_
                    rintro e w2 ⟨rfl, hT2, hbt⟩
                    go_wp2_with fail
                    go_roundw
                    case rel => exact ⟨k + 1, by omega, by go_num, by rw [HS.out]; exact hT2, hbt.below hbk hp hm (by have := hbk.size; omega)⟩
                    case measure => simp [intOf]; omega
                  · have hn0' : madeN ls = 0 := by omega
                    have hs1 := madeS_none ls us k hn0'
                    have hs2 := madeS_none ls us (k + 1) hn0'
                    rw [← hs2] at hs1
                    generalize us[k]?.getD 0 = z at *
                    obtain ⟨hz0, hz1⟩ := hz
                    have HS := Lib.hid hs1
                    have HN0 := Lib.hid hn0'
                    have hd0 : decide (0 < (madeN ls : Int)) = false := by simp; omega
                    have hd1 : ¬ (0 < (madeN ls : Int)) := by omega
                    clear hs1 hs2 hn0' hcl hcell hA2 hgd hn0
                    go_wp2_with fail
                    go_roundw
                    case rel => exact ⟨k + 1, by omega, by go_num, by rw [← HS.out]; exact hT, hbk⟩
                    case measure => simp [intOf]; omega
              · obtain rfl : k = madeJ us := by omega
                clear hA2 hcl hgd
                go_wp2_with fail
                go_returns
                exact ⟨p, m, rfl, hT, hp, hm, hbk⟩
end Go.Proofs.Ytcpcoomkapblcaa
