/- ReduceOrder's walk: Better is an order on a table, All is in it, and Sorted of any turn is the same. -/
import Derived.Test.YtcpcoomkapblcaaOrdP
open Go Go.RowKit Go.Maps
namespace Go.Proofs.Ytcpcoomkapblcaa
open Go.Shelf
/-- The turn: by how many places the list is turned. -/
def turnN (n : Nat) (t : Int) : Nat := if n = 0 then 0 else (t % (n : Int)).toNat
theorem turnN_le (n : Nat) (t : Int) : turnN n t ≤ n ∧ (0 < n → turnN n t < n) := by
  unfold turnN
  split
  · omega
  · have h1 := Int.emod_lt_of_pos t (show (0 : Int) < n by omega)
    have h2 := Int.emod_nonneg t (show (n : Int) ≠ 0 by omega)
    omega
theorem concat_any' (w : World) (q : Nat) (A1 A2 : Option Addr) (n1 n2 c1 c2 : Nat) (T1 T2 : List Inf) (h1 : n1 = T1.length) (h2 : n2 = T2.length) (hq : w.heap[q]? = some (.cells #[.slice A1 n1 c1, .slice A2 n2 c2] 29 (0, 0)))
    (hr1 : RdS w.heap.size w (.slice A1 n1 c1) T1) (hr2 : RdS w.heap.size w (.slice A2 n2 c2) T2) (hA1 : A1 = none → c1 = 0) (hA2 : A2 = none → c2 = 0) (hb : T1.length + T2.length ≤ 1000) :
    Calls Try.prog 37 #[.slice (some ⟨q, 0, none⟩) 2 2] w fun e w' => ∃ v, e = .returned v ∧ w'.ownsRow w.heap.size 32 3 v (T1 ++ T2).length ((T1 ++ T2).flatMap Inf.enc) ∧ RowKit.Below w.heap.size w w' := by
  subst h1 h2
  exact concat_any w q A1 A2 c1 c2 T1 T2 hq hr1 hr2 hA1 hA2 hb
theorem sorted_own (w : World) (base : Nat) (v : Value) (T : List Inf) (hown : w.ownsRow base 32 3 v T.length (T.flatMap Inf.enc)) (hT : T.length ≤ 1000000) :
    Calls Try.prog 39 #[v] w fun e w' => ∃ v', e = .returned v' ∧ w'.ownsRow w.heap.size 32 3 v' T.length ((sortI T).flatMap Inf.enc) ∧ RowKit.Below w.heap.size w w' := by
  rcases hown.2 with ⟨rfl, h0⟩ | ⟨g, cap, cur, rfl, -⟩
  · rw [h0]
    refine (sortedL_none 0 w).mono ?_
    rintro e w' ⟨rfl, rfl⟩
    have hT0 : T = [] := List.eq_nil_of_length_eq_zero h0
    subst hT0
    exact ⟨_, rfl, by simpa [sortI] using World.ownsRow_nil _ _ _ _, RowKit.Below.refl _ _⟩
  · exact sortedL_some g 0 cap T w hT (fun k hk => by rw [Nat.zero_add]; exact row_cells hown k hk)
theorem four_cells3 {W : World} {g : Nat} {t : TypeId} {a b c : Value} (h : W.heap[g]? = some (.cells #[a, b, c] t (0, 0))) :
    W.cell? ⟨g, 0, none⟩ = some a ∧ W.cell? ⟨g, 1, none⟩ = some b ∧ W.cell? ⟨g, 2, none⟩ = some c ∧ W.frozen? ⟨g, 0, none⟩ = false ∧ W.frozen? ⟨g, 1, none⟩ = false ∧ W.frozen? ⟨g, 2, none⟩ = false := by
  simp [World.cell?, World.frozen?, h]
set_option maxRecDepth 10000000 in
set_option maxHeartbeats 4000000 in
theorem reduceOrder_any (w : World) (lv uv : Value) (ls us : List Int) (tz : Int) (ht0 : 0 ≤ tz) (ht1 : tz ≤ 255) (hl : RdB w.heap.size w lv ls) (hu : RdB w.heap.size w uv us) (hll : ls.length ≤ maxLen) (hul : us.length ≤ maxLen) :
    Calls Try.prog 11 #[lv, uv, .int .u8 tz] w fun e w' => e = .returned (.bool true) ∧ RowKit.Below w.heap.size w w' := by
  obtain ⟨A0, n0, c0, rfl⟩ := hl.form
  obtain ⟨hu0, A1, c1, rfl, hc1, hcn1, hur⟩ := id hu
  go_enter Try.func11, Try.ntmps11
  go_wp2_with fail
  refine (awake_any _).mono ?_
  rintro e w1 ⟨rfl, hb1⟩
  go_wp2_with fail
  have hsz1 := hb1.size
  refine (made_any w1 _ _ ls us ((hl.below hb1).more hsz1) ((hu.below hb1).more hsz1) hll hul).mono ?_
  rintro e w2 ⟨p, m, rfl, hT2, hp, hm, hb2⟩
  have hn60 : madeN ls ≤ 60 := by unfold madeN; omega
  obtain ⟨hgd, hcl⟩ := madeS_good ls us (madeJ us) (by unfold madeJ; omega)
  go_wp2_with fail
  refine (infos_any w2 p m _ _ hT2 (by show (madeS ls us (madeJ us)).1.length ≤ 300; rw [hgd.len]; omega)).mono ?_
  rintro e w3 ⟨v, rfl, hown, hb3⟩
  have hTn : (madeT ls us).length = madeN ls := hgd.len
  have hSn : (sortI (madeT ls us)).length = madeN ls := by rw [← hTn]; exact (List.mergeSort_perm _ _).length_eq
  rw [hTn, ← hSn] at hown
  have hstr : ∀ i k, i < madeN ls → k < madeN ls → bt ((sortI (madeT ls us))[i]?.getD ⟨0, 0, 0⟩) ((sortI (madeT ls us))[k]?.getD ⟨0, 0, 0⟩) = decide (i < k) :=
    fun i k h1 h2 => sorted_strict (sortedI_sortI _) (apart_sortI hT2.apart) (by omega) (by omega)
  have hturn := fun k => sortI_turn (madeT ls us) k
  have hrd := RdS.of_own hown
  have HSTR := Lib.hid hstr
  have HTURN := Lib.hid hturn
  have hbw : RowKit.Below w.heap.size w w3 := hb1.trans ((hb2.trans (hb3.mono hb2.size)).mono hsz1)
  clear hstr hturn hT2 hgd hcl hTn hur hcn1 hc1 hb1 hb2 hb3 hsz1
  generalize sortI (madeT ls us) = S at *
  generalize madeN ls = n at *
  obtain ⟨A, cap, rfl⟩ := own_form' hown
  have hcap : S.length ≤ cap := by
    obtain ⟨A', c', e, h, _⟩ := hrd
    injection e with _ _ e3
    omega
  rw [hSn] at hcap hown ⊢
  have HSn := Lib.hid hSn
  have HOWN := Lib.hid hown
  clear hSn hown
  go_wp2_with fail
  go_loopw [36] (fun i wr => ∃ k : Nat, k ≤ n ∧ i = .int .i64 k ∧ RowKit.Below w3.heap.size w3 wr) (fun i _ => 61 - (intOf i).toNat)
  case atStart => exact ⟨0, Nat.zero_le _, rfl, RowKit.Below.refl _ _⟩
  case round =>
    obtain ⟨k, hk, rfl, hbk⟩ := hrel
    by_cases hlt : k < n
    · obtain ⟨A', c', e, _, hr⟩ := id hrd
      injection e with e1 e2 e3
      subst e1 e3
      obtain ⟨b, off, rfl, hbl, hcell⟩ := hr (by have := HSn.out; omega)
      obtain ⟨q1, q2, q3⟩ := hcell k (by have := HSn.out; omega)
      have hstr := HSTR.out k
      replace q1 := (hbk.cell (p := ⟨b, off + k * 3, none⟩) hbl).trans q1
      replace q2 := (hbk.cell (p := ⟨b, off + k * 3 + 1, none⟩) hbl).trans q2
      replace q3 := (hbk.cell (p := ⟨b, off + k * 3 + 2, none⟩) hbl).trans q3
      generalize S[k]?.getD ⟨0, 0, 0⟩ = x at *
      have HX := Lib.hid hstr
      have HC := Lib.hid hcell
      clear hstr hcell hr e2 hrd
      have hszk := hbk.size
      obtain ⟨wo, rfl⟩ : ∃ wo : World, wo = wr := ⟨_, rfl⟩
      have hblk := heap_alloc_new wo (.cells #[.int .i64 x.id, .int .i64 x.lev, .int .i64 x.used] 32)
      have HBLK := Lib.hid hblk
      clear hblk
      go_wp2_with fail
      go_loopw [43] (fun i wr => ∃ j : Nat, j ≤ n ∧ i = .int .i64 j ∧ RowKit.Below (wo.heap.size + 1) (wo.alloc (.cells #[.int .i64 x.id, .int .i64 x.lev, .int .i64 x.used] 32)) wr) (fun i _ => 61 - (intOf i).toNat)
      case atStart => exact ⟨0, Nat.zero_le _, rfl, RowKit.Below.refl _ _⟩
      case round =>
        obtain ⟨j, hj, rfl, hbj⟩ := hrel
        have hwj : RowKit.Below wo.heap.size wo wr := ((RowKit.Below.refl _ wo).alloc (Nat.le_refl _) _).trans (hbj.mono (by omega))
        have hszj := hbj.size
        have hsz1 : wo.heap.size + 1 ≤ wr.heap.size := by simpa using hszj
        by_cases hlj : j < n
        · have hst := HX.out j hlt hlj
          obtain ⟨r1, r2, r3⟩ := HC.out j (by have := HSn.out; omega)
          have hwy := hbk.trans (hwj.mono hszk)
          replace r1 := (hwy.cell (p := ⟨b, off + j * 3, none⟩) hbl).trans r1
          replace r2 := (hwy.cell (p := ⟨b, off + j * 3 + 1, none⟩) hbl).trans r2
          replace r3 := (hwy.cell (p := ⟨b, off + j * 3 + 2, none⟩) hbl).trans r3
          have hx := (hbj.block wo.heap.size (by omega)).trans HBLK.out
          obtain ⟨s0, s1, s2, _, _, _⟩ := four_cells3 hx
          have t0 := (alloc_cells s0).1
          have t1 := (alloc_cells s1).1
          have t2 := (alloc_cells s2).1
          generalize S[j]?.getD ⟨0, 0, 0⟩ = y at *
          have HST := Lib.hid hst
          have HBY := Lib.hid hwy
          clear hst hx hszj hwy
          by_cases hkj : k < j
          · have hkjz : (k : Int) < (j : Int) := by omega
            have hb := better_any x y
            rw [show bt x y = true by rw [HST.out]; simpa using hkj] at hb
            have HB := Lib.hid hb
            clear hb
            go_wp2_with fail
            refine (HB.out _).mono ?_
            rintro e w5 ⟨rfl, hb5⟩
            go_wp2_with fail
            exact ⟨⟨j + 1, by omega, by go_num, (hbj.alloc (by omega) _).trans (hb5.mono (by simp; omega))⟩, by simp [intOf]; omega⟩
          · have hkjz : ¬ (k : Int) < (j : Int) := by omega
            have hb := better_any x y
            rw [show bt x y = false by rw [HST.out]; simpa using hkj] at hb
            have HB := Lib.hid hb
            clear hb
            go_wp2_with fail
            refine (HB.out _).mono ?_
            rintro e w5 ⟨rfl, hb5⟩
            go_wp2_with fail
            exact ⟨⟨j + 1, by omega, by go_num, (hbj.alloc (by omega) _).trans (hb5.mono (by simp; omega))⟩, by simp [intOf]; omega⟩
        · obtain rfl : j = n := by omega
          go_wp2_with fail
          exact ⟨⟨k + 1, by omega, by go_num, hbk.trans (hwj.mono hszk)⟩, by simp [intOf]; omega⟩
    · obtain rfl : k = n := by omega
      have hk0 := turnN_le k tz
      go_upto_if 58 with (fail)
      go_cut [15] (fun s15 wx => ∃ k0 : Nat, k0 ≤ k ∧ (0 < k → k0 < k) ∧ s15 = .int .i64 k0 ∧ wr = wx)
      case first =>
        by_cases hk1 : 0 < k
        · have hk2 : (0 : Int) < (k : Int) := by omega
          have hk3 : (1 : Int) ≤ (k : Int) := by omega
          have hkd : decide (0 < k) = true := by simpa using hk1
          go_wp2_with fail
          go_meet
          refine ⟨turnN k tz, hk0.1, hk0.2, ?_, rfl⟩
          unfold turnN
          rw [if_neg (by omega)]
          have h2 := Int.emod_nonneg tz (show (k : Int) ≠ 0 by omega)
          rw [Int.toNat_of_nonneg h2]
        · have hk2 : ¬ (0 : Int) < (k : Int) := by omega
          have hkd : decide (0 < k) = false := by simpa using hk1
          go_wp2_with fail
          go_meet
          exact ⟨0, by omega, fun h => absurd h hk1, rfl, rfl⟩
      case rest =>
        obtain ⟨k0, hk1, hk2, rfl, rfl⟩ := hcut
        clear hk0
        rcases HOWN.out.2 with ⟨e0, hn0⟩ | ⟨g, cap', cur, e0, hg1, hg2, hg3, -⟩
        · injection e0 with e1 e2 e3
          subst e1 e2 e3
          obtain rfl : k0 = 0 := by omega
          go_wp2_with fail
          go_still_tail 6, (by kernel_rfl)
          change wpList _ _ _ _ _ wr.drew
          go_wp2_with fail
          have hwx : RowKit.Below w3.heap.size w3 (wr.alloc (.cells #[Value.slice none 0 0, Value.slice none 0 0] 29)).drew := (hbk.alloc hbk.size _).drew
          refine (concat_any' (wr.alloc (.cells #[Value.slice none 0 0, Value.slice none 0 0] 29)).drew wr.heap.size none none 0 0 0 0 (S.drop 0) (S.take 0) (by have := HSn.out; simp <;> omega) (by have := HSn.out; simp <;> omega) (heap_alloc_new wr _) ?_ ?_ (fun _ => rfl) (fun _ => rfl) (by have := HSn.out; simp; omega)).mono ?_
          · exact ⟨_, _, by rw [List.eq_nil_of_length_eq_zero HSn.out]; rfl, by rw [List.eq_nil_of_length_eq_zero HSn.out]; exact Nat.zero_le _, fun h0 => by rw [List.eq_nil_of_length_eq_zero HSn.out] at h0; simp at h0⟩
          · exact ⟨_, _, by rw [List.eq_nil_of_length_eq_zero HSn.out]; rfl, by rw [List.eq_nil_of_length_eq_zero HSn.out]; exact Nat.zero_le _, fun h0 => by rw [List.eq_nil_of_length_eq_zero HSn.out] at h0; simp at h0⟩
          rintro e w4 ⟨v4, rfl, hown4, hb4⟩
          have hb34 : RowKit.Below w3.heap.size w3 w4 := hwx.trans (hb4.mono hwx.size)
          have hl4 : (S.drop 0 ++ S.take 0).length = S.length := by first | (simp; done) | (simp; omega)
          have HOWN4 := Lib.hid hown4
          have HL4 := Lib.hid hl4
          clear hown4 hl4 hb4 hwx
          go_wp2_with fail
          refine (reverse_own _ _ v4 _ HOWN4.out (by have := HL4.out; have := HSn.out; omega)).mono ?_
          rintro e w5 ⟨rfl, hown5, hg5⟩
          have hb35 : RowKit.Below w3.heap.size w3 w5 := hb34.grown hg5 hb34.size (fun q hq => by have := (HOWN4.out.lt q hq).1; simp at this; have := hbk.size; omega)
          have HOWN5 := Lib.hid hown5
          clear hown5 hg5 hb34
          go_wp2_with fail
          refine (sorted_own _ _ v4 _ HOWN5.out (by have := HL4.out; have := HSn.out; simp; omega)).mono ?_
          rintro e w6 ⟨v6, rfl, hown6, hb6⟩
          rw [HTURN.out 0] at hown6
          have hb36 : RowKit.Below w3.heap.size w3 w6 := hb35.trans (hb6.mono hb35.size)
          have hrd6 := RdS.of_own hown6
          have hrd3 := hrd.below hb36
          rw [HSn.out] at hrd3
          have HEQ := Lib.hid (equalS_same w6 _ _ _ _ S hrd6 hrd3 (by have := HSn.out; omega))
          clear hown6 hrd6 hrd3 hb6 hb35
          go_wp2_with fail
          refine HEQ.out.mono ?_
          rintro e w7 ⟨rfl, q7, rfl⟩
          go_wp2_with fail
          go_ret
          exact ⟨rfl, (hbw.trans (hb36.mono hbw.size)).trans (below_drewN' (RowKit.Below.refl _ _) _)⟩
        · injection e0 with e1 e2 e3
          subst e1 e3
          clear e2
          by_cases hck : cap = k0
          · obtain rfl : k = 0 := by omega
            obtain rfl : k0 = 0 := by omega
            subst hck
            go_wp2_with fail
            go_still_tail 6, (by kernel_rfl)
            change wpList _ _ _ _ _ wr.drew
            go_wp2_with fail
            have hwx : RowKit.Below w3.heap.size w3 (wr.alloc (.cells #[Value.slice (some ⟨g, 0, none⟩) 0 0, Value.slice (some ⟨g, 0, none⟩) 0 0] 29)).drew := (hbk.alloc hbk.size _).drew
            refine (concat_any' (wr.alloc (.cells #[Value.slice (some ⟨g, 0, none⟩) 0 0, Value.slice (some ⟨g, 0, none⟩) 0 0] 29)).drew wr.heap.size (some ⟨g, 0, none⟩) (some ⟨g, 0, none⟩) 0 0 0 0 (S.drop 0) (S.take 0) (by have := HSn.out; simp <;> omega) (by have := HSn.out; simp <;> omega) (heap_alloc_new wr _) ?_ ?_ (fun h => by cases h) (fun h => by cases h) (by have := HSn.out; simp; omega)).mono ?_
            · exact ⟨_, _, by rw [List.eq_nil_of_length_eq_zero HSn.out]; rfl, by rw [List.eq_nil_of_length_eq_zero HSn.out]; exact Nat.zero_le _, fun h0 => by rw [List.eq_nil_of_length_eq_zero HSn.out] at h0; simp at h0⟩
            · exact ⟨_, _, by rw [List.eq_nil_of_length_eq_zero HSn.out]; rfl, by rw [List.eq_nil_of_length_eq_zero HSn.out]; exact Nat.zero_le _, fun h0 => by rw [List.eq_nil_of_length_eq_zero HSn.out] at h0; simp at h0⟩
            rintro e w4 ⟨v4, rfl, hown4, hb4⟩
            have hb34 : RowKit.Below w3.heap.size w3 w4 := hwx.trans (hb4.mono hwx.size)
            have hl4 : (S.drop 0 ++ S.take 0).length = S.length := by first | (simp; done) | (simp; omega)
            have HOWN4 := Lib.hid hown4
            have HL4 := Lib.hid hl4
            clear hown4 hl4 hb4 hwx
            go_wp2_with fail
            refine (reverse_own _ _ v4 _ HOWN4.out (by have := HL4.out; have := HSn.out; omega)).mono ?_
            rintro e w5 ⟨rfl, hown5, hg5⟩
            have hb35 : RowKit.Below w3.heap.size w3 w5 := hb34.grown hg5 hb34.size (fun q hq => by have := (HOWN4.out.lt q hq).1; simp at this; have := hbk.size; omega)
            have HOWN5 := Lib.hid hown5
            clear hown5 hg5 hb34
            go_wp2_with fail
            refine (sorted_own _ _ v4 _ HOWN5.out (by have := HL4.out; have := HSn.out; simp; omega)).mono ?_
            rintro e w6 ⟨v6, rfl, hown6, hb6⟩
            rw [HTURN.out 0] at hown6
            have hb36 : RowKit.Below w3.heap.size w3 w6 := hb35.trans (hb6.mono hb35.size)
            have hrd6 := RdS.of_own hown6
            have hrd3 := hrd.below hb36
            rw [HSn.out] at hrd3
            have HEQ := Lib.hid (equalS_same w6 _ _ _ _ S hrd6 hrd3 (by have := HSn.out; omega))
            clear hown6 hrd6 hrd3 hb6 hb35
            go_wp2_with fail
            refine HEQ.out.mono ?_
            rintro e w7 ⟨rfl, q7, rfl⟩
            go_wp2_with fail
            go_ret
            exact ⟨rfl, (hbw.trans (hb36.mono hbw.size)).trans (below_drewN' (RowKit.Below.refl _ _) _)⟩
          · have hz1 : (k0 : Int) ≤ (k : Int) := by omega
            have hz2 : (k : Int) ≤ (cap : Int) := by omega
            have hz3 : (0 : Int) ≤ (k0 : Int) := by omega
            have hz4 : (k0 : Int) ≤ (cap : Int) := by omega
            have hck' : ¬ k0 = cap := by omega
            go_wp2_with fail
            go_still_tail 6, (by kernel_rfl)
            change wpList _ _ _ _ _ wr.drew
            go_wp2_with fail
            have hwx : RowKit.Below w3.heap.size w3 (wr.alloc (.cells #[Value.slice (some ⟨g, k0 * 3, none⟩) (k - k0) (cap - k0), Value.slice (some ⟨g, 0, none⟩) k0 cap] 29)).drew := (hbk.alloc hbk.size _).drew
            refine (concat_any' (wr.alloc (.cells #[Value.slice (some ⟨g, k0 * 3, none⟩) (k - k0) (cap - k0), Value.slice (some ⟨g, 0, none⟩) k0 cap] 29)).drew wr.heap.size (some ⟨g, k0 * 3, none⟩) (some ⟨g, 0, none⟩) (k - k0) k0 (cap - k0) cap (S.drop k0) (S.take k0) (by have := HSn.out; simp <;> omega) (by have := HSn.out; simp <;> omega) (heap_alloc_new wr _) ?_ ?_ (fun h => by cases h) (fun h => by cases h) (by have := HSn.out; simp; omega)).mono ?_
            · exact by have h := (RdS.drop hrd (show k0 ≤ S.length by have := HSn.out; omega)).below hwx; rw [List.length_drop, HSn.out] at h; exact h.more hwx.size
            · exact by have h := (RdS.take hrd (show k0 ≤ S.length by have := HSn.out; omega)).below hwx; rw [List.length_take, HSn.out, Nat.min_eq_left hk1] at h; exact h.more hwx.size
            rintro e w4 ⟨v4, rfl, hown4, hb4⟩
            have hb34 : RowKit.Below w3.heap.size w3 w4 := hwx.trans (hb4.mono hwx.size)
            have hl4 : (S.drop k0 ++ S.take k0).length = S.length := by first | (simp; done) | (simp; omega)
            have HOWN4 := Lib.hid hown4
            have HL4 := Lib.hid hl4
            clear hown4 hl4 hb4 hwx
            go_wp2_with fail
            refine (reverse_own _ _ v4 _ HOWN4.out (by have := HL4.out; have := HSn.out; omega)).mono ?_
            rintro e w5 ⟨rfl, hown5, hg5⟩
            have hb35 : RowKit.Below w3.heap.size w3 w5 := hb34.grown hg5 hb34.size (fun q hq => by have := (HOWN4.out.lt q hq).1; simp at this; have := hbk.size; omega)
            have HOWN5 := Lib.hid hown5
            clear hown5 hg5 hb34
            go_wp2_with fail
            refine (sorted_own _ _ v4 _ HOWN5.out (by have := HL4.out; have := HSn.out; simp; omega)).mono ?_
            rintro e w6 ⟨v6, rfl, hown6, hb6⟩
            rw [HTURN.out k0] at hown6
            have hb36 : RowKit.Below w3.heap.size w3 w6 := hb35.trans (hb6.mono hb35.size)
            have hrd6 := RdS.of_own hown6
            have hrd3 := hrd.below hb36
            rw [HSn.out] at hrd3
            have HEQ := Lib.hid (equalS_same w6 _ _ _ _ S hrd6 hrd3 (by have := HSn.out; omega))
            clear hown6 hrd6 hrd3 hb6 hb35
            go_wp2_with fail
            refine HEQ.out.mono ?_
            rintro e w7 ⟨rfl, q7, rfl⟩
            go_wp2_with fail
            go_ret
            exact ⟨rfl, (hbw.trans (hb36.mono hbw.size)).trans (below_drewN' (RowKit.Below.refl _ _) _)⟩
end Go.Proofs.Ytcpcoomkapblcaa
