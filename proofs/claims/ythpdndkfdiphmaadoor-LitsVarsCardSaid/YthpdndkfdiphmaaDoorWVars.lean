/- LitsVars' walk. -/
import Derived.Test.YthpdndkfdiphmaaDoorVarsM
namespace Go.Proofs.YthpdndkfdiphmaaDoor
open Go Go.RowKit
open Go.Sort Go.Lib Go.Shelf
/-- Lists that read in the world at hand; what was there at the call's begin is as it was. -/
def Sx (w W : World) (ps : List (Value × List Int)) : Prop := (∀ p ∈ ps, RdI W.heap.size W p.1 p.2) ∧ RowKit.Below w.heap.size w W
theorem Sx.step {w W W' : World} {ps : List (Value × List Int)} (h : Sx w W ps) (hb : RowKit.Below W.heap.size W W') : Sx w W' ps :=
  ⟨fun p hp => ((h.1 p hp).below hb).more hb.size, h.2.trans (hb.mono h.2.size)⟩
theorem Sx.add {w W : World} {ps : List (Value × List Int)} (h : Sx w W ps) {v : Value} {zs : List Int} (hr : RdI W.heap.size W v zs) : Sx w W ((v, zs) :: ps) := by
  refine ⟨fun p hp => ?_, h.2⟩
  rcases List.mem_cons.1 hp with rfl | hp
  · exact hr
  · exact h.1 p hp
section
variable {w W : World} {ps : List (Value × List Int)} {v : Value} {zs : List Int} {a b c d e f g : Value × List Int}
theorem Sx.g0 (h : Sx w W ((v, zs) :: ps)) : RdI W.heap.size W v zs := h.1 (v, zs) (by simp)
theorem Sx.g1 (h : Sx w W (a :: (v, zs) :: ps)) : RdI W.heap.size W v zs := h.1 (v, zs) (by simp)
theorem Sx.g2 (h : Sx w W (a :: b :: (v, zs) :: ps)) : RdI W.heap.size W v zs := h.1 (v, zs) (by simp)
theorem Sx.g3 (h : Sx w W (a :: b :: c :: (v, zs) :: ps)) : RdI W.heap.size W v zs := h.1 (v, zs) (by simp)
theorem Sx.g4 (h : Sx w W (a :: b :: c :: d :: (v, zs) :: ps)) : RdI W.heap.size W v zs := h.1 (v, zs) (by simp)
theorem Sx.g5 (h : Sx w W (a :: b :: c :: d :: e :: (v, zs) :: ps)) : RdI W.heap.size W v zs := h.1 (v, zs) (by simp)
theorem Sx.g6 (h : Sx w W (a :: b :: c :: d :: e :: f :: (v, zs) :: ps)) : RdI W.heap.size W v zs := h.1 (v, zs) (by simp)
theorem Sx.g7 (h : Sx w W (a :: b :: c :: d :: e :: f :: g :: (v, zs) :: ps)) : RdI W.heap.size W v zs := h.1 (v, zs) (by simp)
end
theorem below_drewN (w : World) (q : Nat) : RowKit.Below w.heap.size w (w.drewN q) := ⟨rfl, rfl, rfl, Nat.le_refl _, fun _ _ => rfl⟩
/-- The first j literals negated. -/
def turn (A : List Int) (j : Nat) : List Int := (A.take j).map LNeg ++ A.drop j
theorem turn_zero (A : List Int) : turn A 0 = A := by simp [turn]
theorem turn_all (A : List Int) : turn A A.length = A.map LNeg := by simp [turn]
theorem turn_get (A : List Int) (j : Nat) (h : j < A.length) : (turn A j)[j]? = A[j]? := by
  unfold turn
  have hl : ((A.take j).map LNeg).length = j := by simp; omega
  rw [List.getElem?_append_right (by omega), hl, Nat.sub_self, List.getElem?_drop]
  simp
theorem turn_set (A : List Int) (j : Nat) (h : j < A.length) : (turn A j).set j (LNeg (A[j]?.getD 0)) = turn A (j + 1) := by
  unfold turn
  have hl : ((A.take j).map LNeg).length = j := by simp; omega
  rw [List.set_append_right _ _ (by omega), hl, Nat.sub_self, List.drop_eq_getElem_cons h, List.set_cons_zero, List.take_succ_eq_append_getElem h, List.map_append, List.append_assoc]
  simp [h]
set_option maxRecDepth 10000000 in
set_option maxHeartbeats 4000000 in
theorem litsVars_any (w : World) (k l : Value) (ks ls : List Int) (hk : RdJ w.heap.size w k ks) (hl : RdJ w.heap.size w l ls) (hkm : ks.length ≤ maxLen) (hlm : ls.length ≤ maxLen) (ht : Tb w) :
    Calls Tryd.prog 11 #[k, l] w fun e w' => e = .returned (.bool true) ∧ RowKit.Below w.heap.size w w' := by
  have HK := Lib.hid hk
  have HL := Lib.hid hl
  have HT := Lib.hid ht
  obtain ⟨Ak, ck, rfl⟩ := hk.form
  obtain ⟨Al, cl, rfl⟩ := hl.form
  clear hk hl ht
  go_enter Tryd.func11, Tryd.ntmps11
  go_wp2_with fail
  refine (madeList_any w _ ks HK.out hkm).mono ?_
  rintro e w1 ⟨va, A, rfl, hown1, hAl, hAr, hb1⟩
  obtain ⟨A1, c1, rfl, hA1⟩ := own_nilform hown1
  have HS1 : Hid (Sx w w1 [(.slice A1 A.length c1, A)]) := Lib.hid (Sx.add ⟨by simp, hb1⟩ (RdI.of_ownE hown1))
  have HL1 := Lib.hid ((HL.out.below hb1).more hb1.size)
  have HO1 := Lib.hid hown1
  have HAR := Lib.hid hAr
  clear hown1 hAr hb1
  go_wp2_with fail
  refine (madeList_any w1 _ ls HL1.out hlm).mono ?_
  rintro e w2 ⟨vb, B, rfl, hown2, hBl, -, hb2⟩
  obtain ⟨A2, c2, rfl, hA2⟩ := own_nilform hown2
  have HS2 := Lib.hid ((HS1.out.step hb2).add (RdI.of_ownE hown2))
  have HO1b := Lib.hid (own_keep HO1.out hb2)
  clear hown2 hb2 HL1 HO1
  go_wp2_with fail
  refine (Vars_any _ A (by omega) w2 HS2.out.g1).mono ?_
  rintro e w3 ⟨vx, rfl, hown3, -, hb3⟩
  have hvx : (vset (vl A)).length ≤ A.length := Nat.le_trans (vset_len _) (by have := vl_take_le A A.length; rwa [List.take_length] at this)
  generalize hX : vset (vl A) = X at *
  have HX := Lib.hid hX
  clear hX
  obtain ⟨A3, c3, rfl, hA3⟩ := own_nilform hown3
  have HS3 := Lib.hid ((HS2.out.step hb3).add (RdI.of_own hown3))
  have HO1c := Lib.hid (own_keep HO1b.out hb3)
  have HO3 := Lib.hid hown3
  clear hown3 hb3 HS2 HO1b
  go_wp2_with fail
  refine (Vars_any _ B (by omega) w3 HS3.out.g1).mono ?_
  rintro e w4 ⟨vy, rfl, hown4, -, hb4⟩
  have hvy : (vset (vl B)).length ≤ B.length := Nat.le_trans (vset_len _) (by have := vl_take_le B B.length; rwa [List.take_length] at this)
  generalize hY : vset (vl B) = Y at *
  have HY := Lib.hid hY
  clear hY
  obtain ⟨A4, c4, rfl, hA4⟩ := own_nilform hown4
  have HS4 := Lib.hid ((HS3.out.step hb4).add (RdI.of_own hown4))
  have HO1d := Lib.hid (own_keep HO1c.out hb4)
  have HO3b := Lib.hid (own_keep HO3.out hb4)
  clear hown4 hb4 HS3 HO1c HO3
  go_wp2_with fail
  have hb4a := (RowKit.Below.refl _ w4).alloc (Nat.le_refl _) (.cells #[.slice A1 A.length c1, .slice A2 B.length c2] 43)
  have hq4 := World.alloc_heap_new w4 (.cells #[.slice A1 A.length c1, .slice A2 B.length c2] 43)
  have HS4a := Lib.hid (HS4.out.step hb4a)
  have HO1e := Lib.hid (own_keep HO1d.out hb4a)
  have HO3c := Lib.hid (own_keep HO3b.out hb4a)
  generalize w4.alloc (.cells #[.slice A1 A.length c1, .slice A2 B.length c2] 43) = w4a at *
  refine (concatL w4a w4.heap.size A1 A2 c1 c2 A B hq4 HS4a.out.g3 HS4a.out.g2 hA1 hA2 (by omega)).mono ?_
  rintro e w5 ⟨vab, rfl, hown5, hb5⟩
  have hABl : (A ++ B).length ≤ 120 := by rw [List.length_append]; omega
  generalize hAB : A ++ B = AB at *
  have HAB := Lib.hid hAB
  clear hAB
  obtain ⟨A5, c5, rfl, -⟩ := own_nilform hown5
  have HS5 := Lib.hid ((HS4a.out.step hb5).add (RdI.of_ownE hown5))
  have HO1f := Lib.hid (own_keep HO1e.out hb5)
  have HO3d := Lib.hid (own_keep HO3c.out hb5)
  clear hown5 hb5 hq4 hb4a HS4 HS4a HO1d HO1e HO3b HO3c
  go_wp2_with fail
  refine (Vars_any _ AB (by omega) w5 HS5.out.g0).mono ?_
  rintro e w6 ⟨vz, rfl, hown6, -, hb6⟩
  have hvz : (vset (vl AB)).length ≤ AB.length := Nat.le_trans (vset_len _) (by have := vl_take_le AB AB.length; rwa [List.take_length] at this)
  generalize hZ : vset (vl AB) = Z at *
  have HZ := Lib.hid hZ
  clear hZ
  obtain ⟨A6, c6, rfl, hA6⟩ := own_nilform hown6
  have HS6 := Lib.hid ((HS5.out.step hb6).add (RdI.of_own hown6))
  have HO1g := Lib.hid (own_keep HO1f.out hb6)
  have HO3e := Lib.hid (own_keep HO3d.out hb6)
  clear hown6 hb6 HS5 HO1f HO3d
  go_wp2_with fail
  have hb6a := (RowKit.Below.refl _ w6).alloc (Nat.le_refl _) (.cells #[.slice A3 X.length c3, .slice A4 Y.length c4] 42)
  have hq6 := World.alloc_heap_new w6 (.cells #[.slice A3 X.length c3, .slice A4 Y.length c4] 42)
  have HS6a := Lib.hid (HS6.out.step hb6a)
  have HO1h := Lib.hid (own_keep HO1g.out hb6a)
  have HO3f := Lib.hid (own_keep HO3e.out hb6a)
  generalize w6.alloc (.cells #[.slice A3 X.length c3, .slice A4 Y.length c4] 42) = w6a at *
  refine (concatZ w6a w6.heap.size A3 A4 c3 c4 X Y hq6 HS6a.out.g3 HS6a.out.g2 hA3 hA4 (by omega)).mono ?_
  rintro e w7 ⟨vxy, rfl, hown7, hb7⟩
  have hXYl : (X ++ Y).length ≤ 120 := by rw [List.length_append]; omega
  generalize hXY : X ++ Y = XY at *
  have HXY := Lib.hid hXY
  clear hXY
  obtain ⟨A7, c7, rfl, -⟩ := own_nilform hown7
  have HS7 := Lib.hid ((HS6a.out.step hb7).add (RdI.of_own hown7))
  have HO1i := Lib.hid (own_keep HO1h.out hb7)
  have HO3g := Lib.hid (own_keep HO3f.out hb7)
  clear hown7 hb7 hq6 hb6a HS6 HS6a HO1g HO1h HO3e HO3f
  go_wp2_with fail
  refine (values_any _ w7 ⟨_, _, _, rfl⟩).mono ?_
  rintro e w7a ⟨rfl, rfl⟩
  have hb7a := (RowKit.Below.refl _ w7).alloc (Nat.le_refl _) (.cells #[.slice A7 XY.length c7] 42)
  have hcb := (Boxed.new w7 42 (.slice A7 XY.length c7)).cell
  have hltb : w7.heap.size < (w7.alloc (.cells #[.slice A7 XY.length c7] 42)).heap.size := by simp
  have HS8 := Lib.hid (HS7.out.step hb7a)
  have HO1j := Lib.hid (own_keep HO1i.out hb7a)
  have HO3h := Lib.hid (own_keep HO3g.out hb7a)
  generalize w7.alloc (.cells #[.slice A7 XY.length c7] 42) = w8 at *
  have HCB := Lib.hid hcb
  clear hb7a HS7 HO1i HO3g hcb
  go_wp2_with fail
  refine (sorted_any w8 w7.heap.size _ XY (by omega) hltb HCB.out HS8.out.g0).mono ?_
  rintro e w9 ⟨vs, rfl, hown9, hb9⟩
  obtain ⟨A9, c9, rfl, -⟩ := own_nilform hown9
  have hsl : (sortZ XY).length = XY.length := (List.mergeSort_perm _ _).length_eq
  have HO9 := Lib.hid hown9
  have HB9 := Lib.hid hb9
  clear hown9 hb9
  go_wp2_with fail
  refine (Compact_own w9 w8.heap.size _ (sortZ XY) (by rw [hsl]; exact HO9.out) (by omega)).mono ?_
  rintro e w10 ⟨vall, rfl, hr10, hg10⟩
  have hall : Lib.compact (sortZ XY) = Z := by rw [← HXY.out, ← HX.out, ← HY.out, ← HZ.out, ← HAB.out]; exact all_eq A B
  rw [hall] at hr10
  clear hall
  have hb10 : RowKit.Below w8.heap.size w8 w10 := HB9.out.grown hg10 HB9.out.size (fun q hq => (HO9.out.lt q hq).1)
  obtain ⟨A10, c10, rfl⟩ := rdI_form hr10
  have HS10 := Lib.hid ((HS8.out.step hb10).add hr10)
  have HO1k := Lib.hid (own_keep HO1j.out hb10)
  have HO3i := Lib.hid (own_keep HO3h.out hb10)
  clear hr10 hg10 hb10 HO9 HB9 HS8 HO1j HO3h HCB hltb hsl
  go_wp2_with fail
  refine (CloneLit_own w10 _ _ A HO1k.out (by omega)).mono ?_
  rintro e w11 ⟨vt, rfl, hown11, hb11⟩
  obtain ⟨A11, c11, rfl, -⟩ := own_nilform hown11
  have HO11 := Lib.hid hown11
  have HB11 := Lib.hid hb11
  clear hown11 hb11
  go_wp2_with fail
  go_loopw [43] (fun i wr => ∃ j : Nat, j ≤ A.length ∧ i = .int .i64 j ∧ wr.ownsRow w10.heap.size 25 1 (.slice A11 A.length c11) A.length ((turn A j).map (.int .i64)) ∧ RowKit.Below w10.heap.size w10 wr) (fun i _ => 61 - (intOf i).toNat)
  case atStart => exact ⟨0, Nat.zero_le _, rfl, by rw [turn_zero]; exact HO11.out, HB11.out⟩
  case round =>
    obtain ⟨j, hj, rfl, hown, hbj⟩ := hrel
    by_cases hlt : j < A.length
    · rcases hown.2 with ⟨e0, h0⟩ | ⟨g, cap, cur, e0, hg1, -⟩
      · omega
      injection e0 with e1 e2 e3
      subst e1 e3
      have hxl := hown.1
      have hcl : wr.cell? ⟨g, j, none⟩ = some (.int .i64 (A[j]?.getD 0)) := by
        rw [hown.cellAt j (by omega), List.getElem?_map, turn_get A j hlt]
        simp [hlt]
      have hfr := hown.frozenAt j
      have hst := (hown.stored j (.int .i64 (LNeg (A[j]?.getD 0)))).1
      rw [← List.map_set, turn_set A j hlt] at hst
      generalize A[j]?.getD 0 = u at *
      have HST := Lib.hid hst
      have hz1 : (0 : Int) ≤ (j : Int) := by omega
      have hz2 : (j : Int) < (A.length : Int) := by omega
      clear hst hown e2 hxl
      go_wp2_with fail
      refine (Neg_any u wr).mono ?_
      rintro e w12 ⟨rfl, rfl⟩
      go_wp2_with fail
      exact ⟨⟨j + 1, by omega, by go_num, HST.out, hbj.setCell hg1 _⟩, by simp [intOf]; omega⟩
    · obtain rfl : j = A.length := by omega
      rw [turn_all] at hown
      have HS := Lib.hid (HS10.out.step hbj)
      have HTn := Lib.hid (RdI.of_ownE hown)
      have hbw := HS.out.2
      have hsrt : ∀ i, i + 1 < X.length → X[i]?.getD 0 ≤ X[i + 1]?.getD 0 := by
        intro i hi
        have h := vset_lt (vl A)
        rw [HX.out] at h
        have := List.pairwise_iff_getElem.1 h i (i + 1) (by omega) hi (by omega)
        simp [hi, show i < X.length by omega]
        omega
      have hcmp : Lib.compact X = X := by rw [← HX.out]; exact compact_strict (vset_lt _)
      have hmem : ∀ i, i < A.length → X.contains (LVar (A[i]?.getD 0)) = true := by
        intro i hi
        have hz : A[i]?.getD 0 ∈ A := by simp [hi]
        rw [List.contains_iff_mem, ← HX.out, vset_mem]
        exact List.mem_map.2 ⟨_, List.mem_filter.2 ⟨hz, HAR.out _ hz⟩, rfl⟩
      have HSRT := Lib.hid hsrt
      have HCMP := Lib.hid hcmp
      have HMEM := Lib.hid hmem
      clear hsrt hcmp hmem hown hbj HS10 HO1k HO3i HO11 HB11 hbw
      obtain ⟨w11b, rfl⟩ : ∃ y : World, y = wr := ⟨_, rfl⟩
      go_wp2_with fail
      refine (EqualInt_any w11b _ _ _ _ Z Z HS.out.g2 HS.out.g0 (by omega) (by omega)).mono ?_
      rintro e w12 ⟨rfl, q1, hw12⟩
      rw [beq_self_eq_true]
      have hb12 : RowKit.Below w11b.heap.size w11b w12 := by rw [hw12]; exact below_drewN _ _
      have HS12 := Lib.hid (HS.out.step hb12)
      have HT12 := Lib.hid ((HTn.out.below hb12).more hb12.size)
      clear hw12 hb12 HS HTn
      go_wp2_with fail
      refine (Vars_any _ (A.map LNeg) (by simp; omega) w12 HT12.out).mono ?_
      rintro e w13 ⟨vt2, rfl, hown13, -, hb13⟩
      rw [vl_neg, HX.out] at hown13
      obtain ⟨A13, c13, rfl, -⟩ := own_nilform hown13
      have HS13 := Lib.hid (HS12.out.step hb13)
      have HR13 := Lib.hid (RdI.of_own hown13)
      clear hown13 hb13 HS12 HT12
      go_wp2_with fail
      refine (EqualInt_any w13 _ _ _ _ X X HR13.out HS13.out.g5 (by omega) (by omega)).mono ?_
      rintro e w14 ⟨rfl, q2, hw14⟩
      rw [beq_self_eq_true]
      have hb14 : RowKit.Below w13.heap.size w13 w14 := by rw [hw14]; exact below_drewN _ _
      have HS14 := Lib.hid (HS13.out.step hb14)
      clear hw14 hb14 HS13 HR13
      go_wp2_with fail
      refine (isSorted_yes w14 _ _ X HS14.out.g5 (by omega) HSRT.out).mono ?_
      rintro e w15 ⟨rfl, q3, hw15⟩
      have hb15 : RowKit.Below w14.heap.size w14 w15 := by rw [hw15]; exact below_drewN _ _
      have HS15 := Lib.hid (HS14.out.step hb15)
      clear hw15 hb15 HS14
      go_wp2_with fail
      refine (CloneInt_any w15 _ _ X HS15.out.g5 (by omega)).mono ?_
      rintro e w16 ⟨v16, rfl, hown16, hb16⟩
      have HO16 := Lib.hid hown16
      have HB16 := Lib.hid hb16
      clear hown16 hb16
      go_wp2_with fail
      refine (Compact_own w16 w15.heap.size _ X HO16.out (by omega)).mono ?_
      rintro e w17 ⟨v17, rfl, hr17, hg17⟩
      rw [HCMP.out] at hr17
      obtain ⟨A17, c17, rfl⟩ := rdI_form hr17
      have hb17 : RowKit.Below w15.heap.size w15 w17 := HB16.out.grown hg17 HB16.out.size (fun q hq => (HO16.out.lt q hq).1)
      have HS17 := Lib.hid (HS15.out.step hb17)
      clear hr17 hg17 hb17 HS15 HO16 HB16
      go_wp2_with fail
      go_loopw [82] (fun i wr => ∃ j : Nat, j ≤ A.length ∧ i = .int .i64 j ∧ wr = w17) (fun i _ => 61 - (intOf i).toNat)
      case atStart => exact ⟨0, Nat.zero_le _, rfl, rfl⟩
      case round =>
        obtain ⟨j, hj, rfl, hwr⟩ := hrel
        subst hwr
        by_cases hlt : j < A.length
        · obtain ⟨Aa, ca, ea, -, hra⟩ := HS17.out.g7
          injection ea with e1 e2 e3
          subst e1 e3
          obtain ⟨b, off, rfl, -, hcell⟩ := hra (by omega)
          have hcx := hcell j hlt
          have hm := HMEM.out j hlt
          generalize A[j]?.getD 0 = u at *
          have HM := Lib.hid hm
          have hz1 : (0 : Int) ≤ (j : Int) := by omega
          have hz2 : (j : Int) < (A.length : Int) := by omega
          clear hcell hra e2 hm
          go_wp2_with fail
          refine (Var_any u _).mono ?_
          rintro e w18 ⟨rfl, rfl⟩
          go_wp2_with fail
          refine (ContainsInt_any _ _ _ X _ HS17.out.g5 (by omega)).mono ?_
          rintro e w18 ⟨rfl, rfl⟩
          rw [HM.out]
          go_wp2_with fail
          exact ⟨⟨j + 1, by omega, by go_num, trivial⟩, by simp [intOf]; omega⟩
        · obtain rfl : j = A.length := by omega
          have hle : (X.length : Int) ≤ (A.length : Int) := by omega
          have HG := Lib.hid (Greatest_any _ A (by omega) wr HS17.out.g7)
          have HTB := Lib.hid (HT.out.below HS17.out.2)
          have hbe := HS17.out.2
          by_cases hx0 : 0 < X.length
          · have hlast : X[X.length - 1]?.getD 0 = grl (vl A) := by
              have h := grl_last (a := A) (by rw [HX.out]; exact hx0)
              rw [HX.out] at h
              exact h
            obtain ⟨Ax, cx, ex, -, hrx⟩ := HS17.out.g5
            injection ex with e1 e2 e3
            subst e1 e3
            obtain ⟨b, off, rfl, -, hcell⟩ := hrx hx0
            have hcx := hcell (X.length - 1) (by omega)
            rw [hlast] at hcx
            generalize grl (vl A) = gr at *
            have hi0 : (X.length : Int) - 1 = ((X.length - 1 : Nat) : Int) := by omega
            have hi1 : ((X.length - 1 : Nat) : Int) < (X.length : Int) := by omega
            have hi2 : (0 : Int) ≤ ((X.length - 1 : Nat) : Int) := by omega
            have hx1 : (0 : Int) < (X.length : Int) := by omega
            clear hcell hrx e2 hlast HX
            go_wp2_with fail
            refine HG.out.mono ?_
            rintro e w19 ⟨rfl, hb19⟩
            go_wp2_with fail
            refine (awake_any w19 (HTB.out.below hb19)).mono ?_
            rintro e w20 ⟨rfl, hb20⟩
            go_wp2_with fail
            go_ret
            exact ⟨rfl, hbe.trans ((hb19.trans (hb20.mono hb19.size)).mono hbe.size)⟩
          · have hX0 : X = [] := List.eq_nil_of_length_eq_zero (by omega)
            have hg0 : grl (vl A) = 0 := grl_nil (by rw [HX.out]; exact hX0)
            rw [hg0] at HG
            have hx1 : ¬ (0 : Int) < (X.length : Int) := by omega
            clear hg0 hX0
            go_wp2_with fail
            refine HG.out.mono ?_
            rintro e w19 ⟨rfl, hb19⟩
            go_wp2_with fail
            refine (awake_any w19 (HTB.out.below hb19)).mono ?_
            rintro e w20 ⟨rfl, hb20⟩
            go_wp2_with fail
            go_ret
            exact ⟨rfl, hbe.trans ((hb19.trans (hb20.mono hb19.size)).mono hbe.size)⟩
end Go.Proofs.YthpdndkfdiphmaaDoor
