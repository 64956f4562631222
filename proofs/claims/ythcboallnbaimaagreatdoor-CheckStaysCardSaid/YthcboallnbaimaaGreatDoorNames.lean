/- check: IsName, name. -/
import Derived.Test.YthcboallnbaimaaGreatDoorShelf
import Derived.Test.YthcboallnbaimaaGreatDoorNameP
import Derived.Test.YthcboallnbaimaaGreatDoorFind
import Derived.Deep.CutBlock
import Derived.Deep.CutRange
namespace Go.Proofs.YthcboallnbaimaaGreatDoor
open Go Go.RowKit Go.Maps Go.Lib
/-- internal/bytealg.MaxLen holds some number. -/
def MxAt (W : World) : Prop := ∃ m, W.cell? ⟨0, 0, none⟩ = some (.int .i64 m)
theorem MxAt.below {B : Nat} {W W' : World} (h : MxAt W) (hb : Below B W W') (hB : 0 < B) : MxAt W' := by
  obtain ⟨m, hm⟩ := h
  exact ⟨m, (hb.cell (p := ⟨0, 0, none⟩) hB).trans hm⟩
def signsV : ByteArray := ⟨#[97, 98, 99, 100, 101, 102, 103, 104, 105, 106, 107, 108, 109, 110, 111, 112, 113, 114, 115, 116, 117, 118, 119, 120, 121, 122, 48, 49, 50, 51, 52, 53, 54, 55, 56, 57, 95]⟩
theorem signsV_eq : signsV.data.toList = signsB := by decide
def reservedV : ByteArray := ⟨#[32, 100, 101, 118, 105, 99, 101, 32, 119, 105, 100, 116, 104, 32, 105, 110, 112, 117, 116, 32, 103, 104, 111, 115, 116, 32, 118, 97, 114, 32, 97, 114, 114, 97, 121, 32, 114, 101, 113, 117, 105, 114, 101, 32, 105, 110, 105, 116, 32, 112, 114, 111, 99, 32, 119, 111, 114, 107, 32, 114, 101, 99, 111, 118, 101, 114, 32, 105, 110, 118, 97, 114, 105, 97, 110, 116, 32, 102, 108, 117, 115, 104, 32, 98, 97, 114, 114, 105, 101, 114, 32, 119, 114, 105, 116, 101, 32, 105, 102, 32, 101, 108, 115, 101, 32, 119, 104, 105, 108, 101, 32, 98, 111, 117, 110, 100, 32, 99, 97, 108, 108, 32, 100, 105, 115, 107, 32]⟩
theorem reservedV_eq : reservedV.data.toList = joinW wordsB := by decide
theorem isEmpty_data (t : ByteArray) : t.toList.isEmpty = t.data.toList.isEmpty := by rw [ByteArray.toList_eq]
theorem spaced (s : ByteArray) : (({ data := #[32] } : ByteArray) ++ s ++ { data := #[32] }).data.toList = 32 :: (s.data.toList ++ [32]) := by simp
set_option maxRecDepth 100000 in
set_option maxHeartbeats 2000000 in
theorem isName_any (w : World) (s : ByteArray) (hs : s.size ≤ 4294967200) (hmx : MxAt w) :
    Calls Tryz.prog 10 #[.string s] w fun o w' => o = .returned (.bool (isName s.data.toList)) ∧ Below w.heap.size w w' := by
  obtain ⟨m, hm⟩ := hmx
  have hT := Any.strings_Trim_laid Tryz.lays160 (by kernel_rfl) s signsV w (by omega) (by decide) (ascii_of_all (by decide))
  have hC := Tryz.strings_Contains reservedV ({ data := #[32] } ++ s ++ { data := #[32] }) m w (by decide) hm
  rw [reservedV_eq, spaced] at hC
  rw [signsV_eq] at hT
  have hem := isEmpty_data s
  have hsz : s.size = s.data.toList.length := by simp
  have hG := isNameG_eq s.data.toList
  unfold isNameG at hG
  rw [← hG]
  clear hG hm
  obtain ⟨tr, htr⟩ : ∃ tr, Lib.trimS s.data.toList signsB = tr := ⟨_, rfl⟩
  rw [htr] at hT ⊢
  obtain ⟨ct, hct⟩ : ∃ ct, Lib.contains (joinW wordsB) (32 :: (s.data.toList ++ [32])) = ct := ⟨_, rfl⟩
  rw [hct] at hC ⊢
  have HC := Lib.hid hC
  have HT := Lib.hid hT
  unfold reservedV at HC
  unfold signsV at HT
  clear hC hT htr hct
  cases hL : s.data.toList with
  | nil =>
    rw [hL] at hem hsz
    have hem2 : s.toList.isEmpty = true := hem
    clear hem HC HT hL
    go_enter Tryz.func10, Tryz.ntmps10
    go_wp2_with fail
    go_ret
    exact ⟨by simp, Below.refl _ _⟩
  | cons c r =>
    rw [hL] at hem hsz
    have hem2 : s.toList.isEmpty = false := hem
    have h0 : 0 < s.size := by rw [hsz]; simp
    have hc0 : s[0]'h0 = c := by
      show s.data[0] = c
      rw [← Array.getElem_toList]
      simp only [hL, List.getElem_cons_zero]
    have HSZ := Lib.hid hsz
    clear hem hsz hL
    by_cases h16 : s.size ≤ 16
    · have hd16 : decide ((16 : Int) < (s.size : Int)) = false := decide_eq_false (by omega)
      have hr16 : decide ((c :: r).length ≤ 16) = true := decide_eq_true (by rw [← HSZ.out]; exact h16)
      rw [hr16]
      have hca : (s[0]'h0).toNat = c.toNat := by rw [hc0]
      obtain ⟨k, hk⟩ : ∃ k, c.toNat = k := ⟨_, rfl⟩
      have hlw : lower c = decide (97 ≤ k ∧ k ≤ 122) := by unfold lower; rw [hk]
      rw [hk] at hca
      dsimp only
      rw [hlw]
      clear hlw hk hc0
      by_cases h97 : k < 97
      · have hd97 : decide ((k : Int) < 97) = true := decide_eq_true (by omega)
        have hres : decide (97 ≤ k ∧ k ≤ 122) = false := decide_eq_false (by omega)
        rw [hres]
        clear hres HC HT
        go_enter Tryz.func10, Tryz.ntmps10
        go_wp2_with fail
        go_ret
        exact ⟨by simp, Below.refl _ _⟩
      · have hd97 : decide ((k : Int) < 97) = false := decide_eq_false (by omega)
        by_cases h122 : 122 < k
        · have hd122 : decide ((122 : Int) < (k : Int)) = true := decide_eq_true (by omega)
          have hres : decide (97 ≤ k ∧ k ≤ 122) = false := decide_eq_false (by omega)
          rw [hres]
          clear hres HC HT
          go_enter Tryz.func10, Tryz.ntmps10
          go_wp2_with fail
          go_ret
          exact ⟨by simp, Below.refl _ _⟩
        · have hd122 : decide ((122 : Int) < (k : Int)) = false := decide_eq_false (by omega)
          have hres : decide (97 ≤ k ∧ k ≤ 122) = true := decide_eq_true (by omega)
          rw [hres]
          clear hres
          cases ct with
          | true =>
            clear HT
            go_enter Tryz.func10, Tryz.ntmps10
            go_wp2_with (first | (go_at_call 38; refine HC.out.mono ?_; rintro o2 w2 ⟨rfl, rfl⟩) | fail)
            go_ret
            exact ⟨by simp, Below.refl _ _⟩
          | false =>
            have hte := isEmpty_data ⟨tr.toArray⟩
            cases htt : tr.isEmpty
            all_goals
              have hte2 : (ByteArray.mk tr.toArray).toList.isEmpty = _ := hte.trans htt
              have HTT := Lib.hid htt
              clear hte htt
              go_enter Tryz.func10, Tryz.ntmps10
              go_wp2_with (first | (go_at_call 38; refine HC.out.mono ?_; rintro o2 w2 ⟨rfl, rfl⟩) | (go_at_call 13; refine HT.out.mono ?_; rintro o3 w3 ⟨rfl, hb3⟩) | fail)
              go_ret
              exact ⟨by have h := HTT.out; cases tr <;> simp at h ⊢, hb3⟩
    · have hd16 : decide ((16 : Int) < (s.size : Int)) = true := decide_eq_true (by omega)
      have hr16 : decide ((c :: r).length ≤ 16) = false := decide_eq_false (by rw [← HSZ.out]; exact h16)
      rw [hr16]
      clear HC HT
      go_enter Tryz.func10, Tryz.ntmps10
      go_wp2_with fail
      go_ret
      exact ⟨by simp, Below.refl _ _⟩
theorem cut_size (s sep : List UInt8) : (Lib.cut s sep).1.length ≤ s.length ∧ (Lib.cut s sep).2.1.length ≤ s.length := by
  unfold Lib.cut
  split
  · simp; omega
  · simp
set_option maxRecDepth 1000000 in
set_option maxHeartbeats 2000000 in
/-- Whether a string can be a name in this program. -/
theorem name_check {K : CkE} {pm : Option Nat} {E : Env} {n : Int} {over : Bool} (w : World) (hk : Ckr K pm E n over w) (s : ByteArray) (hs : s.size ≤ 4294967200) (hmx : MxAt w) :
    Calls Tryz.prog 146 #[.pointer (some ⟨K.q, 0, none⟩), .string s] w fun o w' => o = .returned (.bool (nameB K.p s.data.toList)) ∧ Below w.heap.size w w' := by
  have hmx2 := hmx
  obtain ⟨m, hm⟩ := hmx
  have hC := Tryz.strings_Cut s ⟨#[46]⟩ m w (by omega) hm
  have h46 : (⟨#[46]⟩ : ByteArray).data.toList = [46] := rfl
  rw [h46] at hC
  have hcd := cutDot_eq s.data.toList
  obtain ⟨hl1, hl2⟩ := cut_size s.data.toList [46]
  have hsz : s.data.toList.length = s.size := by simp
  have hnb : nameB K.p s.data.toList = if (Lib.cut s.data.toList [46]).2.2 = true then (if K.p.procs.length = 0 then isName (Lib.cut s.data.toList [46]).1 && isName (Lib.cut s.data.toList [46]).2.1 else isName s.data.toList) else isName s.data.toList := by
    unfold nameB
    rw [hcd]
    split
    · rename_i h; split at h
      · rename_i h2; rw [if_pos h2]; cases h; rfl
      · cases h
    · rename_i h; split at h
      · cases h
      · rename_i h2; rw [if_neg h2]
  rw [hnb]
  clear hcd hnb hm h46
  generalize (Lib.cut s.data.toList [46]).1 = a at *
  generalize (Lib.cut s.data.toList [46]).2.1 = b at *
  generalize (Lib.cut s.data.toList [46]).2.2 = two at *
  have hk0 := hk.new (W' := w) (Below.refl _ _)
  have HNX : Hid (∀ (t : ByteArray) (W : World), t.size ≤ s.size → Below w.heap.size w W → Calls Tryz.prog 10 #[.string t] W fun o w' => o = .returned (.bool (isName t.data.toList)) ∧ Below W.heap.size W w') := Lib.hid fun t W ht hW =>
    isName_any W t (by omega) (hmx2.below hW (by have := hk.lt; have := hk.q; have := hk.n0; omega))
  have ha : (⟨a.toArray⟩ : ByteArray).size ≤ s.size := by show a.toArray.size ≤ _; simp; omega
  have hb : (⟨b.toArray⟩ : ByteArray).size ≤ s.size := by show b.toArray.size ≤ _; simp; omega
  have HA := Lib.hid ha
  have HB := Lib.hid hb
  have HC := Lib.hid hC
  have HK := Lib.hid hk
  have hpl := hk.prog.prow.few
  clear hk hk0 ha hb hl1 hl2 hsz hC hs hmx2
  have hea : (⟨a.toArray⟩ : ByteArray).data.toList = a := by simp
  have heb : (⟨b.toArray⟩ : ByteArray).data.toList = b := by simp
  generalize (⟨a.toArray⟩ : ByteArray) = ab at *
  generalize (⟨b.toArray⟩ : ByteArray) = bb at *
  subst hea heb
  have hbd : ∀ n, Below w.heap.size w (w.drewN n) := fun n => ⟨rfl, rfl, rfl, Nat.le_refl _, fun _ _ => rfl⟩
  have HBD := Lib.hid hbd
  clear hbd
  have c13 := HK.out.c13
  cases two with
  | false =>
    go_enter Tryz.func146, Tryz.ntmps146
    go_wp2_with (first | (go_at_call 174; refine HC.out.mono ?_; rintro o2 w2 ⟨rfl, nq, rfl⟩) | (go_at_call 10; refine (HNX.out s _ (Nat.le_refl _) (HBD.out nq)).mono ?_; rintro o3 w3 ⟨rfl, hb3⟩) | fail)
    go_ret
    exact ⟨rfl, (HBD.out nq).trans (hb3.mono (Nat.le_refl _))⟩
  | true =>
    by_cases hp : K.p.procs.length = 0
    · have hz : ((K.p.procs.length : Int) == 0) = true := beq_iff_eq.2 (by omega)
      have hzd : decide (K.p.procs.length = 0) = true := decide_eq_true hp
      rw [if_pos rfl, if_pos hp]
      clear hp
      cases hia : isName ab.data.toList with
      | true =>
        have HIA := Lib.hid hia
        clear hia
        go_enter Tryz.func146, Tryz.ntmps146
        go_upto_region 3 with (first | (go_at_call 174; refine HC.out.mono ?_; rintro o2 w2 ⟨rfl, nq, rfl⟩) | fail)
        have HN1 := Lib.hid (HNX.out ab _ HA.out (HBD.out nq))
        rw [HIA.out] at HN1
        clear c13
        go_wp2_with (first | (go_at_call 10; refine HN1.out.mono ?_; clear HN1; rintro o3 w3 ⟨rfl, hb3⟩; have HB3 := Lib.hid hb3; have HN2 := Lib.hid (HNX.out bb w3 HB.out ((HBD.out nq).trans (hb3.mono (Nat.le_refl _)))); clear hb3) | (go_at_call 10; refine HN2.out.mono ?_; rintro o4 w4 ⟨rfl, hb4⟩) | fail)
        go_ret
        have h3 : w.heap.size ≤ w3.heap.size := HB3.out.size
        have h03 : Below w.heap.size w w3 := (HBD.out nq).trans HB3.out
        exact ⟨by rw [Bool.true_and]; rfl, h03.trans (hb4.mono h3)⟩
      | false =>
        have HIA := Lib.hid hia
        clear hia
        go_enter Tryz.func146, Tryz.ntmps146
        go_upto_region 3 with (first | (go_at_call 174; refine HC.out.mono ?_; rintro o2 w2 ⟨rfl, nq, rfl⟩) | fail)
        have HN1 := Lib.hid (HNX.out ab _ HA.out (HBD.out nq))
        rw [HIA.out] at HN1
        go_wp2_with (first | (go_at_call 10; refine HN1.out.mono ?_; rintro o3 w3 ⟨rfl, hb3⟩) | fail)
        go_ret
        exact ⟨by rw [Bool.false_and]; rfl, (HBD.out nq).trans (hb3.mono (Nat.le_refl _))⟩
    · have hz : ((K.p.procs.length : Int) == 0) = false := beq_eq_false_iff_ne.2 (by omega)
      have hzd : decide (K.p.procs.length = 0) = false := decide_eq_false hp
      rw [if_pos rfl, if_neg hp]
      clear hp
      go_enter Tryz.func146, Tryz.ntmps146
      go_wp2_with (first | (go_at_call 174; refine HC.out.mono ?_; rintro o2 w2 ⟨rfl, nq, rfl⟩) | (go_at_call 10; refine (HNX.out s _ (Nat.le_refl _) (HBD.out nq)).mono ?_; rintro o3 w3 ⟨rfl, hb3⟩) | fail)
      go_ret
      exact ⟨rfl, (HBD.out nq).trans (hb3.mono (Nat.le_refl _))⟩
end Go.Proofs.YthcboallnbaimaaGreatDoor
