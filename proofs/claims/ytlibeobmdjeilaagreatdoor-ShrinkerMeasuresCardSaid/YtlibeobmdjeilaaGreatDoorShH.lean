/- The reference's measures: salvorref43.Of, Compare. -/
import Derived.Test.YtlibeobmdjeilaaGreatDoorShG
import Derived.Laws.CopyOwn
set_option linter.all false
namespace Go.Proofs.YtlibeobmdjeilaaGreatDoor
open Go Go.RowKit Go.WideShapes Go.ChangeShapes
/-- The state of the reference's measure: so much is counted. -/
structure StA (w0 : World) (b : Nat) (m : MsI) (w : World) : Prop where
  below : Below b w0 w
  size : w.heap.size = b + 1
  cell : w.heap[b]? = some (.cells #[.int .i64 m.1, .int .i64 m.2.1, .int .i64 m.2.2] 97 (0, 0))
theorem StA.three {w0 w : World} {b : Nat} {m : MsI} (h : StA w0 b m w) : w.cell? ⟨b, 0, none⟩ = some (.int .i64 m.1) ∧ w.cell? ⟨b, 1, none⟩ = some (.int .i64 m.2.1) ∧ w.cell? ⟨b, 2, none⟩ = some (.int .i64 m.2.2) := three_cells h.cell
theorem StA.set1 {w0 w : World} {b : Nat} {m : MsI} (h : StA w0 b m w) (x : Int) : StA w0 b (m.1, x, m.2.2) (w.setCell ⟨b, 1, none⟩ (.int .i64 x)) :=
  ⟨h.below.setCell (p := ⟨b, 1, none⟩) (Nat.le_refl _) _, by simp [h.size], heap_setCell_same w b 1 _ _ _ h.cell⟩
theorem StA.set2 {w0 w : World} {b : Nat} {m : MsI} (h : StA w0 b m w) (x : Int) : StA w0 b (m.1, m.2.1, x) (w.setCell ⟨b, 2, none⟩ (.int .i64 x)) :=
  ⟨h.below.setCell (p := ⟨b, 2, none⟩) (Nat.le_refl _) _, by simp [h.size], heap_setCell_same w b 2 _ _ _ h.cell⟩
set_option maxRecDepth 1000000 in
set_option maxHeartbeats 4000000 in
theorem refOf_any (w : World) (A1 A3 : Option Addr) (k1 k3 : Nat) (xs : List Int) (pt : Int) (bs : List Bool) (h1 : RdG (.int .i64) w (.slice A1 xs.length k1) xs) (h3 : RdG .bool w (.slice A3 bs.length k3) bs) (hl1 : xs.length ≤ 1000000) (hl3 : bs.length ≤ 1000000) (hx : ∀ x ∈ xs, 0 ≤ x ∧ x ≤ 4294967295) :
    Calls Tryz.prog 49 #[.agg #[.slice A1 xs.length k1, .int .i64 pt, .slice A3 bs.length k3]] w fun o w' => o = .returned (.agg #[.int .i64 pt, .int .i64 (cntB bs), .int .i64 (sumI xs)]) ∧ Below w.heap.size w w' := by
  have HR1 := Lib.hid h1
  have HR3 := Lib.hid h3
  have HX := Lib.hid hx
  have HL1 := Lib.hid hl1
  have HL3 := Lib.hid hl3
  clear h1 h3 hx
  go_enter Tryz.func49, Tryz.ntmps49
  go_wp2_with fail
  obtain ⟨w3, hw3⟩ : ∃ w3, ((w.alloc (.cells #[.slice A1 xs.length k1, .int .i64 pt, .slice A3 bs.length k3] 102)).alloc (.cells #[.int .i64 0, .int .i64 0, .int .i64 0] 97)).alloc (.cells #[.int .i64 pt, .int .i64 0, .int .i64 0] 97) = w3 := ⟨_, rfl⟩
  rw [hw3]
  have hz3 : w3.heap.size = w.heap.size + 1 + 1 + 1 := by rw [← hw3]; simp
  have hb3 : Below w.heap.size w w3 := by rw [← hw3]; exact (((Below.refl _ _).alloc (Nat.le_refl _) _).alloc (by simp) _).alloc (by simp only [World.size_alloc]; omega) _
  have hA : w3.heap[w.heap.size]? = some (.cells #[.slice A1 xs.length k1, .int .i64 pt, .slice A3 bs.length k3] 102 (0, 0)) := by rw [← hw3, Lib.alloc_old _ _ _ (by simp only [World.size_alloc]; omega), Lib.alloc_old _ _ _ (by simp)]; exact heap_alloc_new w _
  have hM : w3.heap[w.heap.size + 1]? = some (.cells #[.int .i64 0, .int .i64 0, .int .i64 0] 97 (0, 0)) := by
    rw [← hw3, Lib.alloc_old _ _ _ (by simp), ← World.size_alloc w (.cells #[.slice A1 xs.length k1, .int .i64 pt, .slice A3 bs.length k3] 102)]
    exact heap_alloc_new _ _
  have hN : w3.heap[w.heap.size + 1 + 1]? = some (.cells #[.int .i64 pt, .int .i64 0, .int .i64 0] 97 (0, 0)) := by
    rw [← hw3]
    have := heap_alloc_new ((w.alloc (.cells #[.slice A1 xs.length k1, .int .i64 pt, .slice A3 bs.length k3] 102)).alloc (.cells #[.int .i64 0, .int .i64 0, .int .i64 0] 97)) (.cells #[.int .i64 pt, .int .i64 0, .int .i64 0] 97)
    simpa using this
  have HF := Lib.hid (show StA w3 (w.heap.size + 1 + 1) (pt, 0, 0) w3 from ⟨Below.refl _ _, hz3, hN⟩)
  have HA := Lib.hid hA
  have HM := Lib.hid hM
  have HOLD := Lib.hid (fun (W : World) (m : MsI) (hs : StA w3 (w.heap.size + 1 + 1) m W) => show Below w.heap.size w W from hb3.trans (hs.below.mono (by omega)))
  have HAT := Lib.hid (fun (W : World) (m : MsI) (hs : StA w3 (w.heap.size + 1 + 1) m W) => three_cells ((hs.below.block w.heap.size (by omega)).trans hA))
  clear hw3 hz3 hb3 hA hM hN
  go_loopw [4] (fun s4 wr => ∃ k : Nat, k ≤ bs.length ∧ s4 = .int .i64 k ∧ StA w3 (w.heap.size + 1 + 1) (pt, cntB (bs.take k), 0) wr) (fun s4 _ => bs.length - (intOf s4).toNat)
  case atStart => exact ⟨0, Nat.zero_le _, rfl, HF.out⟩
  case round =>
    obtain ⟨k, hk, rfl, hst⟩ := hrel
    have HS := Lib.hid hst
    obtain ⟨m0, m1, m2⟩ := hst.three
    have mf := Lib.frozen_of_heap hst.cell 1
    have HBW := Lib.hid (HOLD.out _ _ hst)
    obtain ⟨s0, s1, s2⟩ := HAT.out _ _ hst
    clear hst
    have hj0 : (0 : Int) ≤ (k : Int) := by omega
    by_cases hlt : k < bs.length
    · obtain ⟨A, c', e, hr⟩ := HR3.out
      cases e
      obtain ⟨b, off, rfl, hcell⟩ := hr (by omega)
      have hc0 := hcell k hlt
      have hj1 : (k : Int) < (bs.length : Int) := by omega
      have HTK := Lib.hid (show cntB (bs.take (k + 1)) = cntB (bs.take k) + (if bs[k] = true then 1 else 0) from by rw [List.take_add_one, List.getElem?_eq_getElem hlt]; exact cntB_snoc _ _)
      obtain ⟨v, hv⟩ : ∃ v, bs[k] = v := ⟨_, rfl⟩
      rw [hv] at hc0 HTK
      have hk1 : wr.cell? ⟨b, off + k, none⟩ = some (.bool v) := (HBW.out.cell (cell_lt hc0)).trans hc0
      have hcb := cntB_bound (bs.take k)
      rw [List.length_take, Nat.min_eq_left hk] at hcb
      have HL := HL3.out
      obtain ⟨c, hc⟩ : ∃ c, cntB (bs.take k) = c := ⟨_, rfl⟩
      rw [hc] at hcb HTK HS m1
      have hwr : IntKind.i64.wrap (c + 1) = c + 1 := by rw [IntKind.wrap_i64]; omega
      have HLT := Lib.hid hlt
      have HK5 := Lib.hid (show k + 1 ≤ bs.length from hlt)
      clear hc0 hcell hr hv hcb hc HL
      cases v with
      | true =>
        have HR5 := Lib.hid (show StA w3 (w.heap.size + 1 + 1) (pt, cntB (bs.take (k + 1)), 0) (wr.setCell ⟨w.heap.size + 1 + 1, 1, none⟩ (.int .i64 (c + 1))) from by rw [HTK.out]; exact HS.out.set1 (c + 1))
        go_wp2_with fail
        go_roundw
        case rel => exact ⟨k + 1, HK5.out, by go_num, HR5.out⟩
        case measure => have := HLT.out; simp [intOf]; omega
      | false =>
        have HR5 := Lib.hid (show StA w3 (w.heap.size + 1 + 1) (pt, cntB (bs.take (k + 1)), 0) wr from by rw [HTK.out, if_neg Bool.false_ne_true, Int.add_zero]; exact HS.out)
        go_wp2_with fail
        go_roundw
        case rel => exact ⟨k + 1, HK5.out, by go_num, HR5.out⟩
        case measure => have := HLT.out; simp [intOf]; omega
    · obtain rfl : k = bs.length := by omega
      clear hj0 hlt m0 m1 m2 mf HF
      rw [List.take_length] at HS
      go_wp2_with fail
      clear s0 s1 s2
      go_loopw [5] (fun s5 wt => ∃ k : Nat, k ≤ xs.length ∧ s5 = .int .i64 k ∧ StA w3 (w.heap.size + 1 + 1) (pt, cntB bs, sumI (xs.take k)) wt) (fun s5 _ => xs.length - (intOf s5).toNat)
      case atStart => exact ⟨0, Nat.zero_le _, rfl, HS.out⟩
      case round =>
        obtain ⟨k, hk, rfl, hst⟩ := hrel
        have HS2 := Lib.hid hst
        obtain ⟨m0, m1, m2⟩ := hst.three
        have mf := Lib.frozen_of_heap hst.cell 2
        have HBW2 := Lib.hid (HOLD.out _ _ hst)
        obtain ⟨s0, s1, s2⟩ := HAT.out _ _ hst
        clear hst
        have hj0 : (0 : Int) ≤ (k : Int) := by omega
        by_cases hlt : k < xs.length
        · obtain ⟨A, c', e, hr⟩ := HR1.out
          cases e
          obtain ⟨b, off, rfl, hcell⟩ := hr (by omega)
          have hc0 := hcell k hlt
          have hj1 : (k : Int) < (xs.length : Int) := by omega
          have HTK := Lib.hid (show sumI (xs.take (k + 1)) = sumI (xs.take k) + xs[k] from by rw [List.take_add_one, List.getElem?_eq_getElem hlt]; exact sumI_snoc _ _)
          have hxb := HX.out xs[k] (List.getElem_mem hlt)
          obtain ⟨v, hv⟩ : ∃ v, xs[k] = v := ⟨_, rfl⟩
          rw [hv] at hc0 HTK hxb
          have hk1 : wr.cell? ⟨b, off + k, none⟩ = some (.int .i64 v) := (HBW2.out.cell (cell_lt hc0)).trans hc0
          have hcb := sumI_bound (xs.take k) fun x hx => HX.out x (List.mem_of_mem_take hx)
          rw [List.length_take, Nat.min_eq_left hk] at hcb
          have HL := HL1.out
          obtain ⟨c, hc⟩ : ∃ c, sumI (xs.take k) = c := ⟨_, rfl⟩
          rw [hc] at hcb HTK HS2 m2
          have hwr : IntKind.i64.wrap (c + v) = c + v := by rw [IntKind.wrap_i64]; omega
          have HLT := Lib.hid hlt
          have HK5 := Lib.hid (show k + 1 ≤ xs.length from hlt)
          clear hc0 hcell hr hv hcb hc HL hxb
          have HR5 := Lib.hid (show StA w3 (w.heap.size + 1 + 1) (pt, cntB bs, sumI (xs.take (k + 1))) (wr.drew.setCell ⟨w.heap.size + 1 + 1, 2, none⟩ (.int .i64 (c + v))) from by
            rw [HTK.out]
            have hd : StA w3 (w.heap.size + 1 + 1) (pt, cntB bs, c) wr.drew := ⟨HS2.out.below.trans ((Below.refl _ _).drew), HS2.out.size, HS2.out.cell⟩
            exact hd.set2 (c + v))
          go_upto_region 10 with fail
          go_still_tail 9, (by kernel_rfl)
          change wpList _ _ _ _ _ wr.drew
          have mf2 : wr.drew.frozen? ⟨w.heap.size + 1 + 1, 2, none⟩ = false := mf
          have md2 : wr.drew.cell? ⟨w.heap.size + 1 + 1, 2, none⟩ = some (.int .i64 c) := m2
          generalize wr.drew = wd at *
          go_wp2_with fail
          go_roundw
          case rel => exact ⟨k + 1, HK5.out, by go_num, HR5.out⟩
          case measure => have := HLT.out; simp [intOf]; omega
        · obtain rfl : k = xs.length := by omega
          clear hj0 hlt
          rw [List.take_length] at HS2
          have hM9 := (HS2.out.below.block _ (by omega)).trans HM.out
          go_wp2_with (first
            | (refine wpList_load_row rfl 97 _ rfl (w.heap.size + 1 + 1) rfl 97 _ (0, 0) _ HS2.out.cell Tryz.underlying97 rfl (by kernel_rfl) ?_)
            | (refine wpList_store_row rfl 97 _ _ rfl (w.heap.size + 1) _ rfl rfl 97 _ hM9 (by kernel_rfl) rfl (by simp [Value.oneCell']) ?_)
            | fail)
          exact bodyPost_ret (results_cell_row rfl _ _ (w.heap.size + 1) 97 _ (0, 0) _ rfl (setRow_heap _ _ _ _ _ _ hM9) Tryz.underlying97 rfl (by kernel_rfl)) rfl ⟨rfl, below_setRow HBW2.out (Nat.le_succ _) _⟩
end Go.Proofs.YtlibeobmdjeilaaGreatDoor
