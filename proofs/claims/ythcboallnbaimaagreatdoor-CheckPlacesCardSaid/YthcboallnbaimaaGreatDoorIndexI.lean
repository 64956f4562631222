/- check: slices.ContainsFunc at the initial words: whether one of the first has a block. -/
import Derived.Test.YthcboallnbaimaaGreatDoorExpr
namespace Go.Proofs.YthcboallnbaimaaGreatDoor
open Go Go.RowKit Go.Maps
theorem all1_any (y : InitV) (xb : Nat) (blk : Int) (W : World) (h : W.cell? ⟨xb, 0, none⟩ = some (.int .i64 blk)) (hlt : xb < W.heap.size) :
    Calls Tryz.prog 120 #[y.val, .pointer (some ⟨xb, 0, none⟩)] W fun o w' => o = .returned (.bool (decide (y.block = blk))) ∧ Below W.heap.size W w' := by
  have hb1 : Below W.heap.size W (W.alloc (.cells #[.int .i64 y.block, .int .u8 y.value.kind, .int .u8 y.value.op, .int .u32 y.value.value, .int .i64 y.value.width, .string y.value.name, .slice y.value.sp.at_ y.value.subs.length y.value.sp.cap] 118)) := (Below.refl _ _).alloc (Nat.le_refl _) _
  have h2 := (hb1.cell (p := ⟨xb, 0, none⟩) hlt).trans h
  have HB1 := Lib.hid hb1
  clear h hb1
  simp only [InitV.val, Sp.val]
  by_cases e : y.block = blk
  · have hd : decide (y.block = blk) = true := decide_eq_true e
    have he : (y.block == blk) = true := by simpa using e
    rw [hd]
    clear hd e
    go_enter Tryz.func120, Tryz.ntmps120
    go_wp2_with fail
    go_ret
    exact ⟨rfl, HB1.out⟩
  · have hd : decide (y.block = blk) = false := decide_eq_false e
    have he : (y.block == blk) = false := by simpa using e
    rw [hd]
    clear hd e
    go_enter Tryz.func120, Tryz.ntmps120
    go_wp2_with fail
    go_ret
    exact ⟨rfl, HB1.out⟩
set_option maxRecDepth 1000000 in
set_option maxHeartbeats 2000000 in
theorem indexI_any (w : World) {n₀ : Nat} {sp : Sp} {l : List InitV} (row : RowOf n₀ w sp 7 InitV.cells l) (hn : n₀ ≤ w.heap.size) (k : Nat) (hk : k ≤ l.length) (c : Nat) (xb : Nat) (blk : Int) (hx : w.cell? ⟨xb, 0, none⟩ = some (.int .i64 blk)) (hlt : xb < w.heap.size) :
    Calls Tryz.prog 147 #[.slice sp.at_ k c, .func (.func 120) #[] #[.pointer (some ⟨xb, 0, none⟩)]] w fun o w' => (∃ z : Int, -1 ≤ z ∧ o = .returned (.int .i64 z) ∧ (0 ≤ z ↔ blk ∈ (l.take k).map InitV.block)) ∧ Below w.heap.size w w' := by
  have hll := row.few
  have HROW := Lib.hid row
  have HX := Lib.hid hx
  clear row hx
  go_enter Tryz.func147, Tryz.ntmps147
  go_wp2_with fail
  go_loopw [8] (fun i wr => ∃ j : Nat, j ≤ k ∧ i = .int .i64 j ∧ Hid (blk ∉ (l.take j).map InitV.block) ∧ Below w.heap.size w wr) (fun i _ => k - (intOf i).toNat)
  case atStart => exact ⟨0, Nat.zero_le _, rfl, Lib.hid (by simp), Below.refl _ _⟩
  case round =>
    obtain ⟨j, hj, rfl, HNO, hb⟩ := hrel
    have HB := Lib.hid hb
    clear hb
    by_cases hjk : j < k
    · have hjl : j < l.length := by omega
      obtain ⟨b, off, eA, hbn, hcell⟩ := (HROW.out.below (HB.out.mono hn)).row (by omega)
      have k0 : wr.cell? ⟨b, off + j * 7, none⟩ = some (.int .i64 l[j].block) := hcell j hjl 0 _ rfl
      have k1 : wr.cell? ⟨b, off + j * 7 + 1, none⟩ = some (.int .u8 l[j].value.kind) := hcell j hjl 1 _ rfl
      have k2 : wr.cell? ⟨b, off + j * 7 + 2, none⟩ = some (.int .u8 l[j].value.op) := hcell j hjl 2 _ rfl
      have k3 : wr.cell? ⟨b, off + j * 7 + 3, none⟩ = some (.int .u32 l[j].value.value) := hcell j hjl 3 _ rfl
      have k4 : wr.cell? ⟨b, off + j * 7 + 4, none⟩ = some (.int .i64 l[j].value.width) := hcell j hjl 4 _ rfl
      have k5 : wr.cell? ⟨b, off + j * 7 + 5, none⟩ = some (.string l[j].value.name) := hcell j hjl 5 _ rfl
      have k6 : wr.cell? ⟨b, off + j * 7 + 6, none⟩ = some (.slice l[j].value.sp.at_ l[j].value.subs.length l[j].value.sp.cap) := hcell j hjl 6 _ rfl
      have hts : l.take (j + 1) = l.take j ++ [l[j]] := List.take_succ_eq_append_getElem hjl
      have hmt : j < k → l[j].block ∈ (l.take k).map InitV.block := fun h => List.mem_map.2 ⟨l[j], by rw [List.mem_take_iff_getElem]; exact ⟨j, by omega, rfl⟩, rfl⟩
      have HTS := Lib.hid hts
      have HMT := Lib.hid hmt
      generalize l[j] = y at *
      have hxw := (HB.out.cell (p := ⟨xb, 0, none⟩) hlt).trans HX.out
      have hA1 := all1_any y xb blk wr hxw (by have := HB.out.size; omega)
      simp only [InitV.val, Sp.val] at hA1
      have hj0 : (0 : Int) ≤ (j : Int) := by omega
      have hj1 : (j : Int) < (k : Int) := by omega
      clear hcell hts hmt hxw
      rw [eA]
      clear eA
      by_cases e : y.block = blk
      · rw [decide_eq_true e] at hA1
        have HA1 := Lib.hid hA1
        have HE := Lib.hid e
        clear hA1 e
        go_wp2_with fail
        refine HA1.out.mono ?_
        rintro o w2 ⟨rfl, hb2⟩
        have HB2 := Lib.hid hb2
        clear hb2 k0 k1 k2 k3 k4 k5 k6
        go_wp2_with fail
        go_ret
        exact ⟨⟨j, by omega, rfl, iff_of_true (by omega) (by rw [← HE.out]; exact HMT.out hjk)⟩, HB.out.trans (HB2.out.mono HB.out.size)⟩
      · rw [decide_eq_false e] at hA1
        have HA1 := Lib.hid hA1
        have HE := Lib.hid e
        clear hA1 e
        go_wp2_with fail
        refine HA1.out.mono ?_
        rintro o w2 ⟨rfl, hb2⟩
        have HB2 := Lib.hid hb2
        clear hb2 k0 k1 k2 k3 k4 k5 k6
        go_wp2_with fail
        go_roundw
        case rel => exact ⟨j + 1, by omega, by go_num, Lib.hid (by
          rw [HTS.out, List.map_append, List.mem_append]
          rintro (h | h)
          · exact HNO.out h
          · simp at h; exact HE.out h.symm), HB.out.trans (HB2.out.mono HB.out.size)⟩
        case measure => simp [intOf]; omega
    · obtain rfl : j = k := by omega
      go_wp2_with fail
      go_ret
      exact ⟨⟨-1, by omega, rfl, by have := HNO.out; constructor <;> intro h; omega; exact absurd h this⟩, HB.out⟩
theorem containsI_any (w : World) {n₀ : Nat} {sp : Sp} {l : List InitV} (row : RowOf n₀ w sp 7 InitV.cells l) (hn : n₀ ≤ w.heap.size) (k : Nat) (hk : k ≤ l.length) (c : Nat) (xb : Nat) (blk : Int) (hx : w.cell? ⟨xb, 0, none⟩ = some (.int .i64 blk)) (hlt : xb < w.heap.size) :
    Calls Tryz.prog 119 #[.slice sp.at_ k c, .func (.func 120) #[] #[.pointer (some ⟨xb, 0, none⟩)]] w fun o w' => o = .returned (.bool (decide (blk ∈ (l.take k).map InitV.block))) ∧ Below w.heap.size w w' := by
  have H := Lib.hid (indexI_any w row hn k hk c xb blk hx hlt)
  obtain ⟨res, hres⟩ : ∃ res, decide (blk ∈ (l.take k).map InitV.block) = res := ⟨_, rfl⟩
  rw [hres]
  have HR := Lib.hid hres
  clear hres row hx
  go_enter Tryz.func119, Tryz.ntmps119
  go_wp2_with (first | (go_at_call 147; refine H.out.mono ?_; rintro o2 w2 ⟨⟨z, hz1, rfl, hz⟩, hb2⟩; have HZ := Lib.hid hz; have HB2 := Lib.hid hb2; clear hz hb2) | fail)
  go_ret
  exact ⟨by rw [show decide (0 ≤ z) = res by rw [← HR.out, Bool.eq_iff_iff, decide_eq_true_iff, decide_eq_true_iff]; exact HZ.out]; rfl, HB2.out⟩
end Go.Proofs.YthcboallnbaimaaGreatDoor
