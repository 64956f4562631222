/- slices.Equal at int over slices that read as lists; awake. -/
import Derived.Test.YthpdndkfdiphmaaDoorVars
import Derived.Test.YthpdndkfdiphmaaDoorLitsP
namespace Go.Proofs.YthpdndkfdiphmaaDoor
open Go Go.RowKit Go.Shelf
theorem RdI.of_own {w : World} {base n : Nat} {v : Value} {xs : List Int} (h : w.ownsRow base 3 1 v n (xs.map (.int .i64))) : RdI w.heap.size w v xs := by
  have hl := h.1
  rw [List.length_map] at hl
  rcases h.2 with ⟨rfl, h0⟩ | ⟨g, cap, cur, rfl, hbg, hh, hnc, hcm, hcs', htk⟩
  · have : xs.length = 0 := by omega
    exact ⟨none, 0, by rw [this], by omega, fun h => by omega⟩
  · have hn : n = xs.length := by omega
    subst hn
    refine ⟨_, cap, rfl, hnc, fun _ => ⟨g, 0, rfl, (h.lt g rfl).2, fun j hj => ?_⟩⟩
    rw [own_cell h j hj]; simp
theorem EqualInt_any (w : World) (B C : Nat) (u v : Value) (xs ys : List Int) (hx : RdI B w u xs) (hy : RdI C w v ys) (h1 : xs.length ≤ 1000000) (h2 : ys.length ≤ 1000000) :
    Calls Tryd.prog 27 #[u, v] w fun e w' => e = .returned (.bool (xs == ys)) ∧ ∃ q, w' = w.drewN q := by
  obtain ⟨A, c, rfl, hc, hr⟩ := hx
  obtain ⟨A', c', rfl, hc', hr'⟩ := hy
  by_cases hl : xs.length = ys.length
  · by_cases h0 : 0 < xs.length
    · obtain ⟨b, o, rfl, hb, hcell⟩ := hr h0
      obtain ⟨b', o', rfl, hb', hcell'⟩ := hr' (by omega)
      have := Tryd.slices_Equal_int b o xs.length c b' o' ys.length c' xs ys w (Nat.le_refl _) (Nat.le_refl _) (by omega) (by omega) (fun j hj => by rw [hcell j hj]; simp) (fun j hj => by rw [hcell' j hj]; simp)
      rw [List.take_length, List.take_length] at this
      exact this
    · have hx0 : xs = [] := List.eq_nil_of_length_eq_zero (by omega)
      have hy0 : ys = [] := List.eq_nil_of_length_eq_zero (by omega)
      subst hx0 hy0
      exact (Tryd.slices_Equal_int_empty A A' c 0 c' w (by omega)).mono fun e w' ⟨he, hw⟩ => ⟨he, 0, hw⟩
  · refine (Tryd.slices_Equal_int_lens A A' xs.length c ys.length c' w hl).mono fun e w' ⟨he, hw⟩ => ⟨?_, 0, hw⟩
    rw [he]
    have : (xs == ys) = false := by
      rw [beq_eq_false_iff_ne]; intro e; exact hl (by rw [e])
    rw [this]
theorem RdI.lit (W : World) (zs : List Int) (t : TypeId) (cap : Nat) (hc : zs.length ≤ cap) : RdI (W.heap.size + 1) (W.alloc (.cells (zs.map (Value.int .i64)).toArray t)) (.slice (some ⟨W.heap.size, 0, none⟩) zs.length cap) zs := by
  refine ⟨_, cap, rfl, hc, fun _ => ⟨W.heap.size, 0, rfl, by omega, fun j hj => ?_⟩⟩
  simp only [World.cell?, World.alloc_heap_new, Nat.zero_add]
  simp [hj]
theorem awk1 : LIdx (-3) = 5 ∧ LRight (-3) = true ∧ LErr true = 0 ∧ LAt 4 = 3 ∧ LAtOk 4 = true ∧ LAt 0 = 1 ∧ LAtOk 0 = true ∧ LVar (-3) = 3 ∧ LNegated (-3) = true ∧ LNeg (-3) = 3 ∧ LCmp 3 (-3) = -1 ∧ LCmp (-2) 3 = -1 := by decide
theorem dd3 : dd 3 = [51] := by rw [dd_step (by decide)]; rfl
theorem awk2 : LText (-3) = [45, 51] ∧ LRd [45, 51] = -3 := by
  have h : Lib.itoa (-3) = [45, 51] := by rw [itoa_neg _ (by decide)]; show 45 :: dd 3 = _; rw [dd3]
  refine ⟨by unfold LText; rw [if_pos (by decide), h], ?_⟩
  rw [← h]; exact LRd_itoa (by decide)
theorem awk3 : LRd [48] = 0 ∧ LRd [45, 48] = 0 ∧ LRd [48, 51] = 0 ∧ LRd [43, 51] = 0 ∧ LRd [] = 0 := by
  simp only [LRd_eq]; decide
theorem awk4 : vset (vl [3, -1, -3]) = [1, 3] ∧ grl (vl [3, -1, -3]) = 3 := by decide
set_option maxRecDepth 100000 in
set_option maxHeartbeats 1000000 in
theorem awake_any (w : World) (ht : Tb w) : Calls Tryd.prog 13 #[] w fun e w' => e = .returned (.bool true) ∧ Below w.heap.size w w' := by
  obtain ⟨a1, a2, a3, a4, a5, a6, a7, a8, a9, a10, a11, a12⟩ := awk1
  obtain ⟨b1, b2⟩ := awk2
  have Ht := Lib.hid ht; clear ht
  go_enter Tryd.func13, Tryd.ntmps13
  go_wp2_with (first
    | (go_at_call 17; refine (Index_any _ _).mono ?_; rintro e w' ⟨rfl, rfl⟩)
    | (go_at_call 21; refine (At_any _ _).mono ?_; rintro e w' ⟨rfl, rfl⟩)
    | (go_at_call 22; refine (Read_any _ _ (by decide) Ht.out).mono ?_; rintro e w1 ⟨rfl, hb1⟩))
  obtain ⟨w2, hw2⟩ : ∃ W, w1.alloc (.cells #[.string ⟨#[48]⟩, .string ⟨#[45, 48]⟩, .string ⟨#[48, 51]⟩, .string ⟨#[43, 51]⟩, .string ⟨#[]⟩] 9) = W := ⟨_, rfl⟩
  rw [hw2]
  have hb2 : Below w.heap.size w w2 := by rw [← hw2]; exact hb1.alloc hb1.size _
  have hz2 : w1.heap.size < w2.heap.size := by rw [← hw2]; simp
  have c0 : w2.cell? ⟨w1.heap.size, 0, none⟩ = some (.string ⟨#[48]⟩) := by rw [← hw2]; simp [World.cell?_alloc_new]
  have c1 : w2.cell? ⟨w1.heap.size, 1, none⟩ = some (.string ⟨#[45, 48]⟩) := by rw [← hw2]; simp [World.cell?_alloc_new]
  have c2 : w2.cell? ⟨w1.heap.size, 2, none⟩ = some (.string ⟨#[48, 51]⟩) := by rw [← hw2]; simp [World.cell?_alloc_new]
  have c3 : w2.cell? ⟨w1.heap.size, 3, none⟩ = some (.string ⟨#[43, 51]⟩) := by rw [← hw2]; simp [World.cell?_alloc_new]
  have c4 : w2.cell? ⟨w1.heap.size, 4, none⟩ = some (.string ⟨#[]⟩) := by rw [← hw2]; simp [World.cell?_alloc_new]
  have C0 := Lib.hid c0; have C1 := Lib.hid c1; have C2 := Lib.hid c2; have C3 := Lib.hid c3; have C4 := Lib.hid c4
  clear c0 c1 c2 c3 c4 hw2
  have Z := Lib.hid (awk3)
  have e0 : LErr (decide ((0 : Int) ≠ 0)) = 10 := rfl
  go_loopw [0, 32] (fun r i wr => r = .bool false ∧ (∃ k : Nat, k ≤ 5 ∧ i = .int .i64 k) ∧ Below w2.heap.size w2 wr) (fun _ i _ => 5 - (intOf i).toNat)
  case atStart => exact ⟨rfl, ⟨0, by omega, rfl⟩, Below.refl _ _⟩
  case round =>
    obtain ⟨rfl, ⟨k, hk, rfl⟩, hbw⟩ := hrel
    have htw : Tb wr := Ht.out.below (hb2.trans (hbw.mono hb2.size))
    have Htw := Lib.hid htw; clear htw
    by_cases hlt : k < 5
    · obtain ⟨s, hcell, hrd, hsz⟩ : ∃ s : ByteArray, wr.cell? ⟨w1.heap.size, k, none⟩ = some (.string s) ∧ LRd s.data.toList = 0 ∧ s.size ≤ 1000000 := by
        have : k = 0 ∨ k = 1 ∨ k = 2 ∨ k = 3 ∨ k = 4 := by omega
        obtain ⟨z0, z1, z2, z3, z4⟩ := Z.out
        rcases this with rfl | rfl | rfl | rfl | rfl
        · exact ⟨_, (hbw.cell (p := ⟨w1.heap.size, 0, none⟩) hz2).trans C0.out, z0, by decide⟩
        · exact ⟨_, (hbw.cell (p := ⟨w1.heap.size, 1, none⟩) hz2).trans C1.out, z1, by decide⟩
        · exact ⟨_, (hbw.cell (p := ⟨w1.heap.size, 2, none⟩) hz2).trans C2.out, z2, by decide⟩
        · exact ⟨_, (hbw.cell (p := ⟨w1.heap.size, 3, none⟩) hz2).trans C3.out, z3, by decide⟩
        · exact ⟨_, (hbw.cell (p := ⟨w1.heap.size, 4, none⟩) hz2).trans C4.out, z4, by decide⟩
      go_wp2_with (go_at_call 22; refine (Read_any _ _ (by assumption) Htw.out).mono ?_; rintro e w3 ⟨rfl, hb3⟩)
      go_roundw
      case rel => exact ⟨rfl, ⟨k + 1, by omega, by go_num⟩, hbw.trans (hb3.mono hbw.size)⟩
      case measure => simp [intOf]; omega
    · obtain rfl : k = 5 := by omega
      have hw3 : Below w.heap.size w wr := hb2.trans (hbw.mono hb2.size)
      go_wp2_with (first
        | (go_at_call 19; refine (Var_any _ _).mono ?_; rintro e w' ⟨rfl, rfl⟩)
        | (go_at_call 20; refine (Negated_any _ _).mono ?_; rintro e w' ⟨rfl, rfl⟩)
        | (go_at_call 16; refine (Neg_any _ _).mono ?_; rintro e w' ⟨rfl, rfl⟩)
        | (go_at_call 25; refine (Compare_any _ _ _).mono ?_; rintro e w' ⟨rfl, rfl⟩))
      have hw3' : Below w.heap.size w (wr.alloc (.cells #[.int .i64 3, .int .i64 (-1), .int .i64 (-3)] 25)) := hw3.alloc hw3.size _
      have hI3 : RdI (wr.heap.size + 1) (wr.alloc (.cells #[.int .i64 3, .int .i64 (-1), .int .i64 (-3)] 25)) (.slice (some ⟨wr.heap.size, 0, none⟩) 3 3) [3, -1, -3] := RdI.lit wr [3, -1, -3] 25 3 (by decide)
      refine (Text_any _ _ (Ht.out.below hw3')).mono ?_
      rintro e w4 ⟨rfl, hb4⟩
      have hz4 : wr.heap.size + 1 ≤ w4.heap.size := by have := hb4.size; simpa using this
      have hI4 : RdI (wr.heap.size + 1) w4 (.slice (some ⟨wr.heap.size, 0, none⟩) 3 3) [3, -1, -3] := hI3.below (hb4.mono (by simp))
      have hw4 : Below w.heap.size w w4 := hw3'.trans (hb4.mono hw3'.size)
      go_wp2_with (go_at_call 25; refine (Compare_any _ _ _).mono ?_; rintro e w' ⟨rfl, rfl⟩)
      refine (Vars_any _ [3, -1, -3] (by decide) w4 (hI4.more hz4)).mono ?_
      rintro e w5 ⟨v5, rfl, hown5, _, hb5⟩
      rw [awk4.1] at hown5
      have hw5 : Below w.heap.size w w5 := hw4.trans (hb5.mono hw4.size)
      go_wp2_with fail
      have hr1 : RdI w5.heap.size (w5.alloc (.cells #[.int .i64 1, .int .i64 3] 3)) v5 [1, 3] := (RdI.of_own hown5).below ((Below.refl _ w5).alloc (Nat.le_refl _) _)
      have hr2 : RdI (w5.heap.size + 1) (w5.alloc (.cells #[.int .i64 1, .int .i64 3] 3)) (.slice (some ⟨w5.heap.size, 0, none⟩) 2 2) [1, 3] := RdI.lit w5 [1, 3] 3 2 (by decide)
      refine (EqualInt_any _ _ _ _ _ [1, 3] [1, 3] hr1 hr2 (by decide) (by decide)).mono ?_
      rintro e w6 ⟨rfl, q, rfl⟩
      go_wp2_with fail
      have hI6 : RdI (wr.heap.size + 1) ((w5.alloc (.cells #[.int .i64 1, .int .i64 3] 3)).drewN q) (.slice (some ⟨wr.heap.size, 0, none⟩) 3 3) [3, -1, -3] := by
        have h := (hI4.below (hb5.mono hz4)).below ((Below.refl (wr.heap.size + 1) w5).alloc (by have := hb5.size; omega) (.cells #[.int .i64 1, .int .i64 3] 3))
        exact h
      refine (Greatest_any _ [3, -1, -3] (by decide) _ (hI6.more (by have := hb5.size; simp; omega))).mono ?_
      rintro e w7 ⟨rfl, hb7⟩
      rw [awk4.2]
      go_wp2_with fail
      go_ret
      have hw6 : Below w.heap.size w ((w5.alloc (.cells #[.int .i64 1, .int .i64 3] 3)).drewN q) := by
        have h := hw5.alloc hw5.size (.cells #[.int .i64 1, .int .i64 3] 3)
        exact ⟨h.os, h.tape, h.output, h.size, h.block⟩
      exact ⟨rfl, hw6.trans (hb7.mono hw6.size)⟩
end Go.Proofs.YthpdndkfdiphmaaDoor
