import Derived.Test.YtcpcoomkapblcaaReduce
import Derived.Test.YtcpcoomkapblcaaTimes
import Derived.Test.YtcpcoomkapblcaaBetter
open Go Go.RowKit Go.Maps
namespace Go.Proofs.Ytcpcoomkapblcaa
open Go.Shelf
theorem bt_trans (x y z : Inf) (h1 : (!bt y x) = true) (h2 : (!bt z y) = true) : (!bt z x) = true := by
  have := swo_cf.ntrans z y x
  rw [lt_cf, lt_cf, lt_cf] at this
  simp at h1 h2 ⊢
  exact this h2 h1
theorem bt_total (x y : Inf) : ((!bt y x) || (!bt x y)) = true := by
  cases h1 : bt y x
  · rfl
  · cases h2 : bt x y
    · rfl
    · have h3 := swo_cf.trans x y x
      rw [lt_cf, lt_cf, lt_cf] at h3
      have h4 := swo_cf.irrefl x
      rw [lt_cf] at h4
      rw [h3 h2 h1] at h4; cases h4
theorem sortI_eq {l T : List Inf} (hp : l.Perm T) (hs : l.Pairwise (fun x y => (!bt y x) = true)) : sortI T = l := by
  refine List.Perm.eq_of_pairwise (le := fun x y => (!bt y x) = true) (fun x y _ _ h1 h2 => ?_) (List.pairwise_mergeSort bt_trans bt_total T) hs ((List.mergeSort_perm _ _).trans hp.symm)
  exact tot_cf x y (by rw [lt_cf]; simpa using h2) (by rw [lt_cf]; simpa using h1)
theorem awake_sort1 : sortI [⟨5, 3, 0⟩, ⟨6, 4, 1⟩, ⟨7, 2, 2⟩, ⟨8, 4, 3⟩, ⟨9, 3, 4⟩] = [⟨7, 2, 2⟩, ⟨9, 3, 4⟩, ⟨5, 3, 0⟩, ⟨8, 4, 3⟩, ⟨6, 4, 1⟩] := sortI_eq (by decide) (by decide)
theorem awake_sort2 : sortI [⟨5, 3, 0⟩, ⟨7, 2, 2⟩, ⟨8, 4, 3⟩, ⟨9, 3, 4⟩, ⟨6, 4, 5⟩] = [⟨7, 2, 2⟩, ⟨9, 3, 4⟩, ⟨5, 3, 0⟩, ⟨6, 4, 5⟩, ⟨8, 4, 3⟩] := sortI_eq (by decide) (by decide)
theorem awake_red1 : redGs [⟨5, 3, 0⟩, ⟨7, 2, 2⟩, ⟨8, 4, 3⟩, ⟨9, 3, 4⟩, ⟨6, 4, 5⟩] [9] = [8] := by unfold redGs; rw [awake_sort2]; decide
theorem awake_red2 : redT [⟨5, 3, 0⟩, ⟨7, 2, 2⟩, ⟨8, 4, 3⟩, ⟨9, 3, 4⟩, ⟨6, 4, 5⟩] [9] = [⟨5, 3, 0⟩, ⟨7, 2, 2⟩, ⟨9, 3, 4⟩, ⟨6, 4, 5⟩] := by unfold redT; rw [awake_red1]; decide
/-- The times of the chapter's example, after k conflicts; what was due by then. -/
def stA : Nat → Ti
  | 0 => ⟨2, 1, 2, 0⟩
  | k + 1 => (conR (stA k)).1
def dueA : Nat → List Int
  | 0 => []
  | k + 1 => if (conR (stA k)).2.1 then dueA k ++ [((k + 1 : Nat) : Int)] else dueA k
theorem stA_ok : ∀ k, k < 10 → (0 ≤ (stA k).b ∧ (stA k).b ≤ 1048576) ∧ (1 ≤ (stA k).a ∧ (stA k).a ≤ 1099511627776) ∧ (1 ≤ (stA k).c ∧ (stA k).c ≤ 1099511627776) ∧ (0 ≤ (stA k).d ∧ (stA k).d ≤ 1000000) ∧ (conR (stA k)).2.2 = 0 := by decide
theorem dueA_len : ∀ k, k ≤ 10 → (dueA k).length ≤ 10 := by decide
theorem below_drewN' {B : Nat} {a w : World} (h : Below B a w) (q : Nat) : Below B a (w.drewN q) := ⟨h.os, h.tape, h.output, h.size, h.block⟩
theorem sortZ_one (x : Int) : sortZ [x] = [x] := by simp [sortZ]
theorem awake_sort3 : sortI [⟨5, 3, 0⟩, ⟨7, 2, 2⟩, ⟨9, 3, 4⟩, ⟨6, 4, 5⟩] = [⟨7, 2, 2⟩, ⟨9, 3, 4⟩, ⟨5, 3, 0⟩, ⟨6, 4, 5⟩] := sortI_eq (by decide) (by decide)
theorem awake_red3 : redGs [⟨5, 3, 0⟩, ⟨7, 2, 2⟩, ⟨9, 3, 4⟩, ⟨6, 4, 5⟩] [] = [6] := by unfold redGs; rw [awake_sort3]; decide
theorem awake_red4 : redT [⟨5, 3, 0⟩, ⟨7, 2, 2⟩, ⟨9, 3, 4⟩, ⟨6, 4, 5⟩] [] = [⟨5, 3, 0⟩, ⟨7, 2, 2⟩, ⟨9, 3, 4⟩] := by unfold redT; rw [awake_red3]; decide
set_option maxRecDepth 10000000 in
set_option maxHeartbeats 4000000 in
theorem awake_any (w : World) : Calls Try.prog 14 #[] w fun e w' => e = .returned (.bool true) ∧ Below w.heap.size w w' := by
  go_enter Try.func14, Try.ntmps14
  go_wp2_with fail
  refine (new_any w).mono ?_
  rintro e w1 ⟨p, m, rfl, ht1, hp, hm, hb1⟩
  go_wp2_with fail
  have hq0 := put_any w1 p m [] 0 5 3 ht1 (by decide) (by decide) (by decide)
  rw [show putR [] 0 5 3 = ([⟨5, 3, 0⟩], 1, 0) from by decide] at hq0
  refine hq0.mono ?_
  clear hq0
  rintro e w2 ⟨rfl, ht2, hb2⟩
  go_wp2_with fail
  have hq1 := put_any w2 p m [⟨5, 3, 0⟩] 1 6 4 ht2 (by decide) (by decide) (by decide)
  rw [show putR [⟨5, 3, 0⟩] 1 6 4 = ([⟨5, 3, 0⟩, ⟨6, 4, 1⟩], 2, 0) from by decide] at hq1
  refine hq1.mono ?_
  clear hq1
  rintro e w3 ⟨rfl, ht3, hb3⟩
  go_wp2_with fail
  have hq2 := put_any w3 p m [⟨5, 3, 0⟩, ⟨6, 4, 1⟩] 2 7 2 ht3 (by decide) (by decide) (by decide)
  rw [show putR [⟨5, 3, 0⟩, ⟨6, 4, 1⟩] 2 7 2 = ([⟨5, 3, 0⟩, ⟨6, 4, 1⟩, ⟨7, 2, 2⟩], 3, 0) from by decide] at hq2
  refine hq2.mono ?_
  clear hq2
  rintro e w4 ⟨rfl, ht4, hb4⟩
  go_wp2_with fail
  have hq3 := put_any w4 p m [⟨5, 3, 0⟩, ⟨6, 4, 1⟩, ⟨7, 2, 2⟩] 3 8 4 ht4 (by decide) (by decide) (by decide)
  rw [show putR [⟨5, 3, 0⟩, ⟨6, 4, 1⟩, ⟨7, 2, 2⟩] 3 8 4 = ([⟨5, 3, 0⟩, ⟨6, 4, 1⟩, ⟨7, 2, 2⟩, ⟨8, 4, 3⟩], 4, 0) from by decide] at hq3
  refine hq3.mono ?_
  clear hq3
  rintro e w5 ⟨rfl, ht5, hb5⟩
  go_wp2_with fail
  have hq4 := put_any w5 p m [⟨5, 3, 0⟩, ⟨6, 4, 1⟩, ⟨7, 2, 2⟩, ⟨8, 4, 3⟩] 4 9 3 ht5 (by decide) (by decide) (by decide)
  rw [show putR [⟨5, 3, 0⟩, ⟨6, 4, 1⟩, ⟨7, 2, 2⟩, ⟨8, 4, 3⟩] 4 9 3 = ([⟨5, 3, 0⟩, ⟨6, 4, 1⟩, ⟨7, 2, 2⟩, ⟨8, 4, 3⟩, ⟨9, 3, 4⟩], 5, 0) from by decide] at hq4
  refine hq4.mono ?_
  clear hq4
  rintro e w6 ⟨rfl, ht6, hb6⟩
  go_wp2_with fail
  refine (ids_any w6 p m _ 5 ht6 (by decide)).mono ?_
  rintro e w7 ⟨v7, rfl, hown7, hb7⟩
  rw [awake_sort1] at hown7
  have ht7 := ht6.below hb7
  go_wp2_with fail
  have hr7 : RdI w7.heap.size (w7.alloc (.cells #[.int .i64 7, .int .i64 9, .int .i64 5, .int .i64 8, .int .i64 6] 3)) v7 [7, 9, 5, 8, 6] := (RdI.of_own hown7).below ((Below.refl _ w7).alloc (Nat.le_refl _) _)
  have hr7b : RdI (w7.heap.size + 1) (w7.alloc (.cells #[.int .i64 7, .int .i64 9, .int .i64 5, .int .i64 8, .int .i64 6] 3)) (.slice (some ⟨w7.heap.size, 0, none⟩) 5 5) [7, 9, 5, 8, 6] := RdI.lit w7 [7, 9, 5, 8, 6] 3 5 (by decide)
  refine (EqualInt_any _ _ _ _ _ [7, 9, 5, 8, 6] [7, 9, 5, 8, 6] hr7 hr7b (by decide) (by decide)).mono ?_
  rintro e w8 ⟨rfl, q8, rfl⟩
  have ht8a := ht7.alloc (.cells #[.int .i64 7, .int .i64 9, .int .i64 5, .int .i64 8, .int .i64 6] 3)
  have ht8 : Tab ((w7.alloc (.cells #[.int .i64 7, .int .i64 9, .int .i64 5, .int .i64 8, .int .i64 6] 3)).drewN q8) p m _ 5 := ⟨ht8a.head, ht8a.map, ht8a.apart, ht8a.wf, ht8a.ne⟩
  go_wp2_with fail
  have hu := use_any _ p m _ 5 6 4 ht8 (by decide) (by decide) (by decide)
  rw [show useR [⟨5, 3, 0⟩, ⟨6, 4, 1⟩, ⟨7, 2, 2⟩, ⟨8, 4, 3⟩, ⟨9, 3, 4⟩] 5 6 4 = ([⟨5, 3, 0⟩, ⟨7, 2, 2⟩, ⟨8, 4, 3⟩, ⟨9, 3, 4⟩, ⟨6, 4, 5⟩], 6, 0) from by decide] at hu
  refine hu.mono ?_
  clear hu
  rintro e w9 ⟨rfl, ht9, hb9⟩
  go_wp2_with fail
  have hi9 := info_any w9 p m _ 6 6 ht9 (by decide)
  rw [show infoOf [⟨5, 3, 0⟩, ⟨7, 2, 2⟩, ⟨8, 4, 3⟩, ⟨9, 3, 4⟩, ⟨6, 4, 5⟩] 6 = ⟨6, 4, 5⟩ from by decide, show hasI [⟨5, 3, 0⟩, ⟨7, 2, 2⟩, ⟨8, 4, 3⟩, ⟨9, 3, 4⟩, ⟨6, 4, 5⟩] 6 = true from by decide, show Inf.val ⟨6, 4, 5⟩ = .agg #[.int .i64 6, .int .i64 4, .int .i64 5] from rfl] at hi9
  refine hi9.mono ?_
  clear hi9
  rintro e w10 ⟨rfl, ht10, hb10⟩
  go_wp2_with fail
  have ht11 := (ht10.alloc (.cells #[.int .i64 6, .int .i64 4, .int .i64 5] 32)).alloc (.cells #[.int .i64 9] 3)
  have hl11 : RdI (w10.heap.size + 1 + 1) ((w10.alloc (.cells #[.int .i64 6, .int .i64 4, .int .i64 5] 32)).alloc (.cells #[.int .i64 9] 3)) (.slice (some ⟨w10.heap.size + 1, 0, none⟩) 1 1) [9] := by
    have h := RdI.lit (w10.alloc (.cells #[.int .i64 6, .int .i64 4, .int .i64 5] 32)) [9] 3 1 (by decide)
    rwa [World.size_alloc] at h
  have hr11 := reduce_any _ p m _ 6 ht11 (by decide) _ [9] (hl11.more (by simp)) (by decide)
  rw [awake_red1, awake_red2, sortZ_one] at hr11
  refine hr11.mono ?_
  clear hr11
  rintro e w11 ⟨v11, rfl, hown11, ht12, hb11⟩
  go_wp2_with fail
  have hr12 := reduce_any w11 p m _ 6 ht12 (by decide) _ [] (RdI.nil _ _) (by decide)
  rw [awake_red3, awake_red4, sortZ_one] at hr12
  refine hr12.mono ?_
  clear hr12
  rintro e w12 ⟨v12, rfl, hown12, ht13, hb12⟩
  have hx10 : ((w10.alloc (.cells #[.int .i64 6, .int .i64 4, .int .i64 5] 32)).alloc (.cells #[.int .i64 9] 3)).heap[w10.heap.size]? = some (.cells #[.int .i64 6, .int .i64 4, .int .i64 5] 32) := (Below.heap_alloc _ _ _ (by simp)).trans (World.alloc_heap_new _ _)
  have hp10 := ht10.lt
  have hm10 := ht10.map.lt
  have hx11 := (hb11.block w10.heap.size (by simp; omega) (by omega) (by omega)).trans hx10
  have hx12 := (hb12.block w10.heap.size (Array.getElem?_eq_some_iff.1 hx11).1 (by omega) (by omega)).trans hx11
  have hxc : w12.cell? ⟨w10.heap.size, 2, none⟩ = some (.int .i64 5) := by simp [World.cell?, hx12]
  go_wp2_with fail
  have hown11b := own_of_block hown11 (w' := w12) (fun j hj => hb12.block j (hown11.lt j hj).2 (by have := own_lt hown11 j hj; simp at this; omega) (by have := own_lt hown11 j hj; simp at this; omega))
  have hr13 : RdI w12.heap.size (w12.alloc (.cells #[.int .i64 8] 3)) v11 [8] := (RdI.of_own hown11b).below ((Below.refl _ w12).alloc (Nat.le_refl _) _)
  have hr13b : RdI (w12.heap.size + 1) (w12.alloc (.cells #[.int .i64 8] 3)) (.slice (some ⟨w12.heap.size, 0, none⟩) 1 1) [8] := RdI.lit w12 [8] 3 1 (by decide)
  refine (EqualInt_any _ _ _ _ _ [8] [8] hr13 hr13b (by decide) (by decide)).mono ?_
  rintro e w14 ⟨rfl, q14, rfl⟩
  go_wp2_with fail
  have hbw13 : Below w12.heap.size w12 ((w12.alloc (.cells #[.int .i64 8] 3)).drewN q14) := by
    have h := (Below.refl w12.heap.size w12).alloc (Nat.le_refl _) (.cells #[.int .i64 8] 3)
    exact ⟨h.os, h.tape, h.output, h.size, h.block⟩
  have hz13 : ((w12.alloc (.cells #[.int .i64 8] 3)).drewN q14).heap.size = w12.heap.size + 1 := by simp
  generalize hW13 : (w12.alloc (.cells #[.int .i64 8] 3)).drewN q14 = w13 at *
  have hr14 : RdI w12.heap.size (w13.alloc (.cells #[.int .i64 6] 3)) v12 [6] := ((RdI.of_own hown12).below hbw13).below ((Below.refl _ w13).alloc (by omega) _)
  have hr14b := RdI.lit w13 [6] 3 1 (by decide)
  rw [hz13] at hr14b
  refine (EqualInt_any _ _ _ _ _ [6] [6] hr14 hr14b (by decide) (by decide)).mono ?_
  rintro e w15 ⟨rfl, q15, rfl⟩
  go_wp2_with fail
  have ht14a := (ht13.below hbw13).alloc (.cells #[.int .i64 6] 3)
  have ht14 : Tab ((w13.alloc (.cells #[.int .i64 6] 3)).drewN q15) p m _ 6 := ⟨ht14a.head, ht14a.map, ht14a.apart, ht14a.wf, ht14a.ne⟩
  have hq14 := put_any _ p m _ 6 7 1 ht14 (by decide) (by decide) (by decide)
  rw [show putR [⟨5, 3, 0⟩, ⟨7, 2, 2⟩, ⟨9, 3, 4⟩] 6 7 1 = ([⟨5, 3, 0⟩, ⟨7, 2, 2⟩, ⟨9, 3, 4⟩], 6, 160) from by decide] at hq14
  refine hq14.mono ?_
  clear hq14
  rintro e w16 ⟨rfl, ht16, hb16⟩
  go_wp2_with fail
  refine (newTimes_ok 2 1 w16 (by decide)).mono ?_
  rintro e w17 ⟨t, rfl, rfl⟩
  go_wp2_with fail
  go_loopw [10, 11] (fun v i wr => ∃ k : Nat, k ≤ 10 ∧ i = .int .i64 (k + 1 : Nat) ∧ Tim wr w16.heap.size (stA k) t ∧ wr.ownsRow (w16.heap.size + 1) 3 1 v (dueA k).length ((dueA k).map (.int .i64)) ∧ Below w16.heap.size w16 wr ∧ w16.heap.size + 1 ≤ wr.heap.size) (fun _ i _ => 11 - (intOf i).toNat)
  case atStart => exact ⟨0, by omega, rfl, World.alloc_heap_new _ _, World.ownsRow_nil _ _ _ _, (Below.refl _ _).alloc (Nat.le_refl _) _, by simp⟩
  case round =>
    obtain ⟨k, hk, rfl, hT, hown, hbk, hszk⟩ := hrel
    by_cases hlt : k < 10
    · obtain ⟨hb1', ha1', hc1', hd1', he1'⟩ := stA_ok k hlt
      go_wp2_with fail
      refine (conflict_any wr w16.heap.size (stA k) t hT hb1' ha1' hc1' hd1').mono ?_
      rintro e w18 ⟨rfl, hT18, hb18⟩
      rw [he1']
      by_cases hdue : (conR (stA k)).2.1 = true
      · rw [hdue]
        have hdlen : (dueA k).length ≤ 10 := dueA_len k (by omega)
        have hown18 : w18.ownsRow (w16.heap.size + 1) 3 1 u10 (dueA k).length ((dueA k).map (.int .i64)) := own_of_block hown (fun j hj => hb18.block j (hown.lt j hj).2 (by have := own_lt hown j hj; omega) (by have := own_lt hown j hj; omega))
        obtain ⟨i0, hi, hz0, hz1, hz2⟩ := info_parts int_info
        have hz18 := hb18.size
        go_wp2_with (at_builtin; refine wpList_append_own _ rfl _ _ 33 rfl (w16.heap.size + 1) 3 i0 (.int .i64 0) 1 8 Try.underlying33 hi hz0 hz1 hz2 rfl (by decide) _ _ _ rfl (hown18.alloc _) ⟨w18.heap.size, 0, none⟩ 1 1 [.int .i64 (k + 1 : Nat)] rfl rfl (cell_one_new _ _ _) (by simp [Value.oneCell']) (by simp only [maxLen]; omega) (by omega) (by simp; omega) ?_; intro v' w19 hown19 hg19 _)
        have hne19 : some w16.heap.size ≠ u10.ownBlock := fun e => by have := own_lt hown _ e.symm; omega
        refine ⟨⟨k + 1, by omega, by simp, ?_, ?_, ?_, ?_⟩, by simp [intOf]; omega⟩
        · exact (hg19.block _ (by simp; omega) hne19).trans ((Below.heap_alloc _ _ _ (by omega)).trans hT18)
        · show w19.ownsRow _ 3 1 v' (if (conR (stA k)).2.1 then dueA k ++ [((k + 1 : Nat) : Int)] else dueA k).length _
          rw [if_pos hdue]
          simp only [dueA, hdue, if_true, List.map_append, List.length_append]
          exact hown19
        · have hb2 : Below w16.heap.size w16 w18 := hb18.below hbk (Nat.le_refl _) (Nat.le_refl _) (by omega)
          exact (hb2.alloc (by omega) _).grown hg19 (by simp; omega) (fun j hj => by have := own_lt hown j hj; omega)
        · have := hg19.size; simp at this; omega
      · have hdue' : (conR (stA k)).2.1 = false := by simpa using hdue
        rw [hdue']
        go_wp2_with fail
        have hown18 : w18.ownsRow (w16.heap.size + 1) 3 1 u10 (dueA k).length ((dueA k).map (.int .i64)) := own_of_block hown (fun j hj => hb18.block j (hown.lt j hj).2 (by have := own_lt hown j hj; omega) (by have := own_lt hown j hj; omega))
        have hz18 := hb18.size
        have hb2 : Below w16.heap.size w16 w18 := hb18.below hbk (Nat.le_refl _) (Nat.le_refl _) (by omega)
        refine ⟨⟨k + 1, by omega, by simp, hT18, ?_, hb2, by omega⟩, by simp [intOf]; omega⟩
        simp only [dueA, hdue', if_false, Bool.false_eq_true]
        exact hown18
    · obtain rfl : k = 10 := by omega
      rw [show dueA 10 = [2, 5, 9] from by decide] at hown
      go_wp2_with fail
      have hrA : RdI wr.heap.size (wr.alloc (.cells #[.int .i64 2, .int .i64 5, .int .i64 9] 3)) u10 [2, 5, 9] := (RdI.of_own hown).below ((Below.refl _ wr).alloc (Nat.le_refl _) _)
      have hrB : RdI (wr.heap.size + 1) (wr.alloc (.cells #[.int .i64 2, .int .i64 5, .int .i64 9] 3)) (.slice (some ⟨wr.heap.size, 0, none⟩) 3 3) [2, 5, 9] := RdI.lit wr [2, 5, 9] 3 3 (by decide)
      refine (EqualInt_any _ _ _ _ _ [2, 5, 9] [2, 5, 9] hrA hrB (by decide) (by decide)).mono ?_
      rintro e w20 ⟨rfl, q20, rfl⟩
      go_wp2_with fail
      go_ret
      have b2 := hb2.below hb1 hp hm hb1.size
      have b3 := hb3.below b2 hp hm b2.size
      have b4 := hb4.below b3 hp hm b3.size
      have b5 := hb5.below b4 hp hm b4.size
      have b6 := hb6.below b5 hp hm b5.size
      have b7 := b6.trans (hb7.mono b6.size)
      have b8 := below_drewN' (b7.alloc b7.size (.cells #[.int .i64 7, .int .i64 9, .int .i64 5, .int .i64 8, .int .i64 6] 3)) q8
      have b9 := hb9.below b8 hp hm b8.size
      have b10 := b9.trans (hb10.mono b9.size)
      have b11a := b10.alloc b10.size (.cells #[.int .i64 6, .int .i64 4, .int .i64 5] 32)
      have b11b := b11a.alloc b11a.size (.cells #[.int .i64 9] 3)
      have b11 := hb11.below b11b hp hm b11b.size
      have b12 := hb12.below b11 hp hm b11.size
      have b13 := b12.trans (hbw13.mono b12.size)
      have b14 := below_drewN' (b13.alloc b13.size (.cells #[.int .i64 6] 3)) q15
      have b16 := hb16.below b14 hp hm b14.size
      have b18 := b16.trans (hbk.mono b16.size)
      have b19 := below_drewN' (b18.alloc b18.size (.cells #[.int .i64 2, .int .i64 5, .int .i64 9] 3)) q20
      exact ⟨rfl, b19⟩
end Go.Proofs.Ytcpcoomkapblcaa
