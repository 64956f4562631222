import Derived.Test.YtcpcoomkapblcaaRefQ
import Derived.Deep.DrawnRows
open Go Go.RowKit Go.Maps
namespace Go.Proofs.Ytcpcoomkapblcaa
open Go.Shelf
attribute [local go_sem ↓] Go.wp_at_zero Go.wp_at_succ
set_option maxRecDepth 1000000 in
set_option maxHeartbeats 2000000 in
theorem refPut_any (w : World) (B : Nat) (sv : Value) (T : List Inf) (c i l : Int) (hB : B ≤ w.heap.size) (hs : RdS B w sv T) (hT : T.length ≤ 1000) (hc0 : 0 ≤ c) (hc1 : c ≤ 1000000) :
    Calls Try.prog 54 #[.agg #[sv, .int .i64 c], .int .i64 i, .int .i64 l] w (RefPutP w (putR T c i l).1 (putR T c i l).2.1 (putR T c i l).2.2) := by
  obtain ⟨A, cap, rfl, hcp, hr⟩ := id hs
  obtain ⟨i0, hi, hz0, hz1, hz2⟩ := info_parts rinf_info
  have hp := heap_two w (.cells #[.slice A T.length cap, .int .i64 c] 94) (.cells #[.slice none 0 0, .int .i64 0] 94)
  have hb1 : Below w.heap.size w ((w.alloc (.cells #[.slice A T.length cap, .int .i64 c] 94)).alloc (.cells #[.slice none 0 0, .int .i64 0] 94)) := ((Below.refl _ w).alloc (Nat.le_refl _) _).alloc (by simp) _
  have hz1' : ((w.alloc (.cells #[.slice A T.length cap, .int .i64 c] 94)).alloc (.cells #[.slice none 0 0, .int .i64 0] 94)).heap.size = w.heap.size + 2 := by simp
  have HP := Lib.hid hp; clear hp
  have HZ1 := Lib.hid hz1'; clear hz1'
  obtain ⟨hx1, hx2, hx3, hx4⟩ := findX_has T i 0
  by_cases hbad : i < 1 ∨ 1073741824 < i
  · have hput : putR T c i l = (T, c, 160) := by unfold putR; rw [if_pos (.inr hbad)]
    rw [hput]
    obtain ⟨g0, g1, f0, f1⟩ := two_cells HP.out.1
    obtain ⟨k0, k1, j0, j1⟩ := two_cells HP.out.2
    have HB := Lib.hid hbad
    clear hput hx1 hx2 hx3 hx4 hr hbad
    rcases HB.out with h1 | h1
    · go_enter Try.func54, Try.ntmps54
      go_wp2_with fail
      all_goals first
        | (exfalso; omega)
        | (go_returns
           refine ⟨_, rfl, ?_, ?_⟩
           · refine RdS.more (hs.below ?_) (n₁ := _) ?_
             · repeat' (first | exact Below.refl _ _ | refine Below.setCell ?_ (by first | omega | (simp; done) | (simp; omega)) _ | refine Below.alloc ?_ (by first | omega | (simp; done) | (simp; omega)) _)
             · simp; omega
           · repeat' (first | exact Below.refl _ _ | refine Below.setCell ?_ (by simp) _ | refine Below.alloc ?_ (by first | omega | (simp; done) | (simp; omega)) _))
    · have h0 : ¬ i < 1 := by omega
      go_enter Try.func54, Try.ntmps54
      go_wp2_with fail
      all_goals first
        | (exfalso; omega)
        | (go_returns
           refine ⟨_, rfl, ?_, ?_⟩
           · refine RdS.more (hs.below ?_) (n₁ := _) ?_
             · repeat' (first | exact Below.refl _ _ | refine Below.setCell ?_ (by first | omega | (simp; done) | (simp; omega)) _ | refine Below.alloc ?_ (by first | omega | (simp; done) | (simp; omega)) _)
             · simp; omega
           · repeat' (first | exact Below.refl _ _ | refine Below.setCell ?_ (by simp) _ | refine Below.alloc ?_ (by first | omega | (simp; done) | (simp; omega)) _))
  · have hi1 : 1 ≤ i := by omega
    have hi2 : i ≤ 1073741824 := by omega
    clear hbad
    cases hh : hasI T i with
    | true =>
      have hneg := hx1.2 hh
      have hput : putR T c i l = (T, c, 160) := by unfold putR; rw [if_pos (.inl hh)]
      rw [hput]
      clear hput hx1 hx2 hh
      have hf := fun W hW => refFind_any W B (.slice A T.length cap) T c i hW
      have HF := Lib.hid hf; clear hf
      go_enter Try.func54, Try.ntmps54
      go_wp2_with fail
      generalize (w.alloc (.cells #[.slice A T.length cap, .int .i64 c] 94)).alloc (.cells #[.slice none 0 0, .int .i64 0] 94) = w1 at *
      have hsz1 := HZ1.out
      refine (HF.out w1 (by omega) (hs.below (hb1.mono hB)) (by omega)).mono ?_
      rintro e w2 ⟨rfl, hb2⟩
      generalize findX T i 0 = fx at *
      have e1 : w2.heap[w.heap.size]? = some (.cells #[.slice A T.length cap, .int .i64 c] 94) := (hb2.block _ (by omega)).trans HP.out.1
      have e2 : w2.heap[w.heap.size + 1]? = some (.cells #[.slice none 0 0, .int .i64 0] 94) := (hb2.block _ (by omega)).trans HP.out.2
      obtain ⟨g0, g1, f0, f1⟩ := two_cells e1
      obtain ⟨k0, k1, j0, j1⟩ := two_cells e2
      have hb02 := hb1.trans (hb2.mono (by omega))
      have hsz2 := hb2.size
      clear e1 e2 hb1 hb2
      go_wp2_with fail
      refine bodyPost_ret (by simp [results, Try.results54, go_sem, k0, k1]; try rfl) rfl ?_
      refine ⟨_, rfl, ?_, ?_⟩
      · refine RdS.more (hs.below (B := _) ?_) (n₁ := _) ?_
        · repeat' (first | exact hb02.mono hB | refine Below.setCell ?_ (by first | omega | (simp; done) | (simp; omega)) _)
        · simp; omega
      · repeat' (first | exact hb02 | refine Below.setCell ?_ (by simp) _)
    | false =>
      have hneg := hx2.2 hh
      have hne : ∀ x ∈ T, x.id ≠ i := fun x hx e => by rw [hasI_iff.2 ⟨x, hx, e⟩] at hh; cases hh
      by_cases hl : l < 0
      · have hput : putR T c i l = (T, c, 2) := by
          unfold putR; rw [if_neg (by rw [hh]; simp; omega), if_pos hl]
        rw [hput]
        clear hput hx1 hx2 hh hne
        have hf := fun W hW => refFind_any W B (.slice A T.length cap) T c i hW
        have HF := Lib.hid hf; clear hf
        go_enter Try.func54, Try.ntmps54
        go_wp2_with fail
        generalize (w.alloc (.cells #[.slice A T.length cap, .int .i64 c] 94)).alloc (.cells #[.slice none 0 0, .int .i64 0] 94) = w1 at *
        have hsz1 := HZ1.out
        refine (HF.out w1 (by omega) (hs.below (hb1.mono hB)) (by omega)).mono ?_
        rintro e w2 ⟨rfl, hb2⟩
        generalize findX T i 0 = fx at *
        have e1 : w2.heap[w.heap.size]? = some (.cells #[.slice A T.length cap, .int .i64 c] 94) := (hb2.block _ (by omega)).trans HP.out.1
        have e2 : w2.heap[w.heap.size + 1]? = some (.cells #[.slice none 0 0, .int .i64 0] 94) := (hb2.block _ (by omega)).trans HP.out.2
        obtain ⟨g0, g1, f0, f1⟩ := two_cells e1
        obtain ⟨k0, k1, j0, j1⟩ := two_cells e2
        have hb02 := hb1.trans (hb2.mono (by omega))
        have hsz2 := hb2.size
        clear e1 e2 hb1 hb2
        go_wp2_with fail
        refine bodyPost_ret (by simp [results, Try.results54, go_sem, k0, k1]; try rfl) rfl ?_
        refine ⟨_, rfl, ?_, ?_⟩
        · refine RdS.more (hs.below (B := _) ?_) (n₁ := _) ?_
          · repeat' (first | exact hb02.mono hB | refine Below.setCell ?_ (by first | omega | (simp; done) | (simp; omega)) _)
          · simp; omega
        · repeat' (first | exact hb02 | refine Below.setCell ?_ (by simp) _)
      · have hput : putR T c i l = (T ++ [⟨i, l, c⟩], c + 1, 0) := by
          unfold putR; rw [if_neg (by rw [hh]; simp; omega), if_neg hl, filter_out hne]
        rw [hput]
        clear hput hne hx1 hx2 hh
        have hf := fun W hW => refFind_any W B (.slice A T.length cap) T c i hW
        have HF := Lib.hid hf; clear hf
        go_enter Try.func54, Try.ntmps54
        go_wp2_with fail
        generalize (w.alloc (.cells #[.slice A T.length cap, .int .i64 c] 94)).alloc (.cells #[.slice none 0 0, .int .i64 0] 94) = w1 at *
        have hsz1 := HZ1.out
        refine (HF.out w1 (by omega) (hs.below (hb1.mono hB)) (by omega)).mono ?_
        rintro e w2 ⟨rfl, hb2⟩
        generalize findX T i 0 = fx at *
        have e1 : w2.heap[w.heap.size]? = some (.cells #[.slice A T.length cap, .int .i64 c] 94) := (hb2.block _ (by omega)).trans HP.out.1
        have e2 : w2.heap[w.heap.size + 1]? = some (.cells #[.slice none 0 0, .int .i64 0] 94) := (hb2.block _ (by omega)).trans HP.out.2
        obtain ⟨g0, g1, f0, f1⟩ := two_cells e1
        obtain ⟨k0, k1, j0, j1⟩ := two_cells e2
        have hb02 := hb1.trans (hb2.mono (by omega))
        have hs2 := hs.below (hb02.mono hB)
        have hsz2 := hb2.size
        have E1 := Lib.hid e1
        have E2 := Lib.hid e2
        clear e1 e2 hb1 hb2
        have hzs : w.heap.size + 2 ≤ w2.heap.size := by omega
        clear hsz1 hsz2
        go_upto_region 5 with (fail)
        go_cut [34] (fun s34 wx => wx.heap[w.heap.size]? = some (.cells #[s34, .int .i64 c] 94) ∧ wx.heap[w.heap.size + 1]? = some (.cells #[.slice none 0 0, .int .i64 0] 94) ∧ Below w.heap.size w wx ∧ wx.ownsRow (w.heap.size + 2) 103 3 s34 (T.length + 1) ((T ++ [(⟨i, l, c⟩ : Inf)]).flatMap Inf.enc))
        case first =>
          have hnews := fun W (hW : Below (w.heap.size + 2) w2 W) => (hs2.below (hW.mono (by omega))).news'
          have HN := Lib.hid hnews; clear hnews hs hs2 HF HP HZ1 hr
          have hflat : (T.flatMap Inf.enc).length = T.length * 3 := flat_length (enc := Inf.enc) (k := 3) (fun _ => rfl) T
          have HFL := Lib.hid hflat; clear hflat
          obtain ⟨n0, n0'⟩ := alloc_cells g0
          obtain ⟨n1, n1'⟩ := alloc_cells g1
          have tok : True := trivial
          have hxn : ∀ W : World, ∀ j u, [Value.int .i64 i, .int .i64 l, .int .i64 c][j]? = some u → (W.alloc (.cells #[.int .i64 i, .int .i64 l, .int .i64 c] 103)).cell? ((⟨W.heap.size, 0, none⟩ : Addr).add j) = some u := fun W => cell_three_new W _ _ _ _
          have HXN := Lib.hid hxn; clear hxn
          go_region_law (first
            | (have tk := tok; clear tok; refine step_append_list (by rfl) (.tmp 24) (.tmp 26) 92 (by rfl) (w.heap.size + 2) 103 i0 (.agg #[.int .i64 0, .int .i64 0, .int .i64 0]) 3 24 Try.underlying92 hi hz0 hz1 hz2 rfl (by decide) (w2.heap.size) 0 0 [] (by rfl) (by first | exact own_e w2 (by first | omega | (simp; omega)) | exact (own_e w2 (by first | omega | (simp; omega))).alloc _) A T.length cap (T.flatMap Inf.enc) (by rfl) HFL.out (HN.out _ (by repeat' (first | assumption | exact Below.refl _ _ | refine Below.drew ?_ | refine Below.alloc ?_ (by first | omega | (simp; omega)) _))) (enc_one T) (by simp only [maxLen]; omega) (by omega) (by first | omega | (simp; omega)) ?_; intro g2 cap2 w4 hown4 hgr4 hlt4; simp only [Nat.zero_add, List.nil_append] at hown4; have hB4 : Below (w.heap.size + 2) w2 w4 := Below.grown (by repeat' (first | assumption | exact Below.refl _ _ | refine Below.drew ?_ | refine Below.alloc ?_ (by first | omega | (simp; omega)) _)) hgr4 (by first | omega | (simp; omega)) (fun j hj => by injection hj with hj; omega); have q4 := (hB4.cell (p := ⟨w.heap.size, 0, none⟩) (by show w.heap.size < _; omega)).trans g0; have r4 := (hB4.cell (p := ⟨w.heap.size, 1, none⟩) (by show w.heap.size < _; omega)).trans g1; have p4 := (hB4.frozen (p := ⟨w.heap.size, 0, none⟩) (by show w.heap.size < _; omega)).trans f0; have hsz4 := hB4.size; obtain ⟨m0, m0'⟩ := alloc_cells q4; obtain ⟨m1, m1'⟩ := alloc_cells r4)
            | (have tk := tok; clear tok; refine step_append_list (by rfl) (.tmp 24) (.tmp 26) 92 (by rfl) (w.heap.size + 2) 103 i0 (.agg #[.int .i64 0, .int .i64 0, .int .i64 0]) 3 24 Try.underlying92 hi hz0 hz1 hz2 rfl (by decide) (w2.heap.size + 1) 0 0 [] (by rfl) (own_e' w2 _ (by first | omega | (simp; omega))) A T.length cap (T.flatMap Inf.enc) (by rfl) HFL.out (HN.out _ (by repeat' (first | assumption | exact Below.refl _ _ | refine Below.drew ?_ | refine Below.alloc ?_ (by first | omega | (simp; omega)) _))) (enc_one T) (by simp only [maxLen]; omega) (by omega) (by first | omega | (simp; omega)) ?_; intro g2 cap2 w4 hown4 hgr4 hlt4; simp only [Nat.zero_add, List.nil_append] at hown4; have hB4 : Below (w.heap.size + 2) w2 w4 := Below.grown (by repeat' (first | assumption | exact Below.refl _ _ | refine Below.drew ?_ | refine Below.alloc ?_ (by first | omega | (simp; omega)) _)) hgr4 (by first | omega | (simp; omega)) (fun j hj => by injection hj with hj; omega); have q4 := (hB4.cell (p := ⟨w.heap.size, 0, none⟩) (by show w.heap.size < _; omega)).trans g0; have r4 := (hB4.cell (p := ⟨w.heap.size, 1, none⟩) (by show w.heap.size < _; omega)).trans g1; have p4 := (hB4.frozen (p := ⟨w.heap.size, 0, none⟩) (by show w.heap.size < _; omega)).trans f0; have hsz4 := hB4.size; obtain ⟨m0, m0'⟩ := alloc_cells q4; obtain ⟨m1, m1'⟩ := alloc_cells r4)
            | (refine step_append_lies _ (by rfl) (.tmp 27) (.tmp 33) 92 (by rfl) (w.heap.size + 2) 103 i0 (.agg #[.int .i64 0, .int .i64 0, .int .i64 0]) 3 24 Try.underlying92 hi hz0 hz1 hz2 rfl (by decide) (.slice (some ⟨g2, 0, none⟩) T.length cap2) T.length (T.flatMap Inf.enc) (by rfl) (hown4.alloc _) ⟨w4.heap.size, 0, none⟩ 1 1 [.int .i64 i, .int .i64 l, .int .i64 c] (by rfl) rfl (HXN.out w4) (by simp [Value.oneCell']) (by decide) (by simp only [maxLen]; omega) (by omega) (by first | omega | (simp; omega)) _ rfl ?_; intro g5 cap5 w5 hown5 hgr5 hat5 hlt5; have hB5 : Below (w.heap.size + 2) w2 w5 := Below.grown (by repeat' (first | assumption | exact Below.refl _ _ | refine Below.drew ?_ | refine Below.alloc ?_ (by first | omega | (simp; done) | (simp; omega)) _)) hgr5 (by first | omega | (simp; omega)) (fun j hj => own_lt hown4 j hj); have q5 := (hB5.cell (p := ⟨w.heap.size, 0, none⟩) (by show w.heap.size < _; omega)).trans g0; have r5 := (hB5.cell (p := ⟨w.heap.size, 1, none⟩) (by show w.heap.size < _; omega)).trans g1; have p5 := (hB5.frozen (p := ⟨w.heap.size, 0, none⟩) (by show w.heap.size < _; omega)).trans f0; have hsz5 := hB5.size)
            | (refine step_append_lies _ (by rfl) (.tmp 27) (.tmp 33) 92 (by rfl) (w.heap.size + 2) 103 i0 (.agg #[.int .i64 0, .int .i64 0, .int .i64 0]) 3 24 Try.underlying92 hi hz0 hz1 hz2 rfl (by decide) (.slice (some ⟨g2, 0, none⟩) T.length cap2) T.length (T.flatMap Inf.enc) (by rfl) (hown4) ⟨w2.heap.size, 0, none⟩ 1 1 [.int .i64 i, .int .i64 l, .int .i64 c] (by rfl) rfl (news_far hgr4 (heap_two w2 _ _).1 (fun e => by injection e with e; first | exact absurd e (Nat.ne_of_lt (Nat.lt_succ_self _)) | exact absurd e.symm (Nat.ne_of_lt (Nat.lt_succ_self _)) | omega)) (by simp [Value.oneCell']) (by decide) (by simp only [maxLen]; omega) (by omega) (by first | omega | (simp; omega)) _ rfl ?_; intro g5 cap5 w5 hown5 hgr5 hat5 hlt5; have hB5 : Below (w.heap.size + 2) w2 w5 := Below.grown (by repeat' (first | assumption | exact Below.refl _ _ | refine Below.drew ?_ | refine Below.alloc ?_ (by first | omega | (simp; done) | (simp; omega)) _)) hgr5 (by first | omega | (simp; omega)) (fun j hj => own_lt hown4 j hj); have q5 := (hB5.cell (p := ⟨w.heap.size, 0, none⟩) (by show w.heap.size < _; omega)).trans g0; have r5 := (hB5.cell (p := ⟨w.heap.size, 1, none⟩) (by show w.heap.size < _; omega)).trans g1; have p5 := (hB5.frozen (p := ⟨w.heap.size, 0, none⟩) (by show w.heap.size < _; omega)).trans f0; have hsz5 := hB5.size)
            | (refine step_append_lies _ (by rfl) (.tmp 27) (.tmp 33) 92 (by rfl) (w.heap.size + 2) 103 i0 (.agg #[.int .i64 0, .int .i64 0, .int .i64 0]) 3 24 Try.underlying92 hi hz0 hz1 hz2 rfl (by decide) (.slice (some ⟨g2, 0, none⟩) T.length cap2) T.length (T.flatMap Inf.enc) (by rfl) (hown4) ⟨w2.heap.size + 1, 0, none⟩ 1 1 [.int .i64 i, .int .i64 l, .int .i64 c] (by rfl) rfl (news_far hgr4 (heap_two w2 _ _).2 (fun e => by injection e with e; first | exact absurd e (Nat.ne_of_lt (Nat.lt_succ_self _)) | exact absurd e.symm (Nat.ne_of_lt (Nat.lt_succ_self _)) | omega)) (by simp [Value.oneCell']) (by decide) (by simp only [maxLen]; omega) (by omega) (by first | omega | (simp; omega)) _ rfl ?_; intro g5 cap5 w5 hown5 hgr5 hat5 hlt5; have hB5 : Below (w.heap.size + 2) w2 w5 := Below.grown (by repeat' (first | assumption | exact Below.refl _ _ | refine Below.drew ?_ | refine Below.alloc ?_ (by first | omega | (simp; done) | (simp; omega)) _)) hgr5 (by first | omega | (simp; omega)) (fun j hj => own_lt hown4 j hj); have q5 := (hB5.cell (p := ⟨w.heap.size, 0, none⟩) (by show w.heap.size < _; omega)).trans g0; have r5 := (hB5.cell (p := ⟨w.heap.size, 1, none⟩) (by show w.heap.size < _; omega)).trans g1; have p5 := (hB5.frozen (p := ⟨w.heap.size, 0, none⟩) (by show w.heap.size < _; omega)).trans f0; have hsz5 := hB5.size)
            | fail)
          all_goals
            go_wp2_with fail
            go_meet
            refine ⟨heap_set_same ((hB5.block _ (by omega)).trans E1.out), (heap_setCell_other _ _ _ _ (by simp)).trans ((hB5.block _ (by omega)).trans E2.out), (hb02.trans (hB5.mono (by omega))).setCell (Nat.le_refl _) _, ?_⟩
            rw [List.flatMap_append]
            exact own_of_block hown5 (fun j hj => Below.heap_setCell _ _ _ _ (by have := own_lt hown5 j hj; simp; omega))
        case rest =>
          obtain ⟨h1, h2, h3, h4⟩ := hcut
          clear hs hs2 HF HP HZ1 hr g0 g1 f0 f1 k0 k1 j0 j1 E1 E2 hb02 hzs
          obtain ⟨A9, c9, rfl⟩ := own_shape h4
          have hz9 : w.heap.size + 1 < wc.heap.size := (Array.getElem?_eq_some_iff.1 h2).1
          obtain ⟨g0, g1, f0, f1⟩ := two_cells h1
          obtain ⟨k0, k1, j0, j1⟩ := two_cells h2
          have hown9 := h4
          clear h1 h2 h4
          go_wp2_with fail
          refine bodyPost_ret (by simp [results, Try.results54, go_sem, k0, k1]; try rfl) rfl ?_
          refine ⟨_, rfl, ?_, ?_⟩
          · refine RdS.of_ownE (base := w.heap.size + 2) (n := T.length + 1) (e := 103) (own_of_block hown9 (fun j hj => ?_))
            have := own_lt hown9 j hj
            repeat' (first | rfl | refine (Below.heap_setCell _ _ _ _ (by simp; omega)).trans ?_)
          · repeat' (first | refine Below.setCell ?_ (by simp) _ | exact h3)
end Go.Proofs.Ytcpcoomkapblcaa
