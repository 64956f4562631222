import Derived.Test.YtcpcoomkapblcaaTimesL
open Go Go.RowKit
namespace Go.Proofs.Ytcpcoomkapblcaa
theorem put_four {W : World} {b : Nat} {a0 a1 a2 a3 v0 v1 v2 v3 : Value} {t : TypeId} (h : W.heap[b]? = some (.cells #[a0, a1, a2, a3] t)) :
    ((((W.setCell ⟨b, 0, none⟩ v0).setCell ⟨b, 1, none⟩ v1).setCell ⟨b, 2, none⟩ v2).setCell ⟨b, 3, none⟩ v3).heap[b]? = some (.cells #[v0, v1, v2, v3] t) :=
  heap_set_same (heap_set_same (heap_set_same (heap_set_same h)))
theorem put_four_other {W : World} {b c : Nat} {v0 v1 v2 v3 : Value} (h : c ≠ b) :
    ((((W.setCell ⟨b, 0, none⟩ v0).setCell ⟨b, 1, none⟩ v1).setCell ⟨b, 2, none⟩ v2).setCell ⟨b, 3, none⟩ v3).heap[c]? = W.heap[c]? :=
  (heap_setCell_other _ _ _ _ h).trans ((heap_setCell_other _ _ _ _ h).trans ((heap_setCell_other _ _ _ _ h).trans (heap_setCell_other _ _ _ _ h)))
theorem put_four_below {W W0 : World} {b B : Nat} {v0 v1 v2 v3 : Value} (h : Below B W0 W) (hb : B ≤ b) :
    Below B W0 ((((W.setCell ⟨b, 0, none⟩ v0).setCell ⟨b, 1, none⟩ v1).setCell ⟨b, 2, none⟩ v2).setCell ⟨b, 3, none⟩ v3) :=
  (((h.setCell hb _).setCell hb _).setCell hb _).setCell hb _
def SixC (W : World) (p : Nat) (a b c d e f : Value) : Prop :=
  W.cell? ⟨p, 2, none⟩ = some a ∧ W.cell? ⟨p, 3, none⟩ = some b ∧ W.cell? ⟨p + 1, 0, none⟩ = some c ∧ W.cell? ⟨p + 1, 1, none⟩ = some d ∧ W.cell? ⟨p + 1, 2, none⟩ = some e ∧ W.cell? ⟨p + 1, 3, none⟩ = some f
theorem SixC.below {W W' : World} {p : Nat} {a b c d e f : Value} (h : SixC W p a b c d e f) (hp : p + 1 < W.heap.size) (hb : Below W.heap.size W W') : SixC W' p a b c d e f := by
  obtain ⟨h1, h2, h3, h4, h5, h6⟩ := h
  exact ⟨(hb.cell (by simp; omega)).trans h1, (hb.cell (by simp; omega)).trans h2, (hb.cell (by simpa using hp)).trans h3, (hb.cell (by simpa using hp)).trans h4, (hb.cell (by simpa using hp)).trans h5, (hb.cell (by simpa using hp)).trans h6⟩
theorem SixC.open {W : World} {p : Nat} {a b c d e f : Value} (h : SixC W p a b c d e f) :
  W.cell? ⟨p, 2, none⟩ = some a ∧ W.cell? ⟨p, 3, none⟩ = some b ∧ W.cell? ⟨p + 1, 0, none⟩ = some c ∧ W.cell? ⟨p + 1, 1, none⟩ = some d ∧ W.cell? ⟨p + 1, 2, none⟩ = some e ∧ W.cell? ⟨p + 1, 3, none⟩ = some f := h
set_option maxRecDepth 10000000 in
set_option maxHeartbeats 4000000 in
theorem times_any (f s many : Int) (hm : many ≤ 300) (w : World) : Calls Try.prog 13 #[.int .i64 f, .int .i64 s, .int .i64 many] w fun e w' => e = .returned (.bool true) ∧ Below w.heap.size w w' := by
  by_cases hn : newOk f s
  · obtain ⟨h1, h2, h3, h4⟩ := id hn
    have hstart := TR.start hn
    go_enter Try.func13, Try.ntmps13
    go_wp2_with fail
    refine (newTimes_ok f s w hn).mono ?_
    rintro e w1 ⟨t, rfl, rfl⟩
    go_wp2_with fail
    all_goals first | (exfalso; omega) | skip
    have H1 := heap_two w (.cells #[.int .i64 f, .int .i64 s, .int .i64 f, .int .i64 0] t) (.cells #[.int .i64 f, .int .i64 s, .int .i64 0, .int .i64 0] 69)
    go_loopw [10] (fun i wr => ∃ (k : Nat) (x : Ti) (r : Rt), k ≤ 300 ∧ (k : Int) ≤ max many 0 ∧ i = .int .i64 k ∧ TR f s k x r ∧ Tim wr w.heap.size x t ∧ Tim wr (w.heap.size + 1) ⟨r.f, r.s, r.n, r.c⟩ 69 ∧ Below w.heap.size w wr) (fun i _ => 301 - (intOf i).toNat)
    case atStart => exact ⟨0, ⟨f, s, f, 0⟩, ⟨f, s, 0, 0⟩, by omega, by simp; omega, rfl, hstart, H1.1, H1.2, ((Below.refl _ _).alloc (Nat.le_refl _) _).alloc (by simp) _⟩
    case round =>
      obtain ⟨k, x, r, hk, hkm, rfl, hTR, hx, hr, hb⟩ := hrel
      clear H1
      have hok := hTR.ok hn (by omega)
      by_cases hlt : (k : Int) < many
      · obtain ⟨hb1, hb2, hb3, hb4⟩ := hTR.bounds hn (by omega)
        obtain ⟨hst, heq⟩ := hTR.step hn (by omega)
        go_wp2_with fail
        refine (conflict_any wr w.heap.size x t hx hb1 hb2 hb3 hb4).mono ?_
        rintro e w2 ⟨rfl, hx2, hbt⟩
        have hr2 : Tim w2 (w.heap.size + 1) ⟨r.f, r.s, r.n, r.c⟩ 69 := (hbt.block _ (Array.getElem?_eq_some_iff.1 hr).1 (by omega) (by omega)).trans hr
        have hrc := refCon_any r hok
        unfold RefConP at hrc
        rw [← heq] at hrc
        generalize (conR x).2.1 = due at *
        generalize (conR x).2.2 = err at *
        generalize (conR x).1 = x' at *
        generalize (refCon r).1 = r' at *
        have HX := Lib.hid hx2
        obtain ⟨⟨c10, c11, c12, c13⟩, f10, f11, f12, f13⟩ := four_cells hr2
        have hr0 := hr
        have HR2 := Lib.hid hr2
        clear heq hx hr hx2 hr2 hb1 hb2 hb3 hb4 hTR hstart
        obtain ⟨xa, xb, xc, xd⟩ := x'
        obtain ⟨rf, rs, rn, rc⟩ := r'
        obtain rfl : xc = leftR ⟨rf, rs, rn, rc⟩ := hst.c
        obtain rfl : xd = rn := hst.d
        have hok' := hst.ok hn (by omega)
        have hL := refLeft_any ⟨rf, rs, xd, rc⟩ hok'
        simp only [Rt.val] at hrc hL
        generalize leftR ⟨rf, rs, xd, rc⟩ = L at *
        have HRC := Lib.hid hrc; clear hrc
        have HL := Lib.hid hL; clear hL
        have HST := Lib.hid hst; clear hst
        go_wp2_with fail
        refine (HRC.out w2).mono ?_
        rintro e w3 ⟨rfl, hb3⟩
        have hsz2 := hbt.size
        have hszb := hb.size
        have hrl : w.heap.size + 1 < wr.heap.size := (Array.getElem?_eq_some_iff.1 hr0).1
        have hx3 : Tim w3 w.heap.size ⟨xa, xb, L, xd⟩ t := (hb3.block _ (by omega)).trans HX.out
        have hr3 : Tim w3 (w.heap.size + 1) ⟨r.f, r.s, r.n, r.c⟩ 69 := (hb3.block _ (by omega)).trans HR2.out
        have hb4 : Below w.heap.size w w3 := (hbt.below hb (Nat.le_refl _) (Nat.le_refl _) (by omega)).trans (hb3.mono (by omega))
        have hsz3 := hb3.size
        have hr4 : Tim (w3.alloc (.cells #[.int .i64 rf, .int .i64 rs, .int .i64 xd, .int .i64 rc] 69)) (w.heap.size + 1) ⟨r.f, r.s, r.n, r.c⟩ 69 := (Below.heap_alloc _ _ _ (by omega)).trans hr3
        obtain ⟨⟨d10, d11, d12, d13⟩, g10, g11, g12, g13⟩ := four_cells hr4
        have HX3 := Lib.hid hx3
        have HR4 := Lib.hid hr4
        clear hx3 hr3 hr4 c10 c11 c12 c13 f10 f11 f12 f13
        go_wp2_with fail
        have hx4 := (put_four_other (W := w3.alloc (.cells #[.int .i64 rf, .int .i64 rs, .int .i64 xd, .int .i64 rc] 69)) (b := w.heap.size + 1) (c := w.heap.size) (v0 := .int .i64 rf) (v1 := .int .i64 rs) (v2 := .int .i64 xd) (v3 := .int .i64 rc) (by omega)).trans ((Below.heap_alloc _ _ _ (by omega)).trans HX3.out)
        have hr5 := put_four (v0 := .int .i64 rf) (v1 := .int .i64 rs) (v2 := .int .i64 xd) (v3 := .int .i64 rc) HR4.out
        have hb5 := put_four_below (b := w.heap.size + 1) (v0 := .int .i64 rf) (v1 := .int .i64 rs) (v2 := .int .i64 xd) (v3 := .int .i64 rc) (hb4.alloc (by omega) (.cells #[.int .i64 rf, .int .i64 rs, .int .i64 xd, .int .i64 rc] 69)) (by omega)
        clear d10 d11 d12 d13 g10 g11 g12 g13 HR4 HX3 HR2 HX
        generalize ((((w3.alloc (.cells #[.int .i64 rf, .int .i64 rs, .int .i64 xd, .int .i64 rc] 69)).setCell ⟨w.heap.size + 1, 0, none⟩ (.int .i64 rf)).setCell ⟨w.heap.size + 1, 1, none⟩ (.int .i64 rs)).setCell ⟨w.heap.size + 1, 2, none⟩ (.int .i64 xd)).setCell ⟨w.heap.size + 1, 3, none⟩ (.int .i64 rc) = w4 at *
        obtain ⟨⟨c10, c11, c12, c13⟩, -⟩ := four_cells hr5
        obtain ⟨⟨-, -, c22, c23⟩, -⟩ := four_cells hx4
        have hlt4 : w.heap.size + 1 < w4.heap.size := (Array.getElem?_eq_some_iff.1 hr5).1
        have HC : Hid (SixC w4 w.heap.size (.int .i64 L) (.int .i64 xd) (.int .i64 rf) (.int .i64 rs) (.int .i64 xd) (.int .i64 rc)) := Lib.hid ⟨c22, c23, c10, c11, c12, c13⟩
        have HX4 := Lib.hid hx4
        have HR5 := Lib.hid hr5
        have HB5 := Lib.hid hb5
        clear hx4 hr5 hb5 hb4
        have hbd : Below w4.heap.size w4 w4.drew := (Below.refl _ _).drew
        go_region_held3 (fun w' => w'.cell? ⟨w.heap.size, 2, none⟩ = some (.int .i64 L) ∧ w'.cell? ⟨w.heap.size, 3, none⟩ = some (.int .i64 xd) ∧ w'.cell? ⟨w.heap.size + 1, 0, none⟩ = some (.int .i64 rf) ∧ w'.cell? ⟨w.heap.size + 1, 1, none⟩ = some (.int .i64 rs) ∧ w'.cell? ⟨w.heap.size + 1, 2, none⟩ = some (.int .i64 xd) ∧ w'.cell? ⟨w.heap.size + 1, 3, none⟩ = some (.int .i64 rc) ∧ Below w4.heap.size w4 w')
          (simp [*])
          (first
            | (go_at_call 21; refine (left_any _ _ L ?_).mono ?_; (simp [*]); rintro e w' ⟨rfl, rfl⟩)
            | (go_at_call 41; refine (HL.out _).mono ?_; rintro e w9 ⟨rfl, hb9⟩; have hb10 := Below.trans (by assumption : Below w4.heap.size w4 _) (hb9.mono (Below.size (by assumption))); obtain ⟨q1, q2, q3, q4, q5, q6⟩ := (HC.out.below hlt4 hb10).open)
            | (go_at_call 23; refine (count_any _ _ xd ?_).mono ?_; (simp [*]); rintro e w' ⟨rfl, rfl⟩))
        go_wp2_with fail
        exact ⟨⟨k + 1, ⟨xa, xb, L, xd⟩, ⟨rf, rs, xd, rc⟩, by omega, by omega, by simp, HST.out, (hb10.block _ (by omega)).trans HX4.out, (hb10.block _ (by omega)).trans HR5.out, HB5.out.trans (hb10.mono (by omega))⟩, by simp [intOf]; omega⟩
      · obtain ⟨xa, xb, xc, xd⟩ := x
        obtain ⟨rf, rs, rn, rc⟩ := r
        obtain rfl : xc = leftR ⟨rf, rs, rn, rc⟩ := hTR.c
        obtain rfl : xd = rn := hTR.d
        have hL := refLeft_any ⟨rf, rs, xd, rc⟩ hok
        simp only [] at hL
        generalize leftR ⟨rf, rs, xd, rc⟩ = L at *
        have HL := Lib.hid hL; clear hL
        obtain ⟨⟨c10, c11, c12, c13⟩, -⟩ := four_cells hr
        obtain ⟨⟨-, -, c22, c23⟩, -⟩ := four_cells hx
        simp only [] at c10 c11 c12 c13 c22 c23
        have hlt4 : w.heap.size + 1 < wr.heap.size := (Array.getElem?_eq_some_iff.1 hr).1
        have HC : Hid (SixC wr w.heap.size (.int .i64 L) (.int .i64 xd) (.int .i64 rf) (.int .i64 rs) (.int .i64 xd) (.int .i64 rc)) := Lib.hid ⟨c22, c23, c10, c11, c12, c13⟩
        clear hTR hx hr
        have hbd : Below wr.heap.size wr wr.drew := (Below.refl _ _).drew
        go_wp2_with fail
        go_region_held3 (fun w' => w'.cell? ⟨w.heap.size, 2, none⟩ = some (.int .i64 L) ∧ w'.cell? ⟨w.heap.size, 3, none⟩ = some (.int .i64 xd) ∧ w'.cell? ⟨w.heap.size + 1, 0, none⟩ = some (.int .i64 rf) ∧ w'.cell? ⟨w.heap.size + 1, 1, none⟩ = some (.int .i64 rs) ∧ w'.cell? ⟨w.heap.size + 1, 2, none⟩ = some (.int .i64 xd) ∧ w'.cell? ⟨w.heap.size + 1, 3, none⟩ = some (.int .i64 rc) ∧ Below wr.heap.size wr w')
          (simp [*])
          (first
            | (go_at_call 21; refine (left_any _ _ L ?_).mono ?_; (simp [*]); rintro e w' ⟨rfl, rfl⟩)
            | (go_at_call 41; refine (HL.out _).mono ?_; rintro e w9 ⟨rfl, hb9⟩; have hb10 := Below.trans (by assumption : Below wr.heap.size wr _) (hb9.mono (Below.size (by assumption))); obtain ⟨q1, q2, q3, q4, q5, q6⟩ := (HC.out.below hlt4 hb10).open)
            | (go_at_call 23; refine (count_any _ _ xd ?_).mono ?_; (simp [*]); rintro e w' ⟨rfl, rfl⟩))
        go_wp2_with fail
        go_ret
        exact ⟨rfl, hb.trans (hb10.mono (by have := hb.size; omega))⟩
  · have h : ¬ newOk f s := hn
    unfold newOk at h
    go_enter Try.func13, Try.ntmps13
    go_wp2_with fail
    refine (newTimes_bad f s w hn).mono ?_
    rintro e w1 ⟨rfl, rfl⟩
    go_wp2_with fail
    all_goals first
      | (exfalso; omega)
      | (go_ret; exact ⟨rfl, Below.refl _ _⟩)
end Go.Proofs.Ytcpcoomkapblcaa
