/- The law ShrinkerOrder. -/
import Derived.Test.YtlibeobmdjeilaaGreatDoorShE
import Derived.Test.YtlibeobmdjeilaaGreatDoorShF
import Derived.Test.YtlibeobmdjeilaaGreatDoorAw43
import Derived.Test.YtlibeobmdjeilaaGreatDoorMxR
import Derived.Laws.StructEq
import Derived.Deep.Cut
import Derived.Deep.CutRange
import Derived.Deep.DeepCutAuto
set_option linter.all false
namespace Go.Proofs.YtlibeobmdjeilaaGreatDoor
open Go Go.RowKit Go.WideShapes Go.ChangeShapes Go.Proofs.YtlibeobmdjeilaaGreatDoor.Ex
theorem cmpI_cases (a b : Int) : (a < b ∧ cmpI a b = -1) ∨ (a = b ∧ cmpI a b = 0) ∨ (b < a ∧ cmpI a b = 1) := by
  unfold cmpI
  by_cases h1 : a < b
  · exact .inl ⟨h1, if_pos h1⟩
  · by_cases h2 : b < a
    · exact .inr (.inr ⟨h2, by rw [if_neg h1, if_pos h2]⟩)
    · exact .inr (.inl ⟨by omega, by rw [if_neg h1, if_neg h2]⟩)
/-- a comes before b. -/
def ltM (a b : MsI) : Prop := a.1 < b.1 ∨ a.1 = b.1 ∧ (a.2.1 < b.2.1 ∨ a.2.1 = b.2.1 ∧ a.2.2 < b.2.2)
theorem cmpM_cases (a b : MsI) : (ltM a b ∧ cmpM a b = -1) ∨ (a = b ∧ cmpM a b = 0) ∨ (ltM b a ∧ cmpM a b = 1) := by
  obtain ⟨a0, a1, a2⟩ := a
  obtain ⟨b0, b1, b2⟩ := b
  unfold cmpM orI ltM
  simp only
  rcases cmpI_cases a0 b0 with ⟨h0, e0⟩ | ⟨h0, e0⟩ | ⟨h0, e0⟩
  · exact .inl ⟨.inl h0, by rw [e0]; simp⟩
  · rcases cmpI_cases a1 b1 with ⟨h1, e1⟩ | ⟨h1, e1⟩ | ⟨h1, e1⟩
    · exact .inl ⟨.inr ⟨h0, .inl h1⟩, by rw [e0, e1]; simp⟩
    · rcases cmpI_cases a2 b2 with ⟨h2, e2⟩ | ⟨h2, e2⟩ | ⟨h2, e2⟩
      · exact .inl ⟨.inr ⟨h0, .inr ⟨h1, h2⟩⟩, by rw [e0, e1, e2]; decide⟩
      · exact .inr (.inl ⟨by rw [h0, h1, h2], by rw [e0, e1, e2]; decide⟩)
      · exact .inr (.inr ⟨.inr ⟨h0.symm, .inr ⟨h1.symm, h2⟩⟩, by rw [e0, e1, e2]; decide⟩)
    · exact .inr (.inr ⟨.inr ⟨h0.symm, .inl h1⟩, by rw [e0, e1]; simp⟩)
  · exact .inr (.inr ⟨.inl h0, by rw [e0]; simp⟩)
theorem ltM_trans {a b c : MsI} (h : ltM a b) (g : ltM b c) : ltM a c := by
  unfold ltM at *
  omega
theorem ltM_irr {a b : MsI} (h : ltM a b) (g : ltM b a) : False := by
  unfold ltM at *
  omega
theorem cmpM_flip (a b : MsI) : cmpM b a = - cmpM a b := by
  rcases cmpM_cases a b with ⟨h, e⟩ | ⟨h, e⟩ | ⟨h, e⟩ <;> rcases cmpM_cases b a with ⟨g, f⟩ | ⟨g, f⟩ | ⟨g, f⟩ <;> rw [e, f] <;> first | rfl | (exfalso; first | exact ltM_irr h g | (subst h; first | exact ltM_irr g g | skip) | (subst g; exact ltM_irr h h))
theorem cmpM_trans {a b c : MsI} (h : cmpM a b ≤ 0) (g : cmpM b c ≤ 0) : cmpM a c ≤ 0 := by
  rcases cmpM_cases a b with ⟨h1, e⟩ | ⟨h1, e⟩ | ⟨h1, e⟩
  · rcases cmpM_cases b c with ⟨g1, f⟩ | ⟨g1, f⟩ | ⟨g1, f⟩
    · rcases cmpM_cases a c with ⟨r, k⟩ | ⟨r, k⟩ | ⟨r, k⟩
      · omega
      · omega
      · exact (ltM_irr (ltM_trans h1 g1) r).elim
    · subst g1; exact h
    · omega
  · subst h1; exact g
  · omega
theorem eqM_run (a0 a1 a2 b0 b1 b2 : Int) (W : World) : (binOp .eql 95 (.agg #[.int .i64 a0, .int .i64 a1, .int .i64 a2]) (.agg #[.int .i64 b0, .int .i64 b1, .int .i64 b2])).run Tryz.prog W = .ok (.bool (decide (((a0, a1, a2) : MsI) = (b0, b1, b2)))) W := by
  rw [run_eql_struct]
  by_cases h0 : a0 = b0
  · by_cases h1 : a1 = b1
    · by_cases h2 : a2 = b2
      · subst h0 h1 h2; simp [go_sem]
      · subst h0 h1; simp [go_sem, h2]
    · subst h0; simp [go_sem, h1]
  · simp [go_sem, h0]
theorem cmp6_any (a0 a1 a2 b0 b1 b2 : Int) (w : World) : Calls Tryz.prog 51 #[.agg #[.int .i64 a0, .int .i64 a1, .int .i64 a2], .agg #[.int .i64 b0, .int .i64 b1, .int .i64 b2]] w fun o w' => o = .returned (.int .i64 (cmpM (a0, a1, a2) (b0, b1, b2))) ∧ Below w.heap.size w w' := cmpM_any (a0, a1, a2) (b0, b1, b2) w
section
variable {w7 w8 : World} {o : Obj} {base bx i m n : Nat} {tA tS : TypeId} {u x v' : Value} {xsA ys : List Value} {cs : Array Value}
theorem own_typed (hA : w7.ownsRow base tA 1 u n xsA) {g : Nat} (hg : u.ownBlock = some g) : ∃ cur, w7.heap[g]? = some (.cells cur tA (0, 0)) := by
  rcases hA.2 with ⟨rfl, _⟩ | ⟨g', cap, cur, rfl, _, h2, _⟩
  · cases hg
  · cases hg; exact ⟨cur, h2⟩
theorem app_far (hA : w7.ownsRow base tA 1 u n xsA) (hg : (w7.alloc o).grownBy w8 u.ownBlock) {g : Nat} {cs' : Array Value} {t' : TypeId} {fr : Nat × Nat} (ht : t' ≠ tA) (hx : w7.heap[g]? = some (.cells cs' t' fr)) : w8.heap[g]? = w7.heap[g]? := by
  have hlt : g < w7.heap.size := (Array.getElem?_eq_some_iff.1 hx).1
  rw [hg.block g (by simp only [World.size_alloc]; omega) (fun e => by
    obtain ⟨cur, h2⟩ := own_typed hA e.symm
    rw [hx] at h2
    injection h2 with h2
    injection h2 with _ h2
    exact ht h2)]
  exact Lib.alloc_old _ _ _ hlt
theorem app_box (hA : w7.ownsRow base tA 1 u n xsA) (hg : (w7.alloc o).grownBy w8 u.ownBlock) (hbox : w7.heap[bx]? = some (.cells cs tS (0, 0))) (hAS : tS ≠ tA) : (w8.setCell ⟨bx, i, none⟩ x).heap[bx]? = some (.cells (cs.setIfInBounds i x) tS (0, 0)) :=
  heap_setCell_same w8 bx i _ _ x ((app_far hA hg hAS hbox).trans hbox)
theorem app_new (hA : w7.ownsRow base tA 1 u n xsA) (hg : (w7.alloc o).grownBy w8 u.ownBlock) (hbox : w7.heap[bx]? = some (.cells cs tS (0, 0))) (hAS : tS ≠ tA) (hv : w8.ownsRow base tA 1 v' m ys) : (w8.setCell ⟨bx, i, none⟩ x).ownsRow base tA 1 v' m ys := by
  refine ⟨hv.1, hv.2.imp id ?_⟩
  rintro ⟨g, cap, cur, rfl, h1, h2, h3⟩
  refine ⟨g, cap, cur, rfl, h1, ?_, h3⟩
  rw [heap_setCell_other]
  · exact h2
  · rintro rfl
    rw [(app_far hA hg hAS hbox).trans hbox] at h2
    injection h2 with h2
    injection h2 with _ h2
    exact hAS h2
theorem app_other {β : Type} {tB : TypeId} {mk : β → Value} {uB : Value} {lB : List β} (hA : w7.ownsRow base tA 1 u n xsA) (hg : (w7.alloc o).grownBy w8 u.ownBlock) (hbox : w7.heap[bx]? = some (.cells cs tS (0, 0))) (hBA : tB ≠ tA) (hBS : tB ≠ tS) (hB : OwnG base w7 tB mk uB lB) : OwnG base (w8.setCell ⟨bx, i, none⟩ x) tB mk uB lB :=
  hB.kept fun g cs' fr _ hx => by
    rw [heap_setCell_other]
    · exact app_far hA hg hBA hx
    · rintro rfl
      rw [hbox] at hx
      injection hx with hx
      injection hx with _ hx
      exact hBS hx.symm
theorem app_below (hA : w7.ownsRow base tA 1 u n xsA) (hg : (w7.alloc o).grownBy w8 u.ownBlock) (hb : base ≤ bx) (hbw : base ≤ w7.heap.size) : Below base w7 (w8.setCell ⟨bx, i, none⟩ x) :=
  (((Below.refl _ _).alloc hbw _).grown hg (by simp only [World.size_alloc]; omega) (fun k hk => (hA.lt k hk).1)).setCell (p := ⟨bx, i, none⟩) hb x
end
theorem of3_any (w : World) (A1 A3 : Option Addr) (k1 k3 : Nat) (xs : List Int) (pt : Int) (bs : List Bool) (h1 : RdG (.int .u32) w (.slice A1 xs.length k1) xs) (h3 : RdG .bool w (.slice A3 bs.length k3) bs) (hl1 : xs.length ≤ 1000000) (hl3 : bs.length ≤ 1000000) (hx : ∀ x ∈ xs, 0 ≤ x ∧ x ≤ 4294967295) :
    Calls Tryz.prog 47 #[.agg #[.slice A1 xs.length k1, .int .i64 pt, .slice A3 bs.length k3]] w fun o w' => o = .returned (.agg #[.int .i64 pt, .int .i64 (cntB bs), .int .i64 (sumI xs)]) ∧ Below w.heap.size w w' := of_any w A1 A3 k1 k3 xs pt bs h1 h3 hl1 hl3 hx
theorem one_row {w w1 : World} {o : Obj} (h : w.alloc o = w1) : Below w.heap.size w w1 ∧ w1.heap.size = w.heap.size + 1 ∧ w1.heap[w.heap.size]? = some o := by
  subst h
  exact ⟨(Below.refl _ _).alloc (Nat.le_refl _) _, World.size_alloc _ _, heap_alloc_new w _⟩
theorem four_rows {w w1 : World} {o1 o2 o3 o4 : Obj} (h : (((w.alloc o1).alloc o2).alloc o3).alloc o4 = w1) : Below w.heap.size w w1 ∧ w1.heap.size = w.heap.size + 4 ∧ w1.heap[w.heap.size]? = some o1 ∧ w1.heap[w.heap.size + 1]? = some o2 ∧ w1.heap[w.heap.size + 1 + 1]? = some o3 ∧ w1.heap[w.heap.size + 1 + 1 + 1]? = some o4 := by
  subst h
  refine ⟨((((Below.refl _ _).alloc (Nat.le_refl _) _).alloc (by simp) _).alloc (by simp only [World.size_alloc]; omega) _).alloc (by simp only [World.size_alloc]; omega) _, by simp, ?_, ?_, ?_, ?_⟩
  · rw [Lib.alloc_old _ _ _ (by simp only [World.size_alloc]; omega), Lib.alloc_old _ _ _ (by simp only [World.size_alloc]; omega), Lib.alloc_old _ _ _ (by simp)]; exact heap_alloc_new w _
  · rw [Lib.alloc_old _ _ _ (by simp only [World.size_alloc]; omega), Lib.alloc_old _ _ _ (by simp)]
    have := heap_alloc_new (w.alloc o1) o2
    simpa using this
  · rw [Lib.alloc_old _ _ _ (by simp)]
    have := heap_alloc_new ((w.alloc o1).alloc o2) o3
    simpa using this
  · have := heap_alloc_new (((w.alloc o1).alloc o2).alloc o3) o4
    simpa using this
set_option maxRecDepth 10000000 in
set_option maxHeartbeats 16000000 in
theorem order_any (w : World) (hw : MxRow w) (a0 a1 a2 b0 b1 b2 c0 c1 c2 : Int) (A1 A3 : Option Addr) (k1 k3 : Nat) (xs : List Int) (pt : Int) (bs : List Bool) (h1 : RdG (.int .u32) w (.slice A1 xs.length k1) xs) (h3 : RdG .bool w (.slice A3 bs.length k3) bs) (hx : ∀ x ∈ xs, 0 ≤ x ∧ x ≤ 4294967295) :
    Calls Tryz.prog 10 #[.agg #[.int .i64 a0, .int .i64 a1, .int .i64 a2], .agg #[.int .i64 b0, .int .i64 b1, .int .i64 b2], .agg #[.int .i64 c0, .int .i64 c1, .int .i64 c2], .agg #[.slice A1 xs.length k1, .int .i64 pt, .slice A3 bs.length k3]] w fun o w' => o = .returned (.bool true) ∧ Below w.heap.size w w' := by
  obtain ⟨w1, hw1⟩ : ∃ w1, (((w.alloc (.cells #[.int .i64 a0, .int .i64 a1, .int .i64 a2] 95)).alloc (.cells #[.int .i64 b0, .int .i64 b1, .int .i64 b2] 95)).alloc (.cells #[.int .i64 c0, .int .i64 c1, .int .i64 c2] 95)).alloc (.cells #[.slice A1 xs.length k1, .int .i64 pt, .slice A3 bs.length k3] 93) = w1 := ⟨_, rfl⟩
  obtain ⟨hb1, hz1, r0, r1, r2, r3⟩ := four_rows hw1
  have HA := Lib.hid (fun (W : World) (hb : Below w.heap.size w W) => awake43_any W (MxRow.on hw hb))
  have HR := Lib.hid (fun (W : World) (hb : Below w1.heap.size w1 W) => And.intro (three_on r0 hb) (And.intro (three_on r1 hb) (And.intro (three_on r2 hb) (three_on r3 hb))))
  have HB1 := Lib.hid hb1
  have HX := Lib.hid hx
  have HX1 := Lib.hid h1
  have HX3 := Lib.hid h3
  clear hb1 hz1 r0 r1 r2 r3 hw hx h1 h3
  go_enter Tryz.func10, Tryz.ntmps10
  go_upto_region 1 with fail
  clear hw1
  obtain ⟨⟨x0, x1, x2⟩, ⟨y0, y1, y2⟩, ⟨z0, z1, z2⟩, ⟨s0, s1, s2⟩⟩ := HR.out w1 (Below.refl _ _)
  by_cases hl1 : 100 < xs.length
  · have hd : decide ((100 : Int) < (xs.length : Int)) = true := decide_eq_true (by omega)
    go_wp2_with (first | (go_at_call 46; refine (HA.out _ HB1.out).mono ?_; rintro o w9 ⟨rfl, hb9⟩) | fail)
    go_ret
    exact ⟨rfl, HB1.out.trans (hb9.mono HB1.out.size)⟩
  · by_cases hl3 : 100 < bs.length
    · have hd : decide ((100 : Int) < (xs.length : Int)) = false := decide_eq_false (by omega)
      have hd3 : decide ((100 : Int) < (bs.length : Int)) = true := decide_eq_true (by omega)
      go_wp2_with (first | (go_at_call 46; refine (HA.out _ HB1.out).mono ?_; rintro o w9 ⟨rfl, hb9⟩) | fail)
      go_ret
      exact ⟨rfl, HB1.out.trans (hb9.mono HB1.out.size)⟩
    · have hd : decide ((100 : Int) < (xs.length : Int)) = false := decide_eq_false (by omega)
      have hd3 : decide ((100 : Int) < (bs.length : Int)) = false := decide_eq_false (by omega)
      go_upto_region 4 with (first | (go_at_call 51; refine (cmp6_any _ _ _ _ _ _ _).mono ?_; rintro o2 w2 ⟨rfl, hb2⟩) | fail)
      have HL := Lib.hid (And.intro hl1 hl3)
      clear x0 x1 x2 y0 y1 y2 z0 z1 z2 s0 s1 s2 hl1 hl3 hd hd3
      obtain ⟨n, hn⟩ : ∃ n, cmpM (a0, a1, a2) (b0, b1, b2) = n := ⟨_, rfl⟩
      rw [hn]
      go_cut [85] (fun s85 wx => s85 = .bool false ∧ Below w1.heap.size w1 wx)
      case first =>
        obtain ⟨⟨x0, x1, x2⟩, ⟨y0, y1, y2⟩, ⟨z0, z1, z2⟩, -⟩ := HR.out w2 hb2
        clear HA HX HX1 HX3
        obtain ⟨q, hq⟩ : ∃ q, cmpM (b0, b1, b2) (c0, c1, c2) = q := ⟨_, rfl⟩
        obtain ⟨r, hr⟩ : ∃ r, cmpM (a0, a1, a2) (c0, c1, c2) = r := ⟨_, rfl⟩
        have EBC := Lib.hid hq
        have EAC := Lib.hid hr
        rcases cmpM_cases (a0, a1, a2) (b0, b1, b2) with ⟨hlt, e1⟩ | ⟨heq, e1⟩ | ⟨hgt, e1⟩
        · have hne : ¬ ((a0, a1, a2) : MsI) = (b0, b1, b2) := fun e => ltM_irr hlt (e ▸ hlt)
          have EBA := Lib.hid (show cmpM (b0, b1, b2) (a0, a1, a2) = 1 by rw [cmpM_flip, e1]; rfl)
          have heqr : ∀ W : World, (binOp .eql 95 (.agg #[.int .i64 a0, .int .i64 a1, .int .i64 a2]) (.agg #[.int .i64 b0, .int .i64 b1, .int .i64 b2])).run Tryz.prog W = .ok (.bool false) W := fun W => by rw [eqM_run, decide_eq_false hne]
          have htr := fun h : q ≤ 0 => (hr ▸ cmpM_trans (a := (a0, a1, a2)) (b := (b0, b1, b2)) (c := (c0, c1, c2)) (by rw [e1]; decide) (by rw [hq]; exact h) : r ≤ 0)
          have hltd : a0 < b0 ∨ a0 = b0 ∧ (a1 < b1 ∨ a1 = b1 ∧ a2 < b2) := hlt
          obtain rfl : n = -1 := hn.symm.trans e1
          clear e1 hn hlt hne hq hr
          have hc : (decide (q ≤ 0) = true ∧ decide (0 < r) = false) ∨ decide (q ≤ 0) = false := by
            by_cases h : q ≤ 0
            · exact .inl ⟨decide_eq_true h, decide_eq_false (by have := htr h; omega)⟩
            · exact .inr (decide_eq_false h)
          have hc2 : (decide (a0 < b0) = true ∧ (a0 == b0) = false) ∨ (decide (a0 < b0) = false ∧ (a0 == b0) = true ∧ decide (b1 < a1) = false) := by
            rcases hltd with h | ⟨h, h2⟩
            · exact .inl ⟨decide_eq_true h, by simp; omega⟩
            · exact .inr ⟨decide_eq_false (by omega), by simpa using h, decide_eq_false (by omega)⟩
          clear htr hltd
          rcases hc with ⟨hqd, hrd⟩ | hqd <;> rcases hc2 with ⟨hd1, hd2⟩ | ⟨hd1, hd2, hd3⟩ <;>
          (go_wp2_with (first | (go_at_call 51; refine (cmp6_any _ _ _ _ _ _ _).mono ?_; rintro o3 w3 ⟨rfl, hb3⟩; have hbn := Below.trans (by assumption : Below w1.heap.size w1 _) (hb3.mono (Below.size (by assumption))); obtain ⟨⟨p0, p1, p2⟩, ⟨q0, q1, q2⟩, ⟨u0, u1, u2⟩, -⟩ := HR.out _ hbn; clear hb3; first | rw [EBA.out] | rw [EBC.out] | rw [EAC.out] | skip) | fail); go_meet; case rel => exact ⟨rfl, by assumption⟩)
        · have EBA := Lib.hid (show cmpM (b0, b1, b2) (a0, a1, a2) = 0 by rw [cmpM_flip, e1]; rfl)
          have heqr : ∀ W : World, (binOp .eql 95 (.agg #[.int .i64 a0, .int .i64 a1, .int .i64 a2]) (.agg #[.int .i64 b0, .int .i64 b1, .int .i64 b2])).run Tryz.prog W = .ok (.bool true) W := fun W => by rw [eqM_run, decide_eq_true heq]
          have hrq : r = q := by rw [← hq, ← hr, heq]
          have hd1 : decide (a0 < b0) = false := by injection heq with g0 g1; exact decide_eq_false (by omega)
          have hd2 : (a0 == b0) = true := by injection heq with g0 g1; simpa using g0
          have hd3 : decide (b1 < a1) = false := by injection heq with g0 g1; injection g1 with g1 g2; exact decide_eq_false (by omega)
          obtain rfl : n = 0 := hn.symm.trans e1
          clear e1 hn heq hq hr
          have hc : (decide (q ≤ 0) = true ∧ decide (0 < r) = false) ∨ decide (q ≤ 0) = false := by
            by_cases h : q ≤ 0
            · exact .inl ⟨decide_eq_true h, decide_eq_false (by omega)⟩
            · exact .inr (decide_eq_false h)
          clear hrq
          rcases hc with ⟨hqd, hrd⟩ | hqd <;>
          (go_wp2_with (first | (go_at_call 51; refine (cmp6_any _ _ _ _ _ _ _).mono ?_; rintro o3 w3 ⟨rfl, hb3⟩; have hbn := Below.trans (by assumption : Below w1.heap.size w1 _) (hb3.mono (Below.size (by assumption))); obtain ⟨⟨p0, p1, p2⟩, ⟨q0, q1, q2⟩, ⟨u0, u1, u2⟩, -⟩ := HR.out _ hbn; clear hb3; first | rw [EBA.out] | rw [EBC.out] | rw [EAC.out] | skip) | fail); go_meet; case rel => exact ⟨rfl, by assumption⟩)
        · have hne : ¬ ((a0, a1, a2) : MsI) = (b0, b1, b2) := fun e => ltM_irr hgt (e ▸ hgt)
          have EBA := Lib.hid (show cmpM (b0, b1, b2) (a0, a1, a2) = -1 by rw [cmpM_flip, e1])
          have heqr : ∀ W : World, (binOp .eql 95 (.agg #[.int .i64 a0, .int .i64 a1, .int .i64 a2]) (.agg #[.int .i64 b0, .int .i64 b1, .int .i64 b2])).run Tryz.prog W = .ok (.bool false) W := fun W => by rw [eqM_run, decide_eq_false hne]
          have hltd : b0 < a0 ∨ b0 = a0 ∧ (b1 < a1 ∨ b1 = a1 ∧ b2 < a2) := hgt
          have hd1 : decide (a0 < b0) = false := decide_eq_false (by omega)
          obtain rfl : n = 1 := hn.symm.trans e1
          clear e1 hn hgt hne hq hr hltd
          have hc2 : (a0 == b0) = false ∨ ((a0 == b0) = true ∧ decide (b1 < a1) = true) ∨ ((a0 == b0) = true ∧ decide (b1 < a1) = false) := by
            cases h1 : (a0 == b0) <;> cases h2 : decide (b1 < a1) <;> simp
          rcases hc2 with hd2 | ⟨hd2, hd3⟩ | ⟨hd2, hd3⟩ <;>
          (go_wp2_with (first | (go_at_call 51; refine (cmp6_any _ _ _ _ _ _ _).mono ?_; rintro o3 w3 ⟨rfl, hb3⟩; have hbn := Below.trans (by assumption : Below w1.heap.size w1 _) (hb3.mono (Below.size (by assumption))); obtain ⟨⟨p0, p1, p2⟩, ⟨q0, q1, q2⟩, ⟨u0, u1, u2⟩, -⟩ := HR.out _ hbn; clear hb3; first | rw [EBA.out] | rw [EBC.out] | rw [EAC.out] | skip) | fail); go_meet; case rel => exact ⟨rfl, by assumption⟩)
      case rest =>
        obtain ⟨rfl, hbc⟩ := hcut
        obtain ⟨-, -, -, ⟨s0, s1, s2⟩⟩ := HR.out wc hbc
        have HBC := Lib.hid hbc
        have HOF := Lib.hid (fun (W : World) (hb : Below w.heap.size w W) => of3_any W A1 A3 k1 k3 xs pt bs (HX1.out.on hb) (HX3.out.on hb) (by have := HL.out; omega) (by have := HL.out; omega) HX.out)
        have HCP := Lib.hid (fun (W : World) (hb : Below w.heap.size w W) => copy_any W A1 A3 k1 k3 xs pt bs (HX1.out.on hb) (HX3.out.on hb) (by have := HL.out; omega) (by have := HL.out; omega))
        have HBW := Lib.hid (HB1.out.trans (hbc.mono HB1.out.size))
        clear hbc
        go_upto_region 7 with (first | (go_at_call 47; refine (HOF.out _ HBW.out).mono ?_; rintro o4 w4 ⟨rfl, hb4⟩) | fail)
        obtain ⟨w5, hw5⟩ : ∃ w5, w4.alloc (.cells #[.int .i64 pt, .int .i64 (cntB bs), .int .i64 (sumI xs)] 95) = w5 := ⟨_, rfl⟩
        obtain ⟨hb5, hz5, hm5⟩ := one_row hw5
        have HB5 := Lib.hid (hb4.trans (hb5.mono hb4.size))
        have HM5 := Lib.hid hm5
        have HBW5 := Lib.hid (HBW.out.trans (HB5.out.mono HBW.out.size))
        obtain ⟨-, -, -, ⟨s0, s1, s2⟩⟩ := HR.out w5 (HBC.out.trans (HB5.out.mono HBC.out.size))
        have HZ5 := Lib.hid hz5
        clear hb4 hb5 hz5 hm5
        rw [hw5]
        clear hw5
        go_upto_region 8 with (first | (go_at_call 53; refine (HCP.out _ HBW5.out).mono ?_; rintro o6 w6 ⟨u1, u3, rfl, ho1, ho3, hb6⟩; obtain ⟨D1, d1, hu1⟩ := ho1.form; obtain ⟨D3, d3, hu3⟩ := ho3.form; rw [hu1, hu3]) | fail)
        obtain ⟨w7, hw7⟩ : ∃ w7, w6.alloc (.cells #[.slice D1 xs.length d1, .int .i64 pt, .slice D3 bs.length d3] 93) = w7 := ⟨_, rfl⟩
        obtain ⟨hb7, hz7, hm7⟩ := one_row hw7
        rw [hu1] at ho1
        rw [hu3] at ho3
        have hbs : w5.heap.size ≤ w6.heap.size := hb6.size
        have hO1 : OwnG w5.heap.size w7 24 (.int .u32) (.slice D1 xs.length d1) xs := (ho1.on hb7).less (by omega)
        have hO3 : OwnG w5.heap.size w7 4 .bool (.slice D3 bs.length d3) bs := (ho3.on hb7).less (by omega)
        have HB7 := Lib.hid (hb6.trans (hb7.mono hbs))
        have HO1 := Lib.hid hO1
        have HO3 := Lib.hid hO3
        have HM7 := Lib.hid hm7
        have HSZ := Lib.hid (And.intro hbs hz7)
        obtain ⟨v0, v1, v2⟩ := three_cells hm7
        rw [hw7]
        clear ho1 ho3 hO1 hO3 hb6 hb7 hm7 hw7 hu1 hu3 hz7 hbs
        obtain ⟨i0, hi, hz0, hz1, hz2⟩ := boolInfo
        go_wp2_with (at_builtin; refine wpList_append_own _ rfl _ _ 91 rfl w5.heap.size 4 i0 (.bool false) 1 1 Tryz.underlying91 hi hz0 hz1 hz2 rfl (by decide) _ _ _ rfl (World.ownsRow.alloc HO3.out _) ⟨w7.heap.size, 0, none⟩ 2 2 [.bool true, .bool false] rfl rfl ?c1 ?c2 ?c3 ?c4 ?c5 ?_)
        case c1 =>
          intro j u hj
          rw [add_plain, Nat.zero_add, Lib.cell_of_heap (heap_alloc_new w7 _)]
          simpa using hj
        case c2 => intro u hu; simp at hu; rcases hu with rfl | rfl <;> rfl
        case c3 => have := HL.out; simp only [maxLen]; omega
        case c4 => have := HL.out; omega
        case c5 => have := HSZ.out; simp only [World.size_alloc]; omega
        clear hi hz0 hz1 hz2
        intro v' w8 hown' hgrow _
        obtain ⟨g, cap, rfl⟩ : ∃ g cap, v' = .slice (some ⟨g, 0, none⟩) (bs.length + 2) cap := by
          rcases hown'.2 with ⟨_, h0⟩ | ⟨g, cap, cur, hv, _⟩
          · omega
          · exact ⟨g, cap, hv⟩
        have hbx8 := (app_far HO3.out hgrow (show 93 ≠ 4 by decide) HM7.out).trans HM7.out
        obtain ⟨r0, r1, r2⟩ := three_cells hbx8
        have r3 := Lib.frozen_of_heap hbx8 2
        clear v0 v1 v2 hbx8
        obtain ⟨w9, hw9⟩ : ∃ w9, w8.setCell ⟨w6.heap.size, 2, none⟩ (.slice (some ⟨g, 0, none⟩) (bs.length + 2) cap) = w9 := ⟨_, rfl⟩
        have hm9 : w9.heap[w6.heap.size]? = some (.cells #[.slice D1 xs.length d1, .int .i64 pt, .slice (some ⟨g, 0, none⟩) (bs.length + 2) cap] 93 (0, 0)) := by rw [← hw9]; exact app_box HO3.out hgrow HM7.out (by decide)
        have hO3 : OwnG w5.heap.size w9 4 .bool (.slice (some ⟨g, 0, none⟩) (bs.length + 2) cap) (bs ++ [true, false]) := by
          rw [← hw9]
          have := app_new (i := 2) (x := .slice (some ⟨g, 0, none⟩) (bs.length + 2) cap) HO3.out hgrow HM7.out (show 93 ≠ 4 by decide) hown'
          simpa [OwnG] using this
        have hO1 : OwnG w5.heap.size w9 24 (.int .u32) (.slice D1 xs.length d1) xs := by rw [← hw9]; exact app_other HO3.out hgrow HM7.out (by decide) (by decide) HO1.out
        have hb9 : Below w5.heap.size w5 w9 := HB7.out.trans (by rw [← hw9]; exact app_below HO3.out hgrow HSZ.out.1 HB7.out.size)
        have hs9 : w6.heap.size < w9.heap.size := (Array.getElem?_eq_some_iff.1 hm9).1
        have HM9 := Lib.hid hm9
        have HO39 := Lib.hid hO3
        have HO19 := Lib.hid hO1
        have HB9 := Lib.hid hb9
        have HS9 := Lib.hid hs9
        obtain ⟨v0, v1, v2⟩ := three_cells hm9
        clear hm9 hO3 hO1 hb9 hs9 hown' hgrow HO1 HO3 HM7 HB7
        go_upto_region 9 with fail
        clear hw9 r0 r1 r2 r3
        obtain ⟨i0, hi, hz0, hz1, hz2⟩ := wordInfo
        go_wp2_with (at_builtin; refine wpList_append_own _ rfl _ _ 45 rfl w5.heap.size 24 i0 (.int .u32 0) 1 4 Tryz.underlying45 hi hz0 hz1 hz2 rfl (by decide) _ _ _ rfl (World.ownsRow.alloc HO19.out _) ⟨w9.heap.size, 0, none⟩ 1 1 [.int .u32 7] rfl rfl ?c1 ?c2 ?c3 ?c4 ?c5 ?_)
        case c1 =>
          intro j u hj
          rw [add_plain, Nat.zero_add, Lib.cell_of_heap (heap_alloc_new w9 _)]
          simpa using hj
        case c2 => intro u hu; simp at hu; subst hu; rfl
        case c3 => have := HL.out; simp only [maxLen]; omega
        case c4 => have := HL.out; omega
        case c5 => have := HSZ.out; have := HS9.out; simp only [World.size_alloc]; omega
        clear hi hz0 hz1 hz2
        intro v' w10 hown' hgrow _
        obtain ⟨g1, cap1, rfl⟩ : ∃ g cap, v' = .slice (some ⟨g, 0, none⟩) (xs.length + 1) cap := by
          rcases hown'.2 with ⟨_, h0⟩ | ⟨g, cap, cur, hv, _⟩
          · omega
          · exact ⟨g, cap, hv⟩
        have hbx8 := (app_far HO19.out hgrow (show 93 ≠ 24 by decide) HM9.out).trans HM9.out
        obtain ⟨r0, r1, r2⟩ := three_cells hbx8
        have r3 := Lib.frozen_of_heap hbx8 0
        clear v0 v1 v2 hbx8
        obtain ⟨w11, hw11⟩ : ∃ w11, w10.setCell ⟨w6.heap.size, 0, none⟩ (.slice (some ⟨g1, 0, none⟩) (xs.length + 1) cap1) = w11 := ⟨_, rfl⟩
        have hm11 : w11.heap[w6.heap.size]? = some (.cells #[.slice (some ⟨g1, 0, none⟩) (xs.length + 1) cap1, .int .i64 pt, .slice (some ⟨g, 0, none⟩) (bs.length + 2) cap] 93 (0, 0)) := by rw [← hw11]; exact app_box HO19.out hgrow HM9.out (by decide)
        have hO1 : OwnG w5.heap.size w11 24 (.int .u32) (.slice (some ⟨g1, 0, none⟩) (xs.length + 1) cap1) (xs ++ [7]) := by
          rw [← hw11]
          have := app_new (i := 0) (x := .slice (some ⟨g1, 0, none⟩) (xs.length + 1) cap1) HO19.out hgrow HM9.out (show 93 ≠ 24 by decide) hown'
          simpa [OwnG] using this
        have hO3 : OwnG w5.heap.size w11 4 .bool (.slice (some ⟨g, 0, none⟩) (bs.length + 2) cap) (bs ++ [true, false]) := by rw [← hw11]; exact app_other HO19.out hgrow HM9.out (by decide) (by decide) HO39.out
        have hb11 : Below w5.heap.size w5 w11 := HB9.out.trans (by rw [← hw11]; exact app_below HO19.out hgrow HSZ.out.1 HB9.out.size)
        have HB11 := Lib.hid hb11
        have hr1 : RdG (.int .u32) w11 (.slice (some ⟨g1, 0, none⟩) (xs.length + 1) cap1) (xs ++ [7]) := hO1.rd
        have hr3 : RdG .bool w11 (.slice (some ⟨g, 0, none⟩) (bs.length + 2) cap) (bs ++ [true, false]) := hO3.rd
        have e1 : (xs ++ [7]).length = xs.length + 1 := by simp
        have e3 : (bs ++ [true, false]).length = bs.length + 2 := by simp
        have hof := of3_any w11 (some ⟨g1, 0, none⟩) (some ⟨g, 0, none⟩) cap1 cap (xs ++ [7]) pt (bs ++ [true, false]) (by rw [e1]; exact hr1) (by rw [e3]; exact hr3) (by have := HL.out; omega) (by have := HL.out; omega) (fun x hx => by
          rcases List.mem_append.1 hx with h | h
          · exact HX.out x h
          · rw [List.mem_singleton.1 h]; decide)
        rw [e1, e3] at hof
        have HOF2 := Lib.hid hof
        obtain ⟨v0, v1, v2⟩ := three_cells hm11
        clear hm11 hO3 hO1 hb11 hown' hgrow HO19 HO39 HM9 HB9 hr1 hr3 e1 e3 hof
        go_upto_region 10 with fail
        clear hw11 r0 r1 r2 r3
        go_upto_region 11 with (first | (go_at_call 47; refine HOF2.out.mono ?_; rintro o12 w12 ⟨rfl, hb12⟩) | fail)
        obtain ⟨w13, hw13⟩ : ∃ w13, w12.alloc (.cells #[.int .i64 pt, .int .i64 (cntB (bs ++ [true, false])), .int .i64 (sumI (xs ++ [7]))] 95) = w13 := ⟨_, rfl⟩
        rw [hw13]
        obtain ⟨hb13, hz13, hm13⟩ := one_row hw13
        have hbf : Below w5.heap.size w5 w13 := HB11.out.trans ((hb12.mono HB11.out.size).trans (hb13.mono (Nat.le_trans HB11.out.size hb12.size)))
        obtain ⟨m0, m1, m2⟩ := three_on HM5.out hbf
        have hb1f : Below w1.heap.size w1 w13 := (HBC.out.trans (HB5.out.mono HBC.out.size)).trans (hbf.mono (Nat.le_trans HBC.out.size HB5.out.size))
        obtain ⟨-, -, -, ⟨s0, s1, s2⟩⟩ := HR.out w13 hb1f
        obtain ⟨n0, n1, n2⟩ := three_cells hm13
        have HBF := Lib.hid (HB1.out.trans (hb1f.mono HB1.out.size))
        have hkb := cntB_bound bs
        have hsb := sumI_bound xs HX.out
        have hk2 : cntB (bs ++ [true, false]) = cntB bs + 1 := by
          rw [show bs ++ [true, false] = (bs ++ [true]) ++ [false] by simp, cntB_snoc, cntB_snoc]
          simp
        have hs2 : sumI (xs ++ [7]) = sumI xs + 7 := sumI_snoc xs 7
        rw [hk2] at n1
        rw [hs2] at n2
        have HL2 := HL.out
        clear HR HOF2 HB11 HBC HB5 HM5 hb12 hb13 hz13 hm13 hw13 hbf hb1f HX HX1 HX3 HSZ HZ5 HOF HCP HBW HBW5 hk2 hs2 v0 v1 v2
        obtain ⟨kc, hkc⟩ : ∃ kc, cntB bs = kc := ⟨_, rfl⟩
        obtain ⟨si, hsi⟩ : ∃ si, sumI xs = si := ⟨_, rfl⟩
        rw [hkc] at hkb m1 n1
        rw [hsi] at hsb m2 n2
        clear hkc hsi
        have hw1 : IntKind.i64.wrap (kc + 1) = kc + 1 := by rw [IntKind.wrap_i64]; omega
        have hw2 : IntKind.i64.wrap (si + 7) = si + 7 := by rw [IntKind.wrap_i64]; omega
        have hd1 : decide (0 ≤ kc) = true := decide_eq_true hkb.1
        have hd2 : decide (kc ≤ (bs.length : Int)) = true := decide_eq_true hkb.2
        have HCM := Lib.hid (show cmpM (pt, kc, si) (pt, kc + 1, si + 7) = -1 by
          unfold cmpM
          rcases cmpI_cases pt pt with ⟨h, e⟩ | ⟨h, e⟩ | ⟨h, e⟩
          · omega
          · rcases cmpI_cases kc (kc + 1) with ⟨h2, e2⟩ | ⟨h2, e2⟩ | ⟨h2, e2⟩
            · simp only [e, e2, orI]; simp
            · omega
            · omega
          · omega)
        clear hkb hsb HL2
        go_wp2_with (first
          | (go_at_call 51; refine (cmp6_any _ _ _ _ _ _ _).mono ?_; rintro o14 w14 ⟨rfl, hb14⟩; rw [HCM.out]; have hbg := HBF.out.trans (hb14.mono HBF.out.size))
          | (go_at_call 46; refine (HA.out _ hbg).mono ?_; rintro o15 w15 ⟨rfl, hb15⟩)
          | fail)
        go_ret
        exact ⟨rfl, hbg.trans (hb15.mono hbg.size)⟩
end Go.Proofs.YtlibeobmdjeilaaGreatDoor
