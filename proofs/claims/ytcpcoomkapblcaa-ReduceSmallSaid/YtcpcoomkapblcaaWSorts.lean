/- sorts' walk: Better and Sorted return what the reference does; the list is not modified, and shares no memory with the result. -/
import Derived.Test.YtcpcoomkapblcaaRefS
import Derived.Test.YtcpcoomkapblcaaWOrder
import Derived.Laws.OwnMore
import Derived.Deep.RegionHeld3
open Go Go.RowKit Go.Maps
namespace Go.Proofs.Ytcpcoomkapblcaa
open Go.Shelf
attribute [local go_sem ↓] Go.wp_at_zero Go.wp_at_succ
set_option maxRecDepth 1000000 in
theorem cloneI_empty (a : Addr) (c : Nat) (w : World) :
    Calls Try.prog 61 #[.slice (some a) 0 c] w fun e w' => ∃ v, e = .returned v ∧ w'.ownsRow w.heap.size 32 3 v 0 [] ∧ Below w.heap.size w w' := by
  obtain ⟨i0, hi, hz0, hz1, hz2⟩ := info_parts inf_info
  have q22 : ∀ (w : World) (a : Option Addr) (n c n' c' : Nat), (binOp .eql 29 (.slice a n c) (.slice none n' c')).run Try.prog w = .ok (.bool a.isNone) w := fun w a n c n' c' => Lib.run_eql_slice_nil w _ _ a n c n' c' Try.underlying29
  go_enter Try.func61, Try.ntmps61
  go_wp2_with (at_builtin; refine wpList_append_own _ rfl _ _ 29 rfl w.heap.size 32 i0 _ 3 24 Try.underlying29 hi hz0 hz1 hz2 rfl (by decide) _ _ _ rfl (World.ownsRow_made w #[] 0 (Nat.le_refl _) (Nat.zero_le _) (by simp)) a 0 c [] rfl rfl ?qc2 ?qc3 ?qc4 ?qc5 ?qc6 ?_)
  case qc2 => intro j u hj; simp at hj
  case qc3 => intro u hu; simp at hu
  case qc4 => simp [maxLen]
  case qc5 => omega
  case qc6 => simp
  intro v' w1 hown hgrow hnil
  go_wp2
  go_ret
  refine ⟨v', rfl, by simpa using hown, ?_⟩
  exact ((Below.refl _ w).alloc (Nat.le_refl _) _).grown hgrow (by simp) (by intro k hk; simp [Value.ownBlock] at hk; omega)
theorem cloneI_rd (w : World) (B : Nat) (A : Option Addr) (c : Nat) (T : List Inf) (hr : RdS B w (.slice A T.length c) T) (hT : T.length ≤ 1000000) :
    Calls Try.prog 61 #[.slice A T.length c] w fun e w' => ∃ v, e = .returned v ∧ w'.ownsRow w.heap.size 32 3 v T.length (T.flatMap Inf.enc) ∧ Below w.heap.size w w' := by
  obtain ⟨A', c', e, _, h2⟩ := hr
  injection e with e1 e2 e3
  subst e1 e3
  rcases Nat.eq_zero_or_pos T.length with h0 | h0
  · have hT0 : T = [] := List.eq_nil_of_length_eq_zero h0
    subst hT0
    cases A with
    | none => exact (cloneI_none _ c w).mono fun _ _ ⟨he, hw⟩ => ⟨_, he, World.ownsRow_nil _ _ _ _, hw ▸ Below.refl _ _⟩
    | some a => exact cloneI_empty a c w
  · obtain ⟨b, off, rfl, _, hc⟩ := h2 h0
    exact (cloneI_some b off c T w hT hc).mono fun _ _ ⟨g, cap, he, hown, hb⟩ => ⟨_, he, hown, hb⟩
theorem own_below {w w' : World} {base e size B : Nat} {v : Value} {n : Nat} {xs : List Value} (h : w.ownsRow base e size v n xs) (hb : Below B w w') (hB : w.heap.size ≤ B) : w'.ownsRow base e size v n xs := by
  rcases h.2 with ⟨rfl, h0⟩ | ⟨g, cap, cur, rfl, hg, hh, h1, h2, h3, h4⟩
  · exact ⟨h.1, .inl ⟨rfl, h0⟩⟩
  · have hlt : g < w.heap.size := (Array.getElem?_eq_some_iff.1 hh).1
    exact ⟨h.1, .inr ⟨g, cap, cur, rfl, hg, (hb.block g (by omega)).trans hh, h1, h2, h3, h4⟩⟩
theorem len_sortI' (T : List Inf) : (sortI T).length = T.length := (List.mergeSort_perm _ _).length_eq
/-- A box that holds an Info. -/
def InfB (W : World) (p : Nat) (x : Inf) : Prop := W.cell? ⟨p, 0, none⟩ = some (.int .i64 x.id) ∧ W.cell? ⟨p, 1, none⟩ = some (.int .i64 x.lev) ∧ W.cell? ⟨p, 2, none⟩ = some (.int .i64 x.used)
theorem InfB.below {W W' : World} {p B : Nat} {x : Inf} (h : InfB W p x) (hb : Below B W W') (hp : p < B) : InfB W' p x :=
  ⟨(hb.cell (p := ⟨p, 0, none⟩) hp).trans h.1, (hb.cell (p := ⟨p, 1, none⟩) hp).trans h.2.1, (hb.cell (p := ⟨p, 2, none⟩) hp).trans h.2.2⟩
theorem InfAt.below {W W' : World} {b o B : Nat} {x : Inf} (h : InfAt W b o x) (hb : Below B W W') (hp : b < B) : InfAt W' b o x :=
  ⟨(hb.cell (p := ⟨b, o, none⟩) hp).trans h.1, (hb.cell (p := ⟨b, o + 1, none⟩) hp).trans h.2.1, (hb.cell (p := ⟨b, o + 2, none⟩) hp).trans h.2.2⟩
theorem InfB.new (W : World) (x : Inf) (t : TypeId) : InfB (W.alloc (.cells #[.int .i64 x.id, .int .i64 x.lev, .int .i64 x.used] t)) W.heap.size x :=
  ⟨by simp, by simp, by simp⟩
set_option maxRecDepth 10000000 in
set_option maxHeartbeats 4000000 in
theorem sorts_any (w : World) (A : Option Addr) (c : Nat) (T : List Inf) (hr : RdS w.heap.size w (.slice A T.length c) T) (hT : T.length ≤ 40) :
    Calls Try.prog 36 #[.slice A T.length c] w fun e w' => e = .returned (.bool true) ∧ Below w.heap.size w w' := by
  obtain ⟨i0, hi, hz0, hz1, hz2⟩ := info_parts rinf_info
  have HC1 := Lib.hid (cloneI_rd w _ A c T hr (by omega))
  go_enter Try.func36, Try.ntmps36
  go_wp2_with fail
  refine HC1.out.mono ?_
  rintro e w1 ⟨v1, rfl, hown1, hb1⟩
  obtain ⟨A1, c1, rfl⟩ := own_form' hown1
  have hsz1 := hb1.size
  have HOWN1 := Lib.hid hown1
  clear hown1 HC1
  go_wp2_with fail
  go_loopw [4, 17] (fun v i wr => ∃ k : Nat, k ≤ T.length ∧ i = .int .i64 k ∧ wr.ownsRow w1.heap.size 103 3 v k ((T.take k).flatMap Inf.enc) ∧ Below w1.heap.size w1 wr) (fun _ i _ => 41 - (intOf i).toNat)
  case atStart => exact ⟨0, Nat.zero_le _, rfl, World.ownsRow_nil _ _ _ _, Below.refl _ _⟩
  case round =>
    obtain ⟨k, hk, rfl, hown, hbk⟩ := hrel
    have hszk := hbk.size
    by_cases hlt : k < T.length
    · obtain ⟨A', c', e, _, hrr⟩ := id hr
      injection e with e1 e2 e3
      subst e1 e3
      obtain ⟨b, off, rfl, hbl, hcell⟩ := hrr (by omega)
      have hwr : Below w.heap.size w wr := hb1.trans (hbk.mono hsz1)
      obtain ⟨q1, q2, q3⟩ := (hcell k hlt).below hwr hbl
      have hs : T.take (k + 1) = T.take k ++ [T[k]?.getD ⟨0, 0, 0⟩] := by
        rw [List.take_succ_eq_append_getElem hlt]; simp [hlt]
      generalize T[k]?.getD ⟨0, 0, 0⟩ = x at *
      have HS := Lib.hid hs
      have HOWN := Lib.hid hown
      have hcl : ∀ j u, [Value.int .i64 x.id, .int .i64 x.lev, .int .i64 x.used][j]? = some u → ((wr.alloc (.cells #[.int .i64 x.id, .int .i64 x.lev, .int .i64 x.used] 32)).alloc (.cells #[.int .i64 x.id, .int .i64 x.lev, .int .i64 x.used] 103)).cell? ((⟨wr.heap.size + 1, 0, none⟩ : Addr).add j) = some u := by
        have e : (wr.alloc (.cells #[.int .i64 x.id, .int .i64 x.lev, .int .i64 x.used] 32)).heap.size = wr.heap.size + 1 := by simp
        rw [← e]; exact cell_three_new _ _ _ _ _
      have HCL := Lib.hid hcl
      clear hs hown hcl hcell hrr e2
      go_wp2_with (at_builtin; refine wpList_append_own _ rfl _ _ 92 rfl w1.heap.size 103 i0 (.agg #[.int .i64 0, .int .i64 0, .int .i64 0]) 3 24 Try.underlying92 hi hz0 hz1 hz2 rfl (by decide) _ _ _ rfl ((HOWN.out.alloc _).alloc _) ⟨wr.heap.size + 1, 0, none⟩ 1 1 [.int .i64 x.id, .int .i64 x.lev, .int .i64 x.used] rfl rfl HCL.out (enc1 x) (by simp only [maxLen]; omega) (by omega) (by simp; omega) ?_; intro v' w2 hown2 hg2 _)
      have hbk2 : Below w1.heap.size w1 w2 := ((hbk.alloc hszk _).alloc (by simp; omega) _).grown hg2 (by simp; omega) (fun q hq => own_lt HOWN.out q hq)
      have HO2 := Lib.hid hown2
      clear hown2 hg2
      go_wp2_with fail
      exact ⟨⟨k + 1, by omega, by go_num, by rw [HS.out, List.flatMap_append]; exact HO2.out, hbk2⟩, by simp [intOf]; omega⟩
    · obtain rfl : k = T.length := by omega
      rw [List.take_length] at hown
      have HR4 := Lib.hid (RdS.of_ownE hown)
      obtain ⟨A4, c4, rfl⟩ := own_form' hown
      have HO1 := Lib.hid (own_below HOWN1.out hbk (Nat.le_refl _))
      have hwr : Below w.heap.size w wr := hb1.trans (hbk.mono hsz1)
      clear hown
      go_wp2_with fail
      refine (sorted_own wr w.heap.size _ T HO1.out (by omega)).mono ?_
      rintro e w2 ⟨v7, rfl, hown7, hb2⟩
      have hsz2 := hb2.size
      have HR4b := Lib.hid (HR4.out.below hb2)
      obtain ⟨A7, c7, rfl⟩ := own_form' hown7
      have HO7 := Lib.hid hown7
      clear hown7
      go_wp2_with fail
      refine (refSorted_any w2 wr.heap.size _ T hsz2 HR4b.out (by omega)).mono ?_
      rintro e w3 ⟨v30, rfl, hown30, hb3⟩
      have hsz3 := hb3.size
      have HR30 := Lib.hid (RdS.of_ownE hown30)
      have HO7b := Lib.hid (own_below HO7.out hb3 (Nat.le_refl _))
      obtain ⟨A30, c30, rfl⟩ := own_form' hown30
      clear hown30
      go_wp2_with fail
      refine (same_same w3 _ _ _ _ (sortI T) (Nat.le_refl _) (Nat.le_refl _) (RdS.of_own HO7b.out) HR30.out (by rw [len_sortI']; omega)).mono ?_
      rintro e w4 ⟨rfl, hb4⟩
      have HO7c := Lib.hid (own_below HO7b.out hb4 (Nat.le_refl _))
      have hb24 : Below wr.heap.size wr w4 := hb2.trans ((hb3.trans (hb4.mono hsz3)).mono hsz2)
      have hsz4 := hb24.size
      obtain ⟨wa, rfl⟩ : ∃ x : World, x = wr := ⟨_, rfl⟩
      clear HO7 HO7b HR30 hb2 hb3 hb4 HR4b hsz2 hsz3
      go_wp2_with fail
      go_loopw [8, 35] (fun _ i wr => ∃ (j : Nat) (xs : List Value), j ≤ T.length ∧ i = .int .i64 j ∧ wr.ownsRow wa.heap.size 32 3 (.slice A7 T.length c7) T.length xs ∧ Below wa.heap.size w4 wr) (fun _ i _ => 41 - (intOf i).toNat)
      case atStart => exact ⟨0, _, Nat.zero_le _, rfl, HO7c.out, Below.refl _ _⟩
      case round =>
        obtain ⟨j, xs, hj, rfl, hown, hbj⟩ := hrel
        by_cases hlt2 : j < T.length
        · rcases hown.2 with ⟨e0, h0⟩ | ⟨g, cap, cur, e0, hg1, -⟩
          · omega
          injection e0 with e1 e2 e3
          subst e1 e3
          have hxl := hown.1
          have hcl : wr.cell? ⟨g, j * 3, none⟩ = some (xs[j * 3]'(by omega)) := by
            rw [hown.cellAt (j * 3) (by omega), List.getElem?_eq_getElem (by omega)]
          have hfr := hown.frozenAt (j * 3)
          have hst := hown.stored (j * 3) (.int .i64 (-5))
          generalize xs[j * 3]'(by omega) = u at *
          have HST := Lib.hid hst
          have hgg := (hown.lt g rfl).2
          have hz1 : (0 : Int) ≤ (j : Int) := by omega
          have hz2 : (j : Int) < (T.length : Int) := by omega
          clear hst hown e2 hxl
          go_wp2_with fail
          exact ⟨⟨j + 1, _, by omega, by go_num, HST.out.1, hbj.setCell hg1 _⟩, by simp [intOf]; omega⟩
        · obtain rfl : j = T.length := by omega
          clear hown
          have h5 : Below wa.heap.size wa wr := hb24.trans hbj
          have hsz5 := h5.size
          have hOwn5 := (RdS.of_own HOWN1.out).below ((hbk.trans (h5.mono hszk)))
          have hRef5 := HR4.out.below h5
          have hEnd : Below w.heap.size w wr := hwr.trans (h5.mono hwr.size)
          obtain ⟨w5, rfl⟩ : ∃ x : World, x = wr := ⟨_, rfl⟩
          clear h5 hbj hb24 hsz4 HO7c
          go_wp2_with fail
          go_loopw [45] (fun ix wr => ∃ i : Nat, i ≤ T.length ∧ ix = .int .i64 i ∧ Below w5.heap.size w5 wr) (fun ix _ => 41 - (intOf ix).toNat)
          case atStart => exact ⟨0, Nat.zero_le _, rfl, Below.refl _ _⟩
          case round =>
            obtain ⟨i, hi', rfl, hbi⟩ := hrel
            have hszi := hbi.size
            by_cases hlt3 : i < T.length
            · obtain ⟨A', c', e, _, hrr⟩ := id hOwn5
              injection e with e1 e2 e3
              subst e1 e3
              obtain ⟨b1, o1, rfl, hbl1, hcell1⟩ := hrr (by omega)
              obtain ⟨A'', c'', e', _, hrr2⟩ := id hRef5
              injection e' with e1' e2' e3'
              subst e1' e3'
              obtain ⟨b2, o2, rfl, hbl2, hcell2⟩ := hrr2 (by omega)
              have HX := Lib.hid (hcell1 i hlt3)
              obtain ⟨q1, q2, q3⟩ := (hcell2 i hlt3).below hbi (by omega)
              have HC1' := Lib.hid hcell1
              have HC2' := Lib.hid hcell2
              generalize T[i]?.getD ⟨0, 0, 0⟩ = x at *
              clear hcell1 hcell2 hrr hrr2 e2 e2' hOwn5 hRef5
              obtain ⟨wo, rfl⟩ : ∃ x : World, x = wr := ⟨_, rfl⟩
              have HNB := Lib.hid (InfB.new wo x 103)
              go_wp2_with fail
              go_loopw [52] (fun mx wr => ∃ m : Nat, m ≤ T.length ∧ mx = .int .i64 m ∧ Below (wo.heap.size + 1) (wo.alloc (.cells #[.int .i64 x.id, .int .i64 x.lev, .int .i64 x.used] 103)) wr) (fun mx _ => 41 - (intOf mx).toNat)
              case atStart => exact ⟨0, Nat.zero_le _, rfl, Below.refl _ _⟩
              case round =>
                obtain ⟨m, hm, rfl, hbm⟩ := hrel
                have hwm : Below wo.heap.size wo wr := ((Below.refl _ wo).alloc (Nat.le_refl _) _).trans (hbm.mono (by omega))
                have hszm : wo.heap.size + 1 ≤ wr.heap.size := by simpa using hbm.size
                by_cases hlt4 : m < T.length
                · have h5m := hbi.trans (hwm.mono hszi)
                  have hoy := HC1'.out m hlt4
                  obtain ⟨r1, r2, r3⟩ := (HC2'.out m hlt4).below h5m (by omega)
                  generalize T[m]?.getD ⟨0, 0, 0⟩ = y at *
                  have hbx := better_any x y
                  have hby := refBetter_any x y
                  generalize bt x y = β at *
                  have HB1 := Lib.hid hbx
                  have HB2 := Lib.hid hby
                  have hbb : (β != β) = false := by simp
                  have hz1 : (0 : Int) ≤ (i : Int) := by omega
                  have hz2 : (i : Int) < (T.length : Int) := by omega
                  have hz3 : (0 : Int) ≤ (m : Int) := by omega
                  have hz4 : (m : Int) < (T.length : Int) := by omega
                  have hzz : Below wr.heap.size wr (wr.alloc (.cells #[.int .i64 y.id, .int .i64 y.lev, .int .i64 y.used] 103)) := (Below.refl _ wr).alloc (Nat.le_refl _) _
                  have a1 : InfAt (wr.alloc (.cells #[.int .i64 y.id, .int .i64 y.lev, .int .i64 y.used] 103)) b1 (o1 + i * 3) x := (HX.out.below h5m (by omega)).below hzz (by omega)
                  have a2 : InfAt (wr.alloc (.cells #[.int .i64 y.id, .int .i64 y.lev, .int .i64 y.used] 103)) b1 (o1 + m * 3) y := (hoy.below h5m (by omega)).below hzz (by omega)
                  have a3 : InfB (wr.alloc (.cells #[.int .i64 y.id, .int .i64 y.lev, .int .i64 y.used] 103)) wo.heap.size x := (HNB.out.below hbm (by omega)).below hzz (by omega)
                  have a4 := InfB.new wr y 103
                  have hszz : (wr.alloc (.cells #[.int .i64 y.id, .int .i64 y.lev, .int .i64 y.used] 103)).heap.size = wr.heap.size + 1 := by simp
                  have HZ := Lib.hid hszz
                  have HZB := Lib.hid hzz
                  clear hbx hby hoy hzz hszz
                  go_wp2_with fail
                  generalize wr.alloc (.cells #[.int .i64 y.id, .int .i64 y.lev, .int .i64 y.used] 103) = wz at *
                  have hwz : wr.heap.size < wz.heap.size := by have := HZ.out; omega
                  have HC4 : Hid (∀ W, Below wz.heap.size wz W → InfAt W b1 (o1 + i * 3) x ∧ InfAt W b1 (o1 + m * 3) y ∧ InfB W wo.heap.size x ∧ InfB W wr.heap.size y) := Lib.hid (fun W hW => ⟨a1.below hW (by omega), a2.below hW (by omega), a3.below hW (by omega), a4.below hW (by omega)⟩)
                  obtain ⟨⟨z1, z2, z3⟩, ⟨z4, z5, z6⟩, ⟨z7, z8, z9⟩, z10, z11, z12⟩ := HC4.out _ (Below.refl _ _)
                  have hbd : Below wz.heap.size wz wz.drew := (Below.refl _ _).drew
                  clear a1 a2 a3 a4 r1 r2 r3
                  obtain ⟨p, hp⟩ : ∃ p, p = wo.heap.size := ⟨_, rfl⟩
                  obtain ⟨q, hq⟩ : ∃ q, q = wr.heap.size := ⟨_, rfl⟩
                  rw [← hp] at HC4 z7 z8 z9 ⊢
                  rw [← hq] at HC4 z10 z11 z12 ⊢
                  have HPQ := Lib.hid (And.intro hp hq)
                  clear hp hq
                  go_region_held3 (fun w' => w'.cell? ⟨b1, o1 + i * 3, none⟩ = some (.int .i64 x.id) ∧ w'.cell? ⟨b1, o1 + i * 3 + 1, none⟩ = some (.int .i64 x.lev) ∧ w'.cell? ⟨b1, o1 + i * 3 + 2, none⟩ = some (.int .i64 x.used) ∧ w'.cell? ⟨b1, o1 + m * 3, none⟩ = some (.int .i64 y.id) ∧ w'.cell? ⟨b1, o1 + m * 3 + 1, none⟩ = some (.int .i64 y.lev) ∧ w'.cell? ⟨b1, o1 + m * 3 + 2, none⟩ = some (.int .i64 y.used) ∧ w'.cell? ⟨p, 0, none⟩ = some (.int .i64 x.id) ∧ w'.cell? ⟨p, 1, none⟩ = some (.int .i64 x.lev) ∧ w'.cell? ⟨p, 2, none⟩ = some (.int .i64 x.used) ∧ w'.cell? ⟨q, 0, none⟩ = some (.int .i64 y.id) ∧ w'.cell? ⟨q, 1, none⟩ = some (.int .i64 y.lev) ∧ w'.cell? ⟨q, 2, none⟩ = some (.int .i64 y.used) ∧ Below wz.heap.size wz w')
                    (simp [*])
                    (first
                      | (go_at_call 27; refine (HB1.out _).mono ?_; rintro e w9 ⟨rfl, hb9⟩; have hb10 := Below.trans (by assumption : Below wz.heap.size wz _) (hb9.mono (Below.size (by assumption))); obtain ⟨⟨z1, z2, z3⟩, ⟨z4, z5, z6⟩, ⟨z7, z8, z9⟩, z10, z11, z12⟩ := HC4.out _ hb10)
                      | (go_at_call 62; refine (HB2.out _).mono ?_; rintro e w9 ⟨rfl, hb9⟩; have hb10 := Below.trans (by assumption : Below wz.heap.size wz _) (hb9.mono (Below.size (by assumption))); obtain ⟨⟨z1, z2, z3⟩, ⟨z4, z5, z6⟩, ⟨z7, z8, z9⟩, z10, z11, z12⟩ := HC4.out _ hb10)
                      | fail)
                  all_goals
                    obtain ⟨rfl, rfl⟩ := HPQ.out
                    go_wp2_with fail
                    exact ⟨⟨m + 1, by omega, by go_num, hbm.trans ((HZB.out.trans (hb10.mono (by omega))).mono hszm)⟩, by simp [intOf]; omega⟩
                · obtain rfl : m = T.length := by omega
                  go_wp2_with fail
                  exact ⟨⟨i + 1, by omega, by go_num, hbi.trans (hwm.mono hszi)⟩, by simp [intOf]; omega⟩
            · obtain rfl : i = T.length := by omega
              have h1 := hOwn5.below (hbi.mono (by omega))
              have h2 := (hr.below hEnd).below (hbi.mono (by omega))
              have HEQ := Lib.hid (equalS_same wr _ _ _ _ T h1 h2 (by omega))
              clear h1 h2 hOwn5 hRef5
              go_wp2_with fail
              refine HEQ.out.mono ?_
              rintro e w7 ⟨rfl, q7, rfl⟩
              go_wp2_with fail
              go_ret
              exact ⟨rfl, (hEnd.trans (hbi.mono (by have := hEnd.size; omega))).trans (below_drewN' (Below.refl _ _) _)⟩
end Go.Proofs.Ytcpcoomkapblcaa
