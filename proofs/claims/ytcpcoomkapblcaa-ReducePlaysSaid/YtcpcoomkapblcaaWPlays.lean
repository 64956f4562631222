/- plays' walk. -/
import Derived.Test.YtcpcoomkapblcaaPlayS
import Derived.Test.YtcpcoomkapblcaaActs
import Derived.Test.YtcpcoomkapblcaaRefD
import Derived.Test.YtcpcoomkapblcaaRefR
import Derived.Test.YtcpcoomkapblcaaAwake
import Derived.Test.YtcpcoomkapblcaaIndexS
import Derived.Test.YtcpcoomkapblcaaInfos
import Derived.Deep.RegionHeld3
import Derived.Deep.CutBlock
import Derived.Deep.CutRange
import Derived.Outline
open Go Go.RowKit Go.Maps
namespace Go.Proofs.Ytcpcoomkapblcaa
open Go.Shelf
attribute [local go_sem ↓] Go.wp_at_zero Go.wp_at_succ
theorem act_cells {W : World} {g : Nat} {t : TypeId} {a b c d : Value} (h : W.heap[g]? = some (.cells #[a, b, c, d] t (0, 0))) :
    W.cell? ⟨g, 0, none⟩ = some a ∧ W.cell? ⟨g, 1, none⟩ = some b ∧ W.cell? ⟨g, 2, none⟩ = some c ∧ W.cell? ⟨g, 3, none⟩ = some d := by
  simp [World.cell?, h]
theorem neq_same (x : Inf) (W : World) : (binOp .neq 103 (.agg #[.int .i64 x.id, .int .i64 x.lev, .int .i64 x.used]) (.agg #[.int .i64 x.id, .int .i64 x.lev, .int .i64 x.used])).run Try.prog W = .ok (.bool false) W := by
  rw [run_neq_struct]
  simp [go_sem]
theorem box3 {W : World} {g : Nat} {t : TypeId} {a b c : Value} (h : W.heap[g]? = some (.cells #[a, b, c] t (0, 0))) :
    (W.cell? ⟨g, 0, none⟩ = some a ∧ W.cell? ⟨g, 1, none⟩ = some b ∧ W.cell? ⟨g, 2, none⟩ = some c) ∧ W.frozen? ⟨g, 0, none⟩ = false ∧ W.frozen? ⟨g, 1, none⟩ = false ∧ W.frozen? ⟨g, 2, none⟩ = false := by
  simp [World.cell?, World.frozen?, h]
theorem infoOf_none {T : List Inf} {i : Int} (h : hasI T i = false) : infoOf T i = ⟨0, 0, 0⟩ := by
  unfold infoOf findI
  cases hf : T.find? (fun x => x.id == i) with
  | none => rfl
  | some x =>
    have h1 := List.mem_of_find?_eq_some hf
    have h2 := List.find?_some hf
    have : hasI T i = true := List.any_eq_true.2 ⟨x, h1, h2⟩
    rw [h] at this
    cases this
theorem own_but {B p m n : Nat} {w w' : World} {v : Value} {xs : List Int} (h : w.ownsRow B 3 1 v n (xs.map (.int .i64))) (hb : But p m w w') (hp : p < B) (hm : m < B) : RdI w'.heap.size w' v xs := by
  have hl := h.1
  rw [List.length_map] at hl
  rcases h.2 with ⟨rfl, h0⟩ | ⟨g, cap, cur, rfl, hbg, hh, hnc, hcm, hcs', htk⟩
  · have : xs.length = 0 := by omega
    exact ⟨none, 0, by rw [this], by omega, fun h => by omega⟩
  · have hn : n = xs.length := by omega
    subst hn
    have hlt := (h.lt g rfl).2
    refine ⟨_, cap, rfl, hnc, fun _ => ⟨g, 0, rfl, Nat.lt_of_lt_of_le hlt hb.size, fun j hj => ?_⟩⟩
    rw [World.cell?_of_block (hb.block g hlt (by omega) (by omega)), Nat.zero_add, h.cellAt j (by omega), List.getElem?_map]
    simp [hj]
set_option maxRecDepth 10000000 in
set_option maxHeartbeats 8000000 in
theorem plays_any (w : World) (sv : Value) (l : List ActD) (hs : RdA w.heap.size w sv l) (hl : l.length ≤ 60) (hbig : ∀ x ∈ l, x.lock.length ≤ 20) :
    Calls Try.prog 35 #[sv] w fun e w' => e = .returned (.bool true) ∧ Below w.heap.size w w' := by
  obtain ⟨A, cap, rfl, hcp, hr⟩ := hs
  have HBIG := Lib.hid hbig
  clear hbig
  go_enter Try.func35, Try.ntmps35
  go_wp2_with fail
  refine (new_any w).mono ?_
  rintro e w1 ⟨p, m, rfl, ht1, hp, hm, hb1⟩
  have hnb := heap_alloc_new w1 (.cells #[.slice none 0 0, .int .i64 0] 94)
  have hps : PS w (w1.alloc (.cells #[.slice none 0 0, .int .i64 0] 94)) p m w1.heap.size [] 0 (.slice none 0 0) :=
    ⟨ht1.alloc _, GoodT.nil, hnb, RdS.nil _ _, hb1.alloc hb1.size _, hp, hm, hb1.size⟩
  have HPS := Lib.hid hps
  have hsz1 := hb1.size
  clear hnb hps ht1 hb1
  go_wp2_with fail
  go_loopw [24] (fun i wr => ∃ (k : Nat) (T : List Inf) (c : Int) (sv : Value), k ≤ l.length ∧ i = .int .i64 k ∧ T.length ≤ k ∧ 0 ≤ c ∧ c ≤ k ∧ Hid (PS w wr p m w1.heap.size T c sv)) (fun i _ => 61 - (intOf i).toNat)
  case atStart => exact ⟨0, [], 0, _, Nat.zero_le _, rfl, Nat.le_refl _, by omega, by omega, HPS⟩
  case round =>
    obtain ⟨k, T, c, svk, hk, rfl, hTk, hc0, hck, HP⟩ := hrel
    by_cases hlt : k < l.length
    · obtain ⟨b, off, rfl, hbl, hcell⟩ := hr (by omega)
      have hlk : (l[k]?.getD noAct).lock.length ≤ 20 := by
        rw [List.getElem?_eq_getElem hlt]; exact HBIG.out _ (List.getElem_mem _)
      obtain ⟨lv, c1, c2, c3, c4, c5, c6, c7, c8, c9, c10⟩ := (hcell k hlt).below HP.out.bel hbl
      generalize l[k]?.getD noAct = x at *
      obtain ⟨AL, capL, rfl, -, -⟩ := id c5
      have hk0 : (0 : Int) ≤ (k : Int) := by omega
      have hk1 : (k : Int) < (l.length : Int) := by omega
      clear hcell hr
      obtain ⟨wo, rfl⟩ : ∃ y : World, y = wr := ⟨_, rfl⟩
      have hact := heap_alloc_new wo (.cells #[.int .u8 x.kind, .int .i64 x.id, .int .i64 x.lev, .slice AL x.lock.length capL] 59)
      have HACT := Lib.hid hact
      have HP0 := Lib.hid (HP.out.below ((Below.refl _ wo).alloc (Nat.le_refl _) (.cells #[.int .u8 x.kind, .int .i64 x.id, .int .i64 x.lev, .slice AL x.lock.length capL] 59)))
      have hpl : p < wo.heap.size := HP.out.tab.lt
      have hml : m < wo.heap.size := HP.out.tab.map.lt
      have hql : w1.heap.size < wo.heap.size := HP.out.qlt
      have hal : wo.heap.size < (wo.alloc (.cells #[.int .u8 x.kind, .int .i64 x.id, .int .i64 x.lev, .slice AL x.lock.length capL] 59)).heap.size := by simp
      have HNE : Hid (wo.heap.size ≠ w1.heap.size ∧ True) := Lib.hid ⟨by omega, trivial⟩
      clear hact
      go_upto_block 2 with (fail)
      go_cut [7, 8] (fun s7 s8 wx => ∃ (e : Int) (T' : List Inf) (c' : Int) (sv' : Value), s7 = .int .i64 e ∧ s8 = .int .i64 e ∧ T'.length ≤ k + 1 ∧ 0 ≤ c' ∧ c' ≤ (k : Int) + 1 ∧ Hid (PS w wx p m w1.heap.size T' c' sv') ∧
        Hid (wx.heap[wo.heap.size]? = some (.cells #[.int .u8 x.kind, .int .i64 x.id, .int .i64 x.lev, .slice AL x.lock.length capL] 59 (0, 0))))
      case first =>
        go_wp2_with fail
        · refine (put_any _ p m T c x.id x.lev HP0.out.tab c9 ⟨hc0, by omega⟩ (by omega)).mono ?_
          rintro e w2 ⟨rfl, ht2, hbut⟩
          have hbx := (hbut.block w1.heap.size HP0.out.qlt HP0.out.qp HP0.out.qm).trans HP0.out.box
          have hac := (hbut.block wo.heap.size hal (Ne.symm (Nat.ne_of_lt hpl)) (Ne.symm (Nat.ne_of_lt hml))).trans HACT.out
          obtain ⟨g0, g1, f0, f1⟩ := two_cells hbx
          obtain ⟨d0, d1, d2, d3⟩ := act_cells hac
          have hrd2 := (HP0.out.rd.but HP0.out.tab hbut (Nat.le_refl _)).more hbut.size
          obtain ⟨Ak, ck, rfl⟩ := hrd2.form
          have HR2 := Lib.hid hrd2
          have HAC := Lib.hid hac
          have HT2 := Lib.hid ht2
          have HBUT := Lib.hid hbut
          have HG := Lib.hid (HP0.out.good.put c x.id x.lev)
          clear hrd2 hac hbx ht2 hbut
          go_wp2_with fail
          refine (refPut_any w2 w2.heap.size _ T c x.id x.lev (Nat.le_refl _) HR2.out (by omega) hc0 (by omega)).mono ?_
          rintro e w3 ⟨sv3, rfl, hrd3, hb3⟩
          obtain ⟨A3, c3', rfl⟩ := hrd3.form
          obtain ⟨hbx3, hps3⟩ := HP0.out.step HT2.out HBUT.out HG.out.1 hb3 hrd3
          obtain ⟨g0', g1', f0', f1'⟩ := two_cells hbx3
          have HPS3 := Lib.hid hps3
          have HAC3 := Lib.hid (fun u v => ((Below.heap_setCell (w3.setCell ⟨w1.heap.size, 0, none⟩ u) ⟨w1.heap.size, 1, none⟩ v wo.heap.size HNE.out.1).trans (Below.heap_setCell w3 ⟨w1.heap.size, 0, none⟩ u wo.heap.size HNE.out.1)).trans ((hb3.block wo.heap.size (by have := HBUT.out.size; omega)).trans HAC.out))
          clear hrd3 hb3 hbx3 hps3 g0 g1 f0 f1 d0 d1 d2 d3
          go_wp2_with fail
          go_meet
          exact ⟨_, _, _, _, rfl, rfl, by have := HG.out.2; omega, by have := HG.out.2; omega, by have := HG.out.2; omega, HPS3, Lib.hid (HAC3.out _ _)⟩
        · refine (put_any _ p m T c x.id x.lev HP0.out.tab c9 ⟨hc0, by omega⟩ (by omega)).mono ?_
          rintro e w2 ⟨rfl, ht2, hbut⟩
          have hbx := (hbut.block w1.heap.size HP0.out.qlt HP0.out.qp HP0.out.qm).trans HP0.out.box
          have hac := (hbut.block wo.heap.size hal (Ne.symm (Nat.ne_of_lt hpl)) (Ne.symm (Nat.ne_of_lt hml))).trans HACT.out
          obtain ⟨g0, g1, f0, f1⟩ := two_cells hbx
          obtain ⟨d0, d1, d2, d3⟩ := act_cells hac
          have hrd2 := (HP0.out.rd.but HP0.out.tab hbut (Nat.le_refl _)).more hbut.size
          obtain ⟨Ak, ck, rfl⟩ := hrd2.form
          have HR2 := Lib.hid hrd2
          have HAC := Lib.hid hac
          have HT2 := Lib.hid ht2
          have HBUT := Lib.hid hbut
          have HG := Lib.hid (HP0.out.good.put c x.id x.lev)
          clear hrd2 hac hbx ht2 hbut
          go_wp2_with fail
          refine (refPut_any w2 w2.heap.size _ T c x.id x.lev (Nat.le_refl _) HR2.out (by omega) hc0 (by omega)).mono ?_
          rintro e w3 ⟨sv3, rfl, hrd3, hb3⟩
          obtain ⟨A3, c3', rfl⟩ := hrd3.form
          obtain ⟨hbx3, hps3⟩ := HP0.out.step HT2.out HBUT.out HG.out.1 hb3 hrd3
          obtain ⟨g0', g1', f0', f1'⟩ := two_cells hbx3
          have HPS3 := Lib.hid hps3
          have HAC3 := Lib.hid (fun u v => ((Below.heap_setCell (w3.setCell ⟨w1.heap.size, 0, none⟩ u) ⟨w1.heap.size, 1, none⟩ v wo.heap.size HNE.out.1).trans (Below.heap_setCell w3 ⟨w1.heap.size, 0, none⟩ u wo.heap.size HNE.out.1)).trans ((hb3.block wo.heap.size (by have := HBUT.out.size; omega)).trans HAC.out))
          clear hrd3 hb3 hbx3 hps3 g0 g1 f0 f1 d0 d1 d2 d3
          go_wp2_with fail
          go_meet
          exact ⟨_, _, _, _, rfl, rfl, by have := HG.out.2; omega, by have := HG.out.2; omega, by have := HG.out.2; omega, HPS3, Lib.hid (HAC3.out _ _)⟩
        · refine (use_any _ p m T c x.id x.lev HP0.out.tab c9 ⟨hc0, by omega⟩ (by omega)).mono ?_
          rintro e w2 ⟨rfl, ht2, hbut⟩
          have hbx := (hbut.block w1.heap.size HP0.out.qlt HP0.out.qp HP0.out.qm).trans HP0.out.box
          have hac := (hbut.block wo.heap.size hal (Ne.symm (Nat.ne_of_lt hpl)) (Ne.symm (Nat.ne_of_lt hml))).trans HACT.out
          obtain ⟨g0, g1, f0, f1⟩ := two_cells hbx
          obtain ⟨d0, d1, d2, d3⟩ := act_cells hac
          have hrd2 := (HP0.out.rd.but HP0.out.tab hbut (Nat.le_refl _)).more hbut.size
          obtain ⟨Ak, ck, rfl⟩ := hrd2.form
          have HR2 := Lib.hid hrd2
          have HAC := Lib.hid hac
          have HT2 := Lib.hid ht2
          have HBUT := Lib.hid hbut
          have HG := Lib.hid (HP0.out.good.use c x.id x.lev)
          clear hrd2 hac hbx ht2 hbut
          go_wp2_with fail
          refine (refUse_any w2 w2.heap.size _ T c x.id x.lev (Nat.le_refl _) HR2.out (by omega) hc0 (by omega) HP0.out.good.good).mono ?_
          rintro e w3 ⟨sv3, rfl, hrd3, hb3⟩
          obtain ⟨A3, c3', rfl⟩ := hrd3.form
          obtain ⟨hbx3, hps3⟩ := HP0.out.step HT2.out HBUT.out HG.out.1 hb3 hrd3
          obtain ⟨g0', g1', f0', f1'⟩ := two_cells hbx3
          have HPS3 := Lib.hid hps3
          have HAC3 := Lib.hid (fun u v => ((Below.heap_setCell (w3.setCell ⟨w1.heap.size, 0, none⟩ u) ⟨w1.heap.size, 1, none⟩ v wo.heap.size HNE.out.1).trans (Below.heap_setCell w3 ⟨w1.heap.size, 0, none⟩ u wo.heap.size HNE.out.1)).trans ((hb3.block wo.heap.size (by have := HBUT.out.size; omega)).trans HAC.out))
          clear hrd3 hb3 hbx3 hps3 g0 g1 f0 f1 d0 d1 d2 d3
          go_wp2_with fail
          go_meet
          exact ⟨_, _, _, _, rfl, rfl, by have := HG.out.2; omega, by have := HG.out.2; omega, by have := HG.out.2; omega, HPS3, Lib.hid (HAC3.out _ _)⟩
        · refine (remove_any _ p m T c x.id HP0.out.tab c9).mono ?_
          rintro e w2 ⟨rfl, ht2, hbut⟩
          have hbx := (hbut.block w1.heap.size HP0.out.qlt HP0.out.qp HP0.out.qm).trans HP0.out.box
          have hac := (hbut.block wo.heap.size hal (Ne.symm (Nat.ne_of_lt hpl)) (Ne.symm (Nat.ne_of_lt hml))).trans HACT.out
          obtain ⟨g0, g1, f0, f1⟩ := two_cells hbx
          obtain ⟨d0, d1, d2, d3⟩ := act_cells hac
          have hrd2 := (HP0.out.rd.but HP0.out.tab hbut (Nat.le_refl _)).more hbut.size
          obtain ⟨Ak, ck, rfl⟩ := hrd2.form
          have HR2 := Lib.hid hrd2
          have HAC := Lib.hid hac
          have HT2 := Lib.hid ht2
          have HBUT := Lib.hid hbut
          have HG := Lib.hid (HP0.out.good.rem x.id)
          clear hrd2 hac hbx ht2 hbut
          go_wp2_with fail
          refine (refRemove_any w2 w2.heap.size _ T c x.id (Nat.le_refl _) HR2.out (by omega)).mono ?_
          rintro e w3 ⟨sv3, rfl, hrd3, hb3⟩
          obtain ⟨A3, c3', rfl⟩ := hrd3.form
          obtain ⟨hbx3, hps3⟩ := HP0.out.step HT2.out HBUT.out HG.out.1 hb3 hrd3
          obtain ⟨g0', g1', f0', f1'⟩ := two_cells hbx3
          have HPS3 := Lib.hid hps3
          have HAC3 := Lib.hid (fun u v => ((Below.heap_setCell (w3.setCell ⟨w1.heap.size, 0, none⟩ u) ⟨w1.heap.size, 1, none⟩ v wo.heap.size HNE.out.1).trans (Below.heap_setCell w3 ⟨w1.heap.size, 0, none⟩ u wo.heap.size HNE.out.1)).trans ((hb3.block wo.heap.size (by have := HBUT.out.size; omega)).trans HAC.out))
          clear hrd3 hb3 hbx3 hps3 g0 g1 f0 f1 d0 d1 d2 d3
          go_wp2_with fail
          go_meet
          exact ⟨_, _, _, _, rfl, rfl, by have := HG.out.2; omega, by have := HG.out.2; omega, by have := HG.out.2; omega, HPS3, Lib.hid (HAC3.out _ _)⟩
        · have hlk0 : RdI (wo.alloc (.cells #[.int .u8 x.kind, .int .i64 x.id, .int .i64 x.lev, .slice AL x.lock.length capL] 59)).heap.size (wo.alloc (.cells #[.int .u8 x.kind, .int .i64 x.id, .int .i64 x.lev, .slice AL x.lock.length capL] 59)) (.slice AL x.lock.length capL) x.lock :=
            (c5.below ((Below.refl _ wo).alloc (Nat.le_refl _) _ |>.mono (by have := HP.out.bel.size; omega))).more (by have := HP.out.bel.size; simp; omega)
          refine (CloneInt_any _ _ _ x.lock hlk0 (by omega)).mono ?_
          rintro e w2 ⟨v9, rfl, hown9, hb2⟩
          obtain ⟨A9, c9', rfl⟩ := own_shape hown9
          have HP2 := Lib.hid (HP0.out.below hb2)
          have HO9 := Lib.hid hown9
          clear hlk0 hown9
          go_wp2_with fail
          refine (reduce_any w2 p m T c HP2.out.tab (by omega) _ x.lock (RdI.of_own HO9.out) (by omega)).mono ?_
          rintro e w3 ⟨v10, rfl, hown10, ht3, hbut⟩
          have hp2 := HP2.out
          have hml2 : m < (wo.alloc (.cells #[.int .u8 x.kind, .int .i64 x.id, .int .i64 x.lev, .slice AL x.lock.length capL] 59)).heap.size := by omega
          have hpl2 : p < (wo.alloc (.cells #[.int .u8 x.kind, .int .i64 x.id, .int .i64 x.lev, .slice AL x.lock.length capL] 59)).heap.size := by omega
          have hsz2 := hb2.size
          have hbx := (hbut.block w1.heap.size hp2.qlt hp2.qp hp2.qm).trans hp2.box
          have hac := (hbut.block wo.heap.size (by omega) (Ne.symm (Nat.ne_of_lt hpl)) (Ne.symm (Nat.ne_of_lt hml))).trans ((hb2.block wo.heap.size hal).trans HACT.out)
          have hcl3 : RdI w3.heap.size w3 (.slice A9 x.lock.length c9') x.lock := own_but HO9.out hbut hpl2 hml2
          have hg10 := RdI.of_own hown10
          have hlk3 : RdI w3.heap.size w3 (.slice AL x.lock.length capL) x.lock := (c5.below (hbut.below (((Below.refl w.heap.size wo).alloc HP.out.bel.size _).trans (hb2.mono (by have := HP.out.bel.size; omega))) HP.out.hp HP.out.hm (by have := HP.out.bel.size; omega))).more (by have := HP.out.bel.size; have := hbut.size; omega)
          have hrd3 := (hp2.rd.but hp2.tab hbut (Nat.le_refl _)).more hbut.size
          obtain ⟨A10, c10', rfl⟩ := own_shape hown10
          obtain ⟨Ak, ck, rfl⟩ := hrd3.form
          obtain ⟨g0, g1, f0, f1⟩ := two_cells hbx
          obtain ⟨d0, d1, d2, d3⟩ := act_cells hac
          have HR3 := Lib.hid hrd3
          have HAC := Lib.hid hac
          have HT3 := Lib.hid ht3
          have HBUT := Lib.hid hbut
          have HG := Lib.hid (HP0.out.good.red x.lock)
          have HL3 := Lib.hid hlk3
          have HC3 := Lib.hid hcl3
          have HG3 := Lib.hid hg10
          clear hrd3 hac hbx ht3 hbut hlk3 hcl3 hg10 hown10 hp2
          go_wp2_with fail
          refine (refReduce_any w3 w3.heap.size _ T c _ x.lock (Nat.le_refl _) HR3.out (by omega) HL3.out (by omega)).mono ?_
          rintro e w4 ⟨sv4, v4, rfl, hrd4, hv4, hb4⟩
          obtain ⟨A4, c4', rfl⟩ := hrd4.form
          obtain ⟨AV, nV, cV, rfl⟩ := hv4.form
          have hb45 := hb4.alloc hb4.size (.cells #[.slice A4 (redT T x.lock).length c4', .int .i64 c] 94)
          have hb5 := (Below.refl w4.heap.size w4).alloc (Nat.le_refl _) (.cells #[.slice A4 (redT T x.lock).length c4', .int .i64 c] 94)
          have hn5 := heap_alloc_new w4 (.cells #[.slice A4 (redT T x.lock).length c4', .int .i64 c] 94)
          have HRD5 := Lib.hid ((hrd4.below hb5).more hb5.size)
          have hv5 := (hv4.below hb5).more hb5.size
          have hg5 := (HG3.out.below hb45).more hb45.size
          have HC5 := Lib.hid ((HC3.out.below hb45).more hb45.size)
          have HL5 := Lib.hid ((HL3.out.below hb45).more hb45.size)
          have hac5 := (hb45.block wo.heap.size (by have := HBUT.out.size; omega)).trans HAC.out
          have hbx5 := (hb5.block w1.heap.size (by have := HBUT.out.size; have := hb4.size; omega)).trans (HP2.out.step HT3.out HBUT.out HG.out.1 hb4 hrd4).1
          go_wp2_with fail
          have hlt5 : w4.heap.size < (w4.alloc (.cells #[.slice A4 (redT T x.lock).length c4', .int .i64 c] 94)).heap.size := by simp
          have hsz4 := hb4.size
          have HB45 := Lib.hid hb45
          generalize w4.alloc (.cells #[.slice A4 (redT T x.lock).length c4', .int .i64 c] 94) = w5 at *
          have HN5 := Lib.hid hn5
          have HAC5 := Lib.hid hac5
          have HBX5 := Lib.hid hbx5
          clear hb45 hb5 hn5 hac5 hbx5 hb4 hrd4 hv4 HG3 HC3 HL3 HR3 HAC d0 d1 d2 d3 g0 g1 f0 f1
          have hgz : (sortZ (redGs T x.lock)).length ≤ 1000000 := by
            have e1 : (sortZ (redGs T x.lock)).length = (redGs T x.lock).length := (List.mergeSort_perm _ _).length_eq
            have e2 := redT_len HP0.out.good.apart x.lock
            omega
          refine (EqualInt_any w5 _ _ _ _ _ _ hg5 hv5 hgz hgz).mono ?_
          rintro e w6 ⟨rfl, q1, hw6⟩
          rw [beq_self_eq_true]
          have hb56 : Below w5.heap.size w5 w6 := by rw [hw6]; exact below_drewQ (Below.refl _ _) q1
          obtain ⟨d0, d1, d2, d3⟩ := act_cells ((hb56.block wo.heap.size (by have := HBUT.out.size; omega)).trans HAC5.out)
          have hc6 := HC5.out.below hb56
          have hl6 := HL5.out.below hb56
          have HB56 := Lib.hid hb56
          clear hw6 hb56 hg5 hv5
          go_wp2_with fail
          refine (EqualInt_any w6 _ _ _ _ _ _ hc6 hl6 (by omega) (by omega)).mono ?_
          rintro e w7 ⟨rfl, q2, hw7⟩
          rw [beq_self_eq_true]
          have hb67 : Below w6.heap.size w6 w7 := by rw [hw7]; exact below_drewQ (Below.refl _ _) q2
          have hb57 := HB56.out.trans (hb67.mono HB56.out.size)
          have hn7 := (hb57.block w4.heap.size hlt5).trans HN5.out
          have hbx7 := (hb57.block w1.heap.size (by have := HBUT.out.size; omega)).trans HBX5.out
          obtain ⟨n0, n1, -, -⟩ := two_cells hn7
          obtain ⟨g0, g1, f0, f1⟩ := two_cells hbx7
          have hps7 := (HP2.out.step HT3.out HBUT.out HG.out.1 (HB45.out.trans (hb57.mono HB45.out.size)) ((HRD5.out.below hb57).more hb57.size)).2
          have HPS7 := Lib.hid hps7
          have HAC7 := Lib.hid (fun u v => ((Below.heap_setCell (w7.setCell ⟨w1.heap.size, 0, none⟩ u) ⟨w1.heap.size, 1, none⟩ v wo.heap.size HNE.out.1).trans (Below.heap_setCell w7 ⟨w1.heap.size, 0, none⟩ u wo.heap.size HNE.out.1)).trans ((hb57.block wo.heap.size (by have := HBUT.out.size; omega)).trans HAC5.out))
          clear hw7 hb67 hb57 hn7 hbx7 hps7 hc6 hl6 d0 d1 d2 d3
          go_wp2_with fail
          go_meet
          exact ⟨_, _, _, _, rfl, rfl, by have := HG.out.2; omega, by omega, by omega, HPS7, Lib.hid (HAC7.out _ _)⟩
        · go_meet
          exact ⟨0, T, c, svk, rfl, rfl, by omega, hc0, by omega, HP0, HACT⟩
      case rest =>
        obtain ⟨e, T', c', sv', rfl, rfl, hT', hc0', hc1', HP', HACT'⟩ := hcut
        rename World => wx
        have hp' := HP'.out
        obtain ⟨Ak, ck, rfl⟩ := hp'.rd.form
        obtain ⟨g0, g1, -, -⟩ := two_cells hp'.box
        have hqx : w1.heap.size < wx.heap.size := hp'.qlt
        have hax : wo.heap.size < wx.heap.size := (Array.getElem?_eq_some_iff.1 HACT'.out).1
        have hbd : Below wx.heap.size wx wx.drew := (Below.refl _ _).drew
        have HC2 : Hid (∀ W, Below wx.heap.size wx W → W.cell? ⟨w1.heap.size, 0, none⟩ = some (.slice Ak T'.length ck) ∧ W.cell? ⟨w1.heap.size, 1, none⟩ = some (.int .i64 c')) :=
          Lib.hid fun W hW => ⟨(World.cell?_of_block (hW.block w1.heap.size hqx)).trans g0, (World.cell?_of_block (hW.block w1.heap.size hqx)).trans g1⟩
        have HTL : Hid (T'.length ≤ 300) := Lib.hid (by omega)
        have HTS : Hid ((sortI T').length ≤ 1000000) := Lib.hid (by have e1 : (sortI T').length = T'.length := (List.mergeSort_perm _ _).length_eq; omega)
        have HRD : Hid (∀ W, Below wx.heap.size wx W → RdS W.heap.size W (.slice Ak T'.length ck) T') := Lib.hid fun W hW => (hp'.rd.below hW).more hW.size
        clear hp' c1 c2 c3 c4 c5 HP HP0 HACT
        go_upto_region 27 with (fail)
        go_region_held3 (fun w' => w'.cell? ⟨w1.heap.size, 0, none⟩ = some (.slice Ak T'.length ck) ∧ w'.cell? ⟨w1.heap.size, 1, none⟩ = some (.int .i64 c') ∧ Below wx.heap.size wx w')
          (simp [*])
          (first
            | (go_at_call 19; refine (len_any _ p m T' c' (HP'.out.tab.below (by assumption))).mono ?_; rintro e w9 ⟨rfl, rfl⟩)
            | (go_at_call 16; refine (clock_any _ p m T' c' (HP'.out.tab.below (by assumption))).mono ?_; rintro e w9 ⟨rfl, rfl⟩)
            | (go_at_call 17; refine (infos_any _ p m T' c' (HP'.out.tab.below (by assumption)) HTL.out).mono ?_; rintro e w9 ⟨v9, rfl, hown9, hb9⟩; have hb10 := Below.trans (by assumption : Below wx.heap.size wx _) (hb9.mono (Below.size (by assumption))); obtain ⟨z0, z1⟩ := HC2.out _ hb10; have HI := Lib.hid (RdS.of_own hown9); clear hown9 hb9)
            | (go_at_call 59; refine (refSorted_any _ _ _ T' (Nat.le_refl _) (HRD.out _ (by assumption)) (by have := HTL.out; omega)).mono ?_; rintro e w10 ⟨v10, rfl, hown10, hb11⟩; have hb12 := Below.trans (by assumption : Below wx.heap.size wx _) (hb11.mono (Below.size (by assumption))); obtain ⟨z2, z3⟩ := HC2.out _ hb12; have HI2 := Lib.hid ((HI.out.below hb11).more hb11.size); have HJ2 := Lib.hid (RdS.of_ownE hown10); clear hown10 hb11 hb10)
            | (go_at_call 58; refine (same_same _ _ _ _ _ (sortI T') (Nat.le_refl _) (Nat.le_refl _) HI2.out HJ2.out HTS.out).mono ?_; rintro e w11 ⟨rfl, hb13⟩; have hb14 := Below.trans (by assumption : Below wx.heap.size wx _) (hb13.mono (Below.size (by assumption))); obtain ⟨z4, z5⟩ := HC2.out _ hb14; clear hb13 hb12)
            | fail)
        rename World => wq
        have hp11 := HP'.out.below hb14
        have HPB := Lib.hid hp11
        have HAB := Lib.hid ((hb14.block wo.heap.size hax).trans HACT'.out)
        obtain ⟨d0, d1, d2, d3⟩ := act_cells HAB.out
        have hsq := hb14.size
        clear z0 z1 z2 z3 z4 z5 g0 g1 hbd HC2 hp11 hb14 HI HI2 HJ2 HRD HACT' HP'
        go_upto_region 29 with (fail)
        go_wp2_with fail
        refine (info_any _ p m T' c' x.id HPB.out.tab c9).mono ?_
        rintro e w12 ⟨he, -, hb12⟩
        rw [Inf.val] at he
        subst he
        have hbA := hb12.alloc hb12.size (.cells #[.int .i64 (infoOf T' x.id).id, .int .i64 (infoOf T' x.id).lev, .int .i64 (infoOf T' x.id).used] 32)
        have hnA := heap_alloc_new w12 (.cells #[.int .i64 (infoOf T' x.id).id, .int .i64 (infoOf T' x.id).lev, .int .i64 (infoOf T' x.id).used] 32)
        have hltA : w12.heap.size < (w12.alloc (.cells #[.int .i64 (infoOf T' x.id).id, .int .i64 (infoOf T' x.id).lev, .int .i64 (infoOf T' x.id).used] 32)).heap.size := by simp
        have HPC := Lib.hid (HPB.out.below hbA)
        have HAC := Lib.hid ((hbA.block wo.heap.size (by omega)).trans HAB.out)
        clear d0 d1 d2 d3
        go_upto_region 30 with (fail)
        generalize w12.alloc (.cells #[.int .i64 (infoOf T' x.id).id, .int .i64 (infoOf T' x.id).lev, .int .i64 (infoOf T' x.id).used] 32) = w13 at *
        have hpc := HPC.out
        obtain ⟨d0, d1, d2, d3⟩ := act_cells HAC.out
        obtain ⟨g0, g1, -, -⟩ := two_cells hpc.box
        have hrdc := hpc.rd
        have HNA := Lib.hid hnA
        clear hnA hbA hb12 HPB HAB hpc
        go_wp2_with fail
        refine (refFind_any w13 _ _ T' c' x.id (Nat.le_refl _) hrdc (by have := HTL.out; omega)).mono ?_
        rintro e w14 ⟨rfl, hb14⟩
        have hp14 := HPC.out.below hb14
        have hnB := (hb14.block w12.heap.size hltA).trans HNA.out
        have hltB : w12.heap.size < w14.heap.size := Nat.lt_of_lt_of_le hltA hb14.size
        have HP14 := Lib.hid hp14
        have HNB := Lib.hid hnB
        clear d0 d1 d2 d3 g0 g1 hrdc hb14 hp14 hnB HPC HAC HNA hltA
        have hbZ := (Below.refl _ w14).alloc (Nat.le_refl _) (.cells #[.int .i64 0, .int .i64 0, .int .i64 0] 103)
        have hnZ := heap_alloc_new w14 (.cells #[.int .i64 0, .int .i64 0, .int .i64 0] 103)
        have hltZ : w14.heap.size < (w14.alloc (.cells #[.int .i64 0, .int .i64 0, .int .i64 0] 103)).heap.size := by simp
        have HPZ := Lib.hid (HP14.out.below hbZ)
        have HNC := Lib.hid ((hbZ.block w12.heap.size hltB).trans HNB.out)
        go_upto_region 32 with (fail)
        generalize w14.alloc (.cells #[.int .i64 0, .int .i64 0, .int .i64 0] 103) = w15 at *
        obtain ⟨hx1, hx2, hx3, hx4⟩ := findX_has T' x.id 0
        obtain ⟨⟨n0, n1, n2⟩, -⟩ := box3 HNC.out
        obtain ⟨⟨m0, m1, m2⟩, fz0, fz1, fz2⟩ := box3 hnZ
        have hpz := HPZ.out
        obtain ⟨g0, g1, -, -⟩ := two_cells hpz.box
        have hns := neq_same (infoOf T' x.id)
        by_cases hh : hasI T' x.id = true
        · obtain ⟨j, hj, hfx, hat⟩ := findX_at T' x.id 0 hh
          rw [Nat.zero_add] at hfx
          rw [hfx, hh]
          obtain ⟨A, cap', e9, hcp9, hr9⟩ := hpz.rd
          injection e9 with e1 e2 e3
          subst e1 e3
          obtain ⟨b9, o9, rfl, hb9, hcell9⟩ := hr9 (by omega)
          have hj0 : (0 : Int) ≤ (j : Int) := by omega
          have hj1 : (j : Int) < (T'.length : Int) := by omega
          obtain ⟨y0, y1, y2⟩ := hcell9 j hj
          rw [hat] at y0 y1 y2
          have HPF : Hid (∀ u v z, PS w (((w15.setCell ⟨w14.heap.size, 0, none⟩ u).setCell ⟨w14.heap.size, 1, none⟩ v).setCell ⟨w14.heap.size, 2, none⟩ z) p m w1.heap.size T' c' (.slice (some ⟨b9, o9, none⟩) T'.length ck)) :=
            Lib.hid fun u v z => HP14.out.below (((hbZ.setCell (p := ⟨w14.heap.size, 0, none⟩) (Nat.le_refl _) u).setCell (p := ⟨w14.heap.size, 1, none⟩) (Nat.le_refl _) v).setCell (p := ⟨w14.heap.size, 2, none⟩) (Nat.le_refl _) z)
          have hne : w12.heap.size ≠ w14.heap.size := Nat.ne_of_lt hltB
          generalize infoOf T' x.id = y at *
          clear hcell9 hr9 hpz hat hx1 hx2 hx3 hx4 hfx hbZ HNB HP14
          go_wp2_with fail
          exact ⟨⟨k + 1, T', c', _, by omega, by go_num, hT', hc0', by omega, HPF.out _ _ _⟩, by simp [intOf]; omega⟩
        · have hf : hasI T' x.id = false := by simpa using hh
          rw [infoOf_none hf] at n0 n1 n2 hns
          have hneg := hx2.2 hf
          rw [hf]
          simp only [] at n0 n1 n2 hns
          generalize findX T' x.id 0 = fx at *
          clear hpz hx1 hx2 hx3 hx4 hbZ HNB HP14 hh
          go_wp2_with fail
          exact ⟨⟨k + 1, T', c', _, by omega, by go_num, hT', hc0', by omega, HPZ⟩, by simp [intOf]; omega⟩
    · obtain rfl : k = l.length := by omega
      go_wp2_with fail
      go_ret
      exact ⟨rfl, HP.out.bel⟩
end Go.Proofs.Ytcpcoomkapblcaa
