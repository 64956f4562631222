/- The reference's Reduce. -/
import Derived.Test.YtcpcoomkapblcaaRefU
import Derived.Test.YtcpcoomkapblcaaRefS
import Derived.Test.YtcpcoomkapblcaaRefV
open Go Go.RowKit Go.Maps
namespace Go.Proofs.Ytcpcoomkapblcaa
open Go.Shelf
attribute [local go_sem ↓] Go.wp_at_zero Go.wp_at_succ
theorem own_belowD {w w' : World} {base e size B : Nat} {v : Value} {n : Nat} {xs : List Value} (h : w.ownsRow base e size v n xs) (hb : Below B w w') (hB : w.heap.size ≤ B) : w'.ownsRow base e size v n xs := by
  rcases h.2 with ⟨rfl, h0⟩ | ⟨g, cap, cur, rfl, hg, hh, h1, h2, h3, h4⟩
  · exact ⟨h.1, .inl ⟨rfl, h0⟩⟩
  · have hlt : g < w.heap.size := (Array.getElem?_eq_some_iff.1 hh).1
    exact ⟨h.1, .inr ⟨g, cap, cur, rfl, hg, (hb.block g (by omega)).trans hh, h1, h2, h3, h4⟩⟩
theorem cell_one_new (w : World) (x : Value) (t : TypeId) : ∀ j u, [x][j]? = some u → (w.alloc (.cells #[x] t)).cell? ((⟨w.heap.size, 0, none⟩ : Addr).add j) = some u := by
  intro j u hj
  match j, hj with
  | 0, hj => simp at hj; subst hj; simp [Addr.add]
theorem own_cap {w : World} {base e size : Nat} {A : Option Addr} {n c : Nat} {xs : List Value} (h : w.ownsRow base e size (.slice A n c) n xs) : n ≤ c := by
  rcases h.2 with ⟨e0, h0⟩ | ⟨g, cap, cur, e0, _, _, h1, _⟩
  · omega
  · injection e0 with _ _ e3
    omega
theorem own_eI (W : World) {base : Nat} (hb : base ≤ W.heap.size) : (W.alloc (.cells #[] 3)).ownsRow base 3 1 (.slice (some ⟨W.heap.size, 0, none⟩) 0 0) 0 [] :=
  World.ownsRow_made W #[] 0 hb (by simp) rfl
theorem own_eI' (W : World) (X : Obj) {base : Nat} (hb : base ≤ W.heap.size) : ((W.alloc X).alloc (.cells #[] 3)).ownsRow base 3 1 (.slice (some ⟨W.heap.size + 1, 0, none⟩) 0 0) 0 [] := by
  have := World.ownsRow_made (e := 3) (size := 1) (base := base) (W.alloc X) #[] 0 (by simp; omega) (by simp) rfl
  rwa [show (W.alloc X).heap.size = W.heap.size + 1 by simp] at this
theorem news_farI {W w4 : World} {row : Option Nat} {X : Nat} {a : Value} {t : TypeId} (hg : W.grownBy w4 row) (hX : W.heap[X]? = some (.cells #[a] t)) (hne : some X ≠ row) :
    ∀ j u, [a][j]? = some u → w4.cell? ((⟨X, 0, none⟩ : Addr).add j) = some u :=
  World.news_of_block ((hg.block X (Array.getElem?_eq_some_iff.1 hX).1 hne).trans hX)
theorem int_one (l : List Int) : ∀ u ∈ l.map (Value.int .i64), u.oneCell' = true := by
  intro u hu
  obtain ⟨x, _, rfl⟩ := List.mem_map.1 hu
  rfl
theorem own_news {w : World} {base g n cap : Nat} {l : List Int} (h : w.ownsRow base 3 1 (.slice (some ⟨g, 0, none⟩) n cap) n (l.map (.int .i64))) : ∀ q u, (l.map (Value.int .i64))[q]? = some u → w.cell? ⟨g, q, none⟩ = some u := by
  intro q u hu
  have hq := (List.getElem?_eq_some_iff.1 hu).1
  have hl := h.1
  rw [h.cellAt q (by omega)]; exact hu
theorem take_get {l : List Int} {j q : Nat} {u : Value} (h : ((l.take j).map (Value.int .i64))[q]? = some u) : (l.map (Value.int .i64))[q]? = some u := by
  conv => lhs; rw [← List.take_append_drop j l, List.map_append]
  rw [List.getElem?_append_left (List.getElem?_eq_some_iff.1 h).1]; exact h
theorem drop_get {l : List Int} {j q : Nat} {u : Value} (h : ((l.drop j).map (Value.int .i64))[q]? = some u) : (l.map (Value.int .i64))[j + q]? = some u := by
  rw [List.map_drop, List.getElem?_drop] at h
  exact h
theorem cell_kept {a w : World} {p b o : Nat} (h : a.grownBy w (some p)) (hb : b < a.heap.size) (hne : b ≠ p) : w.cell? ⟨b, o, none⟩ = a.cell? ⟨b, o, none⟩ :=
  World.cell?_of_block (h.block b hb (fun e => hne (by injection e)))
theorem grown_below {a w w' : World} {row : Option Nat} {B : Nat} (h : a.grownBy w row) (hb : Below B w w') (hB : a.heap.size ≤ B) : a.grownBy w' row :=
  ⟨hb.os.trans h.os, hb.tape.trans h.tape, hb.output.trans h.output, Nat.le_trans h.size hb.size, fun i hi hne => (hb.block i (by omega)).trans (h.block i hi hne)⟩
theorem grown_set {a w : World} {g : Nat} (h : a.grownBy w (some g)) (u : Value) (j : Nat) : a.grownBy (w.setCell ⟨g, j, none⟩ u) (some g) :=
  ⟨h.os, h.tape, h.output, by simpa [World.setCell] using h.size, fun i hi hne => (Below.heap_setCell w ⟨g, j, none⟩ u i (fun e => hne (by simp at e; rw [e]))).trans (h.block i hi hne)⟩
theorem sortZ_nil : sortZ [] = [] := by simp [sortZ]
theorem below_drewN'' {B : Nat} {a w : World} (h : Below B a w) (q : Nat) : Below B a (w.drewN q) := ⟨h.os, h.tape, h.output, h.size, h.block⟩
set_option maxRecDepth 10000000 in
set_option maxHeartbeats 8000000 in
theorem refReduce_any (w : World) (B : Nat) (sv : Value) (T : List Inf) (c : Int) (lv : Value) (locked : List Int) (hB : B ≤ w.heap.size) (hs : RdS B w sv T) (hT : T.length ≤ 300) (hl : RdI w.heap.size w lv locked) (hll : locked.length ≤ 1000) :
    Calls Try.prog 57 #[.agg #[sv, .int .i64 c], lv] w fun e w' => ∃ sv' v, e = .returned (.tuple #[.agg #[sv', .int .i64 c], v]) ∧ RdS w'.heap.size w' sv' (redT T locked) ∧ RdI w'.heap.size w' v (sortZ (redGs T locked)) ∧ Below w.heap.size w w' := by
  obtain ⟨A, cap, rfl, hcp, -⟩ := id hs
  obtain ⟨AL, capL, rfl, hcl, hrl⟩ := id hl
  obtain ⟨i0, hi, hz0, hz1, hz2⟩ := info_parts int_info
  have hp := heap_two w (.cells #[.slice A T.length cap, .int .i64 c] 94) (.cells #[.slice none 0 0, .int .i64 0] 94)
  have hb1 : Below w.heap.size w ((w.alloc (.cells #[.slice A T.length cap, .int .i64 c] 94)).alloc (.cells #[.slice none 0 0, .int .i64 0] 94)) := ((Below.refl _ w).alloc (Nat.le_refl _) _).alloc (by simp) _
  have hz1' : ((w.alloc (.cells #[.slice A T.length cap, .int .i64 c] 94)).alloc (.cells #[.slice none 0 0, .int .i64 0] 94)).heap.size = w.heap.size + 2 := by simp
  have HP := Lib.hid hp; clear hp
  have HZ1 := Lib.hid hz1'; clear hz1'
  go_enter Try.func57, Try.ntmps57
  go_wp2_with fail
  generalize (w.alloc (.cells #[.slice A T.length cap, .int .i64 c] 94)).alloc (.cells #[.slice none 0 0, .int .i64 0] 94) = w1 at *
  have hsz1 := HZ1.out
  refine (refSorted_any w1 B _ T (by omega) (hs.below (hb1.mono hB)) (by omega)).mono ?_
  rintro e w2 ⟨v6, rfl, hown6, hb2⟩
  have hSn : (sortI T).length = T.length := (List.mergeSort_perm _ _).length_eq
  have hrd6 : RdS w2.heap.size w2 v6 (sortI T) := RdS.of_ownE hown6
  have hsz2 : w.heap.size + 2 ≤ w2.heap.size := by have := hb2.size; omega
  have hb02 : Below w.heap.size w w2 := hb1.trans (hb2.mono (by omega))
  have e1 : w2.heap[w.heap.size]? = some (.cells #[.slice A T.length cap, .int .i64 c] 94) := (hb2.block _ (by omega)).trans HP.out.1
  have e2 : w2.heap[w.heap.size + 1]? = some (.cells #[.slice none 0 0, .int .i64 0] 94) := (hb2.block _ (by omega)).trans HP.out.2
  have HE1 := Lib.hid e1
  have HE2 := Lib.hid e2
  have HSN := Lib.hid hSn
  have hmay := fun k => mays_le locked ((sortI T).take k)
  have hred := red_last T locked
  have hredT : redT T locked = T.filter (fun x => !(redGs T locked).contains x.id) := rfl
  have HRED := Lib.hid hred
  have HREDT := Lib.hid hredT
  rw [← hSn] at hown6
  clear hredT hred e1 e2 hb1 hb2 HP HZ1 hsz1 hSn
  generalize sortI T = S at *
  obtain ⟨A6, c6, rfl⟩ := own_shape hown6
  clear hown6
  go_wp2_with fail
  go_loopw [7, 8] (fun v i wr => ∃ k : Nat, k ≤ S.length ∧ i = .int .i64 k ∧ wr.ownsRow w2.heap.size 3 1 v (mays locked (S.take k)).length ((mays locked (S.take k)).map (.int .i64)) ∧ Below w2.heap.size w2 wr) (fun _ i _ => 301 - (intOf i).toNat)
  case atStart => exact ⟨0, Nat.zero_le _, rfl, World.ownsRow_nil _ _ _ _, Below.refl _ _⟩
  case round =>
    obtain ⟨k, hk, rfl, hown, hbk⟩ := hrel
    have hszk := hbk.size
    have hSl : S.length ≤ 300 := by have := HSN.out; omega
    by_cases hlt : k < S.length
    · obtain ⟨A', c', e, _, hrr⟩ := id hrd6
      injection e with e1 e2 e3
      subst e1 e3
      obtain ⟨b, off, rfl, hbl, hcell⟩ := hrr (by omega)
      obtain ⟨q1, q2, q3⟩ := hcell k hlt
      replace q1 := (hbk.cell (p := ⟨b, off + k * 3, none⟩) hbl).trans q1
      replace q2 := (hbk.cell (p := ⟨b, off + k * 3 + 1, none⟩) hbl).trans q2
      have hsn : mays locked (S.take (k + 1)) = mays locked (S.take k) ++ (if mayGo locked (S[k]?.getD ⟨0, 0, 0⟩) then [(S[k]?.getD ⟨0, 0, 0⟩).id] else []) := by
        rw [List.take_succ_eq_append_getElem hlt, mays_snoc]; simp [hlt]
      have hmk := hmay k
      have htl : (S.take k).length ≤ k := List.length_take_le _ _
      generalize S[k]?.getD ⟨0, 0, 0⟩ = x at *
      generalize mays locked (S.take k) = M at *
      have HSNOC := Lib.hid hsn
      have HOWN := Lib.hid hown
      obtain ⟨AM, cM, rfl⟩ := own_shape hown
      clear hsn hown hcell hrr e2 q3
      obtain ⟨wo, rfl⟩ : ∃ x : World, x = wr := ⟨_, rfl⟩
      go_wp2_with fail
      go_loopw [9, 10] (fun is mx wr => ∃ m : Nat, m ≤ locked.length ∧ mx = .int .i64 m ∧ is = .bool (mayTo locked m x) ∧ Below wo.heap.size wo wr) (fun _ mx _ => 1001 - (intOf mx).toNat)
      case atStart => exact ⟨0, Nat.zero_le _, rfl, by rw [mayTo_zero], Below.refl _ _⟩
      case round =>
        obtain ⟨m, hm, rfl, rfl, hbm⟩ := hrel
        have u1 := (hbm.cell (p := ⟨b, off + k * 3, none⟩) (by show b < _; omega)).trans q1
        by_cases hlm : m < locked.length
        · obtain ⟨bl, ol, rfl, hbl2, hlc⟩ := hrl (by omega)
          have hwm : Below w.heap.size w wr := hb02.trans ((hbk.trans (hbm.mono hszk)).mono (by omega))
          have r1 := (hwm.cell (p := ⟨bl, ol + m, none⟩) hbl2).trans (hlc m hlm)
          have hst := mayTo_succ locked m x hlm
          generalize locked[m]?.getD 0 = z at *
          have HST := Lib.hid hst
          have hk1 : (0 : Int) ≤ (k : Int) := by omega
          have hk2 : (k : Int) < (S.length : Int) := by omega
          have hz3 : (0 : Int) ≤ (m : Int) := by omega
          have hz4 : (m : Int) < (locked.length : Int) := by omega
          clear hst hlc hrl
          cases hβ : mayTo locked m x with
          | true =>
            rw [hβ] at HST
            have HB := Lib.hid hβ
            clear hβ
            go_wp2_with fail
            go_quiet (fail)
            go_wp2_with fail
            exact ⟨⟨m + 1, by omega, by go_num, by rw [HST.out]; simp, below_drewN'' hbm _⟩, by simp [intOf]; omega⟩
          | false =>
            rw [hβ] at HST
            have HB := Lib.hid hβ
            clear hβ
            go_wp2_with fail
            go_quiet (fail)
            go_wp2_with fail
            exact ⟨⟨m + 1, by omega, by go_num, by rw [HST.out]; simp, below_drewN'' hbm _⟩, by simp [intOf]; omega⟩
        · obtain rfl : m = locked.length := by omega
          rw [mayTo_all]
          have hbm2 : Below w2.heap.size w2 wr := hbk.trans (hbm.mono hszk)
          have HOWN2 := Lib.hid (own_belowD HOWN.out hbm (Nat.le_refl _))
          have hszr := hbm2.size
          have hk1 : (0 : Int) ≤ (k : Int) := by omega
          have hk2 : (k : Int) < (S.length : Int) := by omega
          have hcl1 : ∀ W : World, ∀ q u, [Value.int .i64 x.id][q]? = some u → (W.alloc (.cells #[.int .i64 x.id] 3)).cell? ((⟨W.heap.size, 0, none⟩ : Addr).add q) = some u := fun W => cell_one_new W _ _
          have HCL := Lib.hid hcl1
          clear hcl1 hbm
          cases hβ : mayGo locked x with
          | true =>
            rw [hβ] at HSNOC
            have HB := Lib.hid hβ
            clear hβ
            go_wp2_with (at_builtin; refine wpList_append_own _ rfl _ _ 33 rfl w2.heap.size 3 i0 (.int .i64 0) 1 8 Try.underlying33 hi hz0 hz1 hz2 rfl (by decide) _ _ _ rfl (HOWN2.out.alloc _) ⟨wr.heap.size, 0, none⟩ 1 1 [.int .i64 x.id] rfl rfl (HCL.out wr) (by simp [Value.oneCell']) (by simp only [maxLen]; omega) (by omega) (by simp; omega) ?_; intro v' w4 hown4 hg4 _)
            have hb4 : Below w2.heap.size w2 w4 := (hbm2.alloc hszr _).grown hg4 (by simp; omega) (fun q hq => own_lt HOWN2.out q hq)
            have HO4 := Lib.hid hown4
            clear hown4 hg4
            go_wp2_with fail
            exact ⟨⟨k + 1, by omega, by go_num, by rw [HSNOC.out]; simpa using HO4.out, hb4⟩, by simp [intOf]; omega⟩
          | false =>
            rw [hβ] at HSNOC
            have HB := Lib.hid hβ
            clear hβ
            go_wp2_with fail
            exact ⟨⟨k + 1, by omega, by go_num, by rw [HSNOC.out]; simpa using HOWN2.out, hbm2⟩, by simp [intOf]; omega⟩
    · obtain rfl : k = S.length := by omega
      rw [List.take_length] at hown
      have hmM := hmay S.length
      rw [List.take_length] at hmM
      have hM300 : (mays locked S).length ≤ 300 := by have := HSN.out; omega
      generalize mays locked S = M at *
      have hrdM := RdI.of_own hown
      obtain ⟨A7, c7, rfl⟩ := own_shape hown
      have hcapM := own_cap hown
      have HMB := Lib.hid (fun q hq => own_lt hown q hq)
      obtain ⟨w3, rfl⟩ : ∃ x : World, x = wr := ⟨_, rfl⟩
      have hszw3 : w.heap.size + 2 ≤ w3.heap.size := by have := hbk.size; omega
      have hbox0 := (hbk.block w.heap.size (by omega)).trans HE1.out
      have hE23 := (hbk.block (w.heap.size + 1) (by omega)).trans HE2.out
      have HE23 := Lib.hid hE23
      have hb03 : Below w.heap.size w w3 := hb02.trans (hbk.mono (by omega))
      have HB03 := Lib.hid hb03
      have hrd0 : RdS w3.heap.size w3 (.slice A T.length cap) (T.filter (fun x => !(lastK M 0).contains x.id)) := by
        rw [lastK_zero, filt_nil]
        exact (hs.below (hb03.mono hB)).more (by omega)
      have HRDM := Lib.hid hrdM
      have HRD0 := Lib.hid hrd0
      have HBOX0 := Lib.hid hbox0
      clear hmay hmM hl hrl hcl hrd6 hrdM hrd0 hbox0 hE23 hb03 hbk hown hs hcp hb02
      go_wp2_with fail
      go_loopw [11, 12] (fun v i wr => ∃ (n : Nat) (sv : Value), n ≤ M.length / 2 ∧ i = .int .i64 n ∧ wr.ownsRow w3.heap.size 3 1 v n ((sortZ (lastK M n)).map (.int .i64)) ∧ wr.heap[w.heap.size]? = some (.cells #[sv, .int .i64 c] 94) ∧ RdS wr.heap.size wr sv (T.filter (fun x => !(lastK M n).contains x.id)) ∧ w3.grownBy wr (some w.heap.size)) (fun _ i _ => 301 - (intOf i).toNat)
      case atStart => exact ⟨0, _, Nat.zero_le _, rfl, by rw [lastK_zero, sortZ_nil]; exact World.ownsRow_nil _ _ _ _, HBOX0.out, HRD0.out, World.grownBy.refl _ _⟩
      case round =>
        obtain ⟨n, svk, hn, rfl, hown, hbox, hrd, hgr⟩ := hrel
        by_cases hlt : n < M.length / 2
        · have hlk := lastK_succ M n (by omega)
          obtain ⟨A', c', e, _, hrr⟩ := HRDM.out
          injection e with e1 e2 e3
          subst e1 e3
          obtain ⟨bM, oM, rfl, hblM, hcM⟩ := hrr (by omega)
          have hidx := hcM (M.length - 1 - n) (by omega)
          have hbMne : bM ≠ w.heap.size := by have := HMB.out bM rfl; omega
          replace hidx := (cell_kept hgr (o := oM + (M.length - 1 - n)) hblM hbMne).trans hidx
          obtain ⟨Ak, ck, rfl⟩ := hrd.form
          obtain ⟨g0, g1, f0, f1⟩ := two_cells hbox
          have hGl := lastK_len M n (by omega)
          have hTk : (T.filter (fun x => !(lastK M n).contains x.id)).length ≤ 1000 := Nat.le_trans (List.length_filter_le _ _) (by omega)
          have hfc := filt_cons T (lastK M n) (M[M.length - 1 - n]?.getD 0)
          generalize M[M.length - 1 - n]?.getD 0 = z at *
          generalize lastK M n = G at *
          have HW := Lib.hid (without_any wr wr.heap.size _ _ c z (Nat.le_refl _) hrd hTk)
          rw [hfc] at HW
          have n4 : ((M.length : Int) - 1 - (n : Int)).toNat = M.length - 1 - n := by omega
          have n5 : (0 : Int) ≤ (M.length : Int) - 1 - (n : Int) := by omega
          have n6 : (n : Int) ≤ (M.length : Int) - 1 := by omega
          have n7 : (M.length : Int) - 1 - (n : Int) < (M.length : Int) := by omega
          have n8 : (n : Int) < (M.length : Int) / 2 := by omega
          have HLK := Lib.hid hlk
          have HGL := Lib.hid hGl
          obtain ⟨A11, c11, rfl⟩ := own_shape hown
          have hc11 := own_cap hown
          have hszr := hgr.size
          have HOWN := Lib.hid hown
          have HGRR := Lib.hid hgr
          have HBOXR := Lib.hid hbox
          generalize hTZ : T.filter (fun x => !(z :: G).contains x.id) = TZ at *
          generalize T.filter (fun x => !G.contains x.id) = TK at *
          have HTZ := Lib.hid hTZ
          clear hTZ
          clear hlk hrr hcM hfc hGl hown hgr hbox hrd e2 hTk
          go_wp2_with fail
          refine HW.out.mono ?_
          rintro e w5 ⟨sv5, rfl, hown5, hb5⟩
          have e5 := (hb5.block w.heap.size (by omega)).trans HBOXR.out
          obtain ⟨k0, k1, j0, j1⟩ := two_cells e5
          have hrd5 := RdS.of_ownE hown5
          obtain ⟨A5, c5, rfl⟩ := own_shape hown5
          have hr1 := RdS.two (j := 0) (u := .slice A5 TZ.length c5) hrd5 e5
          have hr2 := RdS.two (j := 1) (u := .int .i64 c) hr1.1 hr1.2
          have hgr5 := (grown_set (grown_set (grown_below HGRR.out hb5 hszr) (.slice A5 TZ.length c5) 0) (.int .i64 c) 1)
          have hown11 := own_belowD HOWN.out hb5 (Nat.le_refl _)
          have hown12 : ((w5.setCell ⟨w.heap.size, 0, none⟩ (.slice A5 TZ.length c5)).setCell ⟨w.heap.size, 1, none⟩ (.int .i64 c)).ownsRow w3.heap.size 3 1 (.slice A11 n c11) n ((sortZ G).map (.int .i64)) :=
            own_of_block hown11 (fun q hq => by
              have := own_lt hown11 q hq
              exact (Below.heap_setCell _ _ _ _ (by simp; omega)).trans (Below.heap_setCell _ _ _ _ (by simp; omega)))
          have hsz5 : ((w5.setCell ⟨w.heap.size, 0, none⟩ (.slice A5 TZ.length c5)).setCell ⟨w.heap.size, 1, none⟩ (.int .i64 c)).heap.size = w5.heap.size := by simp
          have hszw5 := hb5.size
          have HR2 := Lib.hid hr2
          have HGR5 := Lib.hid hgr5
          have HO12 := Lib.hid hown12
          have HSZ5 := Lib.hid hsz5
          clear hr1 hr2 hgr5 hown11 hown12 hsz5 hrd5 hown5 e5 hb5 HW HOWN HGRR HBOXR hidx g0 g1 f0 f1
          go_upto_block 6 with (fail)
          generalize (w5.setCell ⟨w.heap.size, 0, none⟩ (.slice A5 TZ.length c5)).setCell ⟨w.heap.size, 1, none⟩ (.int .i64 c) = w6 at *
          clear k0 k1 j0 j1
          go_cut [14] (fun s14 wx => ∃ j : Nat, j ≤ n ∧ s14 = .int .i64 j ∧ Hid ((sortZ G).take j ++ [z] ++ (sortZ G).drop j = sortZ (z :: G)) ∧ w6 = wx)
          case first =>
            have hrdO := RdI.of_own HO12.out
            have hZl := sortZ_len G
            have HRO := Lib.hid hrdO
            have HZL := Lib.hid hZl
            clear hrdO hZl
            go_wp2_with fail
            go_loop [14] (fun s14 => ∃ j : Nat, j ≤ n ∧ s14 = .int .i64 j ∧ ∀ y ∈ (sortZ G).drop j, z < y) (fun s14 => (intOf s14).toNat)
            case atStart => exact ⟨n, Nat.le_refl _, rfl, by rw [List.drop_eq_nil_of_le (by have := HZL.out; have := HGL.out; omega)]; simp⟩
            case round =>
              obtain ⟨j, hj, rfl, hdr⟩ := hrel
              by_cases hj0 : 0 < j
              · obtain ⟨A', c', e, _, hrr⟩ := HRO.out
                injection e with e1 e2 e3
                subst e1 e3
                obtain ⟨bO, oO, rfl, hblO, hcO⟩ := hrr (by have := HZL.out; have := HGL.out; omega)
                have hidx := hcO (j - 1) (by have := HZL.out; have := HGL.out; omega)
                have hdj : (sortZ G).drop (j - 1) = (sortZ G)[j - 1]?.getD 0 :: (sortZ G).drop j := by
                  have hl : (sortZ G).length = n := by have := HZL.out; have := HGL.out; omega
                  rw [List.drop_eq_getElem_cons (by omega), show j - 1 + 1 = j by omega]; simp [show j - 1 < (sortZ G).length by omega]
                generalize hy : (sortZ G)[j - 1]?.getD 0 = y at *
                have HY := Lib.hid hy
                have HDJ := Lib.hid hdj
                have m1 : (0 : Int) < (j : Int) := by omega
                have m2 : (0 : Int) ≤ (j : Int) - 1 := by omega
                have m3 : (1 : Int) ≤ (j : Int) := by omega
                have m4 : (j : Int) - 1 < (n : Int) := by omega
                have m5 : ((j : Int) - 1).toNat = j - 1 := by omega
                clear hy hdj hcO hrr e2
                by_cases hzy : z < y
                · go_wp2_with fail
                  exact ⟨⟨j - 1, by omega, by rw [show ((j - 1 : Nat) : Int) = (j : Int) - 1 by omega], by rw [HDJ.out]; intro u hu; rcases List.mem_cons.1 hu with rfl | hu; exact hzy; exact hdr u hu⟩, by simp [intOf]; omega⟩
                · go_wp2_with fail
                  go_meet
                  exact ⟨j, hj, rfl, Lib.hid (zins (by have := HZL.out; have := HGL.out; omega) hdr (fun m hm hmj => by rw [show m = j - 1 by omega, HY.out]; omega)), rfl⟩
              · have m1 : ¬ (0 : Int) < (j : Int) := by omega
                go_wp2_with fail
                go_meet
                exact ⟨j, hj, rfl, Lib.hid (zins (by omega) hdr (fun m hm hmj => by omega)), rfl⟩
          case rest =>
            obtain ⟨j, hj, rfl, HZI, rfl⟩ := hcut
            obtain ⟨wc, rfl⟩ : ∃ x : World, x = w6 := ⟨_, rfl⟩
            have hzl := sortZ_len G
            have hgl := HGL.out
            have hl1 : (((sortZ G).take j).map (Value.int .i64)).length = j * 1 := by rw [List.length_map, List.length_take]; omega
            have hl2 : (((sortZ G).drop j).map (Value.int .i64)).length = (n - j) * 1 := by rw [List.length_map, List.length_drop]; omega
            have HL1 := Lib.hid hl1
            have HL2 := Lib.hid hl2
            have HOWNZ := HO12
            have hsc : w3.heap.size ≤ wc.heap.size := by have := HSZ5.out; omega
            have HSC := Lib.hid hsc
            have HBX : Hid (w.heap.size < wc.heap.size) := Lib.hid (by omega)
            have HBOX : Hid (wc.heap[w.heap.size]? = some (.cells #[.slice A5 TZ.length c5, .int .i64 c] 94 (0, 0))) := Lib.hid (by simpa using HR2.out.2)
            have HRD : Hid (RdS wc.heap.size wc (.slice A5 TZ.length c5) TZ) := Lib.hid (HR2.out.1.more (by have := HSZ5.out; omega))
            have HGR := HGR5
            have HXN := Lib.hid (fun W : World => cell_one_new W (.int .i64 z) 3)
            have tok : True := trivial
            have tok2 : True := trivial
            have hj1 : (j : Int) ≤ (n : Int) := by omega
            have hj2 : (0 : Int) ≤ (j : Int) := by omega
            have hj3 : (n : Int) ≤ (c11 : Int) := by omega
            have hbd : Below wc.heap.size wc wc.drew := (Below.refl _ _).drew
            have hn300 : n ≤ 300 := by omega
            have HLT := Lib.hid hlt
            generalize sortZ G = Z at *
            clear hl1 hl2 hzl hgl HR2 HSZ5 HGR5 hszw5 hszr n4 n5 n6 n7 n8 hn hlt
            go_wp2_with fail
            rcases HOWNZ.out.2 with ⟨e0, hk00⟩ | ⟨g, cap0, cur, e0, hg1, hg2, hg3, -⟩
            · injection e0 with e1 e2 e3
              subst e1 e3
              obtain rfl : n = 0 := by omega
              obtain rfl : j = 0 := by omega
              have hn1 : ∀ W, Below wc.heap.size wc W → 0 < 0 → ∃ ad, (none : Option Addr) = some ad ∧ ∀ q u, ((Z.take 0).map (Value.int .i64))[q]? = some u → W.cell? (ad.add q) = some u := fun _ _ h => absurd h (by omega)
              have hn2 : ∀ W, Below wc.heap.size wc W → 0 < 0 → ∃ ad, (none : Option Addr) = some ad ∧ ∀ q u, ((Z.drop 0).map (Value.int .i64))[q]? = some u → W.cell? (ad.add q) = some u := fun _ _ h => absurd h (by omega)
              have HN1 := Lib.hid hn1
              have HN2 := Lib.hid hn2
              clear hn1 hn2 e2
              go_region_held3 (fun w' => Below wc.heap.size wc w')
                (first | assumption | exact (by repeat' (first | assumption | exact Below.refl _ _ | refine Below.drew ?_ | refine Below.alloc ?_ (by first | omega | (simp; done) | (simp; omega)) _)))
                (first
                  | (clear tok; refine step_append_first (by rfl) (.tmp 91) (.tmp 94) 33 (by rfl) wc.heap.size 3 i0 (.int .i64 0) 1 8 Try.underlying33 hi hz0 hz1 hz2 rfl (by decide) (wc.heap.size) 0 (by rfl) (by first | exact own_eI wc (by first | omega | (simp; done) | (simp; omega)) | exact (own_eI wc (by first | omega | (simp; done) | (simp; omega))).alloc _) none 0 0 ((Z.take 0).map (Value.int .i64)) (by rfl) HL1.out (HN1.out _ (by repeat' (first | assumption | exact Below.refl _ _ | refine Below.drew ?_ | refine Below.alloc ?_ (by first | omega | (simp; done) | (simp; omega)) _))) (int_one _) (by simp only [maxLen]; omega) (by omega) (by first | omega | (simp; done) | (simp; omega)) ?_; intro g4 cap4 w4 hown4 hgr4 hlt4; have hB4 : Below wc.heap.size wc w4 := Below.grown (by repeat' (first | assumption | exact Below.refl _ _ | refine Below.drew ?_ | refine Below.alloc ?_ (by first | omega | (simp; done) | (simp; omega)) _)) hgr4 (by first | omega | (simp; done) | (simp; omega)) (fun q hq => by injection hq with hq; omega); have hsz4 := hB4.size)
                  | (clear tok; refine step_append_first (by rfl) (.tmp 91) (.tmp 94) 33 (by rfl) wc.heap.size 3 i0 (.int .i64 0) 1 8 Try.underlying33 hi hz0 hz1 hz2 rfl (by decide) (wc.heap.size + 1) 0 (by rfl) (own_eI' wc _ (by first | omega | (simp; done) | (simp; omega))) none 0 0 ((Z.take 0).map (Value.int .i64)) (by rfl) HL1.out (HN1.out _ (by repeat' (first | assumption | exact Below.refl _ _ | refine Below.drew ?_ | refine Below.alloc ?_ (by first | omega | (simp; done) | (simp; omega)) _))) (int_one _) (by simp only [maxLen]; omega) (by omega) (by first | omega | (simp; done) | (simp; omega)) ?_; intro g4 cap4 w4 hown4 hgr4 hlt4; have hB4 : Below wc.heap.size wc w4 := Below.grown (by repeat' (first | assumption | exact Below.refl _ _ | refine Below.drew ?_ | refine Below.alloc ?_ (by first | omega | (simp; done) | (simp; omega)) _)) hgr4 (by first | omega | (simp; done) | (simp; omega)) (fun q hq => by injection hq with hq; omega); have hsz4 := hB4.size)
                  | (clear tok2; refine step_append_list (by rfl) (.tmp 95) (.tmp 97) 33 (by rfl) wc.heap.size 3 i0 (.int .i64 0) 1 8 Try.underlying33 hi hz0 hz1 hz2 rfl (by decide) g4 0 cap4 ((Z.take 0).map (Value.int .i64)) (by rfl) (hown4.alloc _) (some ⟨w4.heap.size, 0, none⟩) 1 1 [.int .i64 z] (by rfl) rfl (fun _ => ⟨_, rfl, HXN.out w4⟩) (by simp [Value.oneCell']) (by simp only [maxLen]; omega) (by omega) (by first | omega | (simp; done) | (simp; omega)) ?_; intro g5 cap5 w5 hown5 hgr5 hlt5; have hB5 : Below wc.heap.size wc w5 := Below.grown (by repeat' (first | assumption | exact Below.refl _ _ | refine Below.drew ?_ | refine Below.alloc ?_ (by first | omega | (simp; done) | (simp; omega)) _)) hgr5 (by first | omega | (simp; done) | (simp; omega)) (fun q hq => by injection hq with hq; have := own_lt hown4 g4 rfl; omega); have hsz5 := hB5.size)
                  | (clear tok2; refine step_append_list (by rfl) (.tmp 95) (.tmp 97) 33 (by rfl) wc.heap.size 3 i0 (.int .i64 0) 1 8 Try.underlying33 hi hz0 hz1 hz2 rfl (by decide) g4 0 cap4 ((Z.take 0).map (Value.int .i64)) (by rfl) (hown4) (some ⟨wc.heap.size, 0, none⟩) 1 1 [.int .i64 z] (by rfl) rfl (fun _ => ⟨_, rfl, (by first | exact news_farI hgr4 (heap_two wc _ _).1 (fun e => by injection e with e; omega) | exact news_farI hgr4 (heap_two wc.drew _ _).1 (fun e => by injection e with e; omega))⟩) (by simp [Value.oneCell']) (by simp only [maxLen]; omega) (by omega) (by first | omega | (simp; done) | (simp; omega)) ?_; intro g5 cap5 w5 hown5 hgr5 hlt5; have hB5 : Below wc.heap.size wc w5 := Below.grown (by repeat' (first | assumption | exact Below.refl _ _ | refine Below.drew ?_ | refine Below.alloc ?_ (by first | omega | (simp; done) | (simp; omega)) _)) hgr5 (by first | omega | (simp; done) | (simp; omega)) (fun q hq => by injection hq with hq; have := own_lt hown4 g4 rfl; omega); have hsz5 := hB5.size)
                  | (clear tok2; refine step_append_list (by rfl) (.tmp 95) (.tmp 97) 33 (by rfl) wc.heap.size 3 i0 (.int .i64 0) 1 8 Try.underlying33 hi hz0 hz1 hz2 rfl (by decide) g4 0 cap4 ((Z.take 0).map (Value.int .i64)) (by rfl) (hown4) (some ⟨wc.heap.size + 1, 0, none⟩) 1 1 [.int .i64 z] (by rfl) rfl (fun _ => ⟨_, rfl, (by first | exact news_farI hgr4 (heap_two wc _ _).2 (fun e => by injection e with e; omega) | exact news_farI hgr4 (heap_two wc.drew _ _).2 (fun e => by injection e with e; omega))⟩) (by simp [Value.oneCell']) (by simp only [maxLen]; omega) (by omega) (by first | omega | (simp; done) | (simp; omega)) ?_; intro g5 cap5 w5 hown5 hgr5 hlt5; have hB5 : Below wc.heap.size wc w5 := Below.grown (by repeat' (first | assumption | exact Below.refl _ _ | refine Below.drew ?_ | refine Below.alloc ?_ (by first | omega | (simp; done) | (simp; omega)) _)) hgr5 (by first | omega | (simp; done) | (simp; omega)) (fun q hq => by injection hq with hq; have := own_lt hown4 g4 rfl; omega); have hsz5 := hB5.size)
                  | (refine step_append_list (by rfl) (.tmp 98) (.tmp 101) 33 (by rfl) wc.heap.size 3 i0 (.int .i64 0) 1 8 Try.underlying33 hi hz0 hz1 hz2 rfl (by decide) g5 (0 + 1) cap5 ((Z.take 0).map (Value.int .i64) ++ [.int .i64 z]) (by rfl) hown5 none 0 0 ((Z.drop 0).map (Value.int .i64)) (by rfl) HL2.out (HN2.out _ (by repeat' (first | assumption | exact Below.refl _ _ | refine Below.drew ?_ | refine Below.alloc ?_ (by first | omega | (simp; done) | (simp; omega)) _))) (int_one _) (by simp only [maxLen]; omega) (by omega) (by first | omega | (simp; done) | (simp; omega)) ?_; intro g6 cap6 w6 hown6 hgr6 hlt6; have hB6 : Below wc.heap.size wc w6 := Below.grown (by repeat' (first | assumption | exact Below.refl _ _ | refine Below.drew ?_ | refine Below.alloc ?_ (by first | omega | (simp; done) | (simp; omega)) _)) hgr6 (by first | omega | (simp; done) | (simp; omega)) (fun q hq => by injection hq with hq; have := own_lt hown5 g5 rfl; omega); have hsz6 := hB6.size)
                  | fail)
              all_goals
                have HOWN6 := Lib.hid hown6
                have HB6 := Lib.hid hB6
                clear hown6 hB6 hsz6 hgr6 hB4 hB5 hsz4 hsz5 hgr4 hgr5 hown4 hown5
                go_wp2_with fail
                refine ⟨⟨0 + 1, .slice A5 TZ.length c5, by have := HLT.out; omega, by go_num, ?_, ?_, ?_, ?_⟩, by first | (simp [intOf]; done) | (simp [intOf]; omega)⟩
                · have h6 := own_weaken (base' := w3.heap.size) HSC.out HOWN6.out
                  have e6 : (sortZ (lastK M (0 + 1))).map (Value.int .i64) = (Z.take 0).map (Value.int .i64) ++ [.int .i64 z] ++ (Z.drop 0).map (Value.int .i64) := by rw [HLK.out, ← HZI.out]; first | done | simp
                  have n6 : 0 + 1 + 0 = 0 + 1 := by omega
                  rw [e6]
                  first | exact h6 | (simpa using h6)
                · exact (HB6.out.block _ HBX.out).trans HBOX.out
                · rw [HLK.out, HTZ.out]; exact (HRD.out.below HB6.out).more HB6.out.size
                · exact grown_below HGR.out HB6.out HSC.out
            · injection e0 with e1 e2 e3
              subst e1 e3
              clear e2
              have hcells := fun W (hW : Below wc.heap.size wc W) => own_news (own_belowD HOWNZ.out hW (Nat.le_refl _))
              have hn1 : ∀ W, Below wc.heap.size wc W → 0 < j → ∃ ad, some (⟨g, 0, none⟩ : Addr) = some ad ∧ ∀ q u, ((Z.take j).map (Value.int .i64))[q]? = some u → W.cell? (ad.add q) = some u :=
                fun W hW _ => ⟨_, rfl, fun q u hq => by
                  have := hcells W hW q u (take_get hq)
                  rw [Go.WideShapes.add_plain, Nat.zero_add]; exact this⟩
              by_cases hcj : c11 = j
              · obtain rfl : j = n := by omega
                subst hcj
                have hn2 : ∀ W, Below wc.heap.size wc W → 0 < 0 → ∃ ad, some (⟨g, 0, none⟩ : Addr) = some ad ∧ ∀ q u, ((Z.drop c11).map (Value.int .i64))[q]? = some u → W.cell? (ad.add q) = some u := fun _ _ h => absurd h (by omega)
                have HN1 := Lib.hid hn1
                have HN2 := Lib.hid hn2
                have hl20 : ((Z.drop c11).map (Value.int .i64)).length = 0 * 1 := by have := HL2.out; omega
                have HL2 := Lib.hid hl20
                clear hn1 hn2 hcells hl20
                go_region_held3 (fun w' => Below wc.heap.size wc w')
                  (first | assumption | exact (by repeat' (first | assumption | exact Below.refl _ _ | refine Below.drew ?_ | refine Below.alloc ?_ (by first | omega | (simp; done) | (simp; omega)) _)))
                  (first
                    | (clear tok; refine step_append_first (by rfl) (.tmp 91) (.tmp 94) 33 (by rfl) wc.heap.size 3 i0 (.int .i64 0) 1 8 Try.underlying33 hi hz0 hz1 hz2 rfl (by decide) (wc.heap.size) 0 (by rfl) (by first | exact own_eI wc (by first | omega | (simp; done) | (simp; omega)) | exact (own_eI wc (by first | omega | (simp; done) | (simp; omega))).alloc _) (some ⟨g, 0, none⟩) c11 c11 ((Z.take c11).map (Value.int .i64)) (by rfl) HL1.out (HN1.out _ (by repeat' (first | assumption | exact Below.refl _ _ | refine Below.drew ?_ | refine Below.alloc ?_ (by first | omega | (simp; done) | (simp; omega)) _))) (int_one _) (by simp only [maxLen]; omega) (by omega) (by first | omega | (simp; done) | (simp; omega)) ?_; intro g4 cap4 w4 hown4 hgr4 hlt4; have hB4 : Below wc.heap.size wc w4 := Below.grown (by repeat' (first | assumption | exact Below.refl _ _ | refine Below.drew ?_ | refine Below.alloc ?_ (by first | omega | (simp; done) | (simp; omega)) _)) hgr4 (by first | omega | (simp; done) | (simp; omega)) (fun q hq => by injection hq with hq; omega); have hsz4 := hB4.size)
                    | (clear tok; refine step_append_first (by rfl) (.tmp 91) (.tmp 94) 33 (by rfl) wc.heap.size 3 i0 (.int .i64 0) 1 8 Try.underlying33 hi hz0 hz1 hz2 rfl (by decide) (wc.heap.size + 1) 0 (by rfl) (own_eI' wc _ (by first | omega | (simp; done) | (simp; omega))) (some ⟨g, 0, none⟩) c11 c11 ((Z.take c11).map (Value.int .i64)) (by rfl) HL1.out (HN1.out _ (by repeat' (first | assumption | exact Below.refl _ _ | refine Below.drew ?_ | refine Below.alloc ?_ (by first | omega | (simp; done) | (simp; omega)) _))) (int_one _) (by simp only [maxLen]; omega) (by omega) (by first | omega | (simp; done) | (simp; omega)) ?_; intro g4 cap4 w4 hown4 hgr4 hlt4; have hB4 : Below wc.heap.size wc w4 := Below.grown (by repeat' (first | assumption | exact Below.refl _ _ | refine Below.drew ?_ | refine Below.alloc ?_ (by first | omega | (simp; done) | (simp; omega)) _)) hgr4 (by first | omega | (simp; done) | (simp; omega)) (fun q hq => by injection hq with hq; omega); have hsz4 := hB4.size)
                    | (clear tok2; refine step_append_list (by rfl) (.tmp 95) (.tmp 97) 33 (by rfl) wc.heap.size 3 i0 (.int .i64 0) 1 8 Try.underlying33 hi hz0 hz1 hz2 rfl (by decide) g4 c11 cap4 ((Z.take c11).map (Value.int .i64)) (by rfl) (hown4.alloc _) (some ⟨w4.heap.size, 0, none⟩) 1 1 [.int .i64 z] (by rfl) rfl (fun _ => ⟨_, rfl, HXN.out w4⟩) (by simp [Value.oneCell']) (by simp only [maxLen]; omega) (by omega) (by first | omega | (simp; done) | (simp; omega)) ?_; intro g5 cap5 w5 hown5 hgr5 hlt5; have hB5 : Below wc.heap.size wc w5 := Below.grown (by repeat' (first | assumption | exact Below.refl _ _ | refine Below.drew ?_ | refine Below.alloc ?_ (by first | omega | (simp; done) | (simp; omega)) _)) hgr5 (by first | omega | (simp; done) | (simp; omega)) (fun q hq => by injection hq with hq; have := own_lt hown4 g4 rfl; omega); have hsz5 := hB5.size)
                    | (clear tok2; refine step_append_list (by rfl) (.tmp 95) (.tmp 97) 33 (by rfl) wc.heap.size 3 i0 (.int .i64 0) 1 8 Try.underlying33 hi hz0 hz1 hz2 rfl (by decide) g4 c11 cap4 ((Z.take c11).map (Value.int .i64)) (by rfl) (hown4) (some ⟨wc.heap.size, 0, none⟩) 1 1 [.int .i64 z] (by rfl) rfl (fun _ => ⟨_, rfl, (by first | exact news_farI hgr4 (heap_two wc _ _).1 (fun e => by injection e with e; omega) | exact news_farI hgr4 (heap_two wc.drew _ _).1 (fun e => by injection e with e; omega))⟩) (by simp [Value.oneCell']) (by simp only [maxLen]; omega) (by omega) (by first | omega | (simp; done) | (simp; omega)) ?_; intro g5 cap5 w5 hown5 hgr5 hlt5; have hB5 : Below wc.heap.size wc w5 := Below.grown (by repeat' (first | assumption | exact Below.refl _ _ | refine Below.drew ?_ | refine Below.alloc ?_ (by first | omega | (simp; done) | (simp; omega)) _)) hgr5 (by first | omega | (simp; done) | (simp; omega)) (fun q hq => by injection hq with hq; have := own_lt hown4 g4 rfl; omega); have hsz5 := hB5.size)
                    | (clear tok2; refine step_append_list (by rfl) (.tmp 95) (.tmp 97) 33 (by rfl) wc.heap.size 3 i0 (.int .i64 0) 1 8 Try.underlying33 hi hz0 hz1 hz2 rfl (by decide) g4 c11 cap4 ((Z.take c11).map (Value.int .i64)) (by rfl) (hown4) (some ⟨wc.heap.size + 1, 0, none⟩) 1 1 [.int .i64 z] (by rfl) rfl (fun _ => ⟨_, rfl, (by first | exact news_farI hgr4 (heap_two wc _ _).2 (fun e => by injection e with e; omega) | exact news_farI hgr4 (heap_two wc.drew _ _).2 (fun e => by injection e with e; omega))⟩) (by simp [Value.oneCell']) (by simp only [maxLen]; omega) (by omega) (by first | omega | (simp; done) | (simp; omega)) ?_; intro g5 cap5 w5 hown5 hgr5 hlt5; have hB5 : Below wc.heap.size wc w5 := Below.grown (by repeat' (first | assumption | exact Below.refl _ _ | refine Below.drew ?_ | refine Below.alloc ?_ (by first | omega | (simp; done) | (simp; omega)) _)) hgr5 (by first | omega | (simp; done) | (simp; omega)) (fun q hq => by injection hq with hq; have := own_lt hown4 g4 rfl; omega); have hsz5 := hB5.size)
                    | (refine step_append_list (by rfl) (.tmp 98) (.tmp 101) 33 (by rfl) wc.heap.size 3 i0 (.int .i64 0) 1 8 Try.underlying33 hi hz0 hz1 hz2 rfl (by decide) g5 (c11 + 1) cap5 ((Z.take c11).map (Value.int .i64) ++ [.int .i64 z]) (by rfl) hown5 (some ⟨g, 0, none⟩) 0 0 ((Z.drop c11).map (Value.int .i64)) (by rfl) HL2.out (HN2.out _ (by repeat' (first | assumption | exact Below.refl _ _ | refine Below.drew ?_ | refine Below.alloc ?_ (by first | omega | (simp; done) | (simp; omega)) _))) (int_one _) (by simp only [maxLen]; omega) (by omega) (by first | omega | (simp; done) | (simp; omega)) ?_; intro g6 cap6 w6 hown6 hgr6 hlt6; have hB6 : Below wc.heap.size wc w6 := Below.grown (by repeat' (first | assumption | exact Below.refl _ _ | refine Below.drew ?_ | refine Below.alloc ?_ (by first | omega | (simp; done) | (simp; omega)) _)) hgr6 (by first | omega | (simp; done) | (simp; omega)) (fun q hq => by injection hq with hq; have := own_lt hown5 g5 rfl; omega); have hsz6 := hB6.size)
                    | fail)
                all_goals
                  have HOWN6 := Lib.hid hown6
                  have HB6 := Lib.hid hB6
                  clear hown6 hB6 hsz6 hgr6 hB4 hB5 hsz4 hsz5 hgr4 hgr5 hown4 hown5
                  go_wp2_with fail
                  refine ⟨⟨c11 + 1, .slice A5 TZ.length c5, by have := HLT.out; omega, by go_num, ?_, ?_, ?_, ?_⟩, by first | (simp [intOf]; done) | (simp [intOf]; omega)⟩
                  · have h6 := own_weaken (base' := w3.heap.size) HSC.out HOWN6.out
                    have e6 : (sortZ (lastK M (c11 + 1))).map (Value.int .i64) = (Z.take c11).map (Value.int .i64) ++ [.int .i64 z] ++ (Z.drop c11).map (Value.int .i64) := by rw [HLK.out, ← HZI.out]; first | done | simp
                    have n6 : c11 + 1 + 0 = c11 + 1 := by omega
                    rw [e6]
                    first | exact h6 | (simpa using h6)
                  · exact (HB6.out.block _ HBX.out).trans HBOX.out
                  · rw [HLK.out, HTZ.out]; exact (HRD.out.below HB6.out).more HB6.out.size
                  · exact grown_below HGR.out HB6.out HSC.out
              · have hn2 : ∀ W, Below wc.heap.size wc W → 0 < n - j → ∃ ad, some (⟨g, j, none⟩ : Addr) = some ad ∧ ∀ q u, ((Z.drop j).map (Value.int .i64))[q]? = some u → W.cell? (ad.add q) = some u :=
                  fun W hW _ => ⟨_, rfl, fun q u hq => by
                    have := hcells W hW (j + q) u (drop_get hq)
                    rw [Go.WideShapes.add_plain]; exact this⟩
                have HN1 := Lib.hid hn1
                have HN2 := Lib.hid hn2
                have hjc : (j : Int) ≤ (c11 : Int) := by omega
                have hkc : (n : Int) ≤ (c11 : Int) := by omega
                have hne' : ¬ j = c11 := by omega
                clear hn1 hn2 hcells
                go_region_held3 (fun w' => Below wc.heap.size wc w')
                  (first | assumption | exact (by repeat' (first | assumption | exact Below.refl _ _ | refine Below.drew ?_ | refine Below.alloc ?_ (by first | omega | (simp; done) | (simp; omega)) _)))
                  (first
                    | (clear tok; refine step_append_first (by rfl) (.tmp 91) (.tmp 94) 33 (by rfl) wc.heap.size 3 i0 (.int .i64 0) 1 8 Try.underlying33 hi hz0 hz1 hz2 rfl (by decide) (wc.heap.size) 0 (by rfl) (by first | exact own_eI wc (by first | omega | (simp; done) | (simp; omega)) | exact (own_eI wc (by first | omega | (simp; done) | (simp; omega))).alloc _) (some ⟨g, 0, none⟩) j c11 ((Z.take j).map (Value.int .i64)) (by rfl) HL1.out (HN1.out _ (by repeat' (first | assumption | exact Below.refl _ _ | refine Below.drew ?_ | refine Below.alloc ?_ (by first | omega | (simp; done) | (simp; omega)) _))) (int_one _) (by simp only [maxLen]; omega) (by omega) (by first | omega | (simp; done) | (simp; omega)) ?_; intro g4 cap4 w4 hown4 hgr4 hlt4; have hB4 : Below wc.heap.size wc w4 := Below.grown (by repeat' (first | assumption | exact Below.refl _ _ | refine Below.drew ?_ | refine Below.alloc ?_ (by first | omega | (simp; done) | (simp; omega)) _)) hgr4 (by first | omega | (simp; done) | (simp; omega)) (fun q hq => by injection hq with hq; omega); have hsz4 := hB4.size)
                    | (clear tok; refine step_append_first (by rfl) (.tmp 91) (.tmp 94) 33 (by rfl) wc.heap.size 3 i0 (.int .i64 0) 1 8 Try.underlying33 hi hz0 hz1 hz2 rfl (by decide) (wc.heap.size + 1) 0 (by rfl) (own_eI' wc _ (by first | omega | (simp; done) | (simp; omega))) (some ⟨g, 0, none⟩) j c11 ((Z.take j).map (Value.int .i64)) (by rfl) HL1.out (HN1.out _ (by repeat' (first | assumption | exact Below.refl _ _ | refine Below.drew ?_ | refine Below.alloc ?_ (by first | omega | (simp; done) | (simp; omega)) _))) (int_one _) (by simp only [maxLen]; omega) (by omega) (by first | omega | (simp; done) | (simp; omega)) ?_; intro g4 cap4 w4 hown4 hgr4 hlt4; have hB4 : Below wc.heap.size wc w4 := Below.grown (by repeat' (first | assumption | exact Below.refl _ _ | refine Below.drew ?_ | refine Below.alloc ?_ (by first | omega | (simp; done) | (simp; omega)) _)) hgr4 (by first | omega | (simp; done) | (simp; omega)) (fun q hq => by injection hq with hq; omega); have hsz4 := hB4.size)
                    | (clear tok2; refine step_append_list (by rfl) (.tmp 95) (.tmp 97) 33 (by rfl) wc.heap.size 3 i0 (.int .i64 0) 1 8 Try.underlying33 hi hz0 hz1 hz2 rfl (by decide) g4 j cap4 ((Z.take j).map (Value.int .i64)) (by rfl) (hown4.alloc _) (some ⟨w4.heap.size, 0, none⟩) 1 1 [.int .i64 z] (by rfl) rfl (fun _ => ⟨_, rfl, HXN.out w4⟩) (by simp [Value.oneCell']) (by simp only [maxLen]; omega) (by omega) (by first | omega | (simp; done) | (simp; omega)) ?_; intro g5 cap5 w5 hown5 hgr5 hlt5; have hB5 : Below wc.heap.size wc w5 := Below.grown (by repeat' (first | assumption | exact Below.refl _ _ | refine Below.drew ?_ | refine Below.alloc ?_ (by first | omega | (simp; done) | (simp; omega)) _)) hgr5 (by first | omega | (simp; done) | (simp; omega)) (fun q hq => by injection hq with hq; have := own_lt hown4 g4 rfl; omega); have hsz5 := hB5.size)
                    | (clear tok2; refine step_append_list (by rfl) (.tmp 95) (.tmp 97) 33 (by rfl) wc.heap.size 3 i0 (.int .i64 0) 1 8 Try.underlying33 hi hz0 hz1 hz2 rfl (by decide) g4 j cap4 ((Z.take j).map (Value.int .i64)) (by rfl) (hown4) (some ⟨wc.heap.size, 0, none⟩) 1 1 [.int .i64 z] (by rfl) rfl (fun _ => ⟨_, rfl, (by first | exact news_farI hgr4 (heap_two wc _ _).1 (fun e => by injection e with e; omega) | exact news_farI hgr4 (heap_two wc.drew _ _).1 (fun e => by injection e with e; omega))⟩) (by simp [Value.oneCell']) (by simp only [maxLen]; omega) (by omega) (by first | omega | (simp; done) | (simp; omega)) ?_; intro g5 cap5 w5 hown5 hgr5 hlt5; have hB5 : Below wc.heap.size wc w5 := Below.grown (by repeat' (first | assumption | exact Below.refl _ _ | refine Below.drew ?_ | refine Below.alloc ?_ (by first | omega | (simp; done) | (simp; omega)) _)) hgr5 (by first | omega | (simp; done) | (simp; omega)) (fun q hq => by injection hq with hq; have := own_lt hown4 g4 rfl; omega); have hsz5 := hB5.size)
                    | (clear tok2; refine step_append_list (by rfl) (.tmp 95) (.tmp 97) 33 (by rfl) wc.heap.size 3 i0 (.int .i64 0) 1 8 Try.underlying33 hi hz0 hz1 hz2 rfl (by decide) g4 j cap4 ((Z.take j).map (Value.int .i64)) (by rfl) (hown4) (some ⟨wc.heap.size + 1, 0, none⟩) 1 1 [.int .i64 z] (by rfl) rfl (fun _ => ⟨_, rfl, (by first | exact news_farI hgr4 (heap_two wc _ _).2 (fun e => by injection e with e; omega) | exact news_farI hgr4 (heap_two wc.drew _ _).2 (fun e => by injection e with e; omega))⟩) (by simp [Value.oneCell']) (by simp only [maxLen]; omega) (by omega) (by first | omega | (simp; done) | (simp; omega)) ?_; intro g5 cap5 w5 hown5 hgr5 hlt5; have hB5 : Below wc.heap.size wc w5 := Below.grown (by repeat' (first | assumption | exact Below.refl _ _ | refine Below.drew ?_ | refine Below.alloc ?_ (by first | omega | (simp; done) | (simp; omega)) _)) hgr5 (by first | omega | (simp; done) | (simp; omega)) (fun q hq => by injection hq with hq; have := own_lt hown4 g4 rfl; omega); have hsz5 := hB5.size)
                    | (refine step_append_list (by rfl) (.tmp 98) (.tmp 101) 33 (by rfl) wc.heap.size 3 i0 (.int .i64 0) 1 8 Try.underlying33 hi hz0 hz1 hz2 rfl (by decide) g5 (j + 1) cap5 ((Z.take j).map (Value.int .i64) ++ [.int .i64 z]) (by rfl) hown5 (some ⟨g, j, none⟩) (n - j) (c11 - j) ((Z.drop j).map (Value.int .i64)) (by rfl) HL2.out (HN2.out _ (by repeat' (first | assumption | exact Below.refl _ _ | refine Below.drew ?_ | refine Below.alloc ?_ (by first | omega | (simp; done) | (simp; omega)) _))) (int_one _) (by simp only [maxLen]; omega) (by omega) (by first | omega | (simp; done) | (simp; omega)) ?_; intro g6 cap6 w6 hown6 hgr6 hlt6; have hB6 : Below wc.heap.size wc w6 := Below.grown (by repeat' (first | assumption | exact Below.refl _ _ | refine Below.drew ?_ | refine Below.alloc ?_ (by first | omega | (simp; done) | (simp; omega)) _)) hgr6 (by first | omega | (simp; done) | (simp; omega)) (fun q hq => by injection hq with hq; have := own_lt hown5 g5 rfl; omega); have hsz6 := hB6.size)
                    | fail)
                all_goals
                  have HOWN6 := Lib.hid hown6
                  have HB6 := Lib.hid hB6
                  clear hown6 hB6 hsz6 hgr6 hB4 hB5 hsz4 hsz5 hgr4 hgr5 hown4 hown5
                  go_wp2_with fail
                  refine ⟨⟨n + 1, .slice A5 TZ.length c5, by have := HLT.out; omega, by go_num, ?_, ?_, ?_, ?_⟩, by first | (simp [intOf]; done) | (simp [intOf]; omega)⟩
                  · have h6 := own_weaken (base' := w3.heap.size) HSC.out HOWN6.out
                    have e6 : (sortZ (lastK M (n + 1))).map (Value.int .i64) = (Z.take j).map (Value.int .i64) ++ [.int .i64 z] ++ (Z.drop j).map (Value.int .i64) := by rw [HLK.out, ← HZI.out]; first | done | simp
                    have n6 : j + 1 + (n - j) = n + 1 := by omega
                    rw [e6]
                    first | (rw [← n6]; exact h6) | (simpa using h6)
                  · exact (HB6.out.block _ HBX.out).trans HBOX.out
                  · rw [HLK.out, HTZ.out]; exact (HRD.out.below HB6.out).more HB6.out.size
                  · exact grown_below HGR.out HB6.out HSC.out
        · obtain rfl : n = M.length / 2 := by omega
          have n8 : ¬ ((M.length / 2 : Nat) : Int) < (M.length : Int) / 2 := by omega
          have hgt := HREDT.out
          rw [HRED.out] at hgt
          have HGT := Lib.hid hgt
          clear hgt
          obtain ⟨Ak, ck, rfl⟩ := hrd.form
          obtain ⟨g0, g1, f0, f1⟩ := two_cells hbox
          have e23 := (hgr.block (w.heap.size + 1) (by omega) (by simp)).trans HE23.out
          obtain ⟨k0, k1, j0, j1⟩ := two_cells e23
          generalize T.filter (fun x => !(lastK M (M.length / 2)).contains x.id) = TF at *
          have hr1 := RdS.two (j := 0) (u := .slice Ak TF.length ck) hrd e23
          have hr2 := RdS.two (j := 1) (u := .int .i64 c) hr1.1 hr1.2
          have hbE := ((HB03.out.grown hgr (by omega) (fun q hq => by cases hq; exact Nat.le_refl _)).setCell (p := ⟨w.heap.size + 1, 0, none⟩) (by simp) (.slice Ak TF.length ck)).setCell (p := ⟨w.heap.size + 1, 1, none⟩) (by simp) (.int .i64 c)
          have hoE : ((wr.setCell ⟨w.heap.size + 1, 0, none⟩ (.slice Ak TF.length ck)).setCell ⟨w.heap.size + 1, 1, none⟩ (.int .i64 c)).ownsRow w3.heap.size 3 1 _ (M.length / 2) ((sortZ (lastK M (M.length / 2))).map (.int .i64)) :=
            own_of_block hown (fun q hq => by
              have := own_lt hown q hq
              exact (Below.heap_setCell _ _ _ _ (by simp; omega)).trans (Below.heap_setCell _ _ _ _ (by simp; omega)))
          obtain ⟨A11, c11, rfl⟩ := own_shape hown
          have HR2 := Lib.hid hr2
          have HBE := Lib.hid hbE
          have HOE := Lib.hid hoE
          clear hr1 hr2 hbE hoE hown hrd hbox hgr e23
          generalize lastK M (M.length / 2) = G at *
          go_wp2_with fail
          refine bodyPost_ret (by simp [results, Try.results57, go_sem, k0, k1]; try rfl) rfl ?_
          refine ⟨_, _, rfl, ?_, ?_, ?_⟩
          · rw [HGT.out]; exact HR2.out.1.more (by simp)
          · rw [HRED.out]; exact RdI.of_own HOE.out
          · exact HBE.out
end Go.Proofs.Ytcpcoomkapblcaa
