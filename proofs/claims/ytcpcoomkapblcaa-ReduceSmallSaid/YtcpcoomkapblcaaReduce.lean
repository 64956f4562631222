import Derived.Test.YtcpcoomkapblcaaIntsMore
import Derived.Sort.CutIn
open Go Go.RowKit Go.Maps
namespace Go.Proofs.Ytcpcoomkapblcaa
open Go.Shelf
attribute [local go_sem] Oper.semAt_some
theorem OutK.refl (ob : Nat) (W : World) : OutK ob W W := ⟨Nat.le_refl _, fun _ _ _ _ _ _ _ => rfl, .inl rfl⟩
theorem filt0 (T : List Inf) : T.filter (fun x => !(([] : List Int).contains x.id)) = T := by simp
theorem filt_step (T : List Inf) (l : List Int) (z : Int) : (T.filter (fun x => !l.contains x.id)).filter (fun y => y.id ≠ z) = T.filter (fun x => !(l ++ [z]).contains x.id) := by
  rw [List.filter_filter]
  apply List.filter_congr
  intro x _
  rw [List.contains_append]
  by_cases e : x.id = z <;> simp [e]
theorem Tab.kept {w w' : World} {p m : Nat} {T : List Inf} {c : Int} {row : Option Nat} (h : Tab w p m T c) (hg : w.grownBy w' row) (hp : some p ≠ row) (hm : some m ≠ row) : Tab w' p m T c :=
  ⟨(hg.block p h.lt hp).trans h.head, h.map.kept hg hm, h.apart, h.wf, h.ne⟩
/-- What goes. -/
def redGs (T : List Inf) (locked : List Int) : List Int := (mays locked (sortI T)).drop ((mays locked (sortI T)).length - (mays locked (sortI T)).length / 2)
def redT (T : List Inf) (locked : List Int) : List Inf := T.filter (fun x => !(redGs T locked).contains x.id)
set_option maxRecDepth 100000 in
set_option maxHeartbeats 2000000 in
theorem reduce_any (w : World) (p m : Nat) (T : List Inf) (c : Int) (h : Tab w p m T c) (hT : T.length ≤ 300) (lv : Value) (locked : List Int) (hlk : RdI w.heap.size w lv locked) (hll : locked.length ≤ 1000) :
    Calls Try.prog 18 #[.pointer (some ⟨p, 0, none⟩), lv] w fun e w' => ∃ v, e = .returned (.tuple #[v, .int .i64 0]) ∧ w'.ownsRow w.heap.size 3 1 v (redGs T locked).length ((sortZ (redGs T locked)).map (.int .i64)) ∧ Tab w' p m (redT T locked) c ∧ But p m w w' := by
  refine (callsIn_wide (n := 5)).1 ?_
  obtain ⟨A, n, cap, rfl⟩ := hlk.form
  refine callsIn_of_wp_marks Try.func18 rfl trivial ?_ rfl
  simp only [Try.ntmps18, List.size_toArray, List.length_cons, List.length_nil, Nat.reduceAdd, Nat.reduceSub, Array.replicate_succ, Array.replicate_zero, List.push_toArray, List.append_toArray, List.nil_append, List.cons_append]
  gi_wp2_with fail
  refine ⟨trivial, ?_⟩
  refine (callsIn_wide.2 (all_any _ p)).mono ?_
  rintro e w' ⟨rfl, rfl⟩
  gi_wp2
  obtain ⟨i0, hi, hz0, hz1, hz2⟩ := info_parts int_info
  generalize hW0 : ((w.alloc (.cells #[.slice A n cap] 33)).alloc (.cells #[.slice none 0 0] 33)).alloc (.cells #[.pointer (some ⟨p, 0, none⟩)] 25) = W0
  have hz : W0.heap.size = w.heap.size + 1 + 1 + 1 := by rw [← hW0]; simp
  have hbW0 : Below w.heap.size w W0 := by rw [← hW0]; exact (((Below.refl _ w).alloc (Nat.le_refl _) _).alloc (by simp) _).alloc (by simp; omega) _
  have hbox : Boxed W0 (w.heap.size + 1) 33 (.slice none 0 0) := by
    rw [← hW0]; have := (Boxed.new (w.alloc (.cells #[.slice A n cap] 33)) 33 (.slice none 0 0)).alloc (.cells #[.pointer (some ⟨p, 0, none⟩)] 25); rwa [World.size_alloc] at this
  have hlbox : Boxed W0 w.heap.size 33 (.slice A n cap) := by
    rw [← hW0]; exact ((Boxed.new w 33 _).alloc _).alloc _
  have hbB : W0.cell? ⟨w.heap.size + 1 + 1, 0, none⟩ = some (.pointer (some ⟨p, 0, none⟩)) := by
    rw [← hW0]
    have := (Boxed.new ((w.alloc (.cells #[.slice A n cap] 33)).alloc (.cells #[.slice none 0 0] 33)) 25 (.pointer (some ⟨p, 0, none⟩))).cell
    rwa [World.size_alloc, World.size_alloc] at this
  have hTab0 : Tab W0 p m T c := h.below hbW0
  refine wpIn_rangeFunc_ownH rfl (by omega) (gf := 65) (lb := #[.pointer (some ⟨w.heap.size + 1 + 1, 0, none⟩)]) rfl trivial (enters_of Try.func65 (by kernel_rfl) rfl)
    (all_stops _ (by omega) (w.heap.size + 1 + 1) p m (w.heap.size + 1) T c (by omega) W0 (by omega) hbB (by omega) (fun k e => by rw [ptr_boxed hbox] at e; cases e) hTab0) OutK.trans (fun W l o o' => OutK.put (by omega) W l o o') (Below.refl _ _) (fun _ => rfl)
    (fun pre W => (∃ v, Boxed W (w.heap.size + 1) 33 v ∧ W.ownsRow (w.heap.size + 1 + 1) 3 1 v (mays locked pre).length ((mays locked pre).map (.int .i64)) ∧ True) ∧ Below (w.heap.size + 1) W0 W)
    (fun _ _ _ => False)
    (OwnFrom.and (Own.from (holdsRow_own _ _ _ _ _ _ _ (fun _ _ => True)) _) (ownFrom_below (by omega) (by omega)))
    (fun _ _ _ _ _ hs _ _ => hs)
    ⟨⟨_, hbox, World.ownsRow_nil _ _ _ _, trivial⟩, Below.refl _ _⟩
    (fun x a' W => ∃ b, a' = { tmps := #[.pointer (some ⟨p, 0, none⟩), .slice A n cap, undef, .pointer (some ⟨w.heap.size, 0, none⟩), .slice none 0 0, .int .i64 0, .pointer (some ⟨w.heap.size + 1, 0, none⟩), .pointer (some ⟨b, 0, none⟩), undef, undef, undef, .pointer (some ⟨p, 0, none⟩), .bool false, .pointer (some ⟨p, 0, none⟩), .func (.func 65) #[] #[.pointer (some ⟨w.heap.size + 1 + 1, 0, none⟩)], x.val, undef, undef, undef, undef, undef, undef, undef, undef, undef, undef, undef, undef, undef, undef, undef, undef, undef, undef, undef, undef, undef, undef, undef, undef, undef, undef, undef, undef, undef, undef, undef, undef, undef, undef, undef, undef, undef, undef, undef], defers := [] } ∧ W.heap[b]? = some (.cells #[.int .i64 x.id, .int .i64 x.lev, .int .i64 x.used] 32)) ?hAx ?assign ?body ?done ?stop
  case hAx =>
    rintro x a' u X Y row ⟨b, e, hb⟩ hg hrow
    refine ⟨b, e, (hg.block b (Array.getElem?_eq_some_iff.1 hb).1 (fun e' => ?_)).trans hb⟩
    obtain ⟨_, o, ho, hc⟩ := hrow b e'.symm
    rw [hb] at ho; cases ho; cases hc
  case assign =>
    rintro l pre x W K ⟨⟨v, hbx, hown, _⟩, hB⟩ hK
    unfold Inf.val
    gi_wp2
    exact hK _ _ ((KeepsOthers.alloc _ _).from _) (OutK.alloc hbx.lt _) ⟨⟨v, hbx.alloc _, hown.alloc _, trivial⟩, hB.alloc (by have := hB.size; omega) _⟩ ⟨_, rfl, World.alloc_heap_new _ _⟩
  case body =>
    rintro l pre x a' W hl hr ⟨⟨v, hbx, hown, _⟩, hB⟩ ⟨b, rfl, hxb⟩ hpl
    have c0 : W.cell? ⟨b, 0, none⟩ = some (.int .i64 x.id) := by simp [World.cell?, hxb]
    have c1 : W.cell? ⟨b, 1, none⟩ = some (.int .i64 x.lev) := by simp [World.cell?, hxb]
    have c2 : W.cell? ⟨b, 2, none⟩ = some (.int .i64 x.used) := by simp [World.cell?, hxb]
    have hc := hbx.cell
    have hf := hbx.frozen
    have hlc : W.cell? ⟨w.heap.size, 0, none⟩ = some (.slice A n cap) := (hB.cell (p := ⟨w.heap.size, 0, none⟩) (Nat.lt_succ_self _)).trans hlbox.cell
    have hne : v.ownBlock ≠ some (w.heap.size + 1) := fun e => by have := own_lt hown _ e; omega
    have hsz := hB.size
    have hlkW : RdI w.heap.size W (.slice A n cap) locked := (hlk.below hbW0).below (hB.mono (Nat.le_succ _))
    have hml := mays_le locked pre
    have hsz' : w.heap.size + 1 ≤ W.heap.size := by omega
    have hsn := mays_snoc locked pre x
    obtain ⟨A2, nn, cc, rfl⟩ : ∃ A n c, v = .slice A n c := by
      rcases hown.2 with ⟨rfl, _⟩ | ⟨g, cap, cur, rfl, _⟩
      · exact ⟨_, _, _, rfl⟩
      · exact ⟨_, _, _, rfl⟩
    have hcell : ∀ j u, [Value.int .i64 x.id][j]? = some u → (W.alloc (.cells #[.int .i64 x.id] 3)).cell? ((⟨W.heap.size, 0, none⟩ : Addr).add j) = some u := cell_one_new _ _ _
    unfold Inf.val
    by_cases hgo : mayGo locked x = true
    · rw [if_pos hgo] at hsn
      have Hsn := Lib.hid hsn; clear hsn
      have hgo' := hgo
      unfold mayGo at hgo
      simp only [Bool.and_eq_true, decide_eq_true_eq, Bool.not_eq_true'] at hgo
      obtain ⟨hg1, hg2⟩ := hgo
      gi_wp2_with (first
        | (refine ⟨trivial, ?_⟩; gi_at_call 25; refine (CallsIn.inRound l (callsIn_wide.2 (ContainsInt_any W _ _ locked x.id hlkW (by omega)))).mono ?_; rintro e w' ⟨rfl, rfl⟩; rw [hg2])
        | (gi_at_builtin; refine wpListIn_append_own_at _ rfl _ _ 33 rfl (w.heap.size + 1 + 1) 3 i0 (.int .i64 0) 1 8 Try.underlying33 hi hz0 hz1 hz2 rfl (by decide) _ _ _ rfl (hown.alloc _) ⟨W.heap.size, 0, none⟩ 1 1 [.int .i64 x.id] rfl rfl hcell (by simp [Value.oneCell']) (by simp only [maxLen]; omega) (by omega) (by simp; omega) ?_; intro v' w2 hown2 hg2' _ hat2; obtain ⟨g', cap', rfl⟩ := ownsRow_succ hown2; have hbx1 : Boxed w2 (w.heap.size + 1) 33 (.slice A2 nn cc) := (hbx.alloc _).kept hg2' (fun e => hne e.symm); have hc1 := hbx1.cell; have hf1 := hbx1.frozen))
      obtain ⟨_, hv2, _, hk2, hb2⟩ := hbx.appended (by decide) (own_weaken (Nat.le_succ _) hown) hsz' (Nat.le_refl _) (own_weaken (Nat.le_succ _) hown2) hg2'
      have hrow2 := own_of_block hown2 (w' := w2.setCell ⟨w.heap.size + 1, 0, none⟩ (.slice (some ⟨g', 0, none⟩) ((mays locked pre).length + 1) cap')) (fun g hg => Below.heap_setCell _ _ _ _ (fun e => by have := own_lt hown2 g hg; simp at e; omega))
      have hout := OutK.append hbx (W1 := W.alloc (.cells #[.int .i64 x.id] 3)) (fun k hk => Below.heap_alloc _ _ _ hk) (by simp) hg2' hne hat2
      refine ⟨hk2.from _, hout, ⟨_, hv2, ?_, trivial⟩, hB.trans hb2⟩
      rw [Hsn.out, List.map_append, List.length_append]
      exact hrow2
    · rw [if_neg hgo, List.append_nil] at hsn
      have Hsn := Lib.hid hsn; clear hsn
      by_cases hg1 : 2 < x.lev
      · have hg2 : locked.contains x.id = true := by
          unfold mayGo at hgo
          simpa [hg1] using hgo
        gi_wp2_with (first
          | (refine ⟨trivial, ?_⟩; gi_at_call 25; refine (CallsIn.inRound l (callsIn_wide.2 (ContainsInt_any W _ _ locked x.id hlkW (by omega)))).mono ?_; rintro e w' ⟨rfl, rfl⟩; rw [hg2]))
        all_goals first
          | (refine ⟨KeepsFrom.refl _ _, OutK.refl _ _, ⟨_, hbx, ?_, trivial⟩, hB⟩
             rw [Hsn.out]; exact hown)
      · gi_wp2
        refine ⟨trivial, ?_⟩
        gi_wp2
        refine ⟨KeepsFrom.refl _ _, OutK.refl _ _, ⟨_, hbx, ?_, trivial⟩, hB⟩
        rw [Hsn.out]; exact hown
  case done =>
    rintro D ys W hD rfl ⟨⟨v, hbx, hown, _⟩, hB⟩ hK
    have hc := hbx.cell
    have hf := hbx.frozen
    have hml := mays_le locked (sortI T)
    have hS0 : (sortI T).length = T.length := by simp [sortI]
    have h0p : p < w.heap.size := h.lt
    have h0m : m < w.heap.size := h.map.lt
    have hBw : Below w.heap.size w W := hbW0.trans (hB.mono (Nat.le_succ _))
    have hTabW := h.below hBw
    have hszW := hB.size
    generalize hms : mays locked (sortI T) = ms at *
    have hownc := hown
    have hrd := RdI.of_own hownc
    generalize hgs : ms.drop (ms.length - ms.length / 2) = gs at *
    have hgl : gs.length = ms.length - (ms.length - ms.length / 2) := by rw [← hgs, List.length_drop]
    have hwfs : ∀ z ∈ gs, (Lit.int .i64 z).wf = true := by
      intro z hz
      rw [← hgs] at hz
      have hz' := List.mem_of_mem_drop hz
      rw [← hms] at hz'
      obtain ⟨y, hy, rfl⟩ := List.mem_map.1 hz'
      exact h.wf y ((List.mergeSort_perm _ _).mem_iff.1 (List.mem_filter.1 hy).1)
    have hrd2 : ∀ u, (u = .slice none 0 0 ∧ ms.length = 0) ∨ (∃ g cc cap', v = .slice (some ⟨g, 0, none⟩) ms.length cc ∧ u = .slice (some ⟨g, ms.length - ms.length / 2, none⟩) (ms.length - (ms.length - ms.length / 2)) cap' ∧ ms.length - (ms.length - ms.length / 2) ≤ cap') ∨ (∃ A' cap', u = .slice A' (ms.length - (ms.length - ms.length / 2)) cap' ∧ ms.length - (ms.length - ms.length / 2) = 0) → RdI W.heap.size W u gs := by
      rintro u (⟨rfl, hz⟩ | ⟨g, cc, cap', rfl, rfl, hcap'⟩ | ⟨A', cap', rfl, hz⟩)
      · have : gs = [] := List.eq_nil_of_length_eq_zero (by omega)
        subst this; exact RdI.nil _ _
      · refine ⟨_, cap', by rw [hgl], by omega, fun h0 => ⟨g, ms.length - ms.length / 2, rfl, (hownc.lt g rfl).2, fun j hj => ?_⟩⟩
        rw [hownc.cellAt (ms.length - ms.length / 2 + j) (by omega), List.getElem?_map, ← hgs, List.getElem?_drop]
        simp [show ms.length - ms.length / 2 + j < ms.length by omega]
      · have : gs = [] := List.eq_nil_of_length_eq_zero (by omega)
        subst this
        refine ⟨A', cap', by rw [hz]; rfl, by simp, fun h => by simp at h⟩
    have hgb : gs.length ≤ 300 := by omega
    have hmb : ms.length ≤ 300 := by omega
    have Hgl := Lib.hid hgl; clear hgl
    have Hgs := Lib.hid hgs; clear hgs
    have Hms := Lib.hid hms; clear hms
    clear hS0
    gi_upto_region 8 with (fail)
    gi_cut [8] from 16 (fun s8 wx => wx.ownsRow W.heap.size 3 1 s8 gs.length (gs.map (.int .i64)) ∧ Below W.heap.size W wx)
    case first =>
      rcases hown.2 with ⟨rfl, hz⟩ | ⟨g, cc, cur, rfl, hb, hg, hg2⟩
      all_goals gi_wp2_with fail
      all_goals
        refine ⟨trivial, ?_⟩
        refine (callsIn_wide.2 (CloneInt_any W W.heap.size _ gs (hrd2 _ ?_) (by omega))).mono ?_
      · exact .inl ⟨rfl, hz⟩
      rotate_left
      · exact .inr (.inr ⟨_, _, rfl, by omega⟩)
      rotate_left
      · exact .inr (.inl ⟨g, cc, _, rfl, rfl, by omega⟩)
      all_goals
        rintro e W1 ⟨v', rfl, hown1, hb1⟩
        gi_wp2
        gi_meet
        exact ⟨hown1, hb1⟩
    case rest =>
      obtain ⟨hown1, hb1⟩ := hcut
      have hTab1 : Tab wc p m T c := hTabW.below hb1
      have hDl : D < W.heap.size := (Array.getElem?_eq_some_iff.1 hK).1
      have hD1 : wc.heap[D]? = some (.deferred (some [])) := (hb1.block D hDl).trans hK
      have hwc : Below w.heap.size w wc := hBw.trans (hb1.mono hBw.size)
      rcases hown1.2 with ⟨rfl, hz1⟩ | ⟨g1, cc1, cur1, rfl, hbg1, hg1, hgg1⟩
      · have hgs0 : gs = [] := List.eq_nil_of_length_eq_zero hz1
        gi_wp2
        gi_loopw [42] (fun i wr => i = .int .i64 0 ∧ wr = wc) (fun _ _ => 0)
        case atStart => exact ⟨rfl, rfl⟩
        case round =>
          obtain ⟨rfl, rfl⟩ := hrel
          gi_wp2_with fail
          refine ⟨trivial, ?_⟩
          refine (callsIn_wide.2 (SortInt_own wr 0 (.slice none 0 0) [] (World.ownsRow_nil _ _ _ _) (by decide))).mono ?_
          rintro e w9 ⟨rfl, hown9, hg9⟩
          gi_wp2
          have hwr : D < wr.heap.size := (Array.getElem?_eq_some_iff.1 hD1).1
          have hK9 : w9.heap[D]? = some (.deferred (some [])) := (hg9.block D hwr (by simp [Value.ownBlock])).trans hD1
          have hred : redGs T locked = [] := by unfold redGs; rw [Hms.out, Hgs.out]; exact hgs0
          have hrT : redT T locked = T := by unfold redT; rw [hred]; exact filt0 T
          have hsz0 : sortZ ([] : List Int) = [] := by simp [sortZ]
          have hb9 : Below w.heap.size w w9 := hwc.grown hg9 hwc.size (fun k hk => by simp [Value.ownBlock] at hk)
          refine ⟨by simp, .inl ⟨_, _, rfl, run_takeDeferred hK9, ?_⟩⟩
          refine ⟨_, results_tmp2 rfl _ _ _, _, rfl, ?_, ?_, ?_⟩
          · rw [hred, hsz0]; exact World.ownsRow_nil _ _ _ _
          · rw [hrT]; exact (hTab1.kept hg9 (by simp [Value.ownBlock]) (by simp [Value.ownBlock])).kept (grownBy_putObj' w9 D _) (by simp; omega) (by simp; omega)
          · exact But.of_below (hb9.trans (belowK_b (w := w) (Nat.le_refl _) w9 D _ _ (by omega) hK9 rfl rfl))
      · have hg1l : g1 < wc.heap.size := (Array.getElem?_eq_some_iff.1 hg1).1
        have hszb := hb1.size
        gi_wp2
        gi_loopw [42] (fun i wr => ∃ k : Nat, k ≤ gs.length ∧ i = .int .i64 k ∧ Tab wr p m (T.filter (fun x => !(gs.take k).contains x.id)) c ∧ But p m wc wr) (fun i _ => gs.length - (intOf i).toNat)
        case atStart => exact ⟨0, Nat.zero_le _, rfl, by rw [List.take_zero, filt0]; exact hTab1, But.refl _ _ _⟩
        case round =>
          obtain ⟨k, hk, rfl, hTk, hbk⟩ := hrel
          have hownr := own_of_block hown1 (w' := wr) (fun j hj => by simp [Value.ownBlock] at hj; subst hj; exact hbk.block g1 hg1l (by omega) (by omega))
          have ht0 := hTk.cell0
          by_cases hlt : k < gs.length
          · have hck : wr.cell? ⟨g1, k, none⟩ = some (.int .i64 (gs[k]?.getD 0)) := by
              rw [hownr.cellAt k (by omega), List.getElem?_map]; simp [hlt]
            have hs : (gs.take (k + 1)) = gs.take k ++ [gs[k]?.getD 0] := by
              rw [List.take_succ_eq_append_getElem hlt]; simp [hlt]
            have hwf : (Lit.int .i64 (gs[k]?.getD 0)).wf = true := hwfs _ (by simp [hlt])
            generalize hx : gs[k]?.getD 0 = x at *
            have Hx := Lib.hid hx; clear hx
            have Hs := Lib.hid hs; clear hs
            gi_wp2_with (gi_at_delete; refine wpListIn_delete_own _ rfl _ _ 76 3 rfl 32 law3 Try.underlying76 _ m _ _ rfl hTk.map _ _ rfl (key3 hwf) ?_; intro w2 hown2 hturn2)
            go_roundw
            case rel =>
              have hg2' := hturn2.grown
              rw [del_tab hTk.apart] at hown2
              have hTn : Tab w2 p m ((T.filter (fun x => !(gs.take k).contains x.id)).filter (fun y => y.id ≠ x)) c :=
                ⟨(hg2'.block p hTk.lt (by simpa using hTk.ne)).trans hTk.head, own_sharp hown2, apart_del hTk.apart x, fun y hy => hTk.wf y (List.mem_filter.1 hy).1, hTk.ne⟩
              refine ⟨k + 1, by omega, by simp, ?_, hbk.trans ⟨hg2'.os, hg2'.tape, hg2'.output, hg2'.size, fun j hj _ hjm => hg2'.block j hj (by simpa using hjm)⟩⟩
              rw [Hs.out, ← filt_step]
              exact hTn
            case measure => simp [intOf] <;> omega
          · obtain rfl : k = gs.length := by omega
            gi_wp2_with fail
            refine ⟨trivial, ?_⟩
            refine (callsIn_wide.2 (SortInt_own wr W.heap.size _ gs hownr (by omega))).mono ?_
            rintro e w9 ⟨rfl, hown9, hg9⟩
            gi_wp2
            rw [List.take_length] at hTk
            have hwc1 : D < wc.heap.size := (Array.getElem?_eq_some_iff.1 hD1).1
            have hKr : wr.heap[D]? = some (.deferred (some [])) := (hbk.block D hwc1 (by omega) (by omega)).trans hD1
            have hK9 : w9.heap[D]? = some (.deferred (some [])) := (hg9.block D (Array.getElem?_eq_some_iff.1 hKr).1 (by simp [Value.ownBlock]; omega)).trans hKr
            have hred : redGs T locked = gs := by unfold redGs; rw [Hms.out]; exact Hgs.out
            have hbsz := hbk.size
            have hwsz := hwc.size
            have hWsz := hBw.size
            refine ⟨by simp, .inl ⟨_, _, rfl, run_takeDeferred hK9, ?_⟩⟩
            refine ⟨_, results_tmp2 rfl _ _ _, _, rfl, ?_, ?_, ?_⟩
            · rw [hred]; exact ownsRow_putObj (own_weaken hWsz hown9) _ hK9 rfl
            · unfold redT; rw [hred]
              exact (hTk.kept hg9 (by simp [Value.ownBlock]; omega) (by simp [Value.ownBlock]; omega)).kept (grownBy_putObj' w9 D _) (by simp; omega) (by simp; omega)
            · have h1 : But p m w wr := (But.of_below hwc).trans hbk
              refine ⟨hg9.os.trans h1.os, hg9.tape.trans h1.tape, hg9.output.trans h1.output, ?_, fun j hj hjp hjm => ?_⟩
              · have := h1.size; have := hg9.size; simp; omega
              · exact (World.putObj_heap_other (by omega)).trans ((hg9.block j (by have := h1.size; omega) (by simp [Value.ownBlock]; omega)).trans (h1.block j hj hjp hjm))
  case stop =>
    rintro D c pre W hD _ h _
    exact h.elim
end Go.Proofs.Ytcpcoomkapblcaa
