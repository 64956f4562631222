/- check: Check: the first thing that is wrong. -/
import Derived.Test.YthcboallnbaimaaGreatDoorProblems
import Derived.Test.YthcboallnbaimaaGreatDoorLight
import Derived.Sort.CutIn
namespace Go.Proofs.YthcboallnbaimaaGreatDoor
open Go Go.RowKit Go.Maps
attribute [local go_sem] Oper.semAt_some
theorem wpListIn_load_row {F : Fence} {n : Nat} {P : Program} {ops : Array Oper} {rest : List Oper} {o : Oper} {a : Act} {w : World} {Q : Exit → Act → World → Prop} (hgd : o.guard = none) (ty : TypeId) (x : Operand) (ho : o.op = .load ty x)
    (g : Nat) (hx : a.eval x = .pointer (some ⟨g, 0, none⟩)) (t : TypeId) (cs : Array Value) (fr : Nat × Nat) (d : TypeDesc) (hg : w.heap[g]? = some (.cells cs t fr))
    (hu : P.underlying ty = some d) (hd : (match d with | .struct _ | .array _ _ => true | _ => false) = true) (hi : (P.info? ty).map (·.size) = some cs.size)
    (h : wpListIn F n P ops Q rest (a.put o.dst (.agg cs)) w) : wpListIn F n P ops Q (o :: rest) a w :=
  wpListIn_plain hgd fun K hK => by
    unfold Oper.wpIn
    refine ⟨?_, ?_⟩
    · simp [Oper.about, ho]
    · rw [Oper.semAt_plain F _ _ (by rw [ho]; intro c hc'; cases hc')]
      simp only [execOp, ho, hx, Instr.loadAt, Instr.sureAddr, Sem.run_bind, Sem.run_pure, Result.andThen_ok, run_loadVar_row w g t ty cs fr d hg hu hd hi]
      exact hK _ _ h
/-- What Check returns. -/
def checkP (p : ProgV) : Int × Int := if countP p ≤ 20000 then (resP p).headD (0, 0) else (0, 5)
/-- A word in a box. -/
def intBox (W : World) (q : Nat) (t : TypeId) (v : Int) : Prop := W.heap[q]? = some (.cells #[.int .i64 v] t (0, 0))
theorem intBox_own {B q : Nat} {t : TypeId} {v : Int} {W W' : World} {row : Option Nat} (h : intBox W q t v) (hg : W.grownBy W' row) (hr : ∀ r, row = some r → B ≤ r ∧ ∃ o : Obj, W.heap[r]? = some o ∧ (o.isCells = false ∨ ∃ cs fr, o = .cells cs 129 fr)) (ht : t ≠ 129) : intBox W' q t v :=
  (hg.block q (Array.getElem?_eq_some_iff.1 (h : W.heap[q]? = _)).1 (fun e => by
    obtain ⟨_, o, ho, hc⟩ := hr q e.symm
    rw [(h : W.heap[q]? = _)] at ho
    cases ho
    rcases hc with hc | ⟨cs, fr, hc⟩
    · cases hc
    · cases hc; exact ht rfl)).trans h
theorem two_set {B n₀ p e : Nat} {tp te : TypeId} {a b a' b' : Int} {W : World} (hP : intBox W p tp a) (hE : intBox W e te b) (hne : p ≠ e) (h1 : TK tp = false) (h2 : TK te = false) (hp : n₀ ≤ p) (he : n₀ ≤ e) :
    KeepsT TK B W ((W.drew.setCell ⟨p, 0, none⟩ (.int .i64 a')).setCell ⟨e, 0, none⟩ (.int .i64 b')) ∧ Below n₀ W ((W.drew.setCell ⟨p, 0, none⟩ (.int .i64 a')).setCell ⟨e, 0, none⟩ (.int .i64 b')) ∧
    intBox ((W.drew.setCell ⟨p, 0, none⟩ (.int .i64 a')).setCell ⟨e, 0, none⟩ (.int .i64 b')) p tp a' ∧ intBox ((W.drew.setCell ⟨p, 0, none⟩ (.int .i64 a')).setCell ⟨e, 0, none⟩ (.int .i64 b')) e te b' := by
  have hbd : Below W.heap.size W W.drew := (Below.refl _ _).drew
  have hP0 : intBox W.drew p tp a := hP
  have hE0 : intBox W.drew e te b := hE
  have hE1 : intBox (W.drew.setCell ⟨p, 0, none⟩ (.int .i64 a')) e te b := (Below.heap_setCell _ _ _ _ (fun h => hne (by simpa using h.symm))).trans hE0
  have hP1 : intBox (W.drew.setCell ⟨p, 0, none⟩ (.int .i64 a')) p tp a' := (show Boxed W.drew p tp (.int .i64 a) from hP0).set (.int .i64 a')
  refine ⟨((KeepsT.of_below hbd).trans (KeepsT.set (a := ⟨p, 0, none⟩) hP0 h1 _)).trans (KeepsT.set (a := ⟨e, 0, none⟩) hE1 h2 _), ((Below.refl _ W).drew.setCell (p := ⟨p, 0, none⟩) hp _).setCell (p := ⟨e, 0, none⟩) he _, ?_, (show Boxed (W.drew.setCell ⟨p, 0, none⟩ (.int .i64 a')) e te (.int .i64 b) from hE1).set (.int .i64 b')⟩
  exact (Below.heap_setCell _ _ _ _ (fun h => hne (by simpa using h))).trans hP1
set_option maxRecDepth 1000000 in
set_option maxHeartbeats 4000000 in
theorem check_any (w : World) (p : ProgV) (hp : RdP w.heap.size w p) (hn0 : 0 < w.heap.size) (hN : NamesOk p) (hwt : weightP p ≤ 1125899906842624) (hmx : MxAt w) :
    Calls Tryz.prog 30 #[p.val] w fun o w' => o = .returned (.tuple #[.int .i64 (checkP p).1, .int .i64 (checkP p).2]) ∧ Below w.heap.size w w' := by
  refine (callsIn_wide (n := 2)).1 ?_
  have hb1 : Below w.heap.size w (w.alloc (.cells p.arr 39)) := (Below.refl _ _).alloc (Nat.le_refl _) _
  have hB := World.alloc_heap_new w (.cells p.arr 39)
  have hLG := lightP_any _ p ((hp.below hb1).more (Nat.le_of_lt (by simp : w.heap.size < (w.alloc (.cells p.arr 39)).heap.size))) hwt
  have hPR := fun W => problems_any p W
  rw [arr_val] at hLG ⊢
  obtain ⟨arr, harr⟩ : ∃ a, p.arr = a := ⟨_, rfl⟩
  have harrs := arr_size p
  rw [harr] at hLG hPR hb1 hB harrs ⊢
  have HLG := Lib.hid hLG
  have HPR := Lib.hid hPR
  have HB := Lib.hid hB
  have HARR := Lib.hid harr
  have HP := Lib.hid hp
  have HB1 := Lib.hid hb1
  clear hLG hPR hB harr hp hb1
  by_cases hl : countP p ≤ 20000
  · have hf : Fit p := ⟨hl, hN, hwt⟩
    have hck : checkP p = (resP p).headD (0, 0) := if_pos hl
    rw [decide_eq_true hl] at HLG
    have HF := Lib.hid hf
    have HCK := Lib.hid hck
    clear hl hf hck hN hwt
    refine callsIn_of_wp_marks Tryz.func30 rfl trivial ?_ rfl
    simp only [Tryz.ntmps30, List.size_toArray, List.length_cons, List.length_nil, Nat.reduceAdd, Nat.reduceSub, Array.replicate_succ, Array.replicate_zero, List.push_toArray, List.append_toArray, List.nil_append, List.cons_append]
    gi_wp2
    refine wpIn_wide.2 (wp_scope_straight (wpIn_wide (n := 2).1 ?_))
    gi_wp2_with (first | (refine wpListIn_load_row rfl 39 _ rfl w.heap.size rfl 39 _ (0, 0) _ HB.out Tryz.underlying39 rfl harrs ?_) | (refine ⟨trivial, ?_⟩; gi_at_call 48; refine (callsIn_wide.2 HLG.out).mono ?_; rintro o3 w3 ⟨rfl, hb3⟩; have HB3 := Lib.hid hb3; clear hb3) | fail)
    have hszA : w.heap.size < (w.alloc (.cells arr 39)).heap.size := by simp
    have hb3w : Below w.heap.size w w3 := HB1.out.trans (HB3.out.mono (by omega))
    have hbox3 : w3.heap[w.heap.size]? = some (.cells arr 39 (0, 0)) := (HB3.out.block _ hszA).trans HB.out
    have hs3 : w.heap.size < w3.heap.size := (Array.getElem?_eq_some_iff.1 hbox3).1
    have hP1 : intBox ((w3.alloc (.cells #[.int .i64 0] 3)).alloc (.cells #[.int .i64 0] 42)) w3.heap.size 3 0 := (Below.heap_alloc _ _ _ (by simp)).trans (World.alloc_heap_new _ _)
    have hP2 : intBox ((w3.alloc (.cells #[.int .i64 0] 3)).alloc (.cells #[.int .i64 0] 42)) (w3.heap.size + 1) 42 0 := by
      have := World.alloc_heap_new (w3.alloc (.cells #[.int .i64 0] 3)) (.cells #[.int .i64 0] 42)
      rwa [World.size_alloc] at this
    have hb4 : Below w3.heap.size w3 ((w3.alloc (.cells #[.int .i64 0] 3)).alloc (.cells #[.int .i64 0] 42)) := ((Below.refl _ _).alloc (Nat.le_refl _) _).alloc (by simp) _
    have hs4 : ((w3.alloc (.cells #[.int .i64 0] 3)).alloc (.cells #[.int .i64 0] 42)).heap.size = w3.heap.size + 2 := by simp
    generalize (w3.alloc (.cells #[.int .i64 0] 3)).alloc (.cells #[.int .i64 0] 42) = w4 at *
    have hbox4 := (hb4.block _ hs3).trans hbox3
    have HBX4 := Lib.hid hbox4
    refine wpIn_label ?_
    gi_wp2_with (first | (refine wpListIn_load_row rfl 39 _ rfl w.heap.size rfl 39 _ (0, 0) _ HBX4.out Tryz.underlying39 rfl harrs ?_) | (refine ⟨trivial, ?_⟩; gi_at_call 50; refine (callsIn_wide.2 (HPR.out _)).mono ?_; rintro o5 w5 ⟨rfl, rfl⟩) | fail)
    have hbxA := World.alloc_heap_new w4 (.cells arr 39)
    have hb5 : Below w4.heap.size w4 (w4.alloc (.cells arr 39)) := (Below.refl _ _).alloc (Nat.le_refl _) _
    have hsA : (w4.alloc (.cells arr 39)).heap.size = w3.heap.size + 3 := by simp [hs4]
    rw [hs4] at hbxA
    have hb0A : Below w.heap.size w (w4.alloc (.cells arr 39)) := (hb3w.trans (hb4.mono (by omega))).trans (hb5.mono (by omega))
    have hPA : intBox (w4.alloc (.cells arr 39)) w3.heap.size 3 0 := (hb5.block _ (by omega)).trans hP1
    have hEA : intBox (w4.alloc (.cells arr 39)) (w3.heap.size + 1) 42 0 := (hb5.block _ (by omega)).trans hP2
    generalize w4.alloc (.cells arr 39) = wA at *
    clear hP1 hP2 hb5 hbox4 HBX4
    rw [← HARR.out] at hbxA
    refine wpIn_rangeFunc_netD (T := TK) (Tc := 129) (n₀ := w.heap.size) rfl (fun h => by cases h) (gf := 83) (lb := #[.pointer (some ⟨w3.heap.size + 2, 0, none⟩)]) rfl trivial (enters_of Tryz.func83 (by kernel_rfl) rfl)
      (problems_seq p w.heap.size wA (w3.heap.size + 2) (HP.out.below hb0A) (by omega) hn0 HF.out (hmx.below hb0A hn0) hbxA) (by omega) (Below.refl _ _) (fun _ => rfl)
      (fun pre W => pre = [] ∧ wA.heap.size ≤ W.heap.size ∧ Below w.heap.size w W ∧ intBox W w3.heap.size 3 0 ∧ intBox W (w3.heap.size + 1) 42 0)
      (fun c pre W => ∃ x : Int × Int, pre = [x] ∧ c = .exit 0 ∧ Below w.heap.size w W ∧ intBox W w3.heap.size 3 x.1 ∧ intBox W (w3.heap.size + 1) 42 x.2)
      ?hI ?hIx ⟨rfl, Nat.le_refl _, hb0A, hPA, hEA⟩
      (fun x a' W => ∃ b : Nat, wA.heap.size ≤ b ∧ W.heap[b]? = some (.cells #[.int .i64 x.1, .int .i64 x.2] 55 (0, 0)) ∧ a' = { tmps := #[.agg arr, .pointer (some ⟨w.heap.size, 0, none⟩), .int .i64 0, .int .i64 0, .pointer (some ⟨w3.heap.size, 0, none⟩), .pointer (some ⟨w3.heap.size + 1, 0, none⟩), .pointer (some ⟨b, 0, none⟩), .agg arr, .bool true, .bool false, .agg arr, .func (.func 83) #[] #[.pointer (some ⟨w3.heap.size + 2, 0, none⟩)], .agg #[.int .i64 x.1, .int .i64 x.2], undef, undef, undef, undef, undef, undef], defers := [] })
      ?hAx ?assign ?body ?done ?stop
    case hI =>
      rintro s X' Y rw ⟨h1, h1s, h2, h3, h4⟩ hg hr
      exact ⟨h1, Nat.le_trans h1s hg.size, h2.grown hg h2.size (fun q hq => by have := (hr q hq).1; omega), intBox_own h3 hg hr (by decide), intBox_own h4 hg hr (by decide)⟩
    case hIx =>
      rintro c s X' Y rw ⟨x, h0, h1, h2, h3, h4⟩ hg hr
      exact ⟨x, h0, h1, h2.grown hg h2.size (fun q hq => by have := (hr q hq).1; omega), intBox_own h3 hg hr (by decide), intBox_own h4 hg hr (by decide)⟩
    case hAx =>
      rintro x a' _ X' Y rw ⟨b, h0, h1, h2⟩ hg hr
      exact ⟨b, h0, (hg.block b (Array.getElem?_eq_some_iff.1 h1).1 (fun e => by
        obtain ⟨_, o, ho, hc⟩ := hr b e.symm
        rw [h1] at ho
        cases ho
        rcases hc with hc | ⟨cs, fr, hc⟩ <;> cases hc)).trans h1, h2⟩
    case assign =>
      rintro l2 pre x Wc K ⟨h1, h1s, h2, h3, h4⟩ hK
      have hba : Below Wc.heap.size Wc (Wc.alloc (.cells #[.int .i64 x.1, .int .i64 x.2] 55)) := (Below.refl _ Wc).alloc (Nat.le_refl _) _
      gi_wp2
      exact hK _ _ (KeepsT.of_below hba) (hba.mono (by omega)) ⟨h1, Nat.le_trans h1s hba.size, h2.trans (hba.mono (by omega)), (hba.block _ (Array.getElem?_eq_some_iff.1 (h3 : Wc.heap[_]? = _)).1).trans h3, (hba.block _ (Array.getElem?_eq_some_iff.1 (h4 : Wc.heap[_]? = _)).1).trans h4⟩ ⟨_, h1s, World.alloc_heap_new _ _, rfl⟩
    case body =>
      rintro l2 pre x a' Wc hl2 ⟨rfl, h1s, h2, h3, h4⟩ ⟨b, hb0, hb, rfl⟩ hlen
      obtain ⟨q0, q1⟩ := two_cells hb
      have hH3 := Lib.hid h3
      have hH4 := Lib.hid h4
      have cP := one_cell (h3 : Wc.heap[_]? = _)
      have cE := one_cell (h4 : Wc.heap[_]? = _)
      have fP : Wc.frozen? ⟨w3.heap.size, 0, none⟩ = false := by
        have h := hH3.out
        unfold intBox at h
        simp [World.frozen?, h]
      have fE : Wc.frozen? ⟨w3.heap.size + 1, 0, none⟩ = false := by
        have h := hH4.out
        unfold intBox at h
        simp [World.frozen?, h]
      have F1 := Lib.hid (two_set (B := wA.heap.size) (n₀ := w.heap.size) (a' := x.1) (b' := x.2) h3 h4 (by omega) rfl rfl (by omega) (by omega))
      have F2 := Lib.hid (two_set (B := wA.heap.size) (n₀ := w.heap.size) (a' := x.2) (b' := x.1) h4 h3 (by omega) rfl rfl (by omega) (by omega))
      clear h3 h4 hb
      gi_wp2
      gi_region
      all_goals
        gi_wp2
        first
          | exact ⟨F1.out.1, F1.out.2.1, x, rfl, rfl, h2.trans F1.out.2.1, F1.out.2.2.1, F1.out.2.2.2⟩
          | exact ⟨F2.out.1, F2.out.2.1, x, rfl, rfl, h2.trans F2.out.2.1, F2.out.2.2.2, F2.out.2.2.1⟩
    case done =>
      rintro Dq ys Wd hD rfl ⟨h1, h1s, h2, h3, h4⟩ hK
      have cP := one_cell (h3 : Wd.heap[_]? = _)
      have cE := one_cell (h4 : Wd.heap[_]? = _)
      have hres : checkP p = (0, 0) := by rw [HCK.out, h1]; rfl
      have HR := Lib.hid hres
      have HKD := Lib.hid hK
      clear h1 hres hK h3 h4
      gi_wp2
      gi_region
      gi_wp2
      simp only [Exit.noGoto]
      refine ⟨by simp, .inl ⟨_, _, rfl, run_takeDeferred (w := Wd.drew) HKD.out, ?_⟩⟩
      exact ⟨_, results_tmp2 rfl _ _ _, by rw [HR.out]; rfl, (h2.trans ((Below.refl _ Wd).drew)).trans (below_put _ _ (by omega))⟩
    case stop =>
      rintro Dq c pre Wd hD ⟨hp1, hp2⟩ ⟨x, rfl, rfl, h2, h3, h4⟩ hK
      have cP := one_cell (h3 : Wd.heap[_]? = _)
      have cE := one_cell (h4 : Wd.heap[_]? = _)
      have hres : checkP p = x := by
        obtain ⟨r, hr⟩ := hp2
        rw [HCK.out, ← hr]; rfl
      have HR := Lib.hid hres
      have HKD := Lib.hid hK
      clear hp1 hp2 hres hK h3 h4
      gi_wp2
      gi_region
      gi_wp2
      simp only [Exit.noGoto]
      refine ⟨by simp, .inl ⟨_, _, rfl, run_takeDeferred (w := Wd.drew) HKD.out, ?_⟩⟩
      exact ⟨_, results_tmp2 rfl _ _ _, by rw [HR.out]; rfl, (h2.trans ((Below.refl _ Wd).drew)).trans (below_put _ _ (by omega))⟩
  · have hck : checkP p = (0, 5) := if_neg hl
    rw [decide_eq_false hl] at HLG
    rw [hck]
    clear hl hck hN hwt
    refine callsIn_of_wp_marks Tryz.func30 rfl trivial ?_ rfl
    simp only [Tryz.ntmps30, List.size_toArray, List.length_cons, List.length_nil, Nat.reduceAdd, Nat.reduceSub, Array.replicate_succ, Array.replicate_zero, List.push_toArray, List.append_toArray, List.nil_append, List.cons_append]
    gi_wp2
    refine wpIn_wide.2 (wp_scope_straight (wpIn_wide (n := 2).1 ?_))
    gi_wp2_with (first | (refine wpListIn_load_row rfl 39 _ rfl w.heap.size rfl 39 _ (0, 0) _ HB.out Tryz.underlying39 rfl harrs ?_) | (refine ⟨trivial, ?_⟩; gi_at_call 48; refine (callsIn_wide.2 HLG.out).mono ?_; rintro o3 w3 ⟨rfl, hb3⟩; have HB3 := Lib.hid hb3; clear hb3) | fail)
    simp only [Exit.noGoto]
    exact ⟨_, results_tmp2 rfl _ _ _, rfl, HB1.out.trans (HB3.out.mono (by simp))⟩
end Go.Proofs.YthcboallnbaimaaGreatDoor
