/- check: Problems: AppendSeq and Collect over the checker's iterator. CheckPlaces' regions 10 and 12: sizes, and what Problems tells of two programs. CheckPlaces: what the boxes of q and r hold behind regions 7 and 9. CheckPlaces' region 16: the last comparisons. Chapter 32's law CheckPlaces, walked. -/
import Derived.Test.YthcboallnbaimaaGreatDoorFirst
import Derived.Maps.OwnIn
import Derived.Test.YthcboallnbaimaaGreatDoorUE
import Derived.Test.YthcboallnbaimaaGreatDoorUB
import Derived.Test.YthcboallnbaimaaGreatDoorLight
import Derived.Test.YthcboallnbaimaaGreatDoorAllS
import Derived.Test.YthcboallnbaimaaGreatDoorUD
namespace Go.Proofs.YthcboallnbaimaaGreatDoor
open Go Go.RowKit Go.Maps
attribute [local go_sem] Oper.semAt_some
def encP (x : Int × Int) : List Value := [.int .i64 x.1, .int .i64 x.2]
/-- The value v owns the list of problems l. -/
def PRow (B : Nat) (W : World) (v : Value) (l : List (Int × Int)) : Prop := W.ownsRow B 55 2 v l.length (l.flatMap encP)
theorem flat_len (l : List (Int × Int)) : (l.flatMap encP).length = l.length * 2 := by
  induction l with
  | nil => rfl
  | cons x l ih => rw [List.flatMap_cons, List.length_append, ih, List.length_cons]; show 2 + _ = _; omega
theorem PRow.kept {B : Nat} {W W' : World} {v : Value} {l : List (Int × Int)} (h : PRow B W v l) (hk : ∀ k cs fr, B ≤ k → W.heap[k]? = some (.cells cs 55 fr) → W'.heap[k]? = W.heap[k]?) : PRow B W' v l := by
  obtain ⟨hlen, ho⟩ := h
  refine ⟨hlen, ?_⟩
  rcases ho with h0 | ⟨g, cap, cur, rfl, h1, h2, h3⟩
  · exact .inl h0
  · exact .inr ⟨g, cap, cur, rfl, h1, (hk g _ _ h1 h2).trans h2, h3⟩
theorem PRow.on {B : Nat} {W W' : World} {v : Value} {l : List (Int × Int)} (h : PRow B W v l) (hb : Below W.heap.size W W') : PRow B W' v l := h.kept fun k _ _ _ hk => hb.block k (Array.getElem?_eq_some_iff.1 hk).1
theorem prob_info : (Tryz.prog.info? 55).map (fun i => (i.zero, i.size, i.bytes)) = some (some (.agg #[.int .i64 0, .int .i64 0]), 2, 16) := by kernel_rfl
theorem KeepsT.grown {T : TypeId → Bool} {B : Nat} {W W' : World} {row : Option Nat} {t : TypeId} (hg : W.grownBy W' row) (hr : ∀ r, row = some r → ∃ cs fr, W.heap[r]? = some (.cells cs t fr)) (ht : T t = false) : KeepsT T B W W' :=
  ⟨hg.size, fun k o _ hk ho => (hg.block k (Array.getElem?_eq_some_iff.1 hk).1 (fun e => by
    obtain ⟨cs, fr, h⟩ := hr k e.symm
    rw [h] at hk; cases hk; cases ho)).trans hk, fun k cs t' fr hk h2 => (hg.block k (Array.getElem?_eq_some_iff.1 hk).1 (fun e => by
    obtain ⟨cs', fr', h⟩ := hr k e.symm
    rw [h] at hk; cases hk; rw [ht] at h2; cases h2)).trans hk⟩
/-- The row that an append may turn. -/
theorem PRow.own {B : Nat} {W : World} {v : Value} {l : List (Int × Int)} (h : PRow B W v l) : ∀ r, v.ownBlock = some r → B ≤ r ∧ ∃ cs fr, W.heap[r]? = some (.cells cs 55 fr) := by
  intro r hr
  obtain ⟨_, ho⟩ := h
  rcases ho with ⟨rfl, _⟩ | ⟨g, cap, cur, rfl, h1, h2, _⟩
  · cases hr
  · cases hr; exact ⟨h1, _, _, h2⟩
set_option maxRecDepth 1000000 in
set_option maxHeartbeats 4000000 in
theorem appendSeq_any (w : World) (p : ProgV) (Bs : Nat) (hp : RdP w.heap.size w p) (hn0 : 0 < w.heap.size) (hf : Fit p) (hmx : MxAt w) (hBs : w.heap[Bs]? = some (.cells p.arr 39 (0, 0))) :
    Calls Tryz.prog 82 #[.slice none 0 0, .func (.func 83) #[] #[.pointer (some ⟨Bs, 0, none⟩)]] w fun o w' => (∃ v, o = .returned v ∧ PRow w.heap.size w' v (resP p)) ∧ Below w.heap.size w w' := by
  refine (callsIn_wide (n := 2)).1 ?_
  obtain ⟨i0, hi, hz0, hz1, hz2⟩ := info_of prob_info
  have hbA : Below w.heap.size w (w.alloc (.cells #[.slice none 0 0] 52)) := (Below.refl _ _).alloc (Nat.le_refl _) _
  have hxA := World.alloc_heap_new w (.cells #[.slice none 0 0] 52)
  have hsA : (w.alloc (.cells #[.slice none 0 0] 52)).heap.size = w.heap.size + 1 := by simp
  have hBlt := (Array.getElem?_eq_some_iff.1 hBs).1
  have HSEQ := Lib.hid (problems_seq p w.heap.size _ Bs (hp.below hbA) (by omega) hn0 hf (hmx.below hbA hn0) ((hbA.block _ hBlt).trans hBs))
  have HXA := Lib.hid hxA
  have HBA := Lib.hid hbA
  clear hxA hbA hp hf hmx hBs
  refine callsIn_of_wp_marks Tryz.func82 rfl trivial ?_ rfl
  simp only [Tryz.ntmps82, List.size_toArray, List.length_cons, List.length_nil, Nat.reduceAdd, Nat.reduceSub, Array.replicate_succ, Array.replicate_zero, List.push_toArray, List.append_toArray, List.nil_append, List.cons_append]
  gi_wp2_with fail
  generalize w.alloc (.cells #[.slice none 0 0] 52) = wA at *
  refine wpIn_rangeFunc_netD (T := TK) (Tc := 129) (n₀ := w.heap.size) rfl (fun h => by cases h) (gf := 83) (lb := #[.pointer (some ⟨Bs, 0, none⟩)]) rfl trivial (enters_of Tryz.func83 (by kernel_rfl) rfl)
    HSEQ.out (by omega) (Below.refl _ _) (fun _ => rfl)
    (fun pre W => ∃ v, W.heap[w.heap.size]? = some (.cells #[v] 52 (0, 0)) ∧ PRow w.heap.size W v pre ∧ Below w.heap.size w W ∧ wA.heap.size ≤ W.heap.size)
    (fun c pre W => False)
    ?hI ?hIx ⟨_, HXA.out, ⟨rfl, .inl ⟨rfl, rfl⟩⟩, HBA.out, Nat.le_refl _⟩
    (fun x a' W => ∃ b : Nat, wA.heap.size ≤ b ∧ W.heap[b]? = some (.cells #[.int .i64 x.1, .int .i64 x.2] 55 (0, 0)) ∧ a' = { tmps := #[.slice none 0 0, .func (.func 83) #[] #[.pointer (some ⟨Bs, 0, none⟩)], .pointer (some ⟨w.heap.size, 0, none⟩), undef, .slice none 0 0, .pointer (some ⟨b, 0, none⟩), .func (.func 83) #[] #[.pointer (some ⟨Bs, 0, none⟩)], .agg #[.int .i64 x.1, .int .i64 x.2], undef, undef, undef, undef, undef], defers := [] })
    ?hAx ?assign ?body ?done ?stop
  case hI =>
    rintro s X' Y rw ⟨v, h1, h2, h3, h4⟩ hg hr
    have hcl : ∀ (k : Nat) (cs : Array Value) (t : TypeId) (fr : Nat × Nat), X'.heap[k]? = some (Obj.cells cs t fr) → t ≠ 129 → Y.heap[k]? = X'.heap[k]? := fun k cs t fr hk ht => hg.block k (Array.getElem?_eq_some_iff.1 hk).1 (fun e => by
      obtain ⟨_, o, ho, hc⟩ := hr k e.symm
      rw [hk] at ho
      cases ho
      rcases hc with hc | ⟨cs', fr', hc⟩
      · cases hc
      · cases hc; exact ht rfl)
    exact ⟨v, (hcl _ _ _ _ h1 (by decide)).trans h1, h2.kept fun k cs fr _ hk => hcl k cs _ fr hk (by decide), h3.grown hg h3.size (fun q hq => by have := (hr q hq).1; omega), Nat.le_trans h4 hg.size⟩
  case hIx => rintro c s X' Y rw h; cases h
  case hAx =>
    rintro x a' _ X' Y rw ⟨b, h0, h1, h2⟩ hg hr
    exact ⟨b, h0, (hg.block b (Array.getElem?_eq_some_iff.1 h1).1 (fun e => by
      obtain ⟨_, o, ho, hc⟩ := hr b e.symm
      rw [h1] at ho
      cases ho
      rcases hc with hc | ⟨cs, fr, hc⟩ <;> cases hc)).trans h1, h2⟩
  case assign =>
    rintro l2 pre x Wc K ⟨v, h1, h2, h3, h4⟩ hK
    have hba : Below Wc.heap.size Wc (Wc.alloc (.cells #[.int .i64 x.1, .int .i64 x.2] 55)) := (Below.refl _ Wc).alloc (Nat.le_refl _) _
    gi_wp2
    exact hK _ _ (KeepsT.of_below hba) (hba.mono (by omega)) ⟨v, (hba.block _ (Array.getElem?_eq_some_iff.1 h1).1).trans h1, h2.on hba, h3.trans (hba.mono (by omega)), Nat.le_trans h4 hba.size⟩ ⟨_, h4, World.alloc_heap_new _ _, rfl⟩
  case body =>
    rintro l2 pre x a' Wc hl2 ⟨v, h1, h2, h3, h4⟩ ⟨b, hb0, hb, rfl⟩ hlen
    obtain ⟨q0, q1⟩ := two_cells hb
    have cB := one_cell h1
    have hba : Below Wc.heap.size Wc (Wc.alloc (.cells #[.int .i64 x.1, .int .i64 x.2] 55)) := (Below.refl _ Wc).alloc (Nat.le_refl _) _
    have hnew := World.alloc_heap_new Wc (.cells #[.int .i64 x.1, .int .i64 x.2] 55)
    have hcell : ∀ j u, (encP x)[j]? = some u → (Wc.alloc (.cells #[.int .i64 x.1, .int .i64 x.2] 55)).cell? ((⟨Wc.heap.size, 0, none⟩ : Addr).add j) = some u := fun j u hj => by
      rw [Addr.add_lit]
      simp only [World.cell?, Nat.zero_add, hnew]
      have e2 : (#[Value.int .i64 x.1, .int .i64 x.2] : Array Value)[j]? = some u := by simpa [encP] using hj
      exact e2
    have hone : ∀ u ∈ encP x, u.oneCell' = true := by intro u hu; simp [encP] at hu; rcases hu with rfl | rfl <;> rfl
    have HR2 := Lib.hid (h2.on hba)
    have HBX := Lib.hid ((hba.block _ (Array.getElem?_eq_some_iff.1 h1).1).trans h1)
    have HBA2 := Lib.hid hba
    have H3 := Lib.hid h3
    have H2 := Lib.hid h2
    obtain ⟨A, nn, cc, rfl⟩ : ∃ A n c, v = .slice A n c := by
      rcases h2.2 with ⟨rfl, _⟩ | ⟨g, cap, cur, rfl, _⟩
      · exact ⟨_, _, _, rfl⟩
      · exact ⟨_, _, _, rfl⟩
    clear h1 h2 h3 hb hba hnew
    gi_wp2_with (first | (gi_at_builtin; refine wpListIn_append_own_at _ rfl _ _ 52 rfl w.heap.size 55 i0 (.agg #[.int .i64 0, .int .i64 0]) 2 16 Tryz.underlying52 hi hz0 hz1 hz2 rfl (by decide) _ _ _ rfl HR2.out ⟨Wc.heap.size, 0, none⟩ 1 1 (encP x) rfl rfl hcell hone (by simp only [maxLen]; omega) (by omega) (by simp; omega) ?_) | fail)
    intro v2 w2 hown2 hg2 hnil hat
    obtain ⟨A2, n2, c3, rfl⟩ : ∃ A n c, v2 = .slice A n c := by
      rcases hown2.2 with ⟨rfl, _⟩ | ⟨g, cap, cur, rfl, _⟩
      · exact ⟨_, _, _, rfl⟩
      · exact ⟨_, _, _, rfl⟩
    have hne : some w.heap.size ≠ (Value.slice A nn cc).ownBlock := fun e => by
      obtain ⟨_, cs, fr, hh⟩ := HR2.out.own _ e.symm
      rw [HBX.out] at hh; cases hh
    have hlt := (Array.getElem?_eq_some_iff.1 HBX.out).1
    have hb2 := (hg2.block _ hlt hne).trans HBX.out
    have hk2 : KeepsT TK wA.heap.size Wc w2 := (KeepsT.of_below HBA2.out).trans (KeepsT.grown hg2 (fun r e => (HR2.out.own r e).2) rfl)
    have hl2 : Below w.heap.size Wc w2 := (HBA2.out.mono (by omega)).grown hg2 (Nat.le_trans (by omega : w.heap.size ≤ Wc.heap.size) HBA2.out.size) (fun q hq => (HR2.out.own q hq).1)
    have hrow2 : PRow w.heap.size w2 (.slice A2 n2 c3) (pre ++ [x]) := by
      unfold PRow
      rw [List.length_append, List.flatMap_append]
      simpa using hown2
    have f2 : w2.frozen? ⟨w.heap.size, 0, none⟩ = false := by simp [World.frozen?, hb2]
    have c2 := one_cell hb2
    have HK2 := Lib.hid hk2
    have HL2 := Lib.hid hl2
    have HRW2 := Lib.hid hrow2
    have HB2 := Lib.hid hb2
    have HS2 := Lib.hid hg2.size
    clear hown2 hg2 hnil hat hne hb2 hk2 hl2 hrow2
    gi_wp2
    exact ⟨HK2.out.trans (KeepsT.set (a := ⟨w.heap.size, 0, none⟩) HB2.out rfl _), HL2.out.setCell (p := ⟨w.heap.size, 0, none⟩) (Nat.le_refl _) _, _, (show Boxed w2 w.heap.size 52 _ from HB2.out).set _,
      HRW2.out.kept (fun k cs fr _ hk => Below.heap_setCell _ _ _ k (fun e => by
        have e2 : k = w.heap.size := e
        rw [e2, HB2.out] at hk; cases hk)),
      H3.out.trans (HL2.out.setCell (p := ⟨w.heap.size, 0, none⟩) (Nat.le_refl _) _), by have := HS2.out; have := HBA2.out.size; simp only [World.size_setCell]; omega⟩
  case done =>
    rintro Dq ys Wd hD rfl ⟨v, h1, h2, h3, h4⟩ hK
    have cB := one_cell h1
    have HKD := Lib.hid hK
    have H2 := Lib.hid h2
    have HB1 := Lib.hid h1
    clear hK h1 h2
    gi_wp2
    refine ⟨by simp, .inl ⟨_, _, rfl, run_takeDeferred (w := Wd) HKD.out, ?_⟩⟩
    exact ⟨_, results_tmp rfl _ _ _, ⟨v, rfl, H2.out.kept (fun k cs fr _ hk => World.putObj_heap_other (fun e => by rw [e, HKD.out] at hk; cases hk))⟩, h3.trans (below_put _ _ (by omega))⟩
  case stop => rintro Dq c pre Wd hD _ h; cases h
theorem PRow.less {B C : Nat} {W : World} {v : Value} {l : List (Int × Int)} (h : PRow C W v l) (hB : B ≤ C) : PRow B W v l := by
  obtain ⟨hlen, ho⟩ := h
  refine ⟨hlen, ?_⟩
  rcases ho with h0 | ⟨g, cap, cur, rfl, h1, h2⟩
  · exact .inl h0
  · exact .inr ⟨g, cap, cur, rfl, Nat.le_trans hB h1, h2⟩
theorem collect_any (w : World) (p : ProgV) (Bs : Nat) (hp : RdP w.heap.size w p) (hn0 : 0 < w.heap.size) (hf : Fit p) (hmx : MxAt w) (hBs : w.heap[Bs]? = some (.cells p.arr 39 (0, 0))) :
    Calls Tryz.prog 49 #[.func (.func 83) #[] #[.pointer (some ⟨Bs, 0, none⟩)]] w fun o w' => (∃ v, o = .returned v ∧ PRow w.heap.size w' v (resP p)) ∧ Below w.heap.size w w' := by
  have H := Lib.hid (appendSeq_any w p Bs hp hn0 hf hmx hBs)
  clear hp hf hmx hBs
  go_enter Tryz.func49, Tryz.ntmps49
  go_wp2_with fail
  refine H.out.mono ?_
  rintro o w1 ⟨⟨v, rfl, hr⟩, hb⟩
  have HR := Lib.hid hr
  have HB := Lib.hid hb
  clear hr hb
  go_wp2_with fail
  go_ret
  exact ⟨⟨v, rfl, HR.out⟩, HB.out⟩
set_option maxRecDepth 100000 in
/-- Problems of a light program. -/
theorem problemsList_any (w : World) (p : ProgV) (hp : RdP w.heap.size w p) (hn0 : 0 < w.heap.size) (hf : Fit p) (hmx : MxAt w) :
    Calls Tryz.prog 19 #[.agg p.arr] w fun o w' => (∃ v, o = .returned v ∧ PRow w.heap.size w' v (resP p)) ∧ Below w.heap.size w w' := by
  have hb1 : Below w.heap.size w (w.alloc (.cells p.arr 39)) := (Below.refl _ _).alloc (Nat.le_refl _) _
  have hB := World.alloc_heap_new w (.cells p.arr 39)
  have hs1 : w.heap.size < (w.alloc (.cells p.arr 39)).heap.size := by simp
  have hLG := lightP_any _ p ((hp.below hb1).more (Nat.le_of_lt hs1)) hf.weight
  rw [decide_eq_true hf.heft, arr_val] at hLG
  have hPR := fun W => problems_any p W
  have hCL := fun (W : World) (hW : Below w.heap.size w W) (Bs : Nat) (hBs : W.heap[Bs]? = some (.cells p.arr 39 (0, 0))) => collect_any W p Bs ((hp.below hW).more hW.size) (Nat.lt_of_lt_of_le hn0 hW.size) hf (hmx.below hW hn0) hBs
  have harrs := arr_size p
  have HLG := Lib.hid hLG
  have HPR := Lib.hid hPR
  have HCL := Lib.hid hCL
  have HB := Lib.hid hB
  have HB1 := Lib.hid hb1
  clear hLG hPR hCL hB hb1 hp hf hmx hs1
  generalize p.arr = arr at *
  go_enter Tryz.func19, Tryz.ntmps19
  go_wp2_with (first | (refine wpList_load_row rfl 39 _ rfl w.heap.size rfl 39 _ (0, 0) _ HB.out Tryz.underlying39 rfl harrs ?_) | fail)
  refine HLG.out.mono ?_
  rintro o w3 ⟨rfl, hb3⟩
  have hs1 : w.heap.size < (w.alloc (.cells arr 39)).heap.size := by simp
  have HX3 := Lib.hid ((hb3.block _ hs1).trans HB.out)
  have HB3 := Lib.hid (HB1.out.trans (hb3.mono (Nat.le_of_lt hs1)))
  clear hb3 hs1 HB HB1 HLG
  go_wp2_with (first | (refine wpList_load_row rfl 39 _ rfl w.heap.size rfl 39 _ (0, 0) _ HX3.out Tryz.underlying39 rfl harrs ?_) | fail)
  refine (HPR.out _).mono ?_
  rintro o w4 ⟨rfl, rfl⟩
  have hb4 : Below w3.heap.size w3 (w3.alloc (.cells arr 39)) := (Below.refl _ _).alloc (Nat.le_refl _) _
  have HB4 := Lib.hid (HB3.out.trans (hb4.mono HB3.out.size))
  have HC4 := Lib.hid (HCL.out _ HB4.out _ (World.alloc_heap_new w3 (.cells arr 39)))
  clear hb4
  go_wp2_with fail
  refine HC4.out.mono ?_
  rintro o w5 ⟨⟨v, rfl, hr⟩, hb5⟩
  have HR5 := Lib.hid (hr.less HB4.out.size)
  have HB5 := Lib.hid (HB4.out.trans (hb5.mono HB4.out.size))
  clear hr hb5 HC4
  go_wp2_with fail
  go_ret
  exact ⟨⟨v, rfl, HR5.out⟩, HB5.out⟩
end Go.Proofs.YthcboallnbaimaaGreatDoor
namespace Go.Proofs.YthcboallnbaimaaGreatDoor
open Go Go.RowKit Go.Maps
noncomputable def opsB10 : Array Oper := ((Tryz.f7.body.bind (opsOf 10)).getD #[])
def dstB10 (i : Nat) : Nat := if i = 9 then 10 else 91 + i
theorem opsB10_ok : valsE opsB10 10 171 dstB10 = true := by kernel_rfl
def PB10 (bp b7 : Nat) (p : ProgV) (at_ : Nat) (i : Nat) (v : Value) : Prop :=
  match i with
  | 0 => v = .agg p.arr
  | 1 => v = .int .i64 (heftP p)
  | 2 => v = .pointer (some ⟨bp, 16, none⟩)
  | 3 => v = p.invariant.val
  | 4 => v = .int .i64 p.invariant.pre.length
  | 5 => v = .int .i64 ((heftP p : Int) - p.invariant.pre.length)
  | 6 => v = .pointer (some ⟨b7, 6, none⟩)
  | 7 => v = .int .i64 at_
  | _ => v = .int .i64 ((heftP p : Int) - p.invariant.pre.length + at_)
theorem run_wrap {x : Int} (h : -2000000 ≤ x ∧ x ≤ 2000000) : IntKind.i64.wrap x = x := by
  unfold IntKind.wrap
  simp [IntKind.bits, IntKind.signed]
  omega
set_option maxRecDepth 10000000 in
set_option maxHeartbeats 64000000 in
theorem places10 {a0 : Act} {w0 : World} (hsz : a0.tmps.size = 171) (hd : a0.defers = []) (bp b7 : Nat) (p : ProgV) (at_ : Nat) (hat : at_ ≤ 2) (hfit : Fit p)
    (h5 : a0.eval (.tmp 5) = .pointer (some ⟨bp, 0, none⟩)) (h7 : a0.eval (.tmp 7) = .pointer (some ⟨b7, 0, none⟩))
    (hbp : w0.heap[bp]? = some (.cells p.arr 39 (0, 0))) (hb7 : w0.cell? ⟨b7, 6, none⟩ = some (.int .i64 at_)) (hlt7 : b7 < w0.heap.size) (hp : RdP w0.heap.size w0 p) :
    (Code.region 10 opsB10 true).wp Tryz.prog (fun e a w => e = .normal ∧ a.tmps.size = 171 ∧ a.defers = [] ∧ (∀ t : Nat, t ≤ 90 → t ≠ 10 → a.eval (.tmp t) = a0.eval (.tmp t)) ∧ a.eval (.tmp 10) = .int .i64 ((heftP p : Int) - p.invariant.pre.length + at_) ∧ Below w0.heap.size w0 w) a0 w0 := by
  have hh := hfit.light
  have hlt : bp < w0.heap.size := (Array.getElem?_eq_some_iff.1 hbp).1
  have hinv : p.invariant.pre.length ≤ heftP p := by unfold heftP; omega
  have hcnt : sizedN (countP p) = heftP p := by rw [countP_of hh]; unfold sizedN; rw [if_pos (by omega)]
  have hcn2 : sizedN (cntN p.invariant.pre.length 0) = p.invariant.pre.length := by
    have e : cntN p.invariant.pre.length 0 = p.invariant.pre.length := by unfold cntN; rw [if_pos (by omega)]; omega
    rw [e]; unfold sizedN; rw [if_pos (by omega)]
  have hw1 : IntKind.i64.wrap ((heftP p : Int) - p.invariant.pre.length) = (heftP p : Int) - p.invariant.pre.length := run_wrap (by omega)
  have hw2 : IntKind.i64.wrap ((heftP p : Int) - p.invariant.pre.length + at_) = (heftP p : Int) - p.invariant.pre.length + at_ := run_wrap (by omega)
  refine wp_region_valsE (n := 10) (dst := dstB10) rfl opsB10_ok hsz (fun _ w => Below w0.heap.size w0 w) (fun _ i v _ => PB10 bp b7 p at_ i v) ?_ ((Below.refl _ _).drew) ?_
  · have e : opsB10.toList = opsB10.toList := rfl
    conv at e => rhs; arg 1; whnf
    simp only at e
    rw [e]
    clear e
    refine .cons (fun L a w hL hS hsm haft => ?_) ?_
    · have f5 : a.eval (.tmp 5) = .pointer (some ⟨bp, 0, none⟩) := (hsm 5 (by intro i hi; unfold dstB10; split <;> omega)).trans h5
      refine wp_load_row 39 (.tmp 5) rfl bp f5 39 p.arr (0, 0) _ ((hS.block bp hlt).trans hbp) Tryz.underlying39 rfl (arr_size _) ?_
      exact ⟨_, rfl, rfl, hS, fun _ _ _ _ h => h⟩
    refine .cons (fun L a w hL hS hsm haft => ?_) ?_
    · have f91 : a.tmps[91]?.getD undef = .agg p.arr := tmps_of ((haft 0 rfl).2)
      refine Oper.wp_enter (f := 27) (args := #[.agg p.arr]) (w' := w) ?_ ?_
      · simp [go_sem, f91]
      · have h := sizeP_any w p ((hp.below hS).more hS.size) hfit.weight
        rw [arr_val, hcnt] at h
        refine h.mono ?_
        rintro o w' ⟨rfl, hb⟩
        exact ⟨_, rfl, _, rfl, rfl, hS.trans (hb.mono hS.size), fun _ _ _ _ h => h⟩
    refine .cons (fun L a w hL hS hsm haft => ?_) ?_
    · have f5 : a.tmps[5]?.getD undef = .pointer (some ⟨bp, 0, none⟩) := tmps_of ((hsm 5 (by intro i hi; unfold dstB10; split <;> omega)).trans h5)
      refine Oper.wp_value (v := .pointer (some ⟨bp, 16, none⟩)) (w' := w) ?_ ?_
      · simp [go_sem, f5]
      · exact ⟨_, rfl, rfl, hS, fun _ _ _ _ h => h⟩
    refine .cons (fun L a w hL hS hsm haft => ?_) ?_
    · have f93 : a.tmps[93]?.getD undef = .pointer (some ⟨bp, 16, none⟩) := tmps_of ((haft 2 rfl).2)
      have hx := (hS.block bp hlt).trans hbp
      obtain ⟨i0, i1, i2, i3, i4, i5⟩ : w.cell? ⟨bp, 16, none⟩ = some (.int .u8 p.invariant.kind) ∧ w.cell? ⟨bp, 17, none⟩ = some (.int .u8 p.invariant.op) ∧ w.cell? ⟨bp, 18, none⟩ = some (.int .u32 p.invariant.value) ∧ w.cell? ⟨bp, 19, none⟩ = some (.int .i64 p.invariant.width) ∧ w.cell? ⟨bp, 20, none⟩ = some (.string p.invariant.name) ∧ w.cell? ⟨bp, 21, none⟩ = some (.slice p.invariant.sp.at_ p.invariant.subs.length p.invariant.sp.cap) := ⟨arr_cells hx 16 rfl, arr_cells hx 17 rfl, arr_cells hx 18 rfl, arr_cells hx 19 rfl, arr_cells hx 20 rfl, arr_cells hx 21 rfl⟩
      refine Oper.wp_value (v := p.invariant.val) (w' := w) ?_ ?_
      · simp [go_sem, f93, i0, i1, i2, i3, i4, i5, ExprV.val, Sp.val]
      · exact ⟨_, rfl, rfl, hS, fun _ _ _ _ h => h⟩
    refine .cons (fun L a w hL hS hsm haft => ?_) ?_
    · have f94 : a.tmps[94]?.getD undef = .agg #[.int .u8 p.invariant.kind, .int .u8 p.invariant.op, .int .u32 p.invariant.value, .int .i64 p.invariant.width, .string p.invariant.name, .slice p.invariant.sp.at_ p.invariant.subs.length p.invariant.sp.cap] := tmps_of ((haft 3 rfl).2)
      refine Oper.wp_enter (f := 28) (args := #[p.invariant.val]) (w' := w) ?_ ?_
      · simp [go_sem, f94, ExprV.val, Sp.val]
      · have h := sizeExpr_any w p.invariant ((hp.below hS).more hS.size).invariant
        rw [hcn2] at h
        refine h.mono ?_
        rintro o w' ⟨rfl, hb⟩
        exact ⟨_, rfl, _, rfl, rfl, hS.trans (hb.mono hS.size), fun _ _ _ _ h => h⟩
    refine .cons (fun L a w hL hS hsm haft => ?_) ?_
    · have f92 : a.tmps[92]?.getD undef = .int .i64 (heftP p) := tmps_of ((haft 1 rfl).2)
      have f95 : a.tmps[95]?.getD undef = .int .i64 p.invariant.pre.length := tmps_of ((haft 4 rfl).2)
      refine Oper.wp_value (v := .int .i64 ((heftP p : Int) - p.invariant.pre.length)) (w' := w) ?_ ?_
      · simp [go_sem, f92, f95, hw1]
      · exact ⟨_, rfl, rfl, hS, fun _ _ _ _ h => h⟩
    refine .cons (fun L a w hL hS hsm haft => ?_) ?_
    · have f7 : a.tmps[7]?.getD undef = .pointer (some ⟨b7, 0, none⟩) := tmps_of ((hsm 7 (by intro i hi; unfold dstB10; split <;> omega)).trans h7)
      refine Oper.wp_value (v := .pointer (some ⟨b7, 6, none⟩)) (w' := w) ?_ ?_
      · simp [go_sem, f7]
      · exact ⟨_, rfl, rfl, hS, fun _ _ _ _ h => h⟩
    refine .cons (fun L a w hL hS hsm haft => ?_) ?_
    · have f97 : a.tmps[97]?.getD undef = .pointer (some ⟨b7, 6, none⟩) := tmps_of ((haft 6 rfl).2)
      have hx : w.cell? ⟨b7, 6, none⟩ = _ := (hS.cell (p := ⟨b7, 6, none⟩) hlt7).trans hb7
      refine Oper.wp_value (v := .int .i64 at_) (w' := w) ?_ ?_
      · simp [go_sem, f97, hx]
      · exact ⟨_, rfl, rfl, hS, fun _ _ _ _ h => h⟩
    refine .cons (fun L a w hL hS hsm haft => ?_) ?_
    · have f96 : a.tmps[96]?.getD undef = .int .i64 ((heftP p : Int) - p.invariant.pre.length) := tmps_of ((haft 5 rfl).2)
      have f98 : a.tmps[98]?.getD undef = .int .i64 at_ := tmps_of ((haft 7 rfl).2)
      refine Oper.wp_value (v := .int .i64 ((heftP p : Int) - p.invariant.pre.length + at_)) (w' := w) ?_ ?_
      · simp [go_sem, f96, f98, hw2]
      · exact ⟨_, rfl, rfl, hS, fun _ _ _ _ h => h⟩
    refine .cons (fun L a w hL hS hsm haft => ?_) ?_
    · have f99 : a.tmps[99]?.getD undef = .int .i64 ((heftP p : Int) - p.invariant.pre.length + at_) := tmps_of ((haft 8 rfl).2)
      refine Oper.wp_value (v := .int .i64 ((heftP p : Int) - p.invariant.pre.length + at_)) (w' := w) ?_ ?_
      · simp [go_sem, f99]
      · exact ⟨_, rfl, rfl, hS, fun _ _ _ _ h => h⟩
    exact trivial
  · intro L a w hS hsza hde hsm hv
    refine ⟨rfl, hsza.trans hsz, hde.trans hd, ?_, (hv 9 (by decide)).2, hS⟩
    intro t ht ht2
    exact hsm t fun i hi => by unfold dstB10; split <;> omega
noncomputable def opsB12 : Array Oper := ((Tryz.f7.body.bind (opsOf 12)).getD #[])
def dstB12 (i : Nat) : Nat := if i = 4 then 12 else if i = 5 then 13 else 105 + i
theorem opsB12_ok : valsE opsB12 6 171 dstB12 = true := by kernel_rfl
def PB12 (q r : ProgV) (W0 : World) (i : Nat) (v : Value) (w : World) : Prop :=
  match i with
  | 0 => v = .agg q.arr
  | 1 => PRow W0.heap.size w v (resP q)
  | 2 => v = .agg r.arr
  | 3 => PRow W0.heap.size w v (resP r)
  | 4 => PRow W0.heap.size w v (resP q)
  | _ => PRow W0.heap.size w v (resP r)
theorem PB12_on {q r : ProgV} {W0 : World} {L : Nat → Bool} {i : Nat} {w w' : World} (hb : Below w.heap.size w w') (j : Nat) (u : Value) (_ : j ≠ i) (_ : L j = true) (h : PB12 q r W0 j u w) : PB12 q r W0 j u w' := by
  unfold PB12 at h ⊢
  split at h
  all_goals first
    | exact h
    | exact PRow.on h hb
set_option maxRecDepth 10000000 in
set_option maxHeartbeats 64000000 in
theorem places12 {a0 : Act} {w0 : World} (hsz : a0.tmps.size = 171) (hd : a0.defers = []) (bq br : Nat) (q r : ProgV) (hn0 : 0 < w0.heap.size) (hmx : MxAt w0)
    (h8 : a0.eval (.tmp 8) = .pointer (some ⟨bq, 0, none⟩)) (h9 : a0.eval (.tmp 9) = .pointer (some ⟨br, 0, none⟩))
    (hbq : w0.heap[bq]? = some (.cells q.arr 39 (0, 0))) (hbr : w0.heap[br]? = some (.cells r.arr 39 (0, 0))) (hq : RdP w0.heap.size w0 q) (hr : RdP w0.heap.size w0 r) (fq : Fit q) (fr : Fit r) :
    (Code.region 12 opsB12 true).wp Tryz.prog (fun e a w => e = .normal ∧ a.tmps.size = 171 ∧ a.defers = [] ∧ (∀ t : Nat, t ≤ 11 → a.eval (.tmp t) = a0.eval (.tmp t)) ∧ PRow w0.heap.size w (a.eval (.tmp 12)) (resP q) ∧ PRow w0.heap.size w (a.eval (.tmp 13)) (resP r) ∧ Below w0.heap.size w0 w) a0 w0 := by
  have hltq : bq < w0.heap.size := (Array.getElem?_eq_some_iff.1 hbq).1
  have hltr : br < w0.heap.size := (Array.getElem?_eq_some_iff.1 hbr).1
  refine wp_region_valsE (n := 6) (dst := dstB12) rfl opsB12_ok hsz (fun _ w => Below w0.heap.size w0 w) (fun _ i v w => PB12 q r w0 i v w) ?_ ((Below.refl _ _).drew) ?_
  · have e : opsB12.toList = opsB12.toList := rfl
    conv at e => rhs; arg 1; whnf
    simp only at e
    rw [e]
    clear e
    refine .cons (fun L a w hL hS hsm haft => ?_) ?_
    · have f : a.eval (.tmp 8) = .pointer (some ⟨bq, 0, none⟩) := (hsm 8 (by intro i hi; unfold dstB12; (repeat' split) <;> omega)).trans h8
      refine wp_load_row 39 (.tmp 8) rfl bq f 39 q.arr (0, 0) _ ((hS.block bq hltq).trans hbq) Tryz.underlying39 rfl (arr_size _) ?_
      exact ⟨_, rfl, rfl, hS, PB12_on (Below.refl _ _)⟩
    refine .cons (fun L a w hL hS hsm haft => ?_) ?_
    · have f105 : a.tmps[105]?.getD undef = .agg q.arr := tmps_of ((haft 0 rfl).2)
      refine Oper.wp_enter (f := 19) (args := #[.agg q.arr]) (w' := w) ?_ ?_
      · simp [go_sem, f105]
      · refine (problemsList_any w q ((hq.below hS).more hS.size) (Nat.lt_of_lt_of_le hn0 hS.size) fq (hmx.below hS hn0)).mono ?_
        rintro o w' ⟨⟨v, rfl, hv⟩, hb⟩
        exact ⟨v, rfl, v, rfl, hv.less hS.size, hS.trans (hb.mono hS.size), PB12_on hb⟩
    refine .cons (fun L a w hL hS hsm haft => ?_) ?_
    · have f : a.eval (.tmp 9) = .pointer (some ⟨br, 0, none⟩) := (hsm 9 (by intro i hi; unfold dstB12; (repeat' split) <;> omega)).trans h9
      refine wp_load_row 39 (.tmp 9) rfl br f 39 r.arr (0, 0) _ ((hS.block br hltr).trans hbr) Tryz.underlying39 rfl (arr_size _) ?_
      exact ⟨_, rfl, rfl, hS, PB12_on (Below.refl _ _)⟩
    refine .cons (fun L a w hL hS hsm haft => ?_) ?_
    · have f107 : a.tmps[107]?.getD undef = .agg r.arr := tmps_of ((haft 2 rfl).2)
      refine Oper.wp_enter (f := 19) (args := #[.agg r.arr]) (w' := w) ?_ ?_
      · simp [go_sem, f107]
      · refine (problemsList_any w r ((hr.below hS).more hS.size) (Nat.lt_of_lt_of_le hn0 hS.size) fr (hmx.below hS hn0)).mono ?_
        rintro o w' ⟨⟨v, rfl, hv⟩, hb⟩
        exact ⟨v, rfl, v, rfl, hv.less hS.size, hS.trans (hb.mono hS.size), PB12_on hb⟩
    refine .cons (fun L a w hL hS hsm haft => ?_) ?_
    · have hpr : PRow w0.heap.size w (a.eval (.tmp 106)) (resP q) := (haft 1 rfl).2
      have f : a.tmps[106]?.getD undef = a.eval (.tmp 106) := tmps_of rfl
      refine Oper.wp_value (v := a.eval (.tmp 106)) (w' := w) ?_ ?_
      · generalize a.eval (.tmp 106) = v at *
        simp [go_sem, f]
      · exact ⟨_, rfl, hpr, hS, PB12_on (Below.refl _ _)⟩
    refine .cons (fun L a w hL hS hsm haft => ?_) ?_
    · have hpr : PRow w0.heap.size w (a.eval (.tmp 108)) (resP r) := (haft 3 rfl).2
      have f : a.tmps[108]?.getD undef = a.eval (.tmp 108) := tmps_of rfl
      refine Oper.wp_value (v := a.eval (.tmp 108)) (w' := w) ?_ ?_
      · generalize a.eval (.tmp 108) = v at *
        simp [go_sem, f]
      · exact ⟨_, rfl, hpr, hS, PB12_on (Below.refl _ _)⟩
    exact trivial
  · intro L a w hS hsza hde hsm hv
    refine ⟨rfl, hsza.trans hsz, hde.trans hd, ?_, (hv 4 (by decide)).2, (hv 5 (by decide)).2, hS⟩
    intro t ht
    exact hsm t fun i hi => by
      unfold dstB12
      split
      · omega
      · split <;> omega
end Go.Proofs.YthcboallnbaimaaGreatDoor
namespace Go.Proofs.YthcboallnbaimaaGreatDoor
open Go Go.RowKit Go.Maps
theorem place_rd {n : Nat} {W : World} {p : ProgV} {s : StmtV} {cs : Sp} (h : RdP n W p) (hc : RdTs n W cs (p.recover ++ [s])) : RdP n W (placeQ p s cs) :=
  ⟨h.blocks, h.width, h.inputs, h.ghosts, h.vars, h.arrays, h.require, h.irow, h.inits, h.prow, h.procs, h.work, hc, h.invariant⟩
theorem place_rdr {n : Nat} {W : World} {p : ProgV} {s : StmtV} {cs ws : Sp} (h : RdP n W (placeQ p s cs)) (hc : RdTs n W ws (p.work ++ [s])) : RdP n W (placeR p s cs ws) :=
  ⟨h.blocks, h.width, h.inputs, h.ghosts, h.vars, h.arrays, h.require, h.irow, h.inits, h.prow, h.procs, hc, h.recover, h.invariant⟩
theorem own_rdts {B b o : Nat} {W w1 : World} {v : Value} {l : List StmtV} {s : StmtV} {sp : Sp} (hb : b < B) (hw : Below B W w1) (ho : OwnL B w1 49 6 StmtV.cells v (l ++ [s])) (hB : B ≤ W.heap.size) (hl : RdTs b W sp l) (hs : RdT b W s) (hll : l.length ≤ 100000) :
    ∃ cs : Sp, v = cs.val (l ++ [s]).length ∧ RdTs (w1.setCell ⟨b, o, none⟩ v).heap.size (w1.setCell ⟨b, o, none⟩ v) cs (l ++ [s]) := by
  have hk : OwnL B (w1.setCell ⟨b, o, none⟩ v) 49 6 StmtV.cells v (l ++ [s]) := ho.kept fun g _ _ hg _ => Below.heap_setCell _ _ _ _ (show g ≠ b by omega)
  obtain ⟨cs, e, hr, _⟩ := hk.row (fun _ => rfl) (by simp; omega)
  refine ⟨cs, e, hr, fun t ht => ?_⟩
  have hbb : Below b W (w1.setCell ⟨b, o, none⟩ v) := (hw.mono (Nat.le_of_lt hb)).setCell (p := ⟨b, o, none⟩) (Nat.le_refl _) _
  have hsz : b ≤ (w1.setCell ⟨b, o, none⟩ v).heap.size := by have := hbb.size; omega
  rcases List.mem_append.1 ht with ht | ht
  · exact ((hl.ok t ht).stays hbb).more hsz
  · rw [List.mem_singleton.1 ht]; exact (hs.stays hbb).more hsz
theorem place_q {B b : Nat} {W w1 : World} {v : Value} {p : ProgV} {s : StmtV} (hb : b < B) (hB : B ≤ W.heap.size) (hw : Below B W w1) (ho : OwnL B w1 49 6 StmtV.cells v (p.recover ++ [s])) (hp : RdP b W p) (hs : RdT b W s) (hll : p.recover.length ≤ 100000) (hx : W.heap[b]? = some (.cells p.arr 39 (0, 0))) :
    ∃ cs : Sp, (w1.setCell ⟨b, 15, none⟩ v).heap[b]? = some (.cells (placeQ p s cs).arr 39 (0, 0)) ∧ RdP (w1.setCell ⟨b, 15, none⟩ v).heap.size (w1.setCell ⟨b, 15, none⟩ v) (placeQ p s cs) ∧ Below b W (w1.setCell ⟨b, 15, none⟩ v) := by
  obtain ⟨cs, e, hr⟩ := own_rdts (o := 15) hb hw ho hB hp.recover hs hll
  have hbb : Below b W (w1.setCell ⟨b, 15, none⟩ v) := (hw.mono (Nat.le_of_lt hb)).setCell (p := ⟨b, 15, none⟩) (Nat.le_refl _) _
  have hsz : b ≤ (w1.setCell ⟨b, 15, none⟩ v).heap.size := by have := hbb.size; omega
  refine ⟨cs, ?_, place_rd ((hp.below hbb).more hsz) hr, hbb⟩
  have hx1 := (hw.block b hb).trans hx
  subst e
  simp [World.setCell, Array.getElem?_modify, hx1, ProgV.arr, ProgV.cells, placeQ, Sp.val]
theorem place_r {B b : Nat} {W w1 : World} {v : Value} {p : ProgV} {s : StmtV} {cs : Sp} (hb : b < B) (hB : B ≤ W.heap.size) (hw : Below B W w1) (ho : OwnL B w1 49 6 StmtV.cells v (p.work ++ [s])) (hp : RdP b W (placeQ p s cs)) (hs : RdT b W s) (hll : p.work.length ≤ 100000) (hx : W.heap[b]? = some (.cells (placeQ p s cs).arr 39 (0, 0))) :
    ∃ ws : Sp, (w1.setCell ⟨b, 14, none⟩ v).heap[b]? = some (.cells (placeR p s cs ws).arr 39 (0, 0)) ∧ RdP (w1.setCell ⟨b, 14, none⟩ v).heap.size (w1.setCell ⟨b, 14, none⟩ v) (placeR p s cs ws) ∧ Below b W (w1.setCell ⟨b, 14, none⟩ v) := by
  obtain ⟨ws, e, hr⟩ := own_rdts (o := 14) hb hw ho hB (show RdTs b W p.ws p.work from hp.work) hs hll
  have hbb : Below b W (w1.setCell ⟨b, 14, none⟩ v) := (hw.mono (Nat.le_of_lt hb)).setCell (p := ⟨b, 14, none⟩) (Nat.le_refl _) _
  have hsz : b ≤ (w1.setCell ⟨b, 14, none⟩ v).heap.size := by have := hbb.size; omega
  refine ⟨ws, ?_, place_rdr ((hp.below hbb).more hsz) hr, hbb⟩
  have hx1 := (hw.block b hb).trans hx
  subst e
  simp [World.setCell, Array.getElem?_modify, hx1, ProgV.arr, ProgV.cells, placeQ, placeR, Sp.val]
end Go.Proofs.YthcboallnbaimaaGreatDoor
namespace Go.Proofs.YthcboallnbaimaaGreatDoor
open Go Go.RowKit Go.Maps
theorem size_stmts (w : World) (sp : Sp) (l : List StmtV) (h : RdTs w.heap.size w sp l) (hl : heftL l ≤ 20000) : Calls Tryz.prog 29 #[.slice sp.at_ l.length sp.cap] w fun o w' => o = .returned (.int .i64 (heftL l)) ∧ Below w.heap.size w w' := by
  have h1 := sizeStmts_any w sp l h
  have e : sizedN (cntT (l.flatMap StmtV.pre) 0) = heftL l := by
    unfold heftL at hl ⊢
    rw [cntT_of _ _ (by omega)]
    unfold sizedN
    rw [if_pos (by omega)]
    omega
  rw [e] at h1
  exact h1
noncomputable def ops16 : Array Oper := ((Tryz.f7.body.bind (opsOf 16)).getD #[])
def keep16 (t : Nat) : Bool := decide (t ≤ 152) && !(t == 4)
theorem ops16_ok : stepsB ops16 19 171 keep16 = true := by kernel_rfl
set_option maxRecDepth 10000000 in
set_option maxHeartbeats 64000000 in
theorem places16 {a0 : Act} {w0 : World} (hsz : a0.tmps.size = 171) (hd : a0.defers = []) (b7 bq g2 c2 : Nat) (s : StmtV) (q : ProgV) (n1 m1 er : Int) (hn0 : 0 < w0.heap.size) (hmx : MxAt w0)
    (f7 : a0.tmps[7]?.getD undef = .pointer (some ⟨b7, 0, none⟩)) (f8 : a0.tmps[8]?.getD undef = .pointer (some ⟨bq, 0, none⟩)) (f10 : a0.tmps[10]?.getD undef = .int .i64 n1) (f13 : a0.tmps[13]?.getD undef = .slice (some ⟨g2, 0, none⟩) 2 c2)
    (r2 : w0.cell? ⟨g2, 2, none⟩ = some (.int .i64 m1)) (r3 : w0.cell? ⟨g2, 3, none⟩ = some (.int .i64 er)) (hg2 : g2 < w0.heap.size)
    (hs : ∀ r u, s.cells[r]? = some u → w0.cell? ⟨b7, r, none⟩ = some u) (h7 : w0.cell? ⟨b7, 7, none⟩ = some (.int .i64 er)) (hb7 : b7 < w0.heap.size) (hrd : RdT w0.heap.size w0 s) (hl : heftL [s] ≤ 20000) (hw : IntKind.i64.wrap (n1 + heftL [s]) = m1)
    (hbq : w0.heap[bq]? = some (.cells q.arr 39 (0, 0))) (hq : RdP w0.heap.size w0 q) (hf : Fit q) (hbad : ¬ (checkP q).2 = 0) :
    (Code.region 16 ops16 true).wp Tryz.prog (fun e a w => e = .normal ∧ a.tmps.size = 171 ∧ a.defers = [] ∧ a.eval (.tmp 4) = .bool true ∧ Below w0.heap.size w0 w) a0 w0 := by
  have hltq : bq < w0.heap.size := (Array.getElem?_eq_some_iff.1 hbq).1
  refine wp_region_steps (n := 19) (sz := 171) (keep := keep16) rfl ops16_ok hsz (fun _ w => Below w0.heap.size w0 w) (fun _ w w' => Below w.heap.size w w') ((Below.refl _ _).drew) ?_
  have e : ops16.toList = ops16.toList := rfl
  conv at e => rhs; arg 1; whnf
  simp only at e
  rw [e]
  clear e
  apply StepsS.exact rfl rfl
  · exact fun _ _ h => h
  · exact fun w => Below.refl _ w
  · rintro L a w ⟨-, hS, -, hsm, haft⟩
    have f13 : a.tmps[13]?.getD undef = _ := (hsm 13 rfl).trans f13
    simp [go_sem, f13]
    exact rfl
  apply StepsS.exact rfl rfl
  · exact fun _ _ h => h
  · exact fun w => Below.refl _ w
  · rintro L a w ⟨-, hS, -, hsm, haft⟩
    have f153 : a.tmps[153]?.getD undef = _ := tmps_of (haft.1 rfl).2
    simp [go_sem, f153]
    exact rfl
  apply StepsS.exact rfl rfl
  · exact fun _ _ h => h
  · exact fun w => Below.refl _ w
  · rintro L a w ⟨-, hS, -, hsm, haft⟩
    have f154 : a.tmps[154]?.getD undef = _ := tmps_of (haft.1 rfl).2
    have c2 : w.cell? ⟨g2, 2, none⟩ = _ := (hS.cell (p := ⟨g2, 2, none⟩) hg2).trans r2
    have c3 : w.cell? ⟨g2, 3, none⟩ = _ := (hS.cell (p := ⟨g2, 3, none⟩) hg2).trans r3
    simp [go_sem, f154, c2, c3]
    exact rfl
  apply StepsS.exact rfl rfl
  · exact fun _ _ h => h
  · exact fun w => Below.refl _ w
  · rintro L a w ⟨-, hS, -, hsm, haft⟩
    have f10 : a.tmps[10]?.getD undef = _ := (hsm 10 rfl).trans f10
    simp [go_sem, f10]
    exact rfl
  apply StepsS.exact rfl rfl
  · exact fun _ _ h => h
  · exact fun w => Below.refl _ w
  · rintro L a w ⟨-, hS, -, hsm, haft⟩
    have f7 : a.tmps[7]?.getD undef = _ := (hsm 7 rfl).trans f7
    simp [go_sem, f7]
    exact rfl
  apply StepsS.exact rfl rfl
  · exact fun _ _ h => h
  · exact fun w => Below.refl _ w
  · rintro L a w ⟨-, hS, -, hsm, haft⟩
    have f157 : a.tmps[157]?.getD undef = _ := tmps_of (haft.1 rfl).2
    obtain ⟨x0, x1, x2, x3, x4, x5⟩ : w.cell? ⟨b7, 0, none⟩ = some (.int .u8 s.kind) ∧ w.cell? ⟨b7, 1, none⟩ = some (.string s.name) ∧ w.cell? ⟨b7, 2, none⟩ = some (.slice s.es.at_ s.exprs.length s.es.cap) ∧ w.cell? ⟨b7, 3, none⟩ = some (.int .i64 s.bound) ∧ w.cell? ⟨b7, 4, none⟩ = some (.slice s.ts.at_ s.thn.length s.ts.cap) ∧ w.cell? ⟨b7, 5, none⟩ = some (.slice s.os.at_ s.els.length s.os.cap) := ⟨(hS.cell (p := ⟨b7, 0, none⟩) hb7).trans (hs 0 _ rfl), (hS.cell (p := ⟨b7, 1, none⟩) hb7).trans (hs 1 _ rfl), (hS.cell (p := ⟨b7, 2, none⟩) hb7).trans (hs 2 _ rfl), (hS.cell (p := ⟨b7, 3, none⟩) hb7).trans (hs 3 _ rfl), (hS.cell (p := ⟨b7, 4, none⟩) hb7).trans (hs 4 _ rfl), (hS.cell (p := ⟨b7, 5, none⟩) hb7).trans (hs 5 _ rfl)⟩
    simp [go_sem, f157, x0, x1, x2, x3, x4, x5]
    exact rfl
  refine StepsS.any (fun L v w => ∃ b, v = .slice (some ⟨b, 0, none⟩) 1 1 ∧ RowOf w.heap.size w ⟨some ⟨b, 0, none⟩, 1⟩ 6 StmtV.cells [s]) rfl ?_ ?_ ?_
  · exact fun i L v w w' _ hb ⟨b, e, hr⟩ => ⟨b, e, (hr.below hb).more hb.size⟩
  · rintro L a w ⟨hL, hS, hbeh, hsm, haft⟩
    have f158 : a.tmps[158]?.getD undef = _ := tmps_of (haft.1 rfl).2
    have hb : Below w.heap.size w (w.alloc (.cells s.cells.toArray 49)) := (Below.refl _ _).alloc (Nat.le_refl _) _
    refine Oper.wp_value (v := .slice (some ⟨w.heap.size, 0, none⟩) 1 1) (w' := w.alloc (.cells s.cells.toArray 49)) ?_ ?_
    · simp [go_sem, f158, StmtV.cells, Sp.val]
    · exact ⟨_, rfl, fun e => (by cases e), ⟨_, rfl, row_one (World.alloc_heap_new w _)⟩, hS.alloc hS.size _, hb⟩
  refine StepsS.any (fun L v w => v = .int .i64 (heftL [s])) rfl ?_ ?_ ?_
  · exact fun _ _ _ _ _ _ _ h => h
  · rintro L a w ⟨hL, hS, hbeh, hsm, haft⟩
    obtain ⟨b, e159, hrow⟩ := (haft.1 rfl).2
    have e159' : a.tmps[159]?.getD undef = .slice (some ⟨b, 0, none⟩) 1 1 := tmps_of e159
    refine Oper.wp_enter (f := 29) (args := #[.slice (some ⟨b, 0, none⟩) 1 1]) (w' := w) ?_ ?_
    · simp [go_sem, e159']
    · refine (size_stmts w ⟨some ⟨b, 0, none⟩, 1⟩ [s] ⟨hrow, fun s' hs' => ?_⟩ hl).mono ?_
      · obtain rfl := List.mem_singleton.1 hs'
        exact (RdT.stays hrd hS).more hS.size
      · rintro o w' ⟨rfl, hb⟩
        exact ⟨_, rfl, _, rfl, fun e => (by cases e), rfl, hS.trans (hb.mono hS.size), hb⟩
  apply StepsS.exact rfl rfl
  · exact fun _ _ h => h
  · exact fun w => Below.refl _ w
  · rintro L a w ⟨-, hS, -, hsm, haft⟩
    have f156 : a.tmps[156]?.getD undef = _ := tmps_of (haft.1 rfl).2
    have f160 : a.tmps[160]?.getD undef = _ := tmps_of (haft.2.1 rfl).2
    simp [go_sem, f156, f160, hw]
    exact rfl
  apply StepsS.exact rfl rfl
  · exact fun _ _ h => h
  · exact fun w => Below.refl _ w
  · rintro L a w ⟨-, hS, -, hsm, haft⟩
    have f7 : a.tmps[7]?.getD undef = _ := (hsm 7 rfl).trans f7
    simp [go_sem, f7]
    exact rfl
  apply StepsS.exact rfl rfl
  · exact fun _ _ h => h
  · exact fun w => Below.refl _ w
  · rintro L a w ⟨-, hS, -, hsm, haft⟩
    have f162 : a.tmps[162]?.getD undef = _ := tmps_of (haft.1 rfl).2
    have x7 : w.cell? ⟨b7, 7, none⟩ = _ := (hS.cell (p := ⟨b7, 7, none⟩) hb7).trans h7
    simp [go_sem, f162, x7]
    exact rfl
  apply StepsS.exact rfl rfl
  · exact fun _ _ h => h
  · exact fun w => Below.refl _ w
  · rintro L a w ⟨-, hS, -, hsm, haft⟩
    have f161 : a.tmps[161]?.getD undef = _ := tmps_of (haft.1 rfl).2
    have f163 : a.tmps[163]?.getD undef = _ := tmps_of (haft.2.1 rfl).2
    simp [go_sem, f161, f163]
    exact rfl
  apply StepsS.exact rfl rfl
  · exact fun _ _ h => h
  · exact fun w => Below.refl _ w
  · rintro L a w ⟨-, hS, -, hsm, haft⟩
    have f155 : a.tmps[155]?.getD undef = _ := tmps_of (haft.1 rfl).2
    have f164 : a.tmps[164]?.getD undef = _ := tmps_of (haft.2.1 rfl).2
    simp [go_sem, f155, f164]
    exact rfl
  apply StepsS.exact rfl rfl
  · exact fun _ _ h => h
  · exact fun w => Below.refl _ w
  · rintro L a w ⟨-, hS, -, hsm, haft⟩
    have f165 : a.tmps[165]?.getD undef = _ := tmps_of (haft.1 rfl).2
    simp [go_sem, f165]
    exact rfl
  apply StepsS.exactG (b := true) rfl rfl
  · exact fun _ _ h => h
  · exact fun w => Below.refl _ w
  · rintro L a w ⟨-, hS, -, hsm, haft⟩
    exact (haft.1 rfl).2
  · rintro L a w ⟨-, hS, -, hsm, haft⟩
    have f : a.eval (.tmp 8) = .pointer (some ⟨bq, 0, none⟩) := eval_of ((hsm 8 rfl).trans f8)
    exact exec_row rfl bq f 39 q.arr (0, 0) _ ((hS.block bq hltq).trans hbq) Tryz.underlying39 rfl (arr_size _)
  apply StepsS.callG (f := 18) (args := #[.agg q.arr]) (b := true) rfl rfl
  · exact fun _ w w' h hb => h.trans (hb.mono h.size)
  · exact fun w w' hb => hb
  · rintro L a w ⟨-, hS, -, hsm, haft⟩
    exact (haft.2.1 rfl).2
  · rintro L a w ⟨-, hS, -, hsm, haft⟩
    have f167 : a.tmps[167]?.getD undef = _ := tmps_of (haft.1 rfl).2
    refine ⟨?_, ?_⟩
    · simp [go_sem, f167]
    · refine (right_any w q ((hq.below hS).more hS.size) (Nat.lt_of_lt_of_le hn0 hS.size) hf.names hf.weight (hmx.below hS hn0)).mono ?_
      rintro o w' ⟨rfl, hb⟩
      refine ⟨?_, hb⟩
      rw [decide_eq_false hbad]
  apply StepsS.exactG (b := true) rfl rfl
  · exact fun _ _ h => h
  · exact fun w => Below.refl _ w
  · rintro L a w ⟨-, hS, -, hsm, haft⟩
    exact (haft.2.1 rfl).2
  · rintro L a w ⟨-, hS, -, hsm, haft⟩
    have f168 : a.tmps[168]?.getD undef = _ := tmps_of (haft.1 rfl).2
    simp [go_sem, f168]
    exact rfl
  apply StepsS.exact rfl rfl
  · exact fun _ _ h => h
  · exact fun w => Below.refl _ w
  · rintro L a w ⟨-, hS, -, hsm, haft⟩
    have f166 : a.tmps[166]?.getD undef = _ := tmps_of (haft.1 rfl).2
    have f169 : a.tmps[169]?.getD undef = _ := tmps_of (haft.2.1 rfl).2
    simp [go_sem, f166, f169]
    exact rfl
  apply StepsS.exact rfl rfl
  · exact fun _ _ h => h
  · exact fun w => Below.refl _ w
  · rintro L a w ⟨-, hS, -, hsm, haft⟩
    have f170 : a.tmps[170]?.getD undef = _ := tmps_of (haft.1 rfl).2
    simp [go_sem, f170]
    exact rfl
  rintro L a w hL ⟨hS, hsame, hv⟩
  exact ⟨rfl, hsame.1.trans hsz, hsame.2.1.trans hd, hv 18, hS⟩
end Go.Proofs.YthcboallnbaimaaGreatDoor
namespace Go.Proofs.YthcboallnbaimaaGreatDoor
open Go Go.RowKit Go.Maps
theorem row_stmt {W : World} {b : Nat} {wd : Int} {sp so : Sp} {k : Nat} {t : TypeId} {fr : Nat × Nat} (h : W.heap[b]? = some (.cells (rowC wd sp so k).toArray t fr)) : ∀ r u, (badS wd sp so k).cells[r]? = some u → W.cell? ⟨b, r, none⟩ = some u := by
  intro r u hu
  rw [cell_of_row W b r _ t fr h]
  have hr := (List.getElem?_eq_some_iff.1 hu).1
  simp only [rowC, List.getElem?_toArray, List.getElem?_append_left hr, hu]
theorem belowN {B : Nat} {a w : World} (h : Below B a w) (n : Nat) : Below B a (w.drewN n) := h.trans ⟨rfl, rfl, rfl, Nat.le_refl _, fun _ _ => rfl⟩
theorem errN_pos (k : Nat) : ¬ errN k = 0 := by
  unfold errN
  (repeat' split) <;> omega
theorem neq_prob (x y : Int) (W : World) : (binOp .neq 55 (.agg #[.int .i64 x, .int .i64 y]) (.agg #[.int .i64 x, .int .i64 y])).run Tryz.prog W = .ok (.bool false) W := by
  rw [run_neq_struct]
  simp [go_sem]
theorem wp_code {P : Program} {Q : Exit → Act → World → Prop} {a : Act} {w : World} {C C' : Code} (h : C = C') (h2 : C'.wp P Q a w) : C.wp P Q a w := by subst h; exact h2
set_option maxRecDepth 1000000 in
set_option maxHeartbeats 16000000 in
theorem checkPlaces_any (w : World) (hn0 : 0 < w.heap.size) (hmx : MxAt w) (lv : Sp) (len : Nat) (ls : List Int) (hlen : ls.length = min len 200) (hmax : len ≤ maxLen) (hcap : len ≤ lv.cap) (hcm : lv.cap ≤ maxLen) (hr : RowOf w.heap.size w lv 1 encU ls) (hb : ∀ x ∈ ls, 0 ≤ x ∧ x ≤ 255) (b : Int) (hb2 : 0 ≤ b ∧ b ≤ 255) :
    Calls Tryz.prog 7 #[.slice lv.at_ len lv.cap, .int .u8 b] w fun o w' => o = .returned (.bool true) ∧ Below w.heap.size w w' := by
  have HMX := Lib.hid hmx
  have HAW := Lib.hid (awake_any w hn0 hmx)
  have HMD := Lib.hid fun (w1 : World) (hb1 : Below w.heap.size w w1) => made_any w1 lv len ls hlen hmax hcap hcm ((hr.below hb1).more hb1.size) hb
  clear hmx hlen hmax hcap hcm hr hb
  go_enter Tryz.func7, Tryz.ntmps7
  go_wp2_with fail
  refine HAW.out.mono ?_
  clear HAW
  rintro o w1 ⟨rfl, hb1⟩
  have HB1 := Lib.hid hb1
  clear hb1
  go_wp2_with fail
  refine (HMD.out w1 HB1.out).mono ?_
  clear HMD
  rintro o w2 ⟨p, M, hasP, rfl, hmade, hstd, hnew, hb2'⟩
  have HM := Lib.hid hmade
  have HSTD := Lib.hid hstd
  have HRD := Lib.hid hnew.rd
  have HB2 := Lib.hid (HB1.out.trans (hb2'.mono HB1.out.size))
  clear hmade hstd hnew hb2' HB1
  go_upto_region 4 with (first
    | (refine wpList_allocRow (t := 39) rfl rfl (run_zeroP _) ?_)
    | (refine wpList_storeNew (t := 39) rfl _ _ rfl rfl rfl (arr_size _) rfl (arr_one _) ?_)
    | fail)
  have hbA : Below w2.heap.size w2 (w2.alloc (.cells p.arr 39)) := (Below.refl _ _).alloc (Nat.le_refl _) _
  have HX3 := Lib.hid (World.alloc_heap_new w2 (.cells p.arr 39))
  have HRD3 := Lib.hid (RdP.below HRD.out hbA)
  have HB3 := Lib.hid (HB2.out.trans (hbA.mono HB2.out.size))
  have hbp : w.heap.size ≤ w2.heap.size := HB2.out.size
  clear hbA HRD HB2
  generalize w2.alloc (.cells p.arr 39) = W3 at *
  generalize w2.heap.size = bp at *
  simp only [Act.put, List.setIfInBounds_toArray, List.set_cons_zero, List.set_cons_succ]
  have hlt3 : bp < W3.heap.size := (Array.getElem?_eq_some_iff.1 HX3.out).1
  have c1 : W3.cell? ⟨bp, 1, none⟩ = some (.int .i64 p.width) := arr_cells HX3.out 1 rfl
  have HNUM := Lib.hid (num_any 1 p.width W3)
  go_wp2_with fail
  refine HNUM.out.mono ?_
  clear HNUM c1
  rintro o w4 ⟨rfl, hb4⟩
  simp only [numE, ExprV.val, ExprV.kind, ExprV.op, ExprV.value, ExprV.width, ExprV.name, ExprV.sp, ExprV.subs, Sp.val, Sp.none, List.length_nil]
  have HX4 := Lib.hid ((hb4.block bp hlt3).trans HX3.out)
  have HRD4 := Lib.hid (HRD3.out.below (hb4.mono (Nat.le_of_lt hlt3)))
  have HB4 := Lib.hid (HB3.out.trans (hb4.mono HB3.out.size))
  clear hb4 HX3 HRD3 HB3 hlt3
  go_upto_region 5 with fail
  have hb5 : Below w4.heap.size w4 (w4.alloc (.cells #[.int .u8 1, .int .u8 0, .int .u32 1, .int .i64 p.width, .string ⟨#[]⟩, .slice none 0 0] 34)) := (Below.refl _ _).alloc (Nat.le_refl _) _
  have HN5 := Lib.hid (World.alloc_heap_new w4 (.cells #[.int .u8 1, .int .u8 0, .int .u32 1, .int .i64 p.width, .string ⟨#[]⟩, .slice none 0 0] 34))
  have hlt4 : bp < w4.heap.size := (Array.getElem?_eq_some_iff.1 HX4.out).1
  have HX5 := Lib.hid ((hb5.block bp hlt4).trans HX4.out)
  have HRD5 := Lib.hid (HRD4.out.below (hb5.mono (Nat.le_of_lt hlt4)))
  have HB5 := Lib.hid (HB4.out.trans (hb5.mono HB4.out.size))
  generalize w4.alloc (.cells #[.int .u8 1, .int .u8 0, .int .u32 1, .int .i64 p.width, .string ⟨#[]⟩, .slice none 0 0] 34) = W5 at *
  generalize w4.heap.size = b6 at *
  clear hb5 HX4 HRD4 HB4
  have hlt5 : bp < W5.heap.size := (Array.getElem?_eq_some_iff.1 HX5.out).1
  have hw := HM.out.toIsHead.width
  obtain ⟨k, hk, hmod⟩ : ∃ k : Nat, k < 12 ∧ b.tmod 12 = (k : Int) := by
    have h1 := Int.emod_nonneg b (show (12 : Int) ≠ 0 by omega)
    have h2 := Int.emod_lt_of_pos b (show (0 : Int) < 12 by omega)
    obtain ⟨i, hi⟩ := Int.eq_ofNat_of_zero_le h1
    exact ⟨i, by omega, by rw [Int.tmod_eq_emod_of_nonneg hb2.1, hi]⟩
  clear hb2
  have hwd : 1 ≤ p.width ∧ p.width ≤ 3 := by rw [hw]; exact ⟨HM.out.toIsHead.ok.1, HM.out.toIsHead.ok.2.1⟩
  refine Code.wp_mono ?_ (wp_code (C' := .region 5 ops5 true) (by kernel_rfl) (places5 rfl rfl bp b6 p.width b k hk hmod hwd rfl rfl rfl (arr_cells HX5.out 1 rfl) HN5.out hlt5))
  rintro e a9 w6 ⟨rfl, hsz9, hd9, hsm9, b7, sp, so, hlb7, e7, hx7, hn6, hb6⟩
  have e5 := hsm9 5 (by decide) (by decide)
  replace e5 : a9.eval (.tmp 5) = .pointer (some ⟨bp, 0, none⟩) := e5
  obtain ⟨F, hF, rfl⟩ := act_F171 hsz9 hd9
  have g5 : F 5 = .pointer (some ⟨bp, 0, none⟩) := (hF 5).trans e5
  have g7 : F 7 = .pointer (some ⟨b7, 0, none⟩) := (hF 7).trans e7
  rw [g5, g7]
  clear hF g5 e5 g7 e7
  have HX6 := Lib.hid ((hb6.block bp hlt5).trans HX5.out)
  have HX7 := Lib.hid hx7
  have HN6 := Lib.hid hn6
  have HRD6 := Lib.hid (HRD5.out.below (hb6.mono (Nat.le_of_lt hlt5)))
  have HB6 := Lib.hid (HB5.out.trans (hb6.mono HB5.out.size))
  have hlt6 : bp < w6.heap.size := Nat.lt_of_lt_of_le hlt5 hb6.size
  have hlt7 : b7 < w6.heap.size := (Array.getElem?_eq_some_iff.1 hx7).1
  have hbp7 : bp < b7 := by omega
  clear hx7 hn6 hb6 HX5 HN5 HRD5 HB5 hlt5 hlb7 hsz9 hd9 hsm9 hmod hlt4

  go_upto_region 7 with (first
    | (refine wpList_load_row rfl 39 _ rfl bp rfl 39 _ (0, 0) _ HX6.out Tryz.underlying39 rfl (arr_size _) ?_)
    | (refine wpList_allocRow (t := 39) rfl rfl (run_zeroP _) ?_)
    | (refine wpList_storeNew (t := 39) rfl _ _ rfl rfl rfl (arr_size _) rfl (arr_one _) ?_)
    | fail)
  have hbA : Below w6.heap.size w6 (w6.alloc (.cells p.arr 39)) := (Below.refl _ _).alloc (Nat.le_refl _) _
  have HQ8 := Lib.hid (World.alloc_heap_new w6 (.cells p.arr 39))
  have hsA : (w6.alloc (.cells p.arr 39)).heap.size = w6.heap.size + 1 := World.size_alloc _ _
  have HX8 := Lib.hid ((hbA.block bp hlt6).trans HX6.out)
  have HC8 := Lib.hid ((hbA.block b7 hlt7).trans HX7.out)
  have HRDp := Lib.hid (HRD6.out.below (hbA.mono (Nat.le_of_lt hlt6)))
  have HRDq := Lib.hid ((HRD6.out.more (Nat.le_of_lt hlt6)).below hbA)
  have HS8 := Lib.hid (show RdT w6.heap.size _ _ from RdT.stays HN6.out hbA)
  have HB8 := Lib.hid (HB6.out.trans (hbA.mono HB6.out.size))
  have hwbq : w.heap.size ≤ w6.heap.size := HB6.out.size
  clear hbA HX6 HX7 HN6 HRD6 HB6
  generalize w6.alloc (.cells p.arr 39) = W8 at *
  generalize w6.heap.size = bq at *
  have hlp8 : bp < W8.heap.size := by omega
  have hl78 : b7 < W8.heap.size := by omega
  have hlq8 : bq < W8.heap.size := by omega
  have hwl : p.work.length ≤ 100000 := by have := HM.out.workN; omega
  have hrl : p.recover.length ≤ 100000 := by have := HM.out.recoverN; omega
  refine Code.wp_mono ?_ (wp_code (C' := .region 7 ops7 true) (by kernel_rfl) (places7 rfl rfl bp b7 bq p.cs p.recover (badS p.width sp so k) rfl rfl rfl (arr_cells HX8.out 15 rfl) (HRDp.out.recover.row.more (Nat.le_of_lt hlp8)) hrl (row_stmt HC8.out) hlp8 hl78 hlq8 (arr_cells HQ8.out 15 rfl) (by simp [World.frozen?, HQ8.out])))
  rintro e a9 w9 ⟨rfl, hsz9, hd9, hsm9, v, w8, hown, hb8, rfl⟩
  have e5 : a9.eval (.tmp 5) = .pointer (some ⟨bp, 0, none⟩) := hsm9 5 (by decide)
  have e7 : a9.eval (.tmp 7) = .pointer (some ⟨b7, 0, none⟩) := hsm9 7 (by decide)
  have e8 : a9.eval (.tmp 8) = .pointer (some ⟨bq, 0, none⟩) := hsm9 8 (by decide)
  obtain ⟨G, hG, rfl⟩ := act_F171 hsz9 hd9
  have g5 : G 5 = .pointer (some ⟨bp, 0, none⟩) := (hG 5).trans e5
  have g7 : G 7 = .pointer (some ⟨b7, 0, none⟩) := (hG 7).trans e7
  have g8 : G 8 = .pointer (some ⟨bq, 0, none⟩) := (hG 8).trans e8
  rw [g5, g7, g8]
  clear hG g5 e5 g7 e7 g8 e8
  obtain ⟨cs, hxq, hrq, hbq9⟩ := place_q hlq8 (Nat.le_refl _) hb8 hown HRDq.out HS8.out hrl HQ8.out
  have HXQ := Lib.hid hxq
  have HRQ := Lib.hid hrq
  have HX9 := Lib.hid ((hbq9.block bp (by omega)).trans HX8.out)
  have HC9 := Lib.hid ((hbq9.block b7 (by omega)).trans HC8.out)
  have HRDp9 := Lib.hid (HRDp.out.below (hbq9.mono (by omega)))
  have HS9 := Lib.hid (RdT.stays HS8.out hbq9)
  have HB9 := Lib.hid (HB8.out.trans (hbq9.mono hwbq))
  have hlq9 : bq < (w8.setCell ⟨bq, 15, none⟩ v).heap.size := (Array.getElem?_eq_some_iff.1 hxq).1
  clear hxq hrq hbq9 hown hb8 HX8 HC8 HRDp HRDq HS8 HB8 HQ8 hsz9 hd9 hsm9 hsA hlp8 hl78 hlq8
  generalize w8.setCell ⟨bq, 15, none⟩ v = W9 at *
  go_upto_region 9 with (first
    | (refine wpList_load_row rfl 39 _ rfl bq rfl 39 _ (0, 0) _ HXQ.out Tryz.underlying39 rfl (arr_size _) ?_)
    | (refine wpList_allocRow (t := 39) rfl rfl (run_zeroP _) ?_)
    | (refine wpList_storeNew (t := 39) rfl _ _ rfl rfl rfl (arr_size _) rfl (arr_one _) ?_)
    | fail)
  have hbA : Below W9.heap.size W9 (W9.alloc (.cells (placeQ p (badS p.width sp so k) cs).arr 39)) := (Below.refl _ _).alloc (Nat.le_refl _) _
  have HR10 := Lib.hid (World.alloc_heap_new W9 (.cells (placeQ p (badS p.width sp so k) cs).arr 39))
  have hsA : (W9.alloc (.cells (placeQ p (badS p.width sp so k) cs).arr 39)).heap.size = W9.heap.size + 1 := World.size_alloc _ _
  have HXQ10 := Lib.hid ((hbA.block bq hlq9).trans HXQ.out)
  have HX10 := Lib.hid ((hbA.block bp (by omega)).trans HX9.out)
  have HC10 := Lib.hid ((hbA.block b7 (by omega)).trans HC9.out)
  have HRDp10 := Lib.hid (HRDp9.out.below (hbA.mono (by omega)))
  have HRQ10 := Lib.hid (HRQ.out.below hbA)
  have HS10 := Lib.hid (RdT.stays HS9.out (hbA.mono (by omega)))
  have HB10 := Lib.hid (HB9.out.trans (hbA.mono HB9.out.size))
  have hwbr : w.heap.size ≤ W9.heap.size := HB9.out.size
  clear hbA HXQ HX9 HC9 HRDp9 HRQ HS9 HB9
  generalize W9.alloc (.cells (placeQ p (badS p.width sp so k) cs).arr 39) = W10 at *
  generalize W9.heap.size = br at *
  have hlp10 : bp < W10.heap.size := by omega
  have hl710 : b7 < W10.heap.size := by omega
  have hlr10 : br < W10.heap.size := by omega
  refine Code.wp_mono ?_ (wp_code (C' := .region 9 ops9 true) (by kernel_rfl) (places9 rfl rfl bp b7 br p.ws p.work (badS p.width sp so k) rfl rfl rfl (arr_cells HX10.out 14 rfl) (HRDp10.out.work.row.more (Nat.le_of_lt hlp10)) hwl (row_stmt HC10.out) hlp10 hl710 hlr10 (arr_cells HR10.out 14 rfl) (by simp [World.frozen?, HR10.out])))
  rintro e a9 w11 ⟨rfl, hsz9, hd9, hsm9, v, w10, hown, hb10, rfl⟩
  have e5 : a9.eval (.tmp 5) = .pointer (some ⟨bp, 0, none⟩) := hsm9 5 (by decide)
  have e7 : a9.eval (.tmp 7) = .pointer (some ⟨b7, 0, none⟩) := hsm9 7 (by decide)
  have e8 : a9.eval (.tmp 8) = .pointer (some ⟨bq, 0, none⟩) := hsm9 8 (by decide)
  have e9 : a9.eval (.tmp 9) = .pointer (some ⟨br, 0, none⟩) := hsm9 9 (by decide)
  obtain ⟨H, hH, rfl⟩ := act_F171 hsz9 hd9
  have g5 : H 5 = .pointer (some ⟨bp, 0, none⟩) := (hH 5).trans e5
  have g7 : H 7 = .pointer (some ⟨b7, 0, none⟩) := (hH 7).trans e7
  have g8 : H 8 = .pointer (some ⟨bq, 0, none⟩) := (hH 8).trans e8
  have g9 : H 9 = .pointer (some ⟨br, 0, none⟩) := (hH 9).trans e9
  rw [g5, g7, g8, g9]
  clear hH g5 e5 g7 e7 g8 e8 g9 e9
  obtain ⟨ws, hxr, hrr, hbr11⟩ := place_r hlr10 (Nat.le_refl _) hb10 hown HRQ10.out (HS10.out.more (by omega)) hwl HR10.out
  have HXR := Lib.hid hxr
  have HRR := Lib.hid hrr
  have HXQ11 := Lib.hid ((hbr11.block bq hlq9).trans HXQ10.out)
  have HX11 := Lib.hid ((hbr11.block bp (by omega)).trans HX10.out)
  have HC11 := Lib.hid ((hbr11.block b7 (by omega)).trans HC10.out)
  have HP11 := Lib.hid (HRDp10.out.below (hbr11.mono (by omega)))
  have HS11 := Lib.hid (RdT.stays HS10.out (hbr11.mono (by omega)))
  have HB11 := Lib.hid (HB10.out.trans (hbr11.mono hwbr))
  have hlr11 : br < (w10.setCell ⟨br, 14, none⟩ v).heap.size := (Array.getElem?_eq_some_iff.1 hxr).1
  have HRQ11 := Lib.hid (show RdP (w10.setCell ⟨br, 14, none⟩ v).heap.size _ _ from (HRQ10.out.below hbr11).more (Nat.le_of_lt hlr11))
  clear hxr hrr hbr11 hown hb10 HXQ10 HX10 HC10 HRDp10 HRQ10 HS10 HB10 HR10 hsz9 hd9 hsm9 hsA hlp10 hl710 hlr10
  generalize w10.setCell ⟨br, 14, none⟩ v = W11 at *
  have hnm : nmOk M.N = true := by rw [HSTD.out]; decide
  have hdr : IsHead M p := HM.out.toIsHead
  have HFP := Lib.hid (made_fit HM.out hnm)
  have HFQ := Lib.hid (show Fit (placeQ p (badS p.width sp so k) cs) ∧ (checkP (placeQ p (badS p.width sp so k) cs)).2 = errN k from by rw [hw]; exact placeQ_fit HM.out HSTD.out sp so cs k)
  have HFR := Lib.hid (show Fit (placeR p (badS p.width sp so k) cs ws) ∧ checkP (placeR p (badS p.width sp so k) cs ws) = (((heftP p - p.invariant.pre.length - heftL p.recover : Nat) : Int) + atN k, errN k) from by rw [hw]; exact placeR_fit HM.out HSTD.out sp so cs ws k)
  have HEQ := Lib.hid (show resP (placeQ p (badS p.width sp so k) cs) = [(((heftP p - p.invariant.pre.length : Nat) : Int) + atN k, errN k)] from by rw [hw]; exact placeQ_res HM.out HSTD.out sp so cs k)
  have HER := Lib.hid (show resP (placeR p (badS p.width sp so k) cs ws) = [(((heftP p - p.invariant.pre.length - heftL p.recover : Nat) : Int) + atN k, errN k), (((heftP p - p.invariant.pre.length + heftL [badS p.width sp so k] : Nat) : Int) + atN k, errN k)] from by rw [hw]; exact placeR_res HM.out HSTD.out sp so cs ws k)
  have hinv : p.invariant.pre.length + heftL p.recover ≤ heftP p := by unfold heftP; omega
  have hhp : heftP p ≤ 1576 := made_heft HM.out
  have hat : atN k ≤ 2 := by unfold atN; (repeat' split) <;> omega
  have hsl : heftL [badS p.width sp so k] ≤ 3 := by rw [hw, badS_len _ _ _ _ (bad_codes hdr HSTD.out (none_look HM.out rfl) sp so k)]; exact badC_len k
  have hl7 : b7 < W11.heap.size := by omega
  have hlp : bp < W11.heap.size := by omega
  clear hdr hnm
  go_upto_region 10 with fail
  refine Code.wp_mono ?_ (wp_code (C' := .region 10 opsB10 true) (by kernel_rfl) (places10 rfl rfl bp b7 p (atN k) hat HFP.out rfl rfl HX11.out ((cell_of_row W11 b7 6 _ _ _ HC11.out).trans rfl) hl7 (HP11.out.more (Nat.le_of_lt hlp))))
  rintro e a9 w12 ⟨rfl, hsz9, hd9, hsm9, e10, hb12⟩
  have e5 : a9.eval (.tmp 5) = .pointer (some ⟨bp, 0, none⟩) := hsm9 5 (by decide) (by decide)
  have e7 : a9.eval (.tmp 7) = .pointer (some ⟨b7, 0, none⟩) := hsm9 7 (by decide) (by decide)
  have e8 : a9.eval (.tmp 8) = .pointer (some ⟨bq, 0, none⟩) := hsm9 8 (by decide) (by decide)
  have e9 : a9.eval (.tmp 9) = .pointer (some ⟨br, 0, none⟩) := hsm9 9 (by decide) (by decide)
  obtain ⟨X, hX⟩ : ∃ X : Nat, X = heftP p - p.invariant.pre.length := ⟨_, rfl⟩
  obtain ⟨Y, hY⟩ : ∃ Y : Nat, Y = heftP p - p.invariant.pre.length - heftL p.recover := ⟨_, rfl⟩
  replace e10 : a9.eval (.tmp 10) = .int .i64 ((X : Int) + atN k) := e10.trans (by congr 1; omega)
  rw [← hX] at HEQ
  rw [← hY, ← hX] at HER
  rw [← hY] at HFR
  have HXY : Hid (Y + heftL p.recover = X ∧ X ≤ 1576) := Lib.hid ⟨by omega, by omega⟩
  clear hX hY hinv hhp
  obtain ⟨I, hI, rfl⟩ := act_F171 hsz9 hd9
  have g5 : I 5 = .pointer (some ⟨bp, 0, none⟩) := (hI 5).trans e5
  have g7 : I 7 = .pointer (some ⟨b7, 0, none⟩) := (hI 7).trans e7
  have g8 : I 8 = .pointer (some ⟨bq, 0, none⟩) := (hI 8).trans e8
  have g9 : I 9 = .pointer (some ⟨br, 0, none⟩) := (hI 9).trans e9
  have g10 : I 10 = .int .i64 ((X : Int) + atN k) := (hI 10).trans e10
  rw [g5, g7, g8, g9, g10]
  clear hI g5 e5 g7 e7 g8 e8 g9 e9 g10 e10
  have HXR12 := Lib.hid ((hb12.block br hlr11).trans HXR.out)
  have HXQ12 := Lib.hid ((hb12.block bq (by omega)).trans HXQ11.out)
  have HX12 := Lib.hid ((hb12.block bp hlp).trans HX11.out)
  have HC12 := Lib.hid ((hb12.block b7 hl7).trans HC11.out)
  have HP12 := Lib.hid (HP11.out.below (hb12.mono (Nat.le_of_lt hlp)))
  have HRR12 := Lib.hid (RdP.on HRR.out hb12)
  have HRQ12 := Lib.hid (RdP.on HRQ11.out hb12)
  have HS12 := Lib.hid (RdT.stays HS11.out (hb12.mono (by omega)))
  have HB12 := Lib.hid (HB11.out.trans (hb12.mono HB11.out.size))
  have hs12 := hb12.size
  clear hb12 HXR HXQ11 HX11 HC11 HP11 HRR HRQ11 HS11 HB11 hsz9 hd9 hsm9
  have HSZ : Hid (Calls Tryz.prog 29 #[.slice p.cs.at_ p.recover.length p.cs.cap] w12 fun o w' => o = .returned (.int .i64 (heftL p.recover)) ∧ Below w12.heap.size w12 w') := Lib.hid (size_stmts w12 p.cs p.recover (HP12.out.recover.more (by omega)) (by obtain ⟨x1, x2⟩ := HXY.out; omega))
  have c15 : w12.cell? ⟨bp, 15, none⟩ = some (.slice p.cs.at_ p.recover.length p.cs.cap) := arr_cells HX12.out 15 rfl
  have hwr : IntKind.i64.wrap ((X : Int) + atN k - heftL p.recover) = (Y : Int) + atN k := by obtain ⟨x1, x2⟩ := HXY.out; rw [run_wrap (by omega)]; omega
  go_upto_region 12 with (first | (go_at_call 29; refine HSZ.out.mono ?_; rintro o w13 ⟨rfl, hb13⟩) | fail)
  have HXR13 := Lib.hid ((hb13.block br (by omega)).trans HXR12.out)
  have HXQ13 := Lib.hid ((hb13.block bq (by omega)).trans HXQ12.out)
  have HC13 := Lib.hid ((hb13.block b7 (by omega)).trans HC12.out)
  have HRR13 := Lib.hid (RdP.on HRR12.out hb13)
  have HRQ13 := Lib.hid (RdP.on HRQ12.out hb13)
  have HS13 := Lib.hid (RdT.stays HS12.out (hb13.mono (by omega)))
  have HB13 := Lib.hid (HB12.out.trans (hb13.mono HB12.out.size))
  have hs13 := hb13.size
  clear hb13 HXR12 HXQ12 HX12 HC12 HP12 HRR12 HRQ12 HS12 HB12 HSZ c15 hwr
  refine Code.wp_mono ?_ (wp_code (C' := .region 12 opsB12 true) (by kernel_rfl) (places12 rfl rfl bq br _ _ (Nat.lt_of_lt_of_le hn0 HB13.out.size) (HMX.out.below HB13.out hn0) rfl rfl HXQ13.out HXR13.out HRQ13.out HRR13.out HFQ.out.1 HFR.out.1))
  rintro e a9 w14 ⟨rfl, hsz9, hd9, hsm9, hpq, hpr, hb14⟩
  have e7 : a9.eval (.tmp 7) = .pointer (some ⟨b7, 0, none⟩) := hsm9 7 (by decide)
  have e8 : a9.eval (.tmp 8) = .pointer (some ⟨bq, 0, none⟩) := hsm9 8 (by decide)
  have e9 : a9.eval (.tmp 9) = .pointer (some ⟨br, 0, none⟩) := hsm9 9 (by decide)
  have e10 : a9.eval (.tmp 10) = .int .i64 ((X : Int) + atN k) := hsm9 10 (by decide)
  have e11 : a9.eval (.tmp 11) = .int .i64 ((Y : Int) + atN k) := hsm9 11 (by decide)
  rw [HEQ.out] at hpq
  rw [HER.out] at hpr
  obtain ⟨A1, c1, ev12⟩ := OwnL.form hpq
  obtain ⟨A2, c2, ev13⟩ := OwnL.form hpr
  have e12 : a9.eval (.tmp 12) = .slice A1 1 c1 := ev12
  have e13 : a9.eval (.tmp 13) = .slice A2 2 c2 := ev13
  rw [ev12] at hpq
  rw [ev13] at hpr
  obtain ⟨g1, rfl, -, hg1, hq0⟩ := OwnL.cell hpq (fun _ => rfl) (show 0 < 1 by omega)
  obtain ⟨g2, rfl, -, hg2, hr0⟩ := OwnL.cell hpr (fun _ => rfl) (show 0 < 2 by omega)
  obtain ⟨g2', e2', -, -, hr1⟩ := OwnL.cell hpr (fun _ => rfl) (show 1 < 2 by omega)
  obtain rfl : g2 = g2' := by cases e2'; rfl
  clear e2' hpq hpr ev12 ev13
  have HQC := Lib.hid (show w14.cell? ⟨g1, 0, none⟩ = some (.int .i64 ((X : Int) + atN k)) ∧ w14.cell? ⟨g1, 1, none⟩ = some (.int .i64 (errN k)) from ⟨hq0 0 _ rfl, hq0 1 _ rfl⟩)
  have HRC := Lib.hid (show (w14.cell? ⟨g2, 0, none⟩ = some (.int .i64 ((Y : Int) + atN k)) ∧ w14.cell? ⟨g2, 1, none⟩ = some (.int .i64 (errN k))) ∧ w14.cell? ⟨g2, 2, none⟩ = some (.int .i64 (((X + heftL [badS p.width sp so k] : Nat) : Int) + atN k)) ∧ w14.cell? ⟨g2, 3, none⟩ = some (.int .i64 (errN k)) from ⟨⟨hr0 0 _ rfl, hr0 1 _ rfl⟩, hr1 0 _ rfl, hr1 1 _ rfl⟩)
  clear hq0 hr0 hr1
  obtain ⟨J, hJ, rfl⟩ := act_F171 hsz9 hd9
  have g7 : J 7 = .pointer (some ⟨b7, 0, none⟩) := (hJ 7).trans e7
  have g8 : J 8 = .pointer (some ⟨bq, 0, none⟩) := (hJ 8).trans e8
  have g9 : J 9 = .pointer (some ⟨br, 0, none⟩) := (hJ 9).trans e9
  have g10 : J 10 = .int .i64 ((X : Int) + atN k) := (hJ 10).trans e10
  have g11 : J 11 = .int .i64 ((Y : Int) + atN k) := (hJ 11).trans e11
  have g12 : J 12 = .slice (some ⟨g1, 0, none⟩) 1 c1 := (hJ 12).trans e12
  have g13 : J 13 = .slice (some ⟨g2, 0, none⟩) 2 c2 := (hJ 13).trans e13
  rw [g7, g8, g9, g10, g11, g12, g13]
  clear hJ g7 e7 g8 e8 g9 e9 g10 e10 g11 e11 g12 e12 g13 e13
  have HXR14 := Lib.hid ((hb14.block br (by omega)).trans HXR13.out)
  have HXQ14 := Lib.hid ((hb14.block bq (by omega)).trans HXQ13.out)
  have HC14 := Lib.hid ((hb14.block b7 (by omega)).trans HC13.out)
  have HRR14 := Lib.hid (RdP.on HRR13.out hb14)
  have HRQ14 := Lib.hid (RdP.on HRQ13.out hb14)
  have HS14 := Lib.hid (RdT.stays HS13.out (hb14.mono (by omega)))
  have HB14 := Lib.hid (HB13.out.trans (hb14.mono HB13.out.size))
  have hs14 := hb14.size
  clear hb14 HXR13 HXQ13 HC13 HRR13 HRQ13 HS13 HB13 hsz9 hd9 hsm9 HEQ HER
  have hck := check_any w14 _ HRR14.out (Nat.lt_of_lt_of_le hn0 HB14.out.size) HFR.out.1.names HFR.out.1.weight (HMX.out.below HB14.out hn0)
  rw [HFR.out.2, arr_val] at hck
  have HCK := Lib.hid hck
  clear hck
  have hars := arr_size (placeR p (badS p.width sp so k) cs ws)
  clear HRR14
  generalize (placeR p (badS p.width sp so k) cs ws).arr = rar at *
  go_wp2_with (first
    | (refine wpList_load_row rfl 39 _ rfl br rfl 39 _ (0, 0) _ HXR14.out Tryz.underlying39 rfl hars ?_)
    | fail)
  refine HCK.out.mono ?_
  rintro o w15 ⟨rfl, hb15⟩
  have HXQ15 := Lib.hid ((hb15.block bq (by omega)).trans HXQ14.out)
  have HC15 := Lib.hid ((hb15.block b7 (by omega)).trans HC14.out)
  have HRQ15 := Lib.hid (RdP.on HRQ14.out hb15)
  have HS15 := Lib.hid (RdT.stays HS14.out (hb15.mono (by omega)))
  have HB15 := Lib.hid (HB14.out.trans (hb15.mono HB14.out.size))
  have hs15 := hb15.size
  obtain ⟨⟨q0, q1⟩, ⟨r0, r1⟩, r2, r3⟩ : (w15.cell? ⟨g1, 0, none⟩ = some (.int .i64 ((X : Int) + atN k)) ∧ w15.cell? ⟨g1, 1, none⟩ = some (.int .i64 (errN k))) ∧ (w15.cell? ⟨g2, 0, none⟩ = some (.int .i64 ((Y : Int) + atN k)) ∧ w15.cell? ⟨g2, 1, none⟩ = some (.int .i64 (errN k))) ∧ w15.cell? ⟨g2, 2, none⟩ = some (.int .i64 (((X + heftL [badS p.width sp so k] : Nat) : Int) + atN k)) ∧ w15.cell? ⟨g2, 3, none⟩ = some (.int .i64 (errN k)) :=
    ⟨⟨(hb15.cell (p := ⟨g1, 0, none⟩) hg1).trans HQC.out.1, (hb15.cell (p := ⟨g1, 1, none⟩) hg1).trans HQC.out.2⟩, ⟨(hb15.cell (p := ⟨g2, 0, none⟩) hg2).trans HRC.out.1.1, (hb15.cell (p := ⟨g2, 1, none⟩) hg2).trans HRC.out.1.2⟩, (hb15.cell (p := ⟨g2, 2, none⟩) hg2).trans HRC.out.2.1, (hb15.cell (p := ⟨g2, 3, none⟩) hg2).trans HRC.out.2.2⟩
  have c7 : w15.cell? ⟨b7, 7, none⟩ = some (.int .i64 (errN k)) := (cell_of_row w15 b7 7 _ _ _ HC15.out).trans rfl
  clear hb15 HXR14 HXQ14 HC14 HRQ14 HS14 HB14 HQC HRC HCK hars
  have hne := neq_prob ((X : Int) + atN k) (errN k)
  have hne2 := neq_prob ((Y : Int) + atN k) (errN k)
  have HE0 : Hid (¬ errN k = 0) := Lib.hid (errN_pos k)
  have HM1 : Hid (IntKind.i64.wrap ((X : Int) + atN k + heftL [badS p.width sp so k]) = ((X + heftL [badS p.width sp so k] : Nat) : Int) + atN k) := Lib.hid (by obtain ⟨x1, x2⟩ := HXY.out; rw [run_wrap (by omega)]; omega)
  generalize errN k = er at *
  generalize (X : Int) + atN k = n1 at *
  generalize (Y : Int) + atN k = n2 at *
  go_upto_region 14 with fail
  go_quiet (fail)
  go_upto_region 16 with fail
  have hb16 : Below w15.heap.size w15 (w15.drewN nq) := belowN (Below.refl _ _) nq
  refine Code.wp_mono ?_ (wp_code (C' := .region 16 ops16 true) (by kernel_rfl) (places16 rfl rfl b7 bq g2 c2 (badS p.width sp so k) (placeQ p (badS p.width sp so k) cs) n1 _ er (Nat.lt_of_lt_of_le hn0 HB15.out.size) (HMX.out.below (belowN HB15.out nq) hn0) rfl rfl rfl rfl r2 r3 (show g2 < w15.heap.size by omega) (row_stmt HC15.out) c7 (show b7 < w15.heap.size by omega) (RdT.more (RdT.stays HS15.out (hb16.mono (by omega))) (show bq ≤ w15.heap.size by omega)) (by omega) HM1.out HXQ15.out (RdP.on HRQ15.out hb16) HFQ.out.1 (by rw [HFQ.out.2]; exact HE0.out)))
  rintro e a9 w17 ⟨rfl, hsz9, hd9, e4, hb17⟩
  obtain ⟨U, hU, rfl⟩ := act_F171 hsz9 hd9
  have g4 : U 4 = .bool true := (hU 4).trans e4
  rw [g4]
  clear hU g4 e4 hsz9 hd9
  go_wp2_with fail
  go_ret
  exact ⟨rfl, HB15.out.trans ((hb16.trans hb17).mono HB15.out.size)⟩
end Go.Proofs.YthcboallnbaimaaGreatDoor
