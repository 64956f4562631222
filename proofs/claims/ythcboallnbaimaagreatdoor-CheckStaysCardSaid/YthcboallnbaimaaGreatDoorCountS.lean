/- tree.countStmts. -/
import Derived.Test.YthcboallnbaimaaGreatDoorCount
import Derived.Test.YthcboallnbaimaaGreatDoorStmts
namespace Go.Proofs.YthcboallnbaimaaGreatDoor
open Go Go.RowKit
attribute [local go_sem] Oper.semAt_some
/-- One statement more: itself, and its expressions. -/
def stepT (s : StmtV) (b : Int) : Int := s.exprs.foldl (fun b e => cntN e.pre.length b) (b + 1)
/-- How many nodes, with those before; up to what there may be at most, and a little more. -/
def cntT : List StmtV → Int → Int
  | [], b => b
  | s :: r, b => if stepT s b > 20000 then stepT s b else cntT r (stepT s b)
theorem cntN_le (n : Nat) (hn : 0 < n) (b : Int) (hb : 0 ≤ b) : b < cntN n b ∧ (cntN n b ≤ 20001 ∨ cntN n b = b + 1) := by
  unfold cntN
  split <;> omega
theorem fold_le (l : List ExprV) : ∀ (b : Int), 0 ≤ b → b ≤ l.foldl (fun b e => cntN e.pre.length b) b ∧ l.foldl (fun b e => cntN e.pre.length b) b ≤ max b 20001 + l.length := by
  induction l with
  | nil => intro b hb; simp; omega
  | cons e l ih =>
    intro b hb
    have h1 := cntN_le e.pre.length (pre_pos e) b hb
    have h2 := ih (cntN e.pre.length b) (by omega)
    simp only [List.foldl_cons, List.length_cons]
    omega
def accT (l : List StmtV) (b : Int) : Int := l.foldl (fun b s => stepT s b) b
theorem accT_snoc (l : List StmtV) (s : StmtV) (b : Int) : accT (l ++ [s]) b = stepT s (accT l b) := by simp [accT]
/-- No beginning of the list, but the empty one, has passed the limit. -/
def FineT (l : List StmtV) (b : Int) : Prop := ∀ p, p <+: l → p ≠ [] → accT p b ≤ 20000
theorem FineT.nil (b : Int) : FineT [] b := fun _ hp hn => absurd (List.prefix_nil.1 hp) hn
theorem FineT.snoc {l : List StmtV} {b : Int} {s : StmtV} (h : FineT l b) (hs : accT (l ++ [s]) b ≤ 20000) : FineT (l ++ [s]) b := by
  intro p hp hn
  rcases List.prefix_concat_iff.1 hp with e | e
  · rw [e]; exact hs
  · exact h p e hn
theorem cntT_app : ∀ (l r : List StmtV) (b : Int), FineT l b → cntT (l ++ r) b = cntT r (accT l b)
  | [], r, b, _ => rfl
  | s :: l, r, b, h => by
    have h1 : stepT s b ≤ 20000 := h [s] ⟨l, rfl⟩ (by simp)
    have h2 : FineT l (stepT s b) := fun p hp hn => h (s :: p) (by obtain ⟨q, hq⟩ := hp; exact ⟨q, by simp [hq]⟩) (by simp)
    rw [List.cons_append, cntT, if_neg (by omega), cntT_app l r _ h2]
    rfl
theorem stepT_pos (s : StmtV) (b : Int) (hb : 0 ≤ b) : b < stepT s b ∧ stepT s b ≤ max (b + 1) 20001 + s.exprs.length := by
  have := fold_le s.exprs (b + 1) (by omega)
  unfold stepT
  omega
theorem accT_pos (l : List StmtV) : ∀ b : Int, 0 ≤ b → b ≤ accT l b := by
  induction l with
  | nil => intro b hb; exact Int.le_refl _
  | cons s l ih =>
    intro b hb
    have h1 := stepT_pos s b hb
    have h2 := ih (stepT s b) (by omega)
    have e : accT (s :: l) b = accT l (stepT s b) := rfl
    omega
theorem rdT_pre {n₀ : Nat} {W : World} {s : StmtV} (h : RdT n₀ W s) : ∀ y ∈ s.pre, RdT n₀ W y := by
  induction h with
  | mk s k b n er ex tr th orow el ih1 ih2 =>
    intro y hy
    rw [StmtV.pre_eq] at hy
    rcases List.mem_cons.1 hy with e | hy
    · rw [e]; exact .mk s k b n er ex tr th orow el
    · rcases List.mem_append.1 hy with hy | hy
      · obtain ⟨t, ht, hy⟩ := List.mem_flatMap.1 hy; exact ih1 t ht y hy
      · obtain ⟨t, ht, hy⟩ := List.mem_flatMap.1 hy; exact ih2 t ht y hy
set_option maxRecDepth 1000000 in
set_option maxHeartbeats 4000000 in
theorem countStmts_any (w : World) (sp : Sp) (ll : List StmtV) (b : Int) (h : RdTs w.heap.size w sp ll) (hb : 0 ≤ b ∧ b ≤ 2305843009213693952) :
    Calls Tryz.prog 65 #[sp.val ll.length, .int .i64 b] w fun o w' => o = .returned (.int .i64 (cntT (ll.flatMap StmtV.pre) b)) ∧ Below w.heap.size w w' := by
  refine (callsIn_wide (n := 5)).1 ?_
  have hE := fun w' => stmts_any sp ll.length w'
  simp only [Sp.val] at hE ⊢
  have HE := Lib.hid hE
  clear hE
  refine callsIn_of_wp_marks Tryz.func65 rfl trivial ?_ rfl
  simp only [Tryz.ntmps65, List.size_toArray, List.length_cons, List.length_nil, Nat.reduceAdd, Nat.reduceSub, Array.replicate_succ, Array.replicate_zero, List.push_toArray, List.append_toArray, List.nil_append, List.cons_append]
  gi_wp2
  refine wpIn_wide.2 (wp_scope_straight (wpIn_wide (n := 5).1 ?_))
  refine wpIn_seq (wpIn_label ?_)
  gi_wp2_with (refine ⟨trivial, ?_⟩; gi_at_call 101; refine (callsIn_wide.2 (HE.out _)).mono ?_; rintro o4 w4 ⟨rfl, rfl⟩)
  have hbw : Below w.heap.size w ((w.alloc (.cells #[.int .i64 b] 3)).alloc (.cells #[.slice sp.at_ ll.length sp.cap] 37)) := ((Below.refl _ w).alloc (Nat.le_refl _) _).alloc (by simp) _
  have hB5 := World.alloc_heap_new (w.alloc (.cells #[.int .i64 b] 3)) (.cells #[.slice sp.at_ ll.length sp.cap] 37)
  rw [World.size_alloc] at hB5
  have hbx : Boxed ((w.alloc (.cells #[.int .i64 b] 3)).alloc (.cells #[.slice sp.at_ ll.length sp.cap] 37)) w.heap.size 3 (.int .i64 b) := (Boxed.new w 3 (.int .i64 b)).alloc _
  have hs3 : w.heap.size + 2 ≤ ((w.alloc (.cells #[.int .i64 b] 3)).alloc (.cells #[.slice sp.at_ ll.length sp.cap] 37)).heap.size := by simp
  generalize (w.alloc (.cells #[.int .i64 b] 3)).alloc (.cells #[.slice sp.at_ ll.length sp.cap] 37) = w3 at *
  have hmem : ∀ y ∈ ll.flatMap StmtV.pre, RdT w.heap.size w y := by
    intro y hy
    obtain ⟨s, hs, hy⟩ := List.mem_flatMap.1 hy
    exact rdT_pre (h.ok s hs) y hy
  refine wpIn_rangeFunc_net (T := TT) rfl (fun h => by cases h) (gf := 136) (lb := #[.pointer (some ⟨w.heap.size + 1, 0, none⟩)]) rfl trivial (enters_of Tryz.func136 (by kernel_rfl) rfl)
    (stmts_seq h _ w3 (w.heap.size + 1) hbw (by omega) hB5) (by omega) (Below.refl _ _) (fun _ => rfl)
    (fun pre W' => (Boxed W' w.heap.size 3 (.int .i64 (accT pre b)) ∧ Hid (FineT pre b)) ∧ Below w.heap.size w W' ∧ w3.heap.size ≤ W'.heap.size)
    (fun c pre W' => c = .exit 0 ∧ Hid (∃ p y, pre = p ++ [y] ∧ FineT p b ∧ 20000 < accT pre b) ∧ Boxed W' w.heap.size 3 (.int .i64 (accT pre b)) ∧ Below w.heap.size w W' ∧ w3.heap.size ≤ W'.heap.size)
    ?hI ?hIx ⟨⟨hbx, Lib.hid (FineT.nil b)⟩, hbw, Nat.le_refl _⟩
    (fun y a' W' => ∃ by5 v10, W'.heap[by5]? = some (.cells y.cells.toArray 49 (0, 0)) ∧ a' = { tmps := #[.slice sp.at_ ll.length sp.cap, .int .i64 b, undef, .pointer (some ⟨w.heap.size, 0, none⟩), .int .i64 0, .pointer (some ⟨by5, 0, none⟩), undef, undef, .slice sp.at_ ll.length sp.cap, .func (.func 136) #[] #[.pointer (some ⟨w.heap.size + 1, 0, none⟩)], v10, undef, undef, undef, undef, undef, undef, undef, undef, undef, undef, undef, undef, undef, undef, undef, undef], defers := [] })
    ?hAx ?assign ?body ?done ?stop
  case hI =>
    rintro s X' Y rw ⟨⟨h1, h2⟩, h4, h5⟩ hg hr
    exact ⟨⟨h1.kept hg (fun e' => by have := (hr _ e'.symm).1; omega), h2⟩, h4.grown hg (by omega) (fun q hq => by have := (hr q hq).1; omega), Nat.le_trans h5 hg.size⟩
  case hIx =>
    rintro c s X' Y rw ⟨hc, h2, h1, h4, h5⟩ hg hr
    exact ⟨hc, h2, h1.kept hg (fun e' => by have := (hr _ e'.symm).1; omega), h4.grown hg (by omega) (fun q hq => by have := (hr q hq).1; omega), Nat.le_trans h5 hg.size⟩
  case hAx =>
    rintro y a' _ X' Y rw ⟨by5, v10, h1, h2⟩ hg hr
    refine ⟨by5, v10, (hg.block by5 (Array.getElem?_eq_some_iff.1 h1).1 (fun e' => ?_)).trans h1, h2⟩
    obtain ⟨_, o', ho, hc⟩ := hr by5 e'.symm
    rw [h1] at ho
    cases ho
    cases hc
  case assign =>
    rintro l2 pre y Wc K ⟨⟨h1, h2⟩, h4, h5⟩ hK
    simp only [StmtV.val, Sp.val] at hK ⊢
    gi_wp2
    have hba : Below Wc.heap.size Wc (Wc.alloc (.cells #[.int .u8 y.kind, .string y.name, .slice y.es.at_ y.exprs.length y.es.cap, .int .i64 y.bound, .slice y.ts.at_ y.thn.length y.ts.cap, .slice y.os.at_ y.els.length y.os.cap] 49)) := (Below.refl _ Wc).alloc (Nat.le_refl _) _
    exact hK _ _ (KeepsT.of_below hba) (hba.mono (by omega)) ⟨⟨h1.alloc _, h2⟩, h4.trans (hba.mono (by omega)), by have := hba.size; omega⟩ ⟨_, _, World.alloc_heap_new _ _, rfl⟩
  case body =>
    rintro l2 pre y a' Wc hl2 ⟨⟨h1, hF⟩, h4, h5⟩ ⟨by5, v10, hby, rfl⟩ hlen hsp
    simp only [StmtV.cells, Sp.val] at hby
    obtain ⟨q0, q1, q2, q3, q4, q5⟩ := six_cells hby
    have hRT := hmem y (hsp.mem (by simp))
    have hsn := accT_snoc pre y b
    have ha0 := accT_pos pre b hb.1
    have ha1 : accT pre b ≤ 2305843009213693952 := by
      by_cases e : pre = []
      · rw [e]; exact hb.2
      · have := hF.out pre (List.prefix_refl _) e; omega
    have hsn2 : accT (pre ++ [y]) b = y.exprs.foldl (fun b e => cntN e.pre.length b) (accT pre b + 1) := hsn
    generalize hacc : accT pre b = acc at *
    have HACC := Lib.hid hacc
    have HSN := Lib.hid hsn2
    have hxs := hRT.xs
    have hfew := hxs.row.few
    clear hacc hsn hsn2 hby hmem q0 q1 q3 q4 q5
    have hc := h1.cell
    have hf := h1.frozen
    have hk1 : KeepsT TT w3.heap.size Wc (Wc.setCell ⟨w.heap.size, 0, none⟩ (.int .i64 (acc + 1))) := KeepsT.set (a := ⟨w.heap.size, 0, none⟩) h1 rfl _
    have hbb1 : Below w.heap.size Wc (Wc.setCell ⟨w.heap.size, 0, none⟩ (.int .i64 (acc + 1))) := (Below.refl _ Wc).setCell (p := ⟨w.heap.size, 0, none⟩) (Nat.le_refl _) _
    have hst1 : Boxed (Wc.setCell ⟨w.heap.size, 0, none⟩ (.int .i64 (acc + 1))) w.heap.size 3 (.int .i64 (acc + 1)) := h1.set _
    have HK1 := Lib.hid hk1
    have HBB1 := Lib.hid hbb1
    have HST1 := Lib.hid hst1
    clear hk1 hbb1 hst1
    gi_wp2
    generalize Wc.setCell ⟨w.heap.size, 0, none⟩ (.int .i64 (acc + 1)) = Wd at *
    have hsd := HK1.out.size
    gi_loopw [16] (fun i wr => ∃ k : Nat, k ≤ y.exprs.length ∧ i = .int .i64 k ∧ Boxed wr w.heap.size 3 (.int .i64 ((y.exprs.take k).foldl (fun b e => cntN e.pre.length b) (acc + 1))) ∧ Below w.heap.size Wd wr ∧ KeepsT TT w3.heap.size Wd wr) (fun i _ => y.exprs.length - (intOf i).toNat)
    case atStart => exact ⟨0, Nat.zero_le _, rfl, by simpa using HST1.out, Below.refl _ _, KeepsT.refl _ _ _⟩
    case round =>
      obtain ⟨k, hk, rfl, hbk, hbr, hkr⟩ := hrel
      have hszr := hkr.size
      by_cases hlt : k < y.exprs.length
      · obtain ⟨b0, off, eA, hbn, hcell⟩ := ((hxs.row.below h4).below (HBB1.out.trans hbr)).row (by omega)
        have hts : y.exprs.take (k + 1) = y.exprs.take k ++ [y.exprs[k]] := List.take_succ_eq_append_getElem hlt
        have k0 : wr.cell? ⟨b0, off + k * 6, none⟩ = some (.int .u8 y.exprs[k].kind) := hcell k hlt 0 _ rfl
        have k1 : wr.cell? ⟨b0, off + k * 6 + 1, none⟩ = some (.int .u8 y.exprs[k].op) := hcell k hlt 1 _ rfl
        have k2 : wr.cell? ⟨b0, off + k * 6 + 2, none⟩ = some (.int .u32 y.exprs[k].value) := hcell k hlt 2 _ rfl
        have k3 : wr.cell? ⟨b0, off + k * 6 + 3, none⟩ = some (.int .i64 y.exprs[k].width) := hcell k hlt 3 _ rfl
        have k4 : wr.cell? ⟨b0, off + k * 6 + 4, none⟩ = some (.string y.exprs[k].name) := hcell k hlt 4 _ rfl
        have k5 : wr.cell? ⟨b0, off + k * 6 + 5, none⟩ = some (.slice y.exprs[k].sp.at_ y.exprs[k].subs.length y.exprs[k].sp.cap) := hcell k hlt 5 _ rfl
        have hrx := ((hxs.ok _ (List.getElem_mem hlt)).stays h4).stays (HBB1.out.trans hbr)
        have HTS := Lib.hid hts
        generalize y.exprs[k] = x at *
        have hfl := fold_le (y.exprs.take k) (acc + 1) (by omega)
        have hfll : (y.exprs.take k).length ≤ k := List.length_take_le _ _
        generalize hcur : (y.exprs.take k).foldl (fun b e => cntN e.pre.length b) (acc + 1) = cur at *
        have HCUR := Lib.hid hcur
        have hc := hbk.cell
        have hf := hbk.frozen
        have hbx2 := hbk.alloc (.cells #[.int .u8 x.kind, .int .u8 x.op, .int .u32 x.value, .int .i64 x.width, .string x.name, .slice x.sp.at_ x.subs.length x.sp.cap] 34)
        have hba : Below wr.heap.size wr (wr.alloc (.cells #[.int .u8 x.kind, .int .u8 x.op, .int .u32 x.value, .int .i64 x.width, .string x.name, .slice x.sp.at_ x.subs.length x.sp.cap] 34)) := (Below.refl _ wr).alloc (Nat.le_refl _) _
        have hsa := hba.size
        have hrx2 := (hrx.stays (hba.mono (by omega))).more (n₁ := (wr.alloc (.cells #[.int .u8 x.kind, .int .u8 x.op, .int .u32 x.value, .int .i64 x.width, .string x.name, .slice x.sp.at_ x.subs.length x.sp.cap] 34)).heap.size) (by omega)
        have hCE := countExpr_any _ x cur hrx2 (by omega)
        simp only [ExprV.val, Sp.val] at hCE
        have HCE := Lib.hid hCE
        have HBA := Lib.hid hba
        have HBX2 := Lib.hid hbx2
        have hj0 : (0 : Int) ≤ (k : Int) := by omega
        have hj1 : (k : Int) < (y.exprs.length : Int) := by omega
        have hjm : (k : Int) + 1 ≤ 9223372036854775807 := by omega
        have hn1 : (1 : Nat) ≤ 5 - 1 - 1 := by omega
        clear hcell hts hcur hrx hrx2 hCE hba hbx2
        rw [eA]
        clear eA
        have hcA := HBX2.out.cell
        have hfA := HBX2.out.frozen
        clear hc hf
        gi_wp2
        refine ⟨trivial, ?_⟩
        refine (CallsIn.inRound l2 (callsIn_wide.2 HCE.out)).mono ?_
        rintro o4 W4 ⟨rfl, hb4⟩
        clear hcA hfA
        have hbx4 : Boxed W4 w.heap.size 3 (.int .i64 cur) := (hb4.block w.heap.size (by omega)).trans HBX2.out
        have hc4 := hbx4.cell
        have hf4 := hbx4.frozen
        have hk4 : KeepsT TT w3.heap.size Wd (W4.setCell ⟨w.heap.size, 0, none⟩ (.int .i64 (cntN x.pre.length cur))) := ((hkr.trans (KeepsT.of_below HBA.out)).trans (KeepsT.of_below hb4)).trans (KeepsT.set (a := ⟨w.heap.size, 0, none⟩) hbx4 rfl _)
        have hb5 : Below w.heap.size Wd (W4.setCell ⟨w.heap.size, 0, none⟩ (.int .i64 (cntN x.pre.length cur))) := ((hbr.trans (HBA.out.mono (by omega))).trans (hb4.mono (by omega))).setCell (p := ⟨w.heap.size, 0, none⟩) (Nat.le_refl _) _
        have hst4 : Boxed (W4.setCell ⟨w.heap.size, 0, none⟩ (.int .i64 (cntN x.pre.length cur))) w.heap.size 3 (.int .i64 ((y.exprs.take (k + 1)).foldl (fun b e => cntN e.pre.length b) (acc + 1))) := by
          rw [HTS.out, List.foldl_append, HCUR.out]
          exact hbx4.set _
        have HK4 := Lib.hid hk4
        have HB5 := Lib.hid hb5
        have HST4 := Lib.hid hst4
        clear hk4 hb5 hst4 hbx4
        gi_wp2
        go_roundw
        case rel => exact ⟨k + 1, by omega, by go_num, HST4.out, HB5.out, HK4.out⟩
        case measure => simp [intOf]; omega
      · obtain rfl : k = y.exprs.length := by omega
        rw [List.take_length, ← HSN.out] at hbk
        have hc := hbk.cell
        have HBK := Lib.hid hbk
        have hKt := HK1.out.trans hkr
        have hBt := HBB1.out.trans hbr
        by_cases hgt : 20000 < accT (pre ++ [y]) b
        · have HX : Hid (∃ p y', pre ++ [y] = p ++ [y'] ∧ FineT p b ∧ 20000 < accT (pre ++ [y]) b) := Lib.hid ⟨pre, y, rfl, hF.out, hgt⟩
          clear hbk
          gi_wp2
          exact ⟨hKt, rfl, HX, HBK.out, h4.trans hBt, Nat.le_trans h5 hKt.size⟩
        · have HX : Hid (FineT (pre ++ [y]) b) := Lib.hid (hF.out.snoc (by omega))
          clear hbk
          gi_wp2
          exact ⟨hKt, hBt, ⟨HBK.out, HX⟩, h4.trans hBt, Nat.le_trans h5 hKt.size⟩
  case done =>
    rintro Dq ys Wd hD rfl ⟨⟨h1, h2⟩, h4, h5⟩ hK
    have hc := h1.cell
    gi_wp2
    refine ⟨by simp, .inl ⟨_, _, rfl, run_takeDeferred hK, ?_⟩⟩
    have e1 : cntT (ll.flatMap StmtV.pre) b = accT (ll.flatMap StmtV.pre) b := by
      have := cntT_app (ll.flatMap StmtV.pre) [] b h2.out
      rw [List.append_nil] at this
      exact this
    exact ⟨_, results_tmp rfl _ _ _, by rw [e1]; rfl, h4.trans (below_put _ _ (by omega))⟩
  case stop =>
    rintro Dq c pre Wd hD hp ⟨rfl, h2, h1, h4, h5⟩ hK
    have hc := h1.cell
    gi_wp2
    refine ⟨by simp, .inl ⟨_, _, rfl, run_takeDeferred hK, ?_⟩⟩
    have e1 : cntT (ll.flatMap StmtV.pre) b = accT pre b := by
      obtain ⟨p, y, e, hf, hgt⟩ := h2.out
      obtain ⟨r, hr⟩ := hp
      rw [← hr, e, List.append_assoc, cntT_app p _ b hf, List.singleton_append, cntT]
      rw [e, accT_snoc] at hgt
      rw [if_pos hgt, accT_snoc]
    exact ⟨_, results_tmp rfl _ _ _, by rw [e1]; rfl, h4.trans (below_put _ _ (by omega))⟩
end Go.Proofs.YthcboallnbaimaaGreatDoor
