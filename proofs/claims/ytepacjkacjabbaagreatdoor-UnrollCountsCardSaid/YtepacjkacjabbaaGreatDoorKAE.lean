import Derived.Test.YtepacjkacjabbaaGreatDoorKAC
import Derived.Test.YtepacjkacjabbaaGreatDoorKAD
import Derived.Test.YtepacjkacjabbaaGreatDoorKAA
namespace Go.Proofs.YtepacjkacjabbaaGreatDoor
open Go Go.RowKit
attribute [local go_sem] Oper.semAt_some
def stepT (s : StmtV) (b : Int) : Int := s.exprs.foldl (fun b e => cntN e.pre.length b) (b + 1)
def cntT : List StmtV → Int → Int
 | [], b => b
 | s :: r, b => if stepT s b > 20000 then stepT s b else cntT r (stepT s b)
theorem cntN_le (n : Nat) (hn : 0 < n) (b : Int) (hb : 0 ≤ b) : b < cntN n b ∧ (cntN n b ≤ 20001 ∨ cntN n b = b + 1) := by
 unfold cntN
 split <;> omega
theorem fold_le (l : List ExprV) : ∀ (b : Int), 0 ≤ b → b ≤ l.foldl (fun b e => cntN e.pre.length b) b ∧ l.foldl (fun b e => cntN e.pre.length b) b ≤ max b 20001 + l.length := by
 induction l with
 | nil => intro b hb; simp; omega
 | cons e l ih =>
   intro b hb
   have h1 := cntN_le e.pre.length (pre_pos e) b hb
   have h2 := ih (cntN e.pre.length b) (by omega)
   simp only [List.foldl_cons, List.length_cons]
   omega
def accT (l : List StmtV) (b : Int) : Int := l.foldl (fun b s => stepT s b) b
theorem accT_snoc (l : List StmtV) (s : StmtV) (b : Int) : accT (l ++ [s]) b = stepT s (accT l b) := by simp [accT]
def FineT (l : List StmtV) (b : Int) : Prop := ∀ p, p <+: l → p ≠ [] → accT p b ≤ 20000
theorem FineT.nil (b : Int) : FineT [] b := fun _ hp hn => absurd (List.prefix_nil.1 hp) hn
theorem FineT.snoc {l : List StmtV} {b : Int} {s : StmtV} (h : FineT l b) (hs : accT (l ++ [s]) b ≤ 20000) : FineT (l ++ [s]) b := by
 intro p hp hn
 rcases List.prefix_concat_iff.1 hp with e | e
 · rw [e]; exact hs
 · exact h p e hn
theorem cntT_app : ∀ (l r : List StmtV) (b : Int), FineT l b → cntT (l ++ r) b = cntT r (accT l b)
 | [], r, b, _ => rfl
 | s :: l, r, b, h => by
   have h1 : stepT s b ≤ 20000 := h [s] ⟨l, rfl⟩ (by simp)
   have h2 : FineT l (stepT s b) := fun p hp hn => h (s :: p) (by obtain ⟨q, hq⟩ := hp; exact ⟨q, by simp [hq]⟩) (by simp)
   rw [List.cons_append, cntT, if_neg (by omega), cntT_app l r _ h2]
   rfl
theorem stepT_pos (s : StmtV) (b : Int) (hb : 0 ≤ b) : b < stepT s b ∧ stepT s b ≤ max (b + 1) 20001 + s.exprs.length := by
 have := fold_le s.exprs (b + 1) (by omega)
 unfold stepT
 omega
theorem accT_pos (l : List StmtV) : ∀ b : Int, 0 ≤ b → b ≤ accT l b := by
 induction l with
 | nil => intro b hb; exact Int.le_refl _
 | cons s l ih =>
   intro b hb
   have h1 := stepT_pos s b hb
   have h2 := ih (stepT s b) (by omega)
   have e : accT (s :: l) b = accT l (stepT s b) := rfl
   omega
theorem rdT_pre {n₀ : Nat} {W : World} {s : StmtV} (h : RdT n₀ W s) : ∀ y ∈ s.pre, RdT n₀ W y := by
 induction h with
 | mk s k b n er ex tr th orow el ih1 ih2 =>
   intro y hy
   rw [StmtV.pre_eq] at hy
   rcases List.mem_cons.1 hy with e | hy
   · rw [e]; exact .mk s k b n er ex tr th orow el
   · rcases List.mem_append.1 hy with hy | hy
     · obtain ⟨t, ht, hy⟩ := List.mem_flatMap.1 hy; exact ih1 t ht y hy
     · obtain ⟨t, ht, hy⟩ := List.mem_flatMap.1 hy; exact ih2 t ht y hy
set_option maxRecDepth 1000000 in
set_option maxHeartbeats 4000000 in
theorem countStmts_any (w : World) (sp : Sp) (ll : List StmtV) (b : Int) (h : RdTs w.heap.size w sp ll) (hb : 0 ≤ b ∧ b ≤ 2305843009213693952) :
   Calls Tryz.prog 94 #[sp.val ll.length, .int .i64 b] w fun o w' => o = .returned (.int .i64 (cntT (ll.flatMap StmtV.pre) b)) ∧ Below w.heap.size w w' := by
 refine (callsIn_wide (n := 5)).1 ?_
 have hE := fun w' => stmts_any sp ll.length w'
 simp only [Sp.val] at hE ⊢
 have HE := Lib.hid hE
 clear hE
 refine callsIn_of_wp_marks Tryz.func94 rfl trivial ?_ rfl
 simp only [Tryz.ntmps94, List.size_toArray, List.length_cons, List.length_nil, Nat.reduceAdd, Nat.reduceSub, Array.replicate_succ, Array.replicate_zero, List.push_toArray, List.append_toArray, List.nil_append, List.cons_append]
 gi_wp2
 refine wpIn_wide.2 (wp_scope_straight (wpIn_wide (n := 5).1 ?_))
 refine wpIn_seq (wpIn_label ?_)
 gi_wp2_with (refine ⟨trivial, ?_⟩; gi_at_call 109; refine (callsIn_wide.2 (HE.out _)).mono ?_; rintro o4 w4 ⟨rfl, rfl⟩)
 have hbw : Below w.heap.size w ((w.alloc (.cells #[.int .i64 b] 3)).alloc (.cells #[.slice sp.at_ ll.length sp.cap] 33)) := ((Below.refl _ w).alloc (Nat.le_refl _) _).alloc (by simp) _
 have hB5 := World.alloc_heap_new (w.alloc (.cells #[.int .i64 b] 3)) (.cells #[.slice sp.at_ ll.length sp.cap] 33)
 rw [World.size_alloc] at hB5
 have hbx : Boxed ((w.alloc (.cells #[.int .i64 b] 3)).alloc (.cells #[.slice sp.at_ ll.length sp.cap] 33)) w.heap.size 3 (.int .i64 b) := (Boxed.new w 3 (.int .i64 b)).alloc _
 have hs3 : w.heap.size + 2 ≤ ((w.alloc (.cells #[.int .i64 b] 3)).alloc (.cells #[.slice sp.at_ ll.length sp.cap] 33)).heap.size := by simp
 generalize (w.alloc (.cells #[.int .i64 b] 3)).alloc (.cells #[.slice sp.at_ ll.length sp.cap] 33) = w3 at *
 have hmem : ∀ y ∈ ll.flatMap StmtV.pre, RdT w.heap.size w y := by
   intro y hy
   obtain ⟨s, hs, hy⟩ := List.mem_flatMap.1 hy
   exact rdT_pre (h.ok s hs) y hy
 refine wpIn_rangeFunc_net (T := TT) rfl (fun h => by cases h) (gf := 169) (lb := #[.pointer (some ⟨w.heap.size + 1, 0, none⟩)]) rfl trivial (enters_of Tryz.func169 (by kernel_rfl) rfl)
   (stmts_seq h _ w3 (w.heap.size + 1) hbw (by omega) hB5) (by omega) (Below.refl _ _) (fun _ => rfl)
   (fun pre W' => (Boxed W' w.heap.size 3 (.int .i64 (accT pre b)) ∧ Hid (FineT pre b)) ∧ Below w.heap.size w W' ∧ w3.heap.size ≤ W'.heap.size)
   (fun c pre W' => c = .exit 0 ∧ Hid (∃ p y, pre = p ++ [y] ∧ FineT p b ∧ 20000 < accT pre b) ∧ Boxed W' w.heap.size 3 (.int .i64 (accT pre b)) ∧ Below w.heap.size w W' ∧ w3.heap.size ≤ W'.heap.size)
   ?hI ?hIx ⟨⟨hbx, Lib.hid (FineT.nil b)⟩, hbw, Nat.le_refl _⟩
   (fun y a' W' => ∃ by5 v10, W'.heap[by5]? = some (.cells y.cells.toArray 43 (0, 0)) ∧ a' = { tmps := #[.slice sp.at_ ll.length sp.cap, .int .i64 b, undef, .pointer (some ⟨w.heap.size, 0, none⟩), .int .i64 0, .pointer (some ⟨by5, 0, none⟩), undef, undef, .slice sp.at_ ll.length sp.cap, .func (.func 169) #[] #[.pointer (some ⟨w.heap.size + 1, 0, none⟩)], v10, undef, undef, undef, undef, undef, undef, undef, undef, undef, undef, undef, undef, undef, undef, undef, undef], defers := [] })
   ?hAx ?assign ?body ?done ?stop
 case hI =>
   rintro s X' Y rw ⟨⟨h1, h2⟩, h4, h5⟩ hg hr
   exact ⟨⟨h1.kept hg (fun e' => by have := (hr _ e'.symm).1; omega), h2⟩, h4.grown hg (by omega) (fun q hq => by have := (hr q hq).1; omega), Nat.le_trans h5 hg.size⟩
 case hIx =>
   rintro c s X' Y rw ⟨hc, h2, h1, h4, h5⟩ hg hr
   exact ⟨hc, h2, h1.kept hg (fun e' => by have := (hr _ e'.symm).1; omega), h4.grown hg (by omega) (fun q hq => by have := (hr q hq).1; omega), Nat.le_trans h5 hg.size⟩
 case hAx =>
   rintro y a' _ X' Y rw ⟨by5, v10, h1, h2⟩ hg hr
   refine ⟨by5, v10, (hg.block by5 (Array.getElem?_eq_some_iff.1 h1).1 (fun e' => ?_)).trans h1, h2⟩
   obtain ⟨_, o', ho, hc⟩ := hr by5 e'.symm
   rw [h1] at ho
   cases ho
   cases hc
 case assign =>
   rintro l2 pre y Wc K ⟨⟨h1, h2⟩, h4, h5⟩ hK
   simp only [StmtV.val, Sp.val] at hK ⊢
   gi_wp2
   have hba : Below Wc.heap.size Wc (Wc.alloc (.cells #[.int .u8 y.kind, .string y.name, .slice y.es.at_ y.exprs.length y.es.cap, .int .i64 y.bound, .slice y.ts.at_ y.thn.length y.ts.cap, .slice y.os.at_ y.els.length y.os.cap] 43)) := (Below.refl _ Wc).alloc (Nat.le_refl _) _
   exact hK _ _ (KeepsT.of_below hba) (hba.mono (by omega)) ⟨⟨h1.alloc _, h2⟩, h4.trans (hba.mono (by omega)), by have := hba.size; omega⟩ ⟨_, _, World.alloc_heap_new _ _, rfl⟩
 case body =>
   rintro l2 pre y a' Wc hl2 ⟨⟨h1, hF⟩, h4, h5⟩ ⟨by5, v10, hby, rfl⟩ hlen hsp
   simp only [StmtV.cells, Sp.val] at hby
   obtain ⟨q0, q1, q2, q3, q4, q5⟩ := six_cells hby
   have hRT := hmem y (hsp.mem (by simp))
   have hsn := accT_snoc pre y b
   have ha0 := accT_pos pre b hb.1
   have ha1 : accT pre b ≤ 2305843009213693952 := by
     by_cases e : pre = []
     · rw [e]; exact hb.2
     · have := hF.out pre (List.prefix_refl _) e; omega
   have hsn2 : accT (pre ++ [y]) b = y.exprs.foldl (fun b e => cntN e.pre.length b) (accT pre b + 1) := hsn
   generalize hacc : accT pre b = acc at *
   have HACC := Lib.hid hacc
   have HSN := Lib.hid hsn2
   have hxs := hRT.xs
   have hfew := hxs.row.few
   clear hacc hsn hsn2 hby hmem q0 q1 q3 q4 q5
   have hc := h1.cell
   have hf := h1.frozen
   have hk1 : KeepsT TT w3.heap.size Wc (Wc.setCell ⟨w.heap.size, 0, none⟩ (.int .i64 (acc + 1))) := KeepsT.set (a := ⟨w.heap.size, 0, none⟩) h1 rfl _
   have hbb1 : Below w.heap.size Wc (Wc.setCell ⟨w.heap.size, 0, none⟩ (.int .i64 (acc + 1))) := (Below.refl _ Wc).setCell (p := ⟨w.heap.size, 0, none⟩) (Nat.le_refl _) _
   have hst1 : Boxed (Wc.setCell ⟨w.heap.size, 0, none⟩ (.int .i64 (acc + 1))) w.heap.size 3 (.int .i64 (acc + 1)) := h1.set _
   have HK1 := Lib.hid hk1
   have HBB1 := Lib.hid hbb1
   have HST1 := Lib.hid hst1
   clear hk1 hbb1 hst1
   gi_wp2
   generalize Wc.setCell ⟨w.heap.size, 0, none⟩ (.int .i64 (acc + 1)) = Wd at *
   have hsd := HK1.out.size
   gi_loopw [16] (fun i wr => ∃ k : Nat, k ≤ y.exprs.length ∧ i = .int .i64 k ∧ Boxed wr w.heap.size 3 (.int .i64 ((y.exprs.take k).foldl (fun b e => cntN e.pre.length b) (acc + 1))) ∧ Below w.heap.size Wd wr ∧ KeepsT TT w3.heap.size Wd wr) (fun i _ => y.exprs.length - (intOf i).toNat)
   case atStart => exact ⟨0, Nat.zero_le _, rfl, by simpa using HST1.out, Below.refl _ _, KeepsT.refl _ _ _⟩
   case round =>
     obtain ⟨k, hk, rfl, hbk, hbr, hkr⟩ := hrel
     have hszr := hkr.size
     by_cases hlt : k < y.exprs.length
     · obtain ⟨b0, off, eA, hbn, hcell⟩ := ((hxs.row.below h4).below (HBB1.out.trans hbr)).row (by omega)
       have hts : y.exprs.take (k + 1) = y.exprs.take k ++ [y.exprs[k]] := List.take_succ_eq_append_getElem hlt
       have k0 : wr.cell? ⟨b0, off + k * 6, none⟩ = some (.int .u8 y.exprs[k].kind) := hcell k hlt 0 _ rfl
       have k1 : wr.cell? ⟨b0, off + k * 6 + 1, none⟩ = some (.int .u8 y.exprs[k].op) := hcell k hlt 1 _ rfl
       have k2 : wr.cell? ⟨b0, off + k * 6 + 2, none⟩ = some (.int .u32 y.exprs[k].value) := hcell k hlt 2 _ rfl
       have k3 : wr.cell? ⟨b0, off + k * 6 + 3, none⟩ = some (.int .i64 y.exprs[k].width) := hcell k hlt 3 _ rfl
       have k4 : wr.cell? ⟨b0, off + k * 6 + 4, none⟩ = some (.string y.exprs[k].name) := hcell k hlt 4 _ rfl
       have k5 : wr.cell? ⟨b0, off + k * 6 + 5, none⟩ = some (.slice y.exprs[k].sp.at_ y.exprs[k].subs.length y.exprs[k].sp.cap) := hcell k hlt 5 _ rfl
       have hrx := ((hxs.ok _ (List.getElem_mem hlt)).stays h4).stays (HBB1.out.trans hbr)
       have HTS := Lib.hid hts
       generalize y.exprs[k] = x at *
       have hfl := fold_le (y.exprs.take k) (acc + 1) (by omega)
       have hfll : (y.exprs.take k).length ≤ k := List.length_take_le _ _
       generalize hcur : (y.exprs.take k).foldl (fun b e => cntN e.pre.length b) (acc + 1) = cur at *
       have HCUR := Lib.hid hcur
       have hc := hbk.cell
       have hf := hbk.frozen
       have hbx2 := hbk.alloc (.cells #[.int .u8 x.kind, .int .u8 x.op, .int .u32 x.value, .int .i64 x.width, .string x.name, .slice x.sp.at_ x.subs.length x.sp.cap] 30)
       have hba : Below wr.heap.size wr (wr.alloc (.cells #[.int .u8 x.kind, .int .u8 x.op, .int .u32 x.value, .int .i64 x.width, .string x.name, .slice x.sp.at_ x.subs.length x.sp.cap] 30)) := (Below.refl _ wr).alloc (Nat.le_refl _) _
       have hsa := hba.size
       have hrx2 := (hrx.stays (hba.mono (by omega))).more (n₁ := (wr.alloc (.cells #[.int .u8 x.kind, .int .u8 x.op, .int .u32 x.value, .int .i64 x.width, .string x.name, .slice x.sp.at_ x.subs.length x.sp.cap] 30)).heap.size) (by omega)
       have hCE := countExpr_any _ x cur hrx2 (by omega)
       simp only [ExprV.val, Sp.val] at hCE
       have HCE := Lib.hid hCE
       have HBA := Lib.hid hba
       have HBX2 := Lib.hid hbx2
       have hj0 : (0 : Int) ≤ (k : Int) := by omega
       have hj1 : (k : Int) < (y.exprs.length : Int) := by omega
       have hjm : (k : Int) + 1 ≤ 9223372036854775807 := by omega
       have hn1 : (1 : Nat) ≤ 5 - 1 - 1 := by omega
       clear hcell hts hcur hrx hrx2 hCE hba hbx2
       rw [eA]
       clear eA
       have hcA := HBX2.out.cell
       have hfA := HBX2.out.frozen
       clear hc hf
       gi_wp2
       refine ⟨trivial, ?_⟩
       refine (CallsIn.inRound l2 (callsIn_wide.2 HCE.out)).mono ?_
       rintro o4 W4 ⟨rfl, hb4⟩
       clear hcA hfA
       have hbx4 : Boxed W4 w.heap.size 3 (.int .i64 cur) := (hb4.block w.heap.size (by omega)).trans HBX2.out
       have hc4 := hbx4.cell
       have hf4 := hbx4.frozen
       have hk4 : KeepsT TT w3.heap.size Wd (W4.setCell ⟨w.heap.size, 0, none⟩ (.int .i64 (cntN x.pre.length cur))) := ((hkr.trans (KeepsT.of_below HBA.out)).trans (KeepsT.of_below hb4)).trans (KeepsT.set (a := ⟨w.heap.size, 0, none⟩) hbx4 rfl _)
       have hb5 : Below w.heap.size Wd (W4.setCell ⟨w.heap.size, 0, none⟩ (.int .i64 (cntN x.pre.length cur))) := ((hbr.trans (HBA.out.mono (by omega))).trans (hb4.mono (by omega))).setCell (p := ⟨w.heap.size, 0, none⟩) (Nat.le_refl _) _
       have hst4 : Boxed (W4.setCell ⟨w.heap.size, 0, none⟩ (.int .i64 (cntN x.pre.length cur))) w.heap.size 3 (.int .i64 ((y.exprs.take (k + 1)).foldl (fun b e => cntN e.pre.length b) (acc + 1))) := by
         rw [HTS.out, List.foldl_append, HCUR.out]
         exact hbx4.set _
       have HK4 := Lib.hid hk4
       have HB5 := Lib.hid hb5
       have HST4 := Lib.hid hst4
       clear hk4 hb5 hst4 hbx4
       gi_wp2
       go_roundw
       case rel => exact ⟨k + 1, by omega, by go_num, HST4.out, HB5.out, HK4.out⟩
       case measure => simp [intOf]; omega
     · obtain rfl : k = y.exprs.length := by omega
       rw [List.take_length, ← HSN.out] at hbk
       have hc := hbk.cell
       have HBK := Lib.hid hbk
       have hKt := HK1.out.trans hkr
       have hBt := HBB1.out.trans hbr
       by_cases hgt : 20000 < accT (pre ++ [y]) b
       · have HX : Hid (∃ p y', pre ++ [y] = p ++ [y'] ∧ FineT p b ∧ 20000 < accT (pre ++ [y]) b) := Lib.hid ⟨pre, y, rfl, hF.out, hgt⟩
         clear hbk
         gi_wp2
         exact ⟨hKt, rfl, HX, HBK.out, h4.trans hBt, Nat.le_trans h5 hKt.size⟩
       · have HX : Hid (FineT (pre ++ [y]) b) := Lib.hid (hF.out.snoc (by omega))
         clear hbk
         gi_wp2
         exact ⟨hKt, hBt, ⟨HBK.out, HX⟩, h4.trans hBt, Nat.le_trans h5 hKt.size⟩
 case done =>
   rintro Dq ys Wd hD rfl ⟨⟨h1, h2⟩, h4, h5⟩ hK
   have hc := h1.cell
   gi_wp2
   refine ⟨by simp, .inl ⟨_, _, rfl, run_takeDeferred hK, ?_⟩⟩
   have e1 : cntT (ll.flatMap StmtV.pre) b = accT (ll.flatMap StmtV.pre) b := by
     have := cntT_app (ll.flatMap StmtV.pre) [] b h2.out
     rw [List.append_nil] at this
     exact this
   exact ⟨_, results_tmp rfl _ _ _, by rw [e1]; rfl, h4.trans (below_put _ _ (by omega))⟩
 case stop =>
   rintro Dq c pre Wd hD hp ⟨rfl, h2, h1, h4, h5⟩ hK
   have hc := h1.cell
   gi_wp2
   refine ⟨by simp, .inl ⟨_, _, rfl, run_takeDeferred hK, ?_⟩⟩
   have e1 : cntT (ll.flatMap StmtV.pre) b = accT pre b := by
     obtain ⟨p, y, e, hf, hgt⟩ := h2.out
     obtain ⟨r, hr⟩ := hp
     rw [← hr, e, List.append_assoc, cntT_app p _ b hf, List.singleton_append, cntT]
     rw [e, accT_snoc] at hgt
     rw [if_pos hgt, accT_snoc]
   exact ⟨_, results_tmp rfl _ _ _, by rw [e1]; rfl, h4.trans (below_put _ _ (by omega))⟩
end Go.Proofs.YtepacjkacjabbaaGreatDoor
namespace Go.Proofs.YtepacjkacjabbaaGreatDoor
open Go Go.RowKit
theorem light_any (n : Int) (w : World) : Calls Tryz.prog 85 #[.int .i64 n] w fun o w' => o = .returned (.bool (decide (n ≤ 20000))) ∧ w = w' := by
 go_enter Tryz.func85, Tryz.ntmps85
 go_wp2
 go_ret
 exact ⟨rfl, rfl⟩
def sizedN (n : Int) : Int := if n ≤ 20000 then n else 0
theorem sized_any (n : Int) (w : World) : Calls Tryz.prog 110 #[.int .i64 n] w fun o w' => o = .returned (.int .i64 (sizedN n)) ∧ w = w' := by
 by_cases h : n ≤ 20000
 · have hd : decide (n ≤ 20000) = true := decide_eq_true h
   have hL := light_any n w
   rw [hd] at hL
   have e : sizedN n = n := if_pos h
   have HL := Lib.hid hL
   clear hL
   go_enter Tryz.func110, Tryz.ntmps110
   go_wp2_with fail
   refine HL.out.mono ?_
   rintro o w1 ⟨rfl, rfl⟩
   go_wp2_with fail
   go_ret
   exact ⟨by rw [e]; rfl, rfl⟩
 · have hd : decide (n ≤ 20000) = false := decide_eq_false h
   have hL := light_any n w
   rw [hd] at hL
   have e : sizedN n = 0 := if_neg h
   have HL := Lib.hid hL
   clear hL
   go_enter Tryz.func110, Tryz.ntmps110
   go_wp2_with fail
   refine HL.out.mono ?_
   rintro o w1 ⟨rfl, rfl⟩
   go_wp2_with fail
   go_ret
   exact ⟨by rw [e]; rfl, rfl⟩
set_option maxRecDepth 1000000 in
theorem sizeExpr_any (w : World) (e : ExprV) (h : RdX w.heap.size w e) :
   Calls Tryz.prog 163 #[e.val] w fun o w' => o = .returned (.int .i64 (sizedN (cntN e.pre.length 0))) ∧ Below w.heap.size w w' := by
 have hb := fun v => (Below.refl _ w).alloc (Nat.le_refl _) (.cells v 30)
 have hC := countExpr_any (w.alloc (.cells #[.int .u8 e.kind, .int .u8 e.op, .int .u32 e.value, .int .i64 e.width, .string e.name, .slice e.sp.at_ e.subs.length e.sp.cap] 30)) e 0 ((h.stays (hb _)).more (by simp)) (by omega)
 simp only [ExprV.val, Sp.val] at hC ⊢
 have HC := Lib.hid hC
 have HB := Lib.hid (hb #[.int .u8 e.kind, .int .u8 e.op, .int .u32 e.value, .int .i64 e.width, .string e.name, .slice e.sp.at_ e.subs.length e.sp.cap])
 clear hC hb
 go_enter Tryz.func163, Tryz.ntmps163
 go_wp2_with fail
 refine HC.out.mono ?_
 rintro o w1 ⟨rfl, hb1⟩
 go_wp2_with fail
 refine (sized_any _ _).mono ?_
 rintro o w2 ⟨rfl, rfl⟩
 go_wp2_with fail
 go_ret
 exact ⟨rfl, HB.out.trans (hb1.mono HB.out.size)⟩
set_option maxRecDepth 1000000 in
theorem sizeStmts_any (w : World) (sp : Sp) (ll : List StmtV) (h : RdTs w.heap.size w sp ll) :
   Calls Tryz.prog 164 #[sp.val ll.length] w fun o w' => o = .returned (.int .i64 (sizedN (cntT (ll.flatMap StmtV.pre) 0))) ∧ Below w.heap.size w w' := by
 have hC := countStmts_any w sp ll 0 h (by omega)
 simp only [Sp.val] at hC ⊢
 have HC := Lib.hid hC
 clear hC
 go_enter Tryz.func164, Tryz.ntmps164
 go_wp2_with fail
 refine HC.out.mono ?_
 rintro o w1 ⟨rfl, hb1⟩
 go_wp2_with fail
 refine (sized_any _ _).mono ?_
 rintro o w2 ⟨rfl, rfl⟩
 go_wp2_with fail
 go_ret
 exact ⟨rfl, hb1⟩
end Go.Proofs.YtepacjkacjabbaaGreatDoor
namespace Go.Proofs.YtepacjkacjabbaaGreatDoor
open Go
def wideW (n : Int) : Bool := decide (1 ≤ n ∧ n ≤ 16)
def differW (a b : Int) : Bool := wideW a && wideW b && decide (a ≠ b)
def mostW (n : Int) : Int := if wideW n then 2 ^ n.toNat - 1 else 0
def mostE (n : Int) : Int := if wideW n then 0 else 220
def opOk (op : Int) : Bool := decide (1 ≤ op ∧ op ≤ 16)
def opTwo (op : Int) : Bool := decide (3 ≤ op ∧ op ≤ 16)
def opTruth (op : Int) : Bool := decide (13 ≤ op ∧ op ≤ 16)
def opWidth (op w : Int) : Int := if opOk op = true then (if wideW w = true then (if opTruth op = true then 1 else w) else 0) else 0
structure Thing where
 kind : Int
 width : Int
deriving DecidableEq
def look {α : Type} (T : List (ByteArray × α)) (s : ByteArray) : Option α := (T.find? fun x => decide (x.1 = s)).map (·.2)
def thingsP (p : ProgV) : List (ByteArray × Thing) :=
 p.inputs.map (fun d => (d.name, ⟨1, d.width⟩)) ++ p.ghosts.map (fun d => (d.name, ⟨2, d.width⟩)) ++ p.vars.map (fun d => (d.name, ⟨3, d.width⟩)) ++ p.arrays.map (fun d => (d.name, ⟨4, d.width⟩))
def paramsP (q : ProcV) : List (ByteArray × Thing) := q.params.map (fun d => (d.name, ⟨5, d.width⟩))
def numbered {α : Type} (f : α → ByteArray) : List α → Nat → List (ByteArray × Int)
 | [], _ => []
 | x :: l, n => (f x, (n : Int)) :: numbered f l (n + 1)
def procsAt (p : ProgV) : List (ByteArray × Int) := numbered ProcV.name p.procs 0
structure Env where
 within : Int
 params : List (ByteArray × Thing)
def outside : Env := ⟨-1, []⟩
def inside (p : ProgV) (i : Nat) : Env := ⟨i, match p.procs[i]? with | some q => paramsP q | none => []⟩
def findW (p : ProgV) (E : Env) (s : ByteArray) : Thing :=
 match look E.params s with
 | some x => x
 | none => (look (thingsP p) s).getD ⟨0, 0⟩
def rawWidth (p : ProgV) (E : Env) (k op wd : Int) (nm : ByteArray) (s0 s1 : Int) : Int :=
 if k = 1 ∨ k = 8 then wd
 else if k = 2 ∨ k = 3 then (if (findW p E nm).kind ≠ 0 ∧ ((findW p E nm).kind = 4 ↔ k = 3) then (findW p E nm).width else 0)
 else if k = 4 then p.width
 else if k = 5 ∨ k = 6 then opWidth op s0
 else if k = 7 then s1
 else 0
def cutW (n : Int) : Int := if wideW n = true then n else 0
mutual
def widthE (p : ProgV) (E : Env) : ExprV → Int
 | .mk k op _ wd nm _ subs => cutW (rawWidth p E k op wd nm ((widthL p E subs).getD 0 0) ((widthL p E subs).getD 1 0))
def widthL (p : ProgV) (E : Env) : List ExprV → List Int
 | [] => []
 | e :: l => widthE p E e :: widthL p E l
end
theorem widthL_eq (p : ProgV) (E : Env) : ∀ l : List ExprV, widthL p E l = l.map (widthE p E)
 | [] => by rw [widthL]; rfl
 | e :: l => by rw [widthL, widthL_eq p E l]; rfl
def subW (p : ProgV) (E : Env) (l : List ExprV) (i : Nat) : Int := match l[i]? with | some e => widthE p E e | none => 0
theorem widthL_at (p : ProgV) (E : Env) (l : List ExprV) (i : Nat) : (widthL p E l).getD i 0 = subW p E l i := by
 rw [widthL_eq, subW, List.getD_eq_getElem?_getD, List.getElem?_map]
 cases l[i]? <;> rfl
theorem widthE_eq (p : ProgV) (E : Env) (e : ExprV) : widthE p E e = cutW (rawWidth p E e.kind e.op e.width e.name (subW p E e.subs 0) (subW p E e.subs 1)) := by
 cases e
 rw [widthE, widthL_at, widthL_at]
 rfl
def shapeB (e : ExprV) : Bool :=
 if e.kind = 1 then decide (e.op = 0 ∧ e.name = ByteArray.empty ∧ e.subs.length = 0)
 else if e.kind = 2 then decide (e.op = 0 ∧ e.value = 0 ∧ e.width = 0 ∧ e.subs.length = 0)
 else if e.kind = 3 then decide (e.op = 0 ∧ e.value = 0 ∧ e.width = 0 ∧ e.subs.length = 1)
 else if e.kind = 4 then decide (e.op = 0 ∧ e.value = 0 ∧ e.width = 0 ∧ e.name = ByteArray.empty ∧ e.subs.length = 1)
 else if e.kind = 5 then decide (opOk e.op = true ∧ opTwo e.op = false ∧ e.value = 0 ∧ e.width = 0 ∧ e.name = ByteArray.empty ∧ e.subs.length = 1)
 else if e.kind = 6 then decide (opTwo e.op = true ∧ e.value = 0 ∧ e.width = 0 ∧ e.name = ByteArray.empty ∧ e.subs.length = 2)
 else if e.kind = 7 then decide (e.op = 0 ∧ e.value = 0 ∧ e.width = 0 ∧ e.name = ByteArray.empty ∧ e.subs.length = 3)
 else if e.kind = 8 then decide (e.op = 0 ∧ e.value = 0 ∧ e.name = ByteArray.empty ∧ e.subs.length = 1)
 else false
def widthsB (p : ProgV) (E : Env) (e : ExprV) : Bool :=
 if e.kind = 1 then (!wideW e.width) || decide (e.value > mostW e.width)
 else if e.kind = 8 then !wideW e.width
 else if e.kind = 6 ∧ e.subs.length = 2 then differW (subW p E e.subs 0) (subW p E e.subs 1)
 else if e.kind = 7 ∧ e.subs.length = 3 then differW (subW p E e.subs 1) (subW p E e.subs 2)
 else false
def namesB (e : ExprV) : Bool := decide (e.kind = 2 ∨ e.kind = 3)
def limitP (p : ProgV) (small large : Int) : Int := if p.procs.length > 0 then small else large
def exprE (p : ProgV) (E : Env) (wh : Int) (e : ExprV) (d : Nat) : Int :=
 if shapeB e = false then 325
 else if namesB e = true ∧ ((findW p E e.name).kind = 0 ∨ ¬ ((findW p E e.name).kind = 4 ↔ e.kind = 3)) then 321
 else if (wh = 1 ∧ (e.kind = 4 ∨ namesB e = true ∧ (findW p E e.name).kind ≠ 1)) ∨ (wh = 2 ∧ namesB e = true ∧ ((findW p E e.name).kind = 3 ∨ (findW p E e.name).kind = 4)) then 326
 else if widthsB p E e = true then 322
 else if (d : Int) > limitP p 32 1000 then 319
 else 0
mutual
def exprC (p : ProgV) (E : Env) (wh : Int) : ExprV → Nat → List Int
 | .mk k op v wd nm sp subs, d => exprE p E wh (.mk k op v wd nm sp subs) d :: exprsC p E wh subs (d + 1)
def exprsC (p : ProgV) (E : Env) (wh : Int) : List ExprV → Nat → List Int
 | [], _ => []
 | e :: l, d => exprC p E wh e d ++ exprsC p E wh l d
end
theorem exprC_eq (p : ProgV) (E : Env) (wh : Int) (e : ExprV) (d : Nat) : exprC p E wh e d = exprE p E wh e d :: exprsC p E wh e.subs (d + 1) := by
 cases e; rw [exprC]; rfl
theorem exprsC_eq (p : ProgV) (E : Env) (wh : Int) : ∀ (l : List ExprV) (d : Nat), exprsC p E wh l d = l.flatMap (fun e => exprC p E wh e d)
 | [], _ => by rw [exprsC]; rfl
 | e :: l, d => by rw [exprsC, exprsC_eq p E wh l d]; rfl
def formB (s : StmtV) : Bool :=
 if s.kind = 1 then decide (s.bound = 0 ∧ s.thn.length = 0 ∧ s.els.length = 0 ∧ s.exprs.length = 1)
 else if s.kind = 2 then decide (s.bound = 0 ∧ s.thn.length = 0 ∧ s.els.length = 0 ∧ s.exprs.length = 2)
 else if s.kind = 3 then decide (s.name = ByteArray.empty ∧ s.bound = 0 ∧ s.thn.length = 0 ∧ s.els.length = 0 ∧ s.exprs.length = 2)
 else if s.kind = 4 ∨ s.kind = 5 then decide (s.name = ByteArray.empty ∧ s.bound = 0 ∧ s.thn.length = 0 ∧ s.els.length = 0 ∧ s.exprs.length = 0)
 else if s.kind = 6 then decide (s.name = ByteArray.empty ∧ s.bound = 0 ∧ s.exprs.length = 1)
 else if s.kind = 7 then decide (s.name = ByteArray.empty ∧ s.els.length = 0 ∧ s.exprs.length = 1)
 else if s.kind = 8 then decide (s.bound = 0 ∧ s.thn.length = 0 ∧ s.els.length = 0)
 else false
def hasN (l : List ByteArray) (s : ByteArray) : Bool := l.any fun x => decide (x = s)
def withN (l : List ByteArray) (s : ByteArray) : List ByteArray := if hasN l s = true then l else l ++ [s]
def callsN (l : List StmtV) : List ByteArray := (l.flatMap StmtV.pre).foldl (fun out s => if s.kind = 8 then withN out s.name else out) []
def nextP (p : ProgV) (i : Nat) : List Nat := match p.procs[i]? with
 | some q => (callsN q.body).filterMap fun s => (look (procsAt p) s).map Int.toNat
 | none => []
def leadsF (p : ProgV) (to : Nat) : Nat → List Nat → List Nat → Bool
 | 0, _, _ => false
 | _ + 1, _, [] => false
 | n + 1, seen, i :: todo => if i = to then true else if i ∈ seen then leadsF p to n seen todo else leadsF p to n (i :: seen) (todo ++ nextP p i)
def fuelP (p : ProgV) : Nat := 2 + ((List.range p.procs.length).map fun i => (nextP p i).length).sum
def leadsB (p : ProgV) (from_ to : Nat) : Bool := leadsF p to (fuelP p) [] [from_]
def argsL (p : ProgV) (E : Env) : List DeclV → List ExprV → Bool
 | d :: ds, e :: es => differW (widthE p E e) d.width || argsL p E ds es
 | _, _ => false
def argsB (p : ProgV) (E : Env) (i : Nat) (l : List ExprV) : Bool := match p.procs[i]? with
 | some q => if q.params.length ≠ l.length then true else argsL p E q.params l
 | none => false
def wrongE (p : ProgV) (E : Env) (s : StmtV) : Int :=
 if s.kind = 1 then
   (if (findW p E s.name).kind = 0 ∨ (findW p E s.name).kind = 1 ∨ (findW p E s.name).kind = 4 then 321
   else if differW (subW p E s.exprs 0) (findW p E s.name).width = true then 322 else 0)
 else if s.kind = 2 then
   (if (findW p E s.name).kind ≠ 4 then 321
   else if differW (subW p E s.exprs 1) (findW p E s.name).width = true then 322 else 0)
 else if s.kind = 3 then (if differW (subW p E s.exprs 1) p.width = true then 322 else 0)
 else if s.kind = 7 then (if s.bound < 1 ∨ s.bound > 16 then 329 else 0)
 else if s.kind = 8 then
   (match look (procsAt p) s.name with
   | none => 321
   | some i => if argsB p E i.toNat s.exprs = true then 327
     else if E.within ≥ 0 ∧ leadsB p i.toNat E.within.toNat = true then 328 else 0)
 else 0
def stmtE (p : ProgV) (E : Env) (s : StmtV) (d : Nat) : Int :=
 if formB s = true then (if wrongE p E s = 0 then (if (d : Int) > limitP p 32 1000 then 319 else 0) else wrongE p E s) else 325
mutual
def stmtC (p : ProgV) (E : Env) : StmtV → Nat → List Int
 | .mk k nm es ex b ts th os el, d => stmtE p E (.mk k nm es ex b ts th os el) d :: (exprsC p E 0 ex 1 ++ (stmtsC p E th (d + 1) ++ stmtsC p E el (d + 1)))
def stmtsC (p : ProgV) (E : Env) : List StmtV → Nat → List Int
 | [], _ => []
 | s :: l, d => stmtC p E s d ++ stmtsC p E l d
end
theorem stmtC_eq (p : ProgV) (E : Env) (s : StmtV) (d : Nat) : stmtC p E s d = stmtE p E s d :: (exprsC p E 0 s.exprs 1 ++ (stmtsC p E s.thn (d + 1) ++ stmtsC p E s.els (d + 1))) := by
 cases s; rw [stmtC]; rfl
theorem stmtsC_eq (p : ProgV) (E : Env) : ∀ (l : List StmtV) (d : Nat), stmtsC p E l d = l.flatMap (fun s => stmtC p E s d)
 | [], _ => by rw [stmtsC]; rfl
 | s :: l, d => by rw [stmtsC, stmtsC_eq p E l d]; rfl
def words : List String := ["device", "width", "input", "ghost", "var", "array", "require", "init", "proc", "work", "recover", "invariant", "flush", "barrier", "write", "if", "else", "while", "bound", "call", "disk"]
def lower (c : UInt8) : Bool := decide (97 ≤ c.toNat ∧ c.toNat ≤ 122)
def nameSign (c : UInt8) : Bool := lower c || decide (48 ≤ c.toNat ∧ c.toNat ≤ 57) || decide (c.toNat = 95)
def isName (s : List UInt8) : Bool :=
 decide (s.length ≤ 16) && (match s with | c :: _ => lower c | [] => false) && s.all nameSign && words.all (fun w => decide (w.toUTF8.data.toList ≠ s))
def cutDot : List UInt8 → Option (List UInt8 × List UInt8)
 | [] => none
 | c :: l => if c.toNat = 46 then some ([], l) else (cutDot l).map fun x => (c :: x.1, x.2)
def nameB (p : ProgV) (s : List UInt8) : Bool := match cutDot s with
 | some (a, b) => if p.procs.length = 0 then isName a && isName b else isName s
 | none => isName s
def declE (p : ProgV) (before : List ByteArray) (isArray : Bool) (d : DeclV) : Int :=
 if hasN before d.name = true ∨ nameB p d.name.data.toList = false then 321
 else if wideW d.width = false then 322
 else if (if isArray = true then decide (1 ≤ d.size ∧ d.size ≤ 16) else decide (d.size = 0)) = false then 323
 else 0
def declsC (p : ProgV) (isArray : Bool) : List DeclV → List ByteArray → List Int
 | [], _ => []
 | d :: l, before => declE p before isArray d :: declsC p isArray l (before ++ [d.name])
def procE (p : ProgV) (before : List ByteArray) (q : ProcV) : Int :=
 if hasN before q.name = true ∨ nameB p q.name.data.toList = false then 321
 else if q.params.length > 8 then 327
 else 0
def thingNames (p : ProgV) : List ByteArray := (thingsP p).map (·.1)
def procC (p : ProgV) (before : List ByteArray) (i : Nat) (q : ProcV) : List Int :=
 procE p before q :: (declsC p false q.params (thingNames p) ++ stmtsC p (inside p i) q.body 1)
def procsC (p : ProgV) : List ProcV → Nat → List ByteArray → List Int
 | [], _, _ => []
 | q :: l, i, before => procC p before i q ++ procsC p l (i + 1) (before ++ [q.name])
def initE (p : ProgV) (before : List Int) (x : InitV) : Int :=
 if x.block < 0 ∨ x.block ≥ p.blocks ∨ x.block ∈ before then 324
 else if differW (widthE p outside x.value) p.width = true then 322
 else 0
def initsC (p : ProgV) : List InitV → List Int → List Int
 | [], _ => []
 | x :: l, before => (initE p before x :: exprC p outside 1 x.value 1) ++ initsC p l (before ++ [x.block])
def programE (p : ProgV) (size : Int) : Int :=
 if p.blocks < 1 ∨ p.blocks > 8 ∨ wideW p.width = false then 320
 else if p.inputs.length > 16 ∨ p.ghosts.length > 16 ∨ (p.vars.length : Int) > limitP p 16 256 ∨ p.arrays.length > 16 ∨ p.procs.length > 16 ∨ size > limitP p 2000 20000 then 5
 else 0
def names1 (p : ProgV) : List ByteArray := p.inputs.map DeclV.name
def names2 (p : ProgV) : List ByteArray := names1 p ++ p.ghosts.map DeclV.name
def names3 (p : ProgV) : List ByteArray := names2 p ++ p.vars.map DeclV.name
def names4 (p : ProgV) : List ByteArray := names3 p ++ p.arrays.map DeclV.name
def codesP (p : ProgV) (size : Int) : List Int :=
 programE p size :: (declsC p false p.inputs [] ++ (declsC p false p.ghosts (names1 p) ++ (declsC p false p.vars (names2 p) ++ (declsC p true p.arrays (names3 p) ++
   (exprC p outside 1 p.require 1 ++ (initsC p p.inits [] ++ (procsC p p.procs 0 (names4 p) ++ (stmtsC p outside p.work 1 ++ (stmtsC p outside p.recover 1 ++ exprC p outside 2 p.invariant 1)))))))))
def probs : List Int → Nat → List (Int × Int)
 | [], _ => []
 | c :: l, n => if c = 0 then probs l (n + 1) else ((n : Int), c) :: probs l (n + 1)
theorem probs_append : ∀ (a b : List Int) (n : Nat), probs (a ++ b) n = probs a n ++ probs b (n + a.length)
 | [], b, n => by simp [probs]
 | c :: a, b, n => by
   rw [List.cons_append, probs, probs, probs_append a b (n + 1)]
   have e : n + 1 + a.length = n + (c :: a).length := by simp; omega
   rw [e]
   split <;> simp
theorem probs_snoc (a : List Int) (c : Int) : probs (a ++ [c]) 0 = probs a 0 ++ (if c = 0 then [] else [((a.length : Int), c)]) := by
 rw [probs_append]
 simp only [probs, Nat.zero_add]
theorem probs_len : ∀ (a : List Int) (n : Nat), (probs a n).length ≤ a.length
 | [], n => by simp [probs]
 | c :: a, n => by
   rw [probs]
   have := probs_len a (n + 1)
   split <;> simp <;> omega
end Go.Proofs.YtepacjkacjabbaaGreatDoor
namespace Go.Proofs.YtepacjkacjabbaaGreatDoor
open Go
def restF (p : ProgV) (seen : List Nat) : Nat := ((List.range p.procs.length).map fun i => if i ∈ seen then 0 else (nextP p i).length).sum
theorem sum_step (f : Nat → Nat) (seen : List Nat) (i : Nat) (hs : i ∉ seen) : ∀ n : Nat, ((List.range n).map fun j => if j ∈ i :: seen then 0 else f j).sum + (if i < n then f i else 0) = ((List.range n).map fun j => if j ∈ seen then 0 else f j).sum
 | 0 => by simp
 | n + 1 => by
   have ih := sum_step f seen i hs n
   rw [List.range_succ, List.map_append, List.map_append, List.sum_append, List.sum_append]
   simp only [List.map_cons, List.map_nil, List.sum_cons, List.sum_nil, Nat.add_zero]
   by_cases h : n = i
   · subst h
     rw [if_neg (Nat.lt_irrefl n)] at ih
     rw [if_pos (List.mem_cons_self ..), if_pos (Nat.lt_succ_self n), if_neg hs]
     omega
   · have e1 : (if n ∈ i :: seen then 0 else f n) = (if n ∈ seen then 0 else f n) := by simp [h]
     rw [e1]
     by_cases h2 : i < n
     · have e2 : (if i < n then f i else 0) = f i := if_pos h2
       have e3 : (if i < n + 1 then f i else 0) = f i := if_pos (by omega)
       rw [e2] at ih; rw [e3]; omega
     · have e2 : (if i < n then f i else 0) = 0 := if_neg h2
       have e3 : (if i < n + 1 then f i else 0) = 0 := if_neg (by omega)
       rw [e2] at ih; rw [e3]; omega
theorem restF_step (p : ProgV) (seen : List Nat) (i : Nat) (hs : i ∉ seen) (hi : i < p.procs.length) : restF p (i :: seen) + (nextP p i).length = restF p seen := by
 have := sum_step (fun i => (nextP p i).length) seen i hs p.procs.length
 rw [if_pos hi] at this
 exact this
theorem fuelP_eq (p : ProgV) : fuelP p = 2 + restF p [] := by
 unfold fuelP restF
 simp
theorem leadsF_nil (p : ProgV) (to n : Nat) (seen : List Nat) : leadsF p to n seen [] = false := by
 cases n <;> rw [leadsF]
theorem leadsF_hit (p : ProgV) (n : Nat) (seen todo : List Nat) (to : Nat) : leadsF p to (n + 1) seen (to :: todo) = true := by
 rw [leadsF, if_pos rfl]
theorem leadsF_skip (p : ProgV) (to n i : Nat) (seen todo : List Nat) (h : i ≠ to) (hs : i ∈ seen) : leadsF p to (n + 1) seen (i :: todo) = leadsF p to n seen todo := by
 rw [leadsF, if_neg h, if_pos hs]
theorem leadsF_go (p : ProgV) (to n i : Nat) (seen todo : List Nat) (h : i ≠ to) (hs : i ∉ seen) : leadsF p to (n + 1) seen (i :: todo) = leadsF p to n (i :: seen) (todo ++ nextP p i) := by
 rw [leadsF, if_neg h, if_neg hs]
def stepsN (p : ProgV) (l : List ByteArray) : List Nat := l.filterMap fun s => (look (procsAt p) s).map Int.toNat
theorem stepsN_snoc (p : ProgV) (l : List ByteArray) (s : ByteArray) : stepsN p (l ++ [s]) = stepsN p l ++ (match look (procsAt p) s with | some k => [k.toNat] | none => []) := by
 unfold stepsN
 rw [List.filterMap_append]
 congr 1
 cases h : look (procsAt p) s <;> simp [h]
theorem nextP_eq (p : ProgV) (i : Nat) (hi : i < p.procs.length) : nextP p i = stepsN p (callsN (p.procs[i]).body) := by
 unfold nextP stepsN
 rw [List.getElem?_eq_getElem hi]
theorem numbered_at {α : Type} (f : α → ByteArray) : ∀ (l : List α) (n : Nat) (x : ByteArray × Int), x ∈ numbered f l n → ∃ k : Nat, x.2 = k ∧ n ≤ k ∧ k < n + l.length
 | [], n, x, h => by simp [numbered] at h
 | y :: l, n, x, h => by
   rw [numbered] at h
   rcases List.mem_cons.1 h with e | h
   · exact ⟨n, by rw [e], Nat.le_refl _, by simp⟩
   · obtain ⟨k, h1, h2, h3⟩ := numbered_at f l (n + 1) x h
     exact ⟨k, h1, by omega, by simp; omega⟩
theorem look_procs {p : ProgV} {s : ByteArray} {k : Int} (h : look (procsAt p) s = some k) : 0 ≤ k ∧ k.toNat < p.procs.length ∧ (k.toNat : Int) = k := by
 unfold look at h
 cases hf : (procsAt p).find? (fun x => decide (x.1 = s)) with
 | none => rw [hf] at h; cases h
 | some x =>
   rw [hf] at h
   cases h
   obtain ⟨m, h1, _, h3⟩ := numbered_at _ _ _ _ (List.mem_of_find?_eq_some hf)
   simp only [h1, Int.toNat_natCast]
   exact ⟨by omega, by omega, trivial⟩
theorem withN_len (l : List ByteArray) (s : ByteArray) : (withN l s).length ≤ l.length + 1 := by
 unfold withN; split <;> simp
theorem calls_len (l : List StmtV) : ∀ out : List ByteArray, (l.foldl (fun out s => if s.kind = 8 then withN out s.name else out) out).length ≤ out.length + l.length := by
 induction l with
 | nil => intro out; simp
 | cons s l ih =>
   intro out
   rw [List.foldl_cons]
   refine Nat.le_trans (ih _) ?_
   have := withN_len out s.name
   split <;> simp <;> omega
theorem callsN_len (l : List StmtV) : (callsN l).length ≤ (l.flatMap StmtV.pre).length := by
 have := calls_len (l.flatMap StmtV.pre) []
 simpa [callsN] using this
theorem nextP_len (p : ProgV) (i : Nat) (hi : i < p.procs.length) : (nextP p i).length ≤ (p.procs[i].body.flatMap StmtV.pre).length := by
 rw [nextP_eq p i hi]
 exact Nat.le_trans (List.length_filterMap_le _ _) (callsN_len _)
theorem calls_mem (l : List StmtV) (P : ByteArray → Prop) (hl : ∀ t ∈ l, P t.name) : ∀ out : List ByteArray, (∀ s ∈ out, P s) → ∀ s ∈ l.foldl (fun out s => if s.kind = 8 then withN out s.name else out) out, P s := by
 induction l with
 | nil => intro out h; exact h
 | cons t l ih =>
   intro out h
   rw [List.foldl_cons]
   refine ih (fun x hx => hl x (List.mem_cons_of_mem _ hx)) _ ?_
   split
   · intro s hs
     unfold withN at hs
     split at hs
     · exact h s hs
     · rcases List.mem_append.1 hs with hs | hs
       · exact h s hs
       · rw [List.mem_singleton.1 hs]; exact hl t (List.mem_cons_self ..)
   · exact h
theorem callsN_mem (l : List StmtV) (P : ByteArray → Prop) (hl : ∀ t ∈ l.flatMap StmtV.pre, P t.name) : ∀ s ∈ callsN l, P s :=
 calls_mem _ P hl [] (fun _ h => absurd h (by simp))
theorem stepsN_ok (p : ProgV) (l : List ByteArray) : ∀ k ∈ stepsN p l, k < p.procs.length := by
 intro k hk
 unfold stepsN at hk
 obtain ⟨s, _, h⟩ := List.mem_filterMap.1 hk
 cases hl : look (procsAt p) s with
 | none => rw [hl] at h; cases h
 | some x =>
   rw [hl] at h
   simp at h
   have := look_procs hl
   omega
end Go.Proofs.YtepacjkacjabbaaGreatDoor
