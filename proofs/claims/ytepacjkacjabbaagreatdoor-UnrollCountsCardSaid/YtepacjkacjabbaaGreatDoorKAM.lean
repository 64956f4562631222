import Derived.Test.YtepacjkacjabbaaGreatDoorKAL
namespace Go.Proofs.YtepacjkacjabbaaGreatDoor
open Go Go.RowKit Go.Maps
section
variable {F : Nat} {bs : Array Value} {τ : ByteArray → ByteArray} (hτ : ∀ s, s.size ≤ maxLen → (τ s).size ≤ maxLen) {n0 : Nat} {W0 : World} (hT : TurnOk F bs τ n0 W0)
include hτ hT
theorem nlist_ok (sp : Sp) (l : List StmtV) (hr : RdTs n0 W0 sp l) (hl : heftL l ≤ 1000000) (ih : ∀ s, s ∈ l → heftL [s] ≤ 1000000 → NamTsOk F bs τ n0 W0 s.ts s.thn ∧ NamTsOk F bs τ n0 W0 s.os s.els) : NamTsOk F bs τ n0 W0 sp l := by
 have hx : ∀ s, s ∈ l → heftX s.exprs ≤ 1000000 := fun s hs => by
   have h1 := heft_leM l s hs
   rw [heftL_M] at h1
   omega
 refine nam_list F bs τ hτ n0 W0 hT sp l hr (Nat.le_trans (len_heftM l) hl) (fun s hs => Nat.le_trans (len_leM s.exprs) (hx s hs)) (fun s hs e he => named_any hτ hT e ((hr.ok s hs).xs.ok e he) (Nat.le_trans (expr_leM he) (hx s hs))) fun s hs => ih s hs (Nat.le_trans (heft_leM l s hs) hl)
theorem nstmt_ok (s : StmtV) (hr : RdT n0 W0 s) : heftL [s] ≤ 1000000 → NamTsOk F bs τ n0 W0 s.ts s.thn ∧ NamTsOk F bs τ n0 W0 s.os s.els := by
 induction hr with
 | mk s k b n er ex tr th orow el ih1 ih2 =>
   intro hl
   rw [heftL_M] at hl
   exact ⟨nlist_ok hτ hT s.ts s.thn ⟨tr, th⟩ (by omega) ih1, nlist_ok hτ hT s.os s.els ⟨orow, el⟩ (by omega) ih2⟩
theorem namedStmts_any (sp : Sp) (l : List StmtV) (hr : RdTs n0 W0 sp l) (hl : heftL l ≤ 1000000) : NamTsOk F bs τ n0 W0 sp l :=
 nlist_ok hτ hT sp l hr hl fun s hs h => nstmt_ok hτ hT s (hr.ok s hs) h
end
theorem tX_keep : tX id = nmI := by funext k n; unfold tX nmI; split <;> rfl
theorem tT_keep : tT id = nmI := by funext k n; unfold tT nmI; split <;> rfl
theorem cnt_ok {l : List StmtV} (hl : heftL l ≤ 20000) : cntT (l.flatMap StmtV.pre) 0 ≤ 20000 := by
 unfold heftL at hl
 rw [cntT_of _ 0 (by omega)]
 omega
set_option maxRecDepth 1000000 in
set_option maxHeartbeats 4000000 in
theorem copyStmts_any (w : World) (sp : Sp) (l : List StmtV) (h : RdTs w.heap.size w sp l) (hl : heftL l ≤ 20000) :
   Calls Tryz.prog 162 #[.slice sp.at_ l.length sp.cap] w fun o w' => ∃ (sp' : Sp) (l' : List StmtV), o = .returned (.slice sp'.at_ l'.length sp'.cap) ∧ l'.map bareT = l.map bareT ∧ NewTs w.heap.size w' sp' l' ∧ Below w.heap.size w w' := by
 have hC := countStmts_any w sp l 0 h (by omega)
 simp only [Sp.val] at hC
 have hL := fun W => light_any (cntT (l.flatMap StmtV.pre) 0) W
 rw [decide_eq_true (cnt_ok hl)] at hL
 have HC := Lib.hid hC
 have HL := Lib.hid hL
 have HN := Lib.hid (namedStmts_any (τ := id) (fun s hs => hs) (keep_ok w.heap.size w) sp l h (by omega))
 clear hC hL h hl
 go_enter Tryz.func162, Tryz.ntmps162
 go_wp2_with fail
 refine HC.out.mono ?_
 rintro o w1 ⟨rfl, hb1⟩
 go_wp2_with fail
 refine (HL.out _).mono ?_
 rintro o w2 ⟨rfl, rfl⟩
 go_wp2_with fail
 refine (HN.out _ hb1 hb1.size).mono ?_
 rintro o w3 ⟨sp', l', rfl, hsm, hnew, hb3⟩
 rw [tX_keep, tT_keep] at hsm
 go_wp2_with fail
 go_ret
 exact ⟨sp', l', rfl, hsm.same, hnew.less hb1.size, hb1.trans (hb3.mono hb1.size)⟩
theorem cntN_ok {e : ExprV} (hl : e.pre.length ≤ 20000) : cntN e.pre.length 0 ≤ 20000 := by
 rw [cntN_of (by omega)]
 omega
set_option maxRecDepth 1000000 in
set_option maxHeartbeats 4000000 in
theorem copyExpr_any (w : World) (e : ExprV) (h : RdX w.heap.size w e) (hl : e.pre.length ≤ 20000) :
   Calls Tryz.prog 161 #[.agg #[.int .u8 e.kind, .int .u8 e.op, .int .u32 e.value, .int .i64 e.width, .string e.name, .slice e.sp.at_ e.subs.length e.sp.cap]] w fun o w' => ∃ e' : ExprV, o = .returned (.agg #[.int .u8 e'.kind, .int .u8 e'.op, .int .u32 e'.value, .int .i64 e'.width, .string e'.name, .slice e'.sp.at_ e'.subs.length e'.sp.cap]) ∧ bareX e' = bareX e ∧ NewX w.heap.size w' e' ∧ Below w.heap.size w w' := by
 have hC : ∀ W, Below w.heap.size w W → Calls Tryz.prog 86 #[.agg #[.int .u8 e.kind, .int .u8 e.op, .int .u32 e.value, .int .i64 e.width, .string e.name, .slice e.sp.at_ e.subs.length e.sp.cap], .int .i64 0] W fun o w' => o = .returned (.int .i64 (cntN e.pre.length 0)) ∧ Below W.heap.size W w' := fun W hW => countExpr_any W e 0 ((h.stays hW).more hW.size) (by omega)
 have hL := fun W => light_any (cntN e.pre.length 0) W
 rw [decide_eq_true (cntN_ok hl)] at hL
 have HC := Lib.hid hC
 have HL := Lib.hid hL
 have HN := Lib.hid (named_any (τ := id) (fun s hs => hs) (keep_ok w.heap.size w) e h (by omega))
 clear hC hL h hl
 go_enter Tryz.func161, Tryz.ntmps161
 go_wp2_with fail
 obtain ⟨hx2, hz2, hs2, hb2⟩ := alloc2 w (.cells #[.int .u8 e.kind, .int .u8 e.op, .int .u32 e.value, .int .i64 e.width, .string e.name, .slice e.sp.at_ e.subs.length e.sp.cap] 30) (.cells #[.int .u8 0, .int .u8 0, .int .u32 0, .int .i64 0, .string ⟨#[]⟩, .slice none 0 0] 30)
 refine (HC.out _ hb2).mono ?_
 rintro o w1 ⟨rfl, hb1⟩
 have hb1w := hb2.trans (hb1.mono hb2.size)
 have hx1 := (hb1.block _ (Array.getElem?_eq_some_iff.1 hx2).1).trans hx2
 have hz1 := (hb1.block _ (Array.getElem?_eq_some_iff.1 hz2).1).trans hz2
 clear hx2 hz2 hs2 hb2 hb1
 obtain ⟨x0, x1, x2, x3, x4, x5⟩ := six_cells hx1
 have HZ1 := Lib.hid hz1
 have HB1 := Lib.hid hb1w
 clear hx1 hz1 hb1w
 go_wp2_with fail
 refine (HL.out _).mono ?_
 rintro o w2 ⟨rfl, rfl⟩
 go_wp2_with fail
 refine (HN.out _ HB1.out HB1.out.size).mono ?_
 rintro o w3 ⟨e', rfl, hsm, hnew, hb3⟩
 rw [tX_keep] at hsm
 have hz3 := (hb3.block _ (Array.getElem?_eq_some_iff.1 HZ1.out).1).trans HZ1.out
 obtain ⟨z0, z1, z2, z3, z4, z5⟩ := six_cells hz3
 have fz : ∀ j, w3.frozen? ⟨w.heap.size + 1, j, none⟩ = false := fun j => by simp [World.frozen?, hz3]
 have f0 := fz 0
 have f1 := fz 1
 have f2 := fz 2
 have f3 := fz 3
 have f4 := fz 4
 have f5 := fz 5
 have HZ3 := Lib.hid hz3
 have HSM := Lib.hid hsm
 have HNEW := Lib.hid hnew
 have HB3 := Lib.hid (HB1.out.trans (hb3.mono HB1.out.size))
 have hlt := (Array.getElem?_eq_some_iff.1 HZ1.out).1
 clear fz hz3 hsm hnew hb3 x0 x1 x2 x3 x4 x5
 go_wp2_with fail
 refine bodyPost_ret (results_cell_row rfl _ _ (w.heap.size + 1) 30 _ (0, 0) _ rfl (six_own HZ3.out _ _ _ _ _ _) Tryz.underlying30 rfl (exprX_size _ _ _ _ _ _)) rfl ⟨e', rfl, HSM.out.same, ?_, six_below HB3.out (by omega) _ _ _ _ _ _ _⟩
 exact (six_new HNEW.out hlt _ _ _ _ _ _ _).less HB1.out.size
end Go.Proofs.YtepacjkacjabbaaGreatDoor
