/- Chapter 32's law: what makes its small programs. -/
import Derived.Test.YthcboallnbaimaaGreatDoorSmallP
import Derived.Laws.Rows
import Derived.Laws.Tables
import Derived.Laws.CopyOwn
namespace Go.Proofs.YthcboallnbaimaaGreatDoor
open Go Go.RowKit Go.Maps
theorem num_any (x wd : Int) (w : World) : Calls Tryz.prog 22 #[.int .u32 x, .int .i64 wd] w fun o w' => o = .returned (numE x wd).val ∧ Below w.heap.size w w' := by
  go_enter Tryz.func22, Tryz.ntmps22
  go_wp2_with fail
  exact bodyPost_ret (results_cell_row rfl _ _ w.heap.size 34 _ (0, 0) _ rfl (World.alloc_heap_new _ _) Tryz.underlying34 rfl (by kernel_rfl)) rfl ⟨rfl, (Below.refl _ _).alloc (Nat.le_refl _) _⟩
theorem name_any32 (s : ByteArray) (w : World) : Calls Tryz.prog 25 #[.string s] w fun o w' => o = .returned (nameE s).val ∧ Below w.heap.size w w' := by
  go_enter Tryz.func25, Tryz.ntmps25
  go_wp2_with fail
  exact bodyPost_ret (results_cell_row rfl _ _ w.heap.size 34 _ (0, 0) _ rfl (World.alloc_heap_new _ _) Tryz.underlying34 rfl (by kernel_rfl)) rfl ⟨rfl, (Below.refl _ _).alloc (Nat.le_refl _) _⟩
theorem call_any32 (s : ByteArray) (sp : Sp) (l : List ExprV) (w : World) : Calls Tryz.prog 17 #[.string s, sp.val l.length] w fun o w' => o = .returned (callT sp s l).val ∧ Below w.heap.size w w' := by
  simp only [Sp.val]
  go_enter Tryz.func17, Tryz.ntmps17
  go_wp2_with fail
  exact bodyPost_ret (results_cell_row rfl _ _ w.heap.size 49 _ (0, 0) _ rfl (World.alloc_heap_new _ _) Tryz.underlying49 rfl (by kernel_rfl)) rfl ⟨rfl, (Below.refl _ _).alloc (Nat.le_refl _) _⟩
/-- A row of one element, just made. -/
theorem row_one {α : Type} {W : World} {b k : Nat} {t : TypeId} {fr : Nat × Nat} {enc : α → List Value} {x : α} (h : W.heap[b]? = some (.cells (enc x).toArray t fr)) : RowOf W.heap.size W ⟨some ⟨b, 0, none⟩, 1⟩ k enc [x] := by
  refine ⟨Nat.le_refl _, by simp [maxLen], by simp, fun _ => ⟨b, 0, rfl, (Array.getElem?_eq_some_iff.1 h).1, fun j hj r u hu => ?_⟩⟩
  have : j = 0 := by simp at hj; omega
  subst this
  simp only [List.getElem_cons_zero] at hu
  simp [World.cell?, h, hu]
theorem row_two {α : Type} {W : World} {b k : Nat} {t : TypeId} {fr : Nat × Nat} {enc : α → List Value} {x y : α} (hk : (enc x).length = k) (h : W.heap[b]? = some (.cells (enc x ++ enc y).toArray t fr)) : RowOf W.heap.size W ⟨some ⟨b, 0, none⟩, 2⟩ k enc [x, y] := by
  refine ⟨Nat.le_refl _, by simp [maxLen], by simp, fun _ => ⟨b, 0, rfl, (Array.getElem?_eq_some_iff.1 h).1, fun j hj r u hu => ?_⟩⟩
  have hj2 : j = 0 ∨ j = 1 := by simp at hj; omega
  rcases hj2 with rfl | rfl
  · simp only [List.getElem_cons_zero] at hu
    have hr : r < (enc x).length := (List.getElem?_eq_some_iff.1 hu).1
    simp [World.cell?, h, List.getElem?_append_left hr, hu]
  · simp only [List.getElem_cons_succ, List.getElem_cons_zero] at hu
    have e : (enc x ++ enc y)[k + r]? = some u := by rw [List.getElem?_append_right (by omega)]; rw [hk, Nat.add_sub_cancel_left]; exact hu
    simp [World.cell?, h, e]
/-- What lies there now. -/
def NowX (W : World) (e : ExprV) : Prop := RdX W.heap.size W e
def NowT (W : World) (s : StmtV) : Prop := RdT W.heap.size W s
theorem NowX.on {W W' : World} {e : ExprV} (h : NowX W e) (hb : Below W.heap.size W W') : NowX W' e := (RdX.stays h hb).more hb.size
theorem NowT.on {W W' : World} {s : StmtV} (h : NowT W s) (hb : Below W.heap.size W W') : NowT W' s := (RdT.stays h hb).more hb.size
theorem num_now (W : World) (x wd : Int) (hx : 0 ≤ x ∧ x ≤ 4294967295) (hw : (Lit.int .i64 wd).wf = true) : NowX W (numE x wd) :=
  .mk _ (show (0 : Int) ≤ 1 ∧ (1 : Int) ≤ 255 by decide) (show (0 : Int) ≤ 0 ∧ (0 : Int) ≤ 255 by decide) hx hw (show (0 : Nat) ≤ maxLen by decide) RowOf.nil (fun _ h => absurd h (by simp [numE, ExprV.subs]))
theorem name_now (W : World) (s : ByteArray) (hs : s.size ≤ maxLen) : NowX W (nameE s) :=
  .mk _ (show (0 : Int) ≤ 2 ∧ (2 : Int) ≤ 255 by decide) (show (0 : Int) ≤ 0 ∧ (0 : Int) ≤ 255 by decide) (show (0 : Int) ≤ 0 ∧ (0 : Int) ≤ 4294967295 by decide) (show (Lit.int .i64 0).wf = true by decide) hs RowOf.nil (fun _ h => absurd h (by simp [nameE, ExprV.subs]))
theorem call_now {W : World} {s : ByteArray} (hs : s.size ≤ maxLen) : NowT W (callT Sp.none s []) :=
  .mk _ (show (0 : Int) ≤ 8 ∧ (8 : Int) ≤ 255 by decide) (show (Lit.int .i64 0).wf = true by decide) hs RowOf.nil (fun _ h => absurd h (by simp [callT, StmtV.exprs])) RowOf.nil (fun _ h => absurd h (by simp [callT, StmtV.thn])) RowOf.nil (fun _ h => absurd h (by simp [callT, StmtV.els]))
theorem alloc2 (w : World) (o1 o2 : Obj) : ((w.alloc o1).alloc o2).heap[w.heap.size]? = some o1 ∧ ((w.alloc o1).alloc o2).heap[w.heap.size + 1]? = some o2 ∧ ((w.alloc o1).alloc o2).heap.size = w.heap.size + 2 ∧ Below w.heap.size w ((w.alloc o1).alloc o2) := by
  have h1 := World.alloc_heap_new w o1
  have h2 := World.alloc_heap_new (w.alloc o1) o2
  rw [World.size_alloc] at h2
  refine ⟨(Below.heap_alloc _ _ _ (by simp)).trans h1, h2, by simp, ((Below.refl _ _).alloc (Nat.le_refl _) _).alloc (by simp) _⟩
theorem alloc3 (w : World) (o1 o2 o3 : Obj) : (((w.alloc o1).alloc o2).alloc o3).heap[w.heap.size]? = some o1 ∧ (((w.alloc o1).alloc o2).alloc o3).heap[w.heap.size + 1]? = some o2 ∧ (((w.alloc o1).alloc o2).alloc o3).heap[w.heap.size + 1 + 1]? = some o3 ∧ (((w.alloc o1).alloc o2).alloc o3).heap.size = w.heap.size + 3 ∧ Below w.heap.size w (((w.alloc o1).alloc o2).alloc o3) := by
  obtain ⟨h1, h2, h3, h4⟩ := alloc2 w o1 o2
  have h5 := World.alloc_heap_new ((w.alloc o1).alloc o2) o3
  rw [h3] at h5
  refine ⟨(Below.heap_alloc _ _ _ (by omega)).trans h1, (Below.heap_alloc _ _ _ (by omega)).trans h2, h5, by simp, h4.alloc (by omega) _⟩
theorem alloc4 (w : World) (o1 o2 o3 o4 : Obj) : ((((w.alloc o1).alloc o2).alloc o3).alloc o4).heap[w.heap.size]? = some o1 ∧ ((((w.alloc o1).alloc o2).alloc o3).alloc o4).heap[w.heap.size + 1]? = some o2 ∧ ((((w.alloc o1).alloc o2).alloc o3).alloc o4).heap[w.heap.size + 1 + 1]? = some o3 ∧ ((((w.alloc o1).alloc o2).alloc o3).alloc o4).heap[w.heap.size + 1 + 1 + 1]? = some o4 ∧ ((((w.alloc o1).alloc o2).alloc o3).alloc o4).heap.size = w.heap.size + 4 ∧ Below w.heap.size w ((((w.alloc o1).alloc o2).alloc o3).alloc o4) := by
  obtain ⟨h1, h2, h3, h4, h6⟩ := alloc3 w o1 o2 o3
  have h5 := World.alloc_heap_new (((w.alloc o1).alloc o2).alloc o3) o4
  rw [h4] at h5
  refine ⟨(Below.heap_alloc _ _ _ (by omega)).trans h1, (Below.heap_alloc _ _ _ (by omega)).trans h2, (Below.heap_alloc _ _ _ (by omega)).trans h3, h5, by simp, h6.alloc (by omega) _⟩
set_option maxHeartbeats 1000000 in
theorem set_any (s : ByteArray) (hs : s.size ≤ maxLen) (e : ExprV) (w : World) (he : NowX w e) : Calls Tryz.prog 23 #[.string s, e.val] w fun o w' => ∃ sp, o = .returned (setT sp s e).val ∧ NowT w' (setT sp s e) ∧ Below w.heap.size w w' := by
  have HE := Lib.hid he
  clear he
  simp only [ExprV.val, Sp.val]
  go_enter Tryz.func23, Tryz.ntmps23
  go_wp2_with fail
  obtain ⟨h1, h2, h3, h4, h5⟩ := alloc3 w (.cells #[.int .u8 e.kind, .int .u8 e.op, .int .u32 e.value, .int .i64 e.width, .string e.name, .slice e.sp.at_ e.subs.length e.sp.cap] 34) (.cells #[.int .u8 1, .string s, .slice (some ⟨w.heap.size + 1 + 1, 0, none⟩) 1 1, .int .i64 0, .slice none 0 0, .slice none 0 0] 49) (.cells #[.int .u8 e.kind, .int .u8 e.op, .int .u32 e.value, .int .i64 e.width, .string e.name, .slice e.sp.at_ e.subs.length e.sp.cap] 34)
  refine bodyPost_ret (results_cell_row rfl _ _ (w.heap.size + 1) 49 _ (0, 0) _ rfl h2 Tryz.underlying49 rfl (by kernel_rfl)) rfl ⟨⟨some ⟨w.heap.size + 1 + 1, 0, none⟩, 1⟩, rfl, ?_, h5⟩
  exact .mk _ (show (0 : Int) ≤ 1 ∧ (1 : Int) ≤ 255 by decide) (show (Lit.int .i64 0).wf = true by decide) hs (row_one (enc := ExprV.cells) (x := e) h3) (fun y hy => by
    have : y = e := by simpa [setT, StmtV.exprs] using hy
    rw [this]; exact HE.out.on h5) RowOf.nil (fun _ h => absurd h (by simp [setT, StmtV.thn])) RowOf.nil (fun _ h => absurd h (by simp [setT, StmtV.els]))
set_option maxHeartbeats 1000000 in
theorem write_any (e1 e2 : ExprV) (w : World) (he1 : NowX w e1) (he2 : NowX w e2) : Calls Tryz.prog 24 #[e1.val, e2.val] w fun o w' => ∃ sp, o = .returned (writeT sp e1 e2).val ∧ NowT w' (writeT sp e1 e2) ∧ Below w.heap.size w w' := by
  have HE1 := Lib.hid he1
  have HE2 := Lib.hid he2
  clear he1 he2
  simp only [ExprV.val, Sp.val]
  go_enter Tryz.func24, Tryz.ntmps24
  go_wp2_with fail
  obtain ⟨h1, h2, h3, h4, h6, h5⟩ := alloc4 w (.cells #[.int .u8 e1.kind, .int .u8 e1.op, .int .u32 e1.value, .int .i64 e1.width, .string e1.name, .slice e1.sp.at_ e1.subs.length e1.sp.cap] 34) (.cells #[.int .u8 e2.kind, .int .u8 e2.op, .int .u32 e2.value, .int .i64 e2.width, .string e2.name, .slice e2.sp.at_ e2.subs.length e2.sp.cap] 34) (.cells #[.int .u8 3, .string ⟨#[]⟩, .slice (some ⟨w.heap.size + 1 + 1 + 1, 0, none⟩) 2 2, .int .i64 0, .slice none 0 0, .slice none 0 0] 49) (.cells #[.int .u8 e1.kind, .int .u8 e1.op, .int .u32 e1.value, .int .i64 e1.width, .string e1.name, .slice e1.sp.at_ e1.subs.length e1.sp.cap, .int .u8 e2.kind, .int .u8 e2.op, .int .u32 e2.value, .int .i64 e2.width, .string e2.name, .slice e2.sp.at_ e2.subs.length e2.sp.cap] 34)
  refine bodyPost_ret (results_cell_row rfl _ _ (w.heap.size + 1 + 1) 49 _ (0, 0) _ rfl h3 Tryz.underlying49 rfl (by kernel_rfl)) rfl ⟨⟨some ⟨w.heap.size + 1 + 1 + 1, 0, none⟩, 2⟩, rfl, ?_, h5⟩
  exact .mk _ (show (0 : Int) ≤ 3 ∧ (3 : Int) ≤ 255 by decide) (show (Lit.int .i64 0).wf = true by decide) (show (0 : Nat) ≤ maxLen by decide) (row_two (enc := ExprV.cells) (x := e1) (y := e2) rfl h4) (fun y hy => by
    have hy2 : y = e1 ∨ y = e2 := by simpa [writeT, StmtV.exprs] using hy
    rcases hy2 with rfl | rfl
    · exact HE1.out.on h5
    · exact HE2.out.on h5) RowOf.nil (fun _ h => absurd h (by simp [writeT, StmtV.thn])) RowOf.nil (fun _ h => absurd h (by simp [writeT, StmtV.els]))
theorem RdTs.on {W W' : World} {sp : Sp} {l : List StmtV} (h : RdTs W.heap.size W sp l) (hb : Below W.heap.size W W') : RdTs W'.heap.size W' sp l := (h.below hb).more hb.size
theorem RdP.on {W W' : World} {p : ProgV} (h : RdP W.heap.size W p) (hb : Below W.heap.size W W') : RdP W'.heap.size W' p := (h.below hb).more hb.size
theorem small_now {W : World} {v ws : Sp} {l : List StmtV} (hv : RowOf W.heap.size W v 3 DeclV.cells [⟨xB, 3, 0⟩]) (hl : RdTs W.heap.size W ws l) : RdP W.heap.size W (smallP v ws l) := by
  have hd : RdDs W.heap.size W Sp.none [] := ⟨RowOf.nil, fun _ h => absurd h (by simp)⟩
  have ht : RdTs W.heap.size W Sp.none [] := ⟨RowOf.nil, fun _ h => absurd h (by simp)⟩
  have hn : NowX W (numE 1 1) := num_now W 1 1 (by decide) (by decide)
  refine ⟨show (Lit.int .i64 1).wf = true by decide, show (Lit.int .i64 2).wf = true by decide, hd, hd, ⟨hv, fun d h => ?_⟩, hd, hn, RowOf.nil, fun _ h => absurd h (by simp [smallP]), RowOf.nil, fun _ h => absurd h (by simp [smallP]), hl, ht, hn⟩
  have : d = ⟨xB, 3, 0⟩ := by simpa [smallP] using h
  rw [this]
  exact ⟨by decide, by decide, by decide⟩
set_option maxRecDepth 1000000 in
set_option maxHeartbeats 2000000 in
theorem small_any (ws : Sp) (l : List StmtV) (w : World) (h : RdTs w.heap.size w ws l) : Calls Tryz.prog 15 #[ws.val l.length] w fun o w' => ∃ b : Nat, o = .returned (smallP ⟨some ⟨b, 0, none⟩, 1⟩ ws l).val ∧ RdP w'.heap.size w' (smallP ⟨some ⟨b, 0, none⟩, 1⟩ ws l) ∧ Below w.heap.size w w' := by
  have HTS := Lib.hid h
  have hb0 : Below w.heap.size w (w.alloc (.cells zeroP.arr 39)) := (Below.refl _ _).alloc (Nat.le_refl _) _
  have hB0 := World.alloc_heap_new w (.cells zeroP.arr 39)
  have hs0 : (w.alloc (.cells zeroP.arr 39)).heap.size = w.heap.size + 1 := by simp
  have hN := fun W => num_any 1 1 W
  simp only [numE, ExprV.val, ExprV.kind, ExprV.op, ExprV.value, ExprV.width, ExprV.name, ExprV.sp, ExprV.subs, Sp.val, Sp.none, List.length_nil] at hN
  have HNM := Lib.hid hN
  clear h hN
  simp only [Sp.val]
  go_enter Tryz.func15, Tryz.ntmps15
  go_upto_region 1 with (first | (refine wpList_allocRow (t := 39) rfl rfl (run_zeroP _) ?_) | fail)
  generalize w.alloc (.cells zeroP.arr 39) = W0 at *
  have HB0 := Lib.hid hb0
  have HX0 := Lib.hid hB0
  have hb1 : Below W0.heap.size W0 (W0.alloc (.cells #[.string xB, .int .i64 3, .int .i64 0] 44)) := (Below.refl _ _).alloc (Nat.le_refl _) _
  have hB1 := World.alloc_heap_new W0 (.cells #[.string xB, .int .i64 3, .int .i64 0] 44)
  have HB1 := Lib.hid hb1
  have HX1 := Lib.hid hB1
  clear hb0 hB0 hb1 hB1
  have hst : (W0.alloc (.cells #[.string xB, .int .i64 3, .int .i64 0] 44)).heap[w.heap.size]? = some (.cells zeroP.arr 39 (0, 0)) ∧ (W0.alloc (.cells #[.string xB, .int .i64 3, .int .i64 0] 44)).heap[w.heap.size + 1]? = some (.cells #[.string xB, .int .i64 3, .int .i64 0] 44 (0, 0)) ∧ Below w.heap.size w (W0.alloc (.cells #[.string xB, .int .i64 3, .int .i64 0] 44)) :=
    ⟨(HB1.out.block _ (by omega)).trans HX0.out, by have h := HX1.out; rw [hs0] at h; exact h, HB0.out.trans (HB1.out.mono (by omega))⟩
  have UPD : Hid (∀ A B : World, Below A.heap.size A B → (A.heap[w.heap.size]? = some (.cells zeroP.arr 39 (0, 0)) ∧ A.heap[w.heap.size + 1]? = some (.cells #[.string xB, .int .i64 3, .int .i64 0] 44 (0, 0)) ∧ Below w.heap.size w A) → (B.heap[w.heap.size]? = some (.cells zeroP.arr 39 (0, 0)) ∧ B.heap[w.heap.size + 1]? = some (.cells #[.string xB, .int .i64 3, .int .i64 0] 44 (0, 0)) ∧ Below w.heap.size w B)) := Lib.hid fun A B hb ⟨h1, h2, h3⟩ =>
    ⟨(hb.block _ (Array.getElem?_eq_some_iff.1 h1).1).trans h1, (hb.block _ (Array.getElem?_eq_some_iff.1 h2).1).trans h2, h3.trans (hb.mono h3.size)⟩
  have HST := Lib.hid hst
  clear hst
  go_wp2_with (first
    | (go_at_call 22; refine (HNM.out _).mono ?_; rintro o2 w2 ⟨rfl, hb2⟩; have HST := Lib.hid (UPD.out _ _ hb2 HST.out); clear hb2)
    | (refine wpList_store_row rfl 39 _ _ rfl w.heap.size (smallP ⟨some ⟨w.heap.size + 1, 0, none⟩, 1⟩ ws l).arr (by rfl) (by rfl) 39 zeroP.arr HST.out.1 (arr_size _) (by kernel_rfl) (arr_one _) ?_)
    | fail)
  obtain ⟨h1, h2, h3⟩ := HST.out
  have h4 := setRow_heap w2 w.heap.size zeroP.arr (smallP ⟨some ⟨w.heap.size + 1, 0, none⟩, 1⟩ ws l).arr 39 (0, 0) h1
  have h5 : Below w.heap.size w (w2.setRow w.heap.size (smallP ⟨some ⟨w.heap.size + 1, 0, none⟩, 1⟩ ws l).arr) := below_setRow h3 (Nat.le_refl _) _
  refine bodyPost_ret (results_cell_row rfl _ _ w.heap.size 39 _ (0, 0) _ rfl h4 Tryz.underlying39 rfl (arr_size _)) rfl ⟨w.heap.size + 1, rfl, ?_, h5⟩
  refine small_now (row_one (enc := DeclV.cells) (x := ⟨xB, 3, 0⟩) (t := 44) (fr := (0, 0)) ((setRow_other _ _ _ _ (by omega)).trans h2)) (HTS.out.on h5)
set_option maxRecDepth 100000 in
theorem wrongAt_any (w : World) (p : ProgV) (hp : RdP w.heap.size w p) (hn0 : 0 < w.heap.size) (hN : NamesOk p) (hwt : weightP p ≤ 1125899906842624) (hmx : MxAt w) (pl e : Int) (h : checkP p = (pl, e)) :
    Calls Tryz.prog 16 #[.agg p.arr, .int .i64 pl, .int .i64 e] w fun o w' => o = .returned (.bool true) ∧ Below w.heap.size w w' := by
  have hb1 : Below w.heap.size w (w.alloc (.cells p.arr 39)) := (Below.refl _ _).alloc (Nat.le_refl _) _
  have hB := World.alloc_heap_new w (.cells p.arr 39)
  have hCK := check_any _ p (hp.on hb1) (Nat.lt_of_lt_of_le hn0 hb1.size) hN hwt (hmx.below hb1 hn0)
  have harrs := arr_size p
  rw [h, arr_val] at hCK
  have HCK := Lib.hid hCK
  have HB := Lib.hid hB
  have HB1 := Lib.hid hb1
  clear hCK hB hb1 h
  generalize p.arr = arr at *
  go_enter Tryz.func16, Tryz.ntmps16
  go_wp2_with (first | (refine wpList_load_row rfl 39 _ rfl w.heap.size rfl 39 _ (0, 0) _ HB.out Tryz.underlying39 rfl harrs ?_) | (go_at_call 30; refine HCK.out.mono ?_; rintro o2 w2 ⟨rfl, hb2⟩; have HB2 := Lib.hid hb2; clear hb2) | fail)
  go_ret
  exact ⟨by simp, HB1.out.trans (HB2.out.mono HB1.out.size)⟩
set_option maxRecDepth 100000 in
theorem right_any (w : World) (p : ProgV) (hp : RdP w.heap.size w p) (hn0 : 0 < w.heap.size) (hN : NamesOk p) (hwt : weightP p ≤ 1125899906842624) (hmx : MxAt w) :
    Calls Tryz.prog 18 #[.agg p.arr] w fun o w' => o = .returned (.bool (decide ((checkP p).2 = 0))) ∧ Below w.heap.size w w' := by
  have hb1 : Below w.heap.size w (w.alloc (.cells p.arr 39)) := (Below.refl _ _).alloc (Nat.le_refl _) _
  have hB := World.alloc_heap_new w (.cells p.arr 39)
  have hCK := check_any _ p (hp.on hb1) (Nat.lt_of_lt_of_le hn0 hb1.size) hN hwt (hmx.below hb1 hn0)
  have harrs := arr_size p
  rw [arr_val] at hCK
  generalize checkP p = ck at *
  have HCK := Lib.hid hCK
  have HB := Lib.hid hB
  have HB1 := Lib.hid hb1
  clear hCK hB hb1
  generalize p.arr = arr at *
  by_cases e : ck.2 = 0
  · have hd : decide (ck.2 = 0) = true := decide_eq_true e
    have he : (ck.2 == 0) = true := by simpa using e
    rw [hd]
    clear hd e
    go_enter Tryz.func18, Tryz.ntmps18
    go_wp2_with (first | (refine wpList_load_row rfl 39 _ rfl w.heap.size rfl 39 _ (0, 0) _ HB.out Tryz.underlying39 rfl harrs ?_) | (go_at_call 30; refine HCK.out.mono ?_; rintro o2 w2 ⟨rfl, hb2⟩; have HB2 := Lib.hid hb2; clear hb2) | fail)
    go_ret
    exact ⟨rfl, HB1.out.trans (HB2.out.mono HB1.out.size)⟩
  · have hd : decide (ck.2 = 0) = false := decide_eq_false e
    have he : (ck.2 == 0) = false := by simpa using e
    rw [hd]
    clear hd e
    go_enter Tryz.func18, Tryz.ntmps18
    go_wp2_with (first | (refine wpList_load_row rfl 39 _ rfl w.heap.size rfl 39 _ (0, 0) _ HB.out Tryz.underlying39 rfl harrs ?_) | (go_at_call 30; refine HCK.out.mono ?_; rintro o2 w2 ⟨rfl, hb2⟩; have HB2 := Lib.hid hb2; clear hb2) | fail)
    go_ret
    exact ⟨rfl, HB1.out.trans (HB2.out.mono HB1.out.size)⟩
end Go.Proofs.YthcboallnbaimaaGreatDoor
