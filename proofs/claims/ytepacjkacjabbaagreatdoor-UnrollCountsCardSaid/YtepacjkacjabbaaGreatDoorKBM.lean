import Derived.Test.YtepacjkacjabbaaGreatDoorKBL
import Derived.Test.YtepacjkacjabbaaGreatDoorKBI
import Derived.Laws.StructEq
import Derived.Deep.QuietTactic
import Derived.BigQuiet
import Derived.BigRegion
namespace Go.Proofs.YtepacjkacjabbaaGreatDoor
open Go Go.RowKit Go.Maps
attribute [local go_sem] Oper.semAt_some
noncomputable def opsC5 : Array Oper := ((Tryz.f9.body.bind (opsOf 5)).getD #[])
def keepC5 (t : Nat) : Bool := decide (t ≤ 10) || (decide (12 ≤ t) && decide (t ≤ 38)) || decide (55 ≤ t)
theorem opsC5_ok : stepsB opsC5 18 128 keepC5 = true := by kernel_rfl
def QT5 (bt : StmtV) (v : Value) (w : World) : Prop := ∃ s : StmtV, v = s.val ∧ bareT s = bareT bt ∧ NowT w s
def QTs5 (bl : List StmtV) (v : Value) (w : World) : Prop := ∃ (sp : Sp) (l : List StmtV), v = sp.val l.length ∧ l.map bareT = bl.map bareT ∧ RdTs w.heap.size w sp l
def QXs5 (l : List ExprV) (v : Value) (w : World) : Prop := ∃ sp : Sp, v = sp.val l.length ∧ RowOf w.heap.size w sp 6 ExprV.cells l
def QP5 (bl : List StmtV) (v : Value) (w : World) : Prop := ∃ (vs ws : Sp) (l : List StmtV), v = (smU vs ws Sp.none l []).val ∧ l.map bareT = bl.map bareT ∧ RdP w.heap.size w (smU vs ws Sp.none l [])
def GB5 (b : Nat) (bl : List StmtV) (w : World) : Prop := ∃ (vs ws : Sp) (l : List StmtV), l.map bareT = bl.map bareT ∧ Bx b w (smU vs ws Sp.none l []) ∧ RdP w.heap.size (mask b w) (smU vs ws Sp.none l [])
def Up5 (Q : Value → World → Prop) : Prop := ∀ v w w', Below w.heap.size w w' → Q v w → Q v w'
theorem QT5.up {bt : StmtV} : Up5 (QT5 bt) := fun _ _ _ hb ⟨s, h1, h2, h3⟩ => ⟨s, h1, h2, h3.on hb⟩
theorem QTs5.up {bl : List StmtV} : Up5 (QTs5 bl) := fun _ _ _ hb ⟨s, l, h1, h2, h3⟩ => ⟨s, l, h1, h2, h3.on hb⟩
theorem QXs5.up {l : List ExprV} : Up5 (QXs5 l) := fun _ _ _ hb ⟨s, h1, h2⟩ => ⟨s, h1, (h2.below hb).more hb.size⟩
theorem QP5.up {bl : List StmtV} : Up5 (QP5 bl) := fun _ _ _ hb ⟨a, b, l, h1, h2, h3⟩ => ⟨a, b, l, h1, h2, h3.on hb⟩
theorem mask_keeps {b n : Nat} {w w' : World} {p : ProgV} (h : RdP n (mask b w) p) (hc : ∀ a : Addr, a.block < n → a.block ≠ b → w'.cell? a = w.cell? a) : RdP n (mask b w') p :=
 h.cells fun a u ha hu => by
   obtain ⟨h1, h2⟩ := (maskO_cell (g := some b)).1 hu
   exact (maskO_cell (g := some b)).2 ⟨h1, (hc a ha fun e => h1 (by rw [e])).trans h2⟩
theorem GB5.on {b : Nat} {bl : List StmtV} {w w' : World} (hb : Below w.heap.size w w') (h : GB5 b bl w) : GB5 b bl w' := by
 obtain ⟨vs, ws, l, h1, h2, h3⟩ := h
 exact ⟨vs, ws, l, h1, h2.on hb, (mask_keeps h3 fun a ha _ => hb.cell ha).more hb.size⟩
def R5 (bl : List StmtV) (i : Nat) (_ : Nat → Bool) (a : Act) (w w' : World) : Prop := if i = 17 then ∀ b, a.eval (.tmp 11) = .pointer (some ⟨b, 0, none⟩) → GB5 b bl w' else Below w.heap.size w w'
section
variable {bl : List StmtV} {i k d n0 : Nat} {L : Nat → Bool} {a : Act} {v : Value} {w w' w0 : World} {Q : Value → World → Prop}
theorem R5.of (hi : i ≠ 17) (h : Below w.heap.size w w') : R5 bl i L a w w' := by unfold R5; rwa [if_neg hi]
theorem R5.other (h : R5 bl i L a w w') (hi : i ≠ 17) : Below w.heap.size w w' := by unfold R5 at h; rwa [if_neg hi] at h
theorem R5.last (h : R5 bl 17 L a w w') : ∀ b, a.eval (.tmp 11) = .pointer (some ⟨b, 0, none⟩) → GB5 b bl w' := by unfold R5 at h; rwa [if_pos rfl] at h
theorem stab5 (hu : Up5 Q) : StabL (R5 bl) k (some d) (fun L v w => L 17 = false → Q v w) := by
 intro i L a w w' _ _ hR hP h17
 by_cases hi : i = 17
 · rw [hi, onL_same] at h17; cases h17
 · rw [onL_other (Ne.symm hi)] at h17
   exact hu _ _ _ (hR.other hi) (hP h17)
theorem leave5 (hk : k ≠ 17) (hq : Q v w') (hs : Below w0.heap.size w0 w) (hb : Below w.heap.size w w') : LeavesL (fun _ w => Below w0.heap.size w0 w) (R5 bl) k (some d) (fun L v w => L 17 = false → Q v w) L a w (a.put (some d) v) w' :=
 ⟨v, rfl, fun e => (by cases e), fun _ => hq, hs.trans (hb.mono hs.size), R5.of hk hb⟩
end
theorem plain_do {W : World} (k : Int) (hk : 0 ≤ k ∧ k ≤ 255) : NowT W (doS k []) :=
 .mk _ hk (show (Lit.int .i64 0).wf = true by decide) (show (0 : Nat) ≤ maxLen by decide) RowOf.nil (fun _ h => absurd h (by simp [doS, StmtV.exprs])) RowOf.nil (fun _ h => absurd h (by simp [doS, StmtV.thn])) RowOf.nil (fun _ h => absurd h (by simp [doS, StmtV.els]))
theorem do3_now {W : World} {sp : Sp} (hr : RowOf W.heap.size W sp 6 ExprV.cells [numE 0 1, nameE xB]) : NowT W (.mk 3 ⟨#[]⟩ sp [numE 0 1, nameE xB] 0 Sp.none [] Sp.none []) :=
 .mk _ (show (0 : Int) ≤ 3 ∧ (3 : Int) ≤ 255 by decide) (show (Lit.int .i64 0).wf = true by decide) (show (0 : Nat) ≤ maxLen by decide) hr (fun e he => by
   have he2 : e = numE 0 1 ∨ e = nameE xB := by simpa [StmtV.exprs] using he
   rcases he2 with rfl | rfl
   · exact num_now W 0 1 (by decide) (by decide)
   · exact name_now W xB (by decide)) RowOf.nil (fun _ h => absurd h (by simp [StmtV.thn])) RowOf.nil (fun _ h => absurd h (by simp [StmtV.els]))
theorem wh_bare (n : Int) (sp2 sp : Sp) {l m : List StmtV} (h : l.map bareT = m.map bareT) : bareT (whU sp2 (nameE xB) n sp l) = bareT (whS n m) := by
 unfold whU whS
 rw [bareT_mk, bareT_mk, h]
set_option maxRecDepth 10000000 in
set_option maxHeartbeats 16000000 in
theorem cnt5 {a0 : Act} {w0 : World} (hsz : a0.tmps.size = 128) (bi : Nat) (x y z : Int) (hx : (Lit.int .i64 x).wf = true) (hz : (Lit.int .i64 z).wf = true) (s : StmtV)
   (f7 : a0.tmps[7]?.getD undef = .int .i64 x) (f9 : a0.tmps[9]?.getD undef = .int .i64 z) (f10 : a0.tmps[10]?.getD undef = .pointer (some ⟨bi, 0, none⟩))
   (hbi : w0.heap[bi]? = some (.cells #[.int .u8 s.kind, .string s.name, .slice s.es.at_ s.exprs.length s.es.cap, .int .i64 s.bound, .slice s.ts.at_ s.thn.length s.ts.cap, .slice s.os.at_ s.els.length s.os.cap] 43 (0, 0))) (hs : NowT w0 s) (hbs : bareT s = bareT (cntsI y)) :
   (Code.region 5 opsC5 true).wp Tryz.prog (fun e a w => e = .normal ∧ a.tmps.size = 128 ∧ a.defers = a0.defers ∧ (∀ t : Nat, keepC5 t = true → a.tmps[t]?.getD undef = a0.tmps[t]?.getD undef) ∧ Below w0.heap.size w0 w ∧ ∃ b, a.tmps[11]?.getD undef = .pointer (some ⟨b, 0, none⟩) ∧ w0.heap.size ≤ b ∧ GB5 b (cntsW x y z) w) a0 w0 := by
 have hbl : bi < w0.heap.size := (Array.getElem?_eq_some_iff.1 hbi).1
 obtain ⟨x0, x1, x2, x3, x4, x5⟩ := six_cells hbi
 refine wp_region_stepsL (n := 18) (sz := 128) (keep := keepC5) rfl opsC5_ok hsz (fun _ w => Below w0.heap.size w0 w) (R5 (cntsW x y z)) ((Below.refl _ _).drew) ?_
 have e : opsC5.toList = opsC5.toList := rfl
 conv at e => rhs; arg 1; whnf
 simp only at e
 rw [e]
 clear e
 apply StepsL.exact rfl rfl
 · exact fun _ _ h => h
 · exact fun _ _ w => R5.of (by decide) (Below.refl _ w)
 · rintro L a w ⟨-, hS, hbeh, hsm, haft⟩
   have f7 : a.tmps[7]?.getD undef = _ := (hsm 7 rfl).trans f7
   simp [go_sem, f7]
   exact rfl
 apply StepsL.call (f := 57) (args := #[.string xB]) rfl rfl
 · exact fun _ w w' h hb => h.trans (hb.mono h.size)
 · exact fun _ _ w w' hb => R5.of (by decide) hb
 · rintro L a w ⟨-, hS, hbeh, hsm, haft⟩
   refine ⟨?_, ?_⟩
   · simp [go_sem]; rfl
   · exact name_anyU xB w
 apply StepsL.exact rfl rfl
 · exact fun _ _ h => h
 · exact fun _ _ w => R5.of (by decide) (Below.refl _ w)
 · rintro L a w ⟨-, hS, hbeh, hsm, haft⟩
   simp [go_sem]
   exact rfl
 apply StepsL.exact rfl rfl
 · exact fun _ _ h => h
 · exact fun _ _ w => R5.of (by decide) (Below.refl _ w)
 · rintro L a w ⟨-, hS, hbeh, hsm, haft⟩
   have f10 : a.tmps[10]?.getD undef = _ := (hsm 10 rfl).trans f10
   have c0 := (hS.cell (p := ⟨bi, 0, none⟩) hbl).trans (x0)
   have c1 := (hS.cell (p := ⟨bi, 1, none⟩) hbl).trans (x1)
   have c2 := (hS.cell (p := ⟨bi, 2, none⟩) hbl).trans (x2)
   have c3 := (hS.cell (p := ⟨bi, 3, none⟩) hbl).trans (x3)
   have c4 := (hS.cell (p := ⟨bi, 4, none⟩) hbl).trans (x4)
   have c5 := (hS.cell (p := ⟨bi, 5, none⟩) hbl).trans (x5)
   simp [go_sem, f10, c0, c1, c2, c3, c4, c5]
   exact rfl
 refine StepsL.any (fun L v w => L 17 = false → QTs5 [doS 4 [], cntsI y] v w) rfl ?_ ?_ ?_
 · exact stab5 QTs5.up
 · rintro L a w ⟨hL, hS, hbeh, hsm, haft⟩
   have f41 : a.tmps[41]?.getD undef = _ := tmps_of (haft.1 rfl).2
   have f42 : a.tmps[42]?.getD undef = _ := tmps_of (haft.2.1 rfl).2
   have h17 : L 17 = false := hbeh 17 rfl
   have hb2 : Below w.heap.size w (w.alloc (.cells #[.int .u8 4, .string ⟨#[]⟩, .slice none 0 0, .int .i64 0, .slice none 0 0, .slice none 0 0, .int .u8 s.kind, .string s.name, .slice s.es.at_ s.exprs.length s.es.cap, .int .i64 s.bound, .slice s.ts.at_ s.thn.length s.ts.cap, .slice s.os.at_ s.els.length s.os.cap] 43)) := (Below.refl _ _).alloc (Nat.le_refl _) _
   refine Oper.wp_value (v := .slice (some ⟨w.heap.size, 0, none⟩) 2 2) (w' := w.alloc (.cells #[.int .u8 4, .string ⟨#[]⟩, .slice none 0 0, .int .i64 0, .slice none 0 0, .slice none 0 0, .int .u8 s.kind, .string s.name, .slice s.es.at_ s.exprs.length s.es.cap, .int .i64 s.bound, .slice s.ts.at_ s.thn.length s.ts.cap, .slice s.os.at_ s.els.length s.os.cap] 43)) ?_ ?_
   · simp [go_sem, f41, f42]
   · refine leave5 (by decide) ⟨⟨some ⟨w.heap.size, 0, none⟩, 2⟩, [doS 4 [], s], rfl, by rw [List.map_cons, List.map_cons, List.map_cons, List.map_cons, hbs], row_two (enc := StmtV.cells) (x := doS 4 []) (y := s) rfl (World.alloc_heap_new w _), fun t ht => ?_⟩ hS hb2
     have ht2 : t = doS 4 [] ∨ t = s := by simpa using ht
     rcases ht2 with rfl | rfl
     · exact plain_do 4 (by decide)
     · exact (hs.on hS).on hb2
 refine StepsL.any (fun L v w => L 17 = false → QT5 (whS x [doS 4 [], cntsI y]) v w) rfl ?_ ?_ ?_
 · exact stab5 QT5.up
 · rintro L a w ⟨hL, hS, hbeh, hsm, haft⟩
   have f39 : a.tmps[39]?.getD undef = _ := tmps_of (haft.1 rfl).2
   have f40 : a.tmps[40]?.getD undef = _ := tmps_of (haft.2.1 rfl).2
   have h17 : L 17 = false := hbeh 17 rfl
   obtain ⟨sp, l, e43, hl1, hl2⟩ := ((haft.2.2.1 rfl).2 h17)
   have f43 : a.tmps[43]?.getD undef = sp.val l.length := tmps_of e43
   refine Oper.wp_enter (f := 60) (args := #[.int .i64 x, (nameE xB).val, sp.val l.length]) (w' := w) ?_ ?_
   · simp [go_sem, f39, f40, f43]
   · refine (while_anyU x hx (nameE xB) sp l w (name_now w xB (by decide)) hl2).mono ?_
     rintro o w' ⟨sp2, rfl, h1, hb2⟩
     refine ⟨_, rfl, leave5 (by decide) ⟨_, rfl, ?_, h1⟩ hS hb2⟩
     exact wh_bare x sp2 sp hl1
 apply StepsL.exact rfl rfl
 · exact fun _ _ h => h
 · exact fun _ _ w => R5.of (by decide) (Below.refl _ w)
 · rintro L a w ⟨-, hS, hbeh, hsm, haft⟩
   have f9 : a.tmps[9]?.getD undef = _ := (hsm 9 rfl).trans f9
   simp [go_sem, f9]
   exact rfl
 apply StepsL.call (f := 57) (args := #[.string xB]) rfl rfl
 · exact fun _ w w' h hb => h.trans (hb.mono h.size)
 · exact fun _ _ w w' hb => R5.of (by decide) hb
 · rintro L a w ⟨-, hS, hbeh, hsm, haft⟩
   refine ⟨?_, ?_⟩
   · simp [go_sem]; rfl
   · exact name_anyU xB w
 apply StepsL.call (f := 41) (args := #[.int .i64 0, .int .i64 1]) rfl rfl
 · exact fun _ w w' h hb => h.trans (hb.mono h.size)
 · exact fun _ _ w w' hb => R5.of (by decide) hb
 · rintro L a w ⟨-, hS, hbeh, hsm, haft⟩
   refine ⟨?_, ?_⟩
   · simp [go_sem]
   · exact num_anyU 0 1 (by decide) w
 apply StepsL.call (f := 57) (args := #[.string xB]) rfl rfl
 · exact fun _ w w' h hb => h.trans (hb.mono h.size)
 · exact fun _ _ w w' hb => R5.of (by decide) hb
 · rintro L a w ⟨-, hS, hbeh, hsm, haft⟩
   refine ⟨?_, ?_⟩
   · simp [go_sem]; rfl
   · exact name_anyU xB w
 refine StepsL.any (fun L v w => L 17 = false → QXs5 [numE 0 1, nameE xB] v w) rfl ?_ ?_ ?_
 · exact stab5 QXs5.up
 · rintro L a w ⟨hL, hS, hbeh, hsm, haft⟩
   have f47 : a.tmps[47]?.getD undef = _ := tmps_of (haft.1 rfl).2
   have f48 : a.tmps[48]?.getD undef = _ := tmps_of (haft.2.1 rfl).2
   have h17 : L 17 = false := hbeh 17 rfl
   have hb2 : Below w.heap.size w (w.alloc (.cells ((numE 0 1).cells ++ (nameE xB).cells).toArray 30)) := (Below.refl _ _).alloc (Nat.le_refl _) _
   refine Oper.wp_value (v := .slice (some ⟨w.heap.size, 0, none⟩) 2 2) (w' := w.alloc (.cells ((numE 0 1).cells ++ (nameE xB).cells).toArray 30)) ?_ ?_
   · have f47' : a.tmps[47]?.getD undef = .agg (numE 0 1).cells.toArray := f47
     have f48' : a.tmps[48]?.getD undef = .agg (nameE xB).cells.toArray := f48
     simp only [numE, nameE, ExprV.cells, Sp.none] at f47' f48'
     simp [go_sem, f47', f48', numE, nameE, ExprV.cells, Sp.none]
   · exact leave5 (by decide) ⟨⟨some ⟨w.heap.size, 0, none⟩, 2⟩, rfl, row_two (enc := ExprV.cells) (x := numE 0 1) (y := nameE xB) rfl (World.alloc_heap_new w _)⟩ hS hb2
 refine StepsL.any (fun L v w => L 17 = false → QT5 (doS 3 [numE 0 1, nameE xB]) v w) rfl ?_ ?_ ?_
 · exact stab5 QT5.up
 · rintro L a w ⟨hL, hS, hbeh, hsm, haft⟩
   have h17 : L 17 = false := hbeh 17 rfl
   obtain ⟨sp, e49, hr⟩ := ((haft.1 rfl).2 h17)
   have f49 : a.tmps[49]?.getD undef = .slice sp.at_ 2 sp.cap := tmps_of e49
   refine Oper.wp_value (v := .agg #[.int .u8 3, .string ⟨#[]⟩, .slice sp.at_ 2 sp.cap, .int .i64 0, .slice none 0 0, .slice none 0 0]) (w' := w) ?_ ?_
   · simp [go_sem, f49]
   · exact leave5 (by decide) ⟨.mk 3 ⟨#[]⟩ sp [numE 0 1, nameE xB] 0 Sp.none [] Sp.none [], rfl, by rw [bareT_mk, doS, bareT_mk], do3_now hr⟩ hS (Below.refl _ _)
 refine StepsL.any (fun L v w => L 17 = false → QTs5 [(doS 3 [numE 0 1, nameE xB])] v w) rfl ?_ ?_ ?_
 · exact stab5 QTs5.up
 · rintro L a w ⟨hL, hS, hbeh, hsm, haft⟩
   have h17 : L 17 = false := hbeh 17 rfl
   obtain ⟨s2, e50, hb50, hn50⟩ := ((haft.1 rfl).2 h17)
   have f50 : a.tmps[50]?.getD undef = .agg #[.int .u8 s2.kind, .string s2.name, .slice s2.es.at_ s2.exprs.length s2.es.cap, .int .i64 s2.bound, .slice s2.ts.at_ s2.thn.length s2.ts.cap, .slice s2.os.at_ s2.els.length s2.os.cap] := tmps_of e50
   have hb2 : Below w.heap.size w (w.alloc (.cells #[.int .u8 s2.kind, .string s2.name, .slice s2.es.at_ s2.exprs.length s2.es.cap, .int .i64 s2.bound, .slice s2.ts.at_ s2.thn.length s2.ts.cap, .slice s2.os.at_ s2.els.length s2.os.cap] 43)) := (Below.refl _ _).alloc (Nat.le_refl _) _
   refine Oper.wp_value (v := .slice (some ⟨w.heap.size, 0, none⟩) 1 1) (w' := w.alloc (.cells #[.int .u8 s2.kind, .string s2.name, .slice s2.es.at_ s2.exprs.length s2.es.cap, .int .i64 s2.bound, .slice s2.ts.at_ s2.thn.length s2.ts.cap, .slice s2.os.at_ s2.els.length s2.os.cap] 43)) ?_ ?_
   · simp [go_sem, f50]
   · exact leave5 (by decide) ⟨⟨some ⟨w.heap.size, 0, none⟩, 1⟩, [s2], rfl, by rw [List.map_cons, List.map_cons, hb50], row_one (enc := StmtV.cells) (x := s2) (World.alloc_heap_new w _), fun t ht => by rw [List.mem_singleton.1 ht]; exact hn50.on hb2⟩ hS hb2
 refine StepsL.any (fun L v w => L 17 = false → QT5 (whS z [doS 3 [numE 0 1, nameE xB]]) v w) rfl ?_ ?_ ?_
 · exact stab5 QT5.up
 · rintro L a w ⟨hL, hS, hbeh, hsm, haft⟩
   have f45 : a.tmps[45]?.getD undef = _ := tmps_of (haft.1 rfl).2
   have f46 : a.tmps[46]?.getD undef = _ := tmps_of (haft.2.1 rfl).2
   have h17 : L 17 = false := hbeh 17 rfl
   obtain ⟨sp, l, e51, hl1, hl2⟩ := ((haft.2.2.1 rfl).2 h17)
   have f51 : a.tmps[51]?.getD undef = sp.val l.length := tmps_of e51
   refine Oper.wp_enter (f := 60) (args := #[.int .i64 z, (nameE xB).val, sp.val l.length]) (w' := w) ?_ ?_
   · simp [go_sem, f45, f46, f51]
   · refine (while_anyU z hz (nameE xB) sp l w (name_now w xB (by decide)) hl2).mono ?_
     rintro o w' ⟨sp2, rfl, h1, hb2⟩
     refine ⟨_, rfl, leave5 (by decide) ⟨_, rfl, ?_, h1⟩ hS hb2⟩
     exact wh_bare z sp2 sp hl1
 refine StepsL.any (fun L v w => L 17 = false → QTs5 (cntsW x y z) v w) rfl ?_ ?_ ?_
 · exact stab5 QTs5.up
 · rintro L a w ⟨hL, hS, hbeh, hsm, haft⟩
   have h17 : L 17 = false := hbeh 17 rfl
   obtain ⟨s1, e44, hb44, hn44⟩ := ((haft.1 rfl).2 h17)
   have f44 : a.tmps[44]?.getD undef = .agg #[.int .u8 s1.kind, .string s1.name, .slice s1.es.at_ s1.exprs.length s1.es.cap, .int .i64 s1.bound, .slice s1.ts.at_ s1.thn.length s1.ts.cap, .slice s1.os.at_ s1.els.length s1.os.cap] := tmps_of e44
   obtain ⟨s2, e52, hb52, hn52⟩ := ((haft.2.1 rfl).2 h17)
   have f52 : a.tmps[52]?.getD undef = .agg #[.int .u8 s2.kind, .string s2.name, .slice s2.es.at_ s2.exprs.length s2.es.cap, .int .i64 s2.bound, .slice s2.ts.at_ s2.thn.length s2.ts.cap, .slice s2.os.at_ s2.els.length s2.os.cap] := tmps_of e52
   have hb2 : Below w.heap.size w (w.alloc (.cells #[.int .u8 s1.kind, .string s1.name, .slice s1.es.at_ s1.exprs.length s1.es.cap, .int .i64 s1.bound, .slice s1.ts.at_ s1.thn.length s1.ts.cap, .slice s1.os.at_ s1.els.length s1.os.cap, .int .u8 s2.kind, .string s2.name, .slice s2.es.at_ s2.exprs.length s2.es.cap, .int .i64 s2.bound, .slice s2.ts.at_ s2.thn.length s2.ts.cap, .slice s2.os.at_ s2.els.length s2.os.cap] 43)) := (Below.refl _ _).alloc (Nat.le_refl _) _
   refine Oper.wp_value (v := .slice (some ⟨w.heap.size, 0, none⟩) 2 2) (w' := w.alloc (.cells #[.int .u8 s1.kind, .string s1.name, .slice s1.es.at_ s1.exprs.length s1.es.cap, .int .i64 s1.bound, .slice s1.ts.at_ s1.thn.length s1.ts.cap, .slice s1.os.at_ s1.els.length s1.os.cap, .int .u8 s2.kind, .string s2.name, .slice s2.es.at_ s2.exprs.length s2.es.cap, .int .i64 s2.bound, .slice s2.ts.at_ s2.thn.length s2.ts.cap, .slice s2.os.at_ s2.els.length s2.os.cap] 43)) ?_ ?_
   · simp [go_sem, f44, f52]
   · refine leave5 (by decide) ⟨⟨some ⟨w.heap.size, 0, none⟩, 2⟩, [s1, s2], rfl, by unfold cntsW; rw [List.map_cons, List.map_cons, List.map_cons, List.map_cons, hb44, hb52], row_two (enc := StmtV.cells) (x := s1) (y := s2) rfl (World.alloc_heap_new w _), fun t ht => ?_⟩ hS hb2
     have ht2 : t = s1 ∨ t = s2 := by simpa using ht
     rcases ht2 with rfl | rfl
     · exact hn44.on hb2
     · exact hn52.on hb2
 refine StepsL.any (fun L v w => L 17 = false → QP5 (cntsW x y z) v w) rfl ?_ ?_ ?_
 · exact stab5 QP5.up
 · rintro L a w ⟨hL, hS, hbeh, hsm, haft⟩
   have h17 : L 17 = false := hbeh 17 rfl
   obtain ⟨sp, l, e53, hl1, hl2⟩ := ((haft.1 rfl).2 h17)
   have f53 : a.tmps[53]?.getD undef = sp.val l.length := tmps_of e53
   refine Oper.wp_enter (f := 48) (args := #[sp.val l.length]) (w' := w) ?_ ?_
   · simp [go_sem, f53]
   · refine (small_anyU sp l w hl2).mono ?_
     rintro o w' ⟨b, rfl, h1, hb2⟩
     exact ⟨_, rfl, leave5 (by decide) ⟨_, sp, l, rfl, hl1, h1⟩ hS hb2⟩
 refine StepsL.any (fun L v w => ∃ b, v = .pointer (some ⟨b, 0, none⟩) ∧ w0.heap.size ≤ b ∧ b < w.heap.size ∧ (L 17 = false → ZeroP w b) ∧ (L 17 = true → GB5 b (cntsW x y z) w)) rfl ?_ ?_ ?_
 · intro i L a w w' hne hk hR hP
   obtain ⟨b, hv, h1, h2, h3, h4⟩ := hP
   by_cases hi : i = 17
   · subst hi
     have hg := hR.last b hv
     obtain ⟨_, _, _, _, hbx, _⟩ := id hg
     exact ⟨b, hv, h1, hbx.lt, fun e => (by rw [onL_same] at e; cases e), fun _ => hg⟩
   · have hb := hR.other hi
     refine ⟨b, hv, h1, Nat.lt_of_lt_of_le h2 hb.size, fun e => ?_, fun e => ?_⟩ <;> rw [onL_other (Ne.symm hi)] at e
     · exact (hb.block b h2).trans (h3 e)
     · exact (h4 e).on hb
 · rintro L a w ⟨hL, hS, hbeh, hsm, haft⟩
   have h17 : L 17 = false := hbeh 17 rfl
   have hb2 : Below w.heap.size w (w.alloc (.cells zeroP.arr 35)) := (Below.refl _ _).alloc (Nat.le_refl _) _
   refine Oper.wp_value (v := .pointer (some ⟨w.heap.size, 0, none⟩)) (w' := w.alloc (.cells zeroP.arr 35)) ?_ ?_
   · have hzero := run_zeroP w
     simp [execOp, Sem.run_bind, Instr.alloc, hzero, go_sem, Value.cells]
   · refine ⟨_, rfl, fun e => (by cases e), ⟨w.heap.size, rfl, hS.size, by simp, fun _ => World.alloc_heap_new w _, fun e => ?_⟩, hS.trans (hb2.mono hS.size), R5.of (by decide) hb2⟩
     rw [onL_other (by decide), h17] at e; cases e
 refine StepsL.any (fun L v w => True) rfl ?_ ?_ ?_
 · exact fun _ _ _ _ _ _ _ _ h => h
 · rintro L a w ⟨hL, hS, hbeh, hsm, haft⟩
   obtain ⟨b, x11, hb1, hb2, hzb, -⟩ := (haft.1 rfl).2
   have hzb := hzb hL
   obtain ⟨vs, ws, l, e54, hl1, hrd⟩ := ((haft.2.1 rfl).2 hL)
   refine wp_store_row 35 _ _ rfl b (smU vs ws Sp.none l []).arr x11 e54 35 zeroP.arr hzb (arr_size _) (by kernel_rfl) (arr_one _) ?_
   have hrow := setRow_heap w b zeroP.arr (smU vs ws Sp.none l []).arr 35 (0, 0) hzb
   refine ⟨undef, rfl, fun _ => rfl, trivial, below_setRow hS hb1, ?_⟩
   unfold R5
   rw [if_pos rfl]
   intro b' e'
   replace e' : a.eval (.tmp 11) = _ := e'
   rw [show a.eval (.tmp 11) = _ from x11] at e'
   cases e'
   refine ⟨vs, ws, l, hl1, hrow, ?_⟩
   have hav := smU_avoid hzb hrd fun t ht => by
     obtain ⟨t', ht', e⟩ := List.mem_map.1 (hl1 ▸ List.mem_map_of_mem ht : bareT t ∈ (cntsW x y z).map bareT)
     exact PlainT.of e.symm (cntsW_plain x y z t' ht')
   refine (mask_keeps hav fun q hq hne => World.cell?_of_block (setRow_other w b q.block _ hne)).more (show w.heap.size ≤ _ by rw [size_setRow]; exact Nat.le_refl _)
 rintro L a w hL ⟨hS, hsame, hv⟩
 obtain ⟨b, h1, h2, h3, h4, h5⟩ := hv 16
 exact ⟨rfl, hsame.1.trans hsz, hsame.2.1, hsame.2.2, hS, b, tmps_of h1, h2, h5 (hL 17 (by decide))⟩
end Go.Proofs.YtepacjkacjabbaaGreatDoor
namespace Go.Proofs.YtepacjkacjabbaaGreatDoor
open Go Go.RowKit Go.Maps
theorem encK_cell {W : World} {n : Nat} {sp : Sp} {l : List Int} (h : RowOf n W sp 1 encK l) (h0 : 0 < l.length) : ∃ b off, sp.at_ = some ⟨b, off, none⟩ ∧ ∀ k (_ : k < l.length), W.cell? ⟨b, off + k, none⟩ = some (.int .u8 (l[k]?.getD 0)) := by
 obtain ⟨b, off, e, _, hx⟩ := h.row h0
 refine ⟨b, off, e, fun k hk => ?_⟩
 have := hx k hk 0 (.int .u8 (l[k]?.getD 0)) (by simp [encK, hk])
 rwa [Nat.mul_one, Nat.add_zero] at this
set_option maxRecDepth 1000000 in
set_option maxHeartbeats 4000000 in
theorem equalU_any (w : World) (sp sq : Sp) (l : List Int) (h1 : RowOf w.heap.size w sp 1 encK l) (h2 : RowOf w.heap.size w sq 1 encK l) (hl : l.length ≤ 1000000) :
   Calls Tryz.prog 63 #[.slice sp.at_ l.length sp.cap, .slice sq.at_ l.length sq.cap] w fun o w' => o = .returned (.bool true) ∧ ∃ q, w' = w.drewN q := by
 go_enter Tryz.func63, Tryz.ntmps63
 go_wp2_with fail
 go_loopw [13] (fun i wr => ∃ (k q : Nat), k ≤ l.length ∧ i = .int .i64 k ∧ wr = w.drewN q) (fun i _ => l.length - (intOf i).toNat)
 case atStart => exact ⟨0, 0, Nat.zero_le _, rfl, rfl⟩
 case round =>
   obtain ⟨k, q, hk, rfl, rfl⟩ := hrel
   by_cases hlt : k < l.length
   · obtain ⟨b, off, e1, hc1⟩ := encK_cell h1 (by omega)
     obtain ⟨b', off', e2, hc2⟩ := encK_cell h2 (by omega)
     have g1 := hc1 k hlt
     have g2 := hc2 k hlt
     rw [e1, e2]
     generalize l[k]?.getD 0 = x at *
     clear hc1 hc2 h1 h2
     have hk0 : (0 : Int) ≤ (k : Int) := Int.natCast_nonneg _
     have hk1 : (k : Int) < (l.length : Int) := by omega
     have hd1 : ∀ p, (w.drewN q).cell? p = w.cell? p := fun _ => rfl
     go_wp2_with fail
     go_quiet (fail)
     go_wp2_with fail
     go_roundw
     case rel => exact ⟨k + 1, _, by omega, by go_num, rfl⟩
     case measure => simp [intOf]; omega
   · obtain rfl : k = l.length := by omega
     go_wp2_with fail
     go_ret
     exact ⟨rfl, q, rfl⟩
end Go.Proofs.YtepacjkacjabbaaGreatDoor
