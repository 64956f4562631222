/- salvorlaw32.Renamed: its drawn regions, told operation by operation. salvorlaw32.Renamed: the rounds of its loops, told operation by operation. salvorlaw32.Renamed: what its loops keep, and what comes of all. No function walked here. salvorlaw32.Renamed: a program in which a name is another one throughout, in memory of its own. -/
import Derived.Test.YthcboallnbaimaaGreatDoorUF
import Derived.Test.YthcboallnbaimaaGreatDoorPart
import Derived.Test.YthcboallnbaimaaGreatDoorUE
namespace Go.Proofs.YthcboallnbaimaaGreatDoor
open Go Go.RowKit Go.Maps
/-- The program's box. -/
def Bx (s0 : Nat) (w : World) (p : ProgV) : Prop := w.heap[s0]? = some (.cells p.arr 39 (0, 0))
/-- All but the box is kept. -/
def Mk (s0 : Nat) (w w' : World) : Prop := Below w.heap.size (mask s0 w) (mask s0 w')
section
variable {s0 lo : Nat} {w w' w2 : World} {p q : ProgV}
theorem Mk.refl : Mk s0 w w := Below.refl _ _
theorem Mk.size (h : Mk s0 w w') : w.heap.size ≤ w'.heap.size := size_mask h
theorem Mk.trans (h : Mk s0 w w') (h2 : Mk s0 w' w2) : Mk s0 w w2 := Below.trans h (Below.mono h2 h.size)
theorem Mk.of (h : Below w.heap.size w w') (hs : s0 < w.heap.size) : Mk s0 w w' := below_mask hs h
theorem Mk.set (_ : s0 < w.heap.size) (i : Nat) (v : Value) : Mk s0 w (w.setCell ⟨s0, i, none⟩ v) := by
 unfold Mk
 rw [mask_setCell]
 exact Below.refl _ _
theorem Mk.below (h : Mk s0 w w') {n : Nat} (hn : n ≤ s0) (hs : s0 < w.heap.size) : Below n w w' := unmask_below hn (Below.mono h (by omega))
theorem Mk.heap (h : Mk s0 w w') {b : Nat} (hb : b ≠ s0) (hl : b < w.heap.size) : w'.heap[b]? = w.heap[b]? := by
 have := Below.block h b hl
 rwa [mask_heap hb, mask_heap hb] at this
theorem Mk.cell (h : Mk s0 w w') {a : Addr} (hb : a.block ≠ s0) (hl : a.block < w.heap.size) : w'.cell? a = w.cell? a := World.cell?_of_block (h.heap hb hl)
theorem Bx.cell (h : Bx s0 w p) (i : Nat) {v : Value} (hi : p.cells[i]? = some v) : w.cell? ⟨s0, i, none⟩ = some v := by
 have hh : w.heap[s0]? = _ := h
 simp [World.cell?, hh, ProgV.arr, hi]
theorem Bx.on (h : Bx s0 w p) (hb : Below w.heap.size w w') : Bx s0 w' p := (hb.block s0 (Array.getElem?_eq_some_iff.1 h).1).trans h
theorem Bx.lt (h : Bx s0 w p) : s0 < w.heap.size := (Array.getElem?_eq_some_iff.1 h).1
theorem Bx.put (h : Bx s0 w p) (i : Nat) (v : Value) (hq : q.arr = p.arr.setIfInBounds i v) : Bx s0 (w.setCell ⟨s0, i, none⟩ v) q := by
 have hh : w.heap[s0]? = _ := h
 unfold Bx
 simp [World.setCell, Array.getElem?_modify, hh, hq]
theorem Bx.free (h : Bx s0 w p) (i : Nat) : w.frozen? ⟨s0, i, none⟩ = false := by
 have : w.heap[s0]? = _ := h
 simp [World.frozen?, this]
theorem NewRow.on {α : Type} {k : Nat} {enc : α → List Value} {sp : Sp} {l : List α} (h : RowOf w.heap.size (lowm lo w) sp k enc l) (hm : Mk s0 w w') (hs : s0 < lo) : RowOf w'.heap.size (lowm lo w') sp k enc l :=
 (h.cells (keeps_mask hm hs)).more hm.size
/-- What a field of declarations is: stored over, or as it was. -/
def FlD (lo : Nat) (f t : ByteArray) (b : Bool) (w : World) (sp : Sp) (l : List DeclV) (sp1 : Sp) (l1 : List DeclV) : Prop :=
 (b = true → l1 = l.map (renD f t) ∧ RowOf w.heap.size (lowm lo w) sp1 3 DeclV.cells l1) ∧ (b = false → sp1 = sp ∧ l1 = l)
theorem FlD.on {f t : ByteArray} {b : Bool} {sp sp1 : Sp} {l l1 : List DeclV} (h : FlD lo f t b w sp l sp1 l1) (hm : Mk s0 w w') (hs : s0 < lo) : FlD lo f t b w' sp l sp1 l1 :=
 ⟨fun hb => ⟨(h.1 hb).1, NewRow.on (h.1 hb).2 hm hs⟩, h.2⟩
theorem FlD.off {f t : ByteArray} {sp : Sp} {l : List DeclV} : FlD lo f t false w sp l sp l := ⟨fun h => (by cases h), fun _ => ⟨rfl, rfl⟩⟩
def FlX (lo : Nat) (f t : ByteArray) (b : Bool) (w : World) (e e1 : ExprV) : Prop := (b = true → RenX f t e e1 ∧ NewX lo w e1) ∧ (b = false → e1 = e)
theorem FlX.on {f t : ByteArray} {b : Bool} {e e1 : ExprV} (h : FlX lo f t b w e e1) (hm : Mk s0 w w') (hs : s0 < lo) : FlX lo f t b w' e e1 := ⟨fun hb => ⟨(h.1 hb).1, (h.1 hb).2.on hm hs⟩, h.2⟩
theorem FlX.off {f t : ByteArray} {e : ExprV} : FlX lo f t false w e e := ⟨fun h => (by cases h), fun _ => rfl⟩
def FlT (lo : Nat) (f t : ByteArray) (b : Bool) (w : World) (sp : Sp) (l : List StmtV) (sp1 : Sp) (l1 : List StmtV) : Prop := (b = true → RenTs f t sp sp1 l l1 ∧ NewTs lo w sp1 l1) ∧ (b = false → sp1 = sp ∧ l1 = l)
theorem FlT.on {f t : ByteArray} {b : Bool} {sp sp1 : Sp} {l l1 : List StmtV} (h : FlT lo f t b w sp l sp1 l1) (hm : Mk s0 w w') (hs : s0 < lo) : FlT lo f t b w' sp l sp1 l1 := ⟨fun hb => ⟨(h.1 hb).1, (h.1 hb).2.on hm hs⟩, h.2⟩
theorem FlT.off {f t : ByteArray} {sp : Sp} {l : List StmtV} : FlT lo f t false w sp l sp l := ⟨fun h => (by cases h), fun _ => ⟨rfl, rfl⟩⟩
def FlO {α : Type} (B : Nat) (ty : TypeId) (k : Nat) (enc : α → List Value) (b : Bool) (w : World) (sp sp1 : Sp) (l : List α) : Prop := (b = true → OwnL B w ty k enc (.slice sp1.at_ l.length sp1.cap) l) ∧ (b = false → sp1 = sp)
theorem OwnL.onM {α : Type} {B : Nat} {ty : TypeId} {k : Nat} {enc : α → List Value} {v : Value} {l : List α} (h : OwnL B w ty k enc v l) (hm : Mk s0 w w') (hs : s0 < B) : OwnL B w' ty k enc v l :=
 h.kept fun g _ _ hg hh => hm.heap (by omega) (Array.getElem?_eq_some_iff.1 hh).1
theorem FlO.on {α : Type} {B : Nat} {ty : TypeId} {k : Nat} {enc : α → List Value} {b : Bool} {sp sp1 : Sp} {l : List α} (h : FlO B ty k enc b w sp sp1 l) (hm : Mk s0 w w') (hs : s0 < B) : FlO B ty k enc b w' sp sp1 l := ⟨fun hb => (h.1 hb).onM hm hs, h.2⟩
theorem FlO.off {α : Type} {B : Nat} {ty : TypeId} {k : Nat} {enc : α → List Value} {sp : Sp} {l : List α} : FlO B ty k enc false w sp sp l := ⟨fun h => (by cases h), fun _ => rfl⟩
/-- The box's six cells of an expression stored over. -/
theorem Mk.six (_ : s0 < w.heap.size) (o : Nat) (v0 v1 v2 v3 v4 v5 : Value) : Mk s0 w (six w s0 o v0 v1 v2 v3 v4 v5) := by
 unfold Mk Go.Proofs.YthcboallnbaimaaGreatDoor.six
 simp only [mask_setCell]
 exact Below.refl _ _
theorem Bx.six (h : Bx s0 w p) (o : Nat) (v0 v1 v2 v3 v4 v5 : Value) (hq : q.arr = (((((p.arr.setIfInBounds o v0).setIfInBounds (o + 1) v1).setIfInBounds (o + 2) v2).setIfInBounds (o + 3) v3).setIfInBounds (o + 4) v4).setIfInBounds (o + 5) v5) : Bx s0 (six w s0 o v0 v1 v2 v3 v4 v5) q := by
 have hh : w.heap[s0]? = _ := h
 unfold Bx Go.Proofs.YthcboallnbaimaaGreatDoor.six
 simp [World.setCell, Array.getElem?_modify, hh, hq]
end
noncomputable def opsR2 : Array Oper := ((Tryz.f37.body.bind (opsOf 2)).getD #[])
def keepR2 (t : Nat) : Bool := decide (t ≤ 12)
theorem opsR2_ok : stepsB opsR2 24 104 keepR2 = true := by kernel_rfl
def RS2 (s0 lo : Nat) (f t : ByteArray) (p : ProgV) (w0 : World) (L : Nat → Bool) (w : World) : Prop := Mk s0 w0 w ∧ ∃ (i1 : Sp) (l1 : List DeclV) (g1 : Sp) (l2 : List DeclV) (v1 : Sp) (l3 : List DeclV) (a1 : Sp) (l4 : List DeclV), Bx s0 w { p with is := i1, inputs := l1, gs := g1, ghosts := l2, vs := v1, vars := l3, «as» := a1, arrays := l4 } ∧ FlD lo f t (L 17) w p.is p.inputs i1 l1 ∧ FlD lo f t (L 19) w p.gs p.ghosts g1 l2 ∧ FlD lo f t (L 21) w p.vs p.vars v1 l3 ∧ FlD lo f t (L 23) w p.as p.arrays a1 l4
theorem RS2.flag {s0 lo k : Nat} {f t : ByteArray} {p : ProgV} {w0 : World} {L : Nat → Bool} {w : World} (hk : k ≠ 17 ∧ k ≠ 19 ∧ k ≠ 21 ∧ k ≠ 23) (h : RS2 s0 lo f t p w0 L w) : RS2 s0 lo f t p w0 (onL L k) w := by
 unfold RS2 at h ⊢
 obtain ⟨h17, h19, h21, h23⟩ := hk
 rw [onL_other (Ne.symm h17), onL_other (Ne.symm h19), onL_other (Ne.symm h21), onL_other (Ne.symm h23)]
 exact h
theorem RS2.on {s0 lo : Nat} {f t : ByteArray} {p : ProgV} {w0 : World} {L : Nat → Bool} {w w' : World} (hs : s0 < lo) (_ : lo ≤ w0.heap.size) (h : RS2 s0 lo f t p w0 L w) (hb : Below w.heap.size w w') : RS2 s0 lo f t p w0 L w' := by
 obtain ⟨hm, i1, l1, g1, l2, v1, l3, a1, l4, hx, y0, y1, y2, y3⟩ := h
 have hm2 := Mk.of hb hx.lt
 exact ⟨hm.trans hm2, i1, l1, g1, l2, v1, l3, a1, l4, hx.on hb, y0.on hm2 (hs), y1.on hm2 (hs), y2.on hm2 (hs), y3.on hm2 (hs)⟩
set_option maxRecDepth 10000000 in
set_option maxHeartbeats 64000000 in
theorem renR2 {a0 : Act} {w0 : World} (hsz : a0.tmps.size = 104) (s0 lo n0 : Nat) (f t : ByteArray) (p : ProgV) (hlo : s0 < lo) (hlw : lo ≤ w0.heap.size) (hn0 : n0 ≤ s0)
   (f3 : a0.tmps[3]?.getD undef = .pointer (some ⟨s0, 0, none⟩)) (bf bt : Nat) (f7 : a0.tmps[7]?.getD undef = .func (.func 71) #[] #[.pointer (some ⟨bf, 0, none⟩), .pointer (some ⟨bt, 0, none⟩)]) (hbf1 : bf ≠ s0) (hbf2 : bf < w0.heap.size) (hbf : w0.heap[bf]? = some (.cells #[.string f] 9 (0, 0))) (hbt1 : bt ≠ s0) (hbt2 : bt < w0.heap.size) (hbt : w0.heap[bt]? = some (.cells #[.string t] 9 (0, 0))) (hp : RdP n0 w0 p) (hfew : p.inputs.length ≤ 1000000 ∧ p.ghosts.length ≤ 1000000 ∧ p.vars.length ≤ 1000000 ∧ p.arrays.length ≤ 1000000)
   (hbx : Bx s0 w0 p) :
   (Code.region 2 opsR2 true).wp Tryz.prog (fun e a w => e = .normal ∧ a.tmps.size = 104 ∧ a.defers = a0.defers ∧ (∀ t : Nat, keepR2 t = true → a.tmps[t]?.getD undef = a0.tmps[t]?.getD undef) ∧ RS2 s0 lo f t p w0 (fun _ => true) w) a0 w0 := by
 refine wp_region_steps (n := 24) (sz := 104) (keep := keepR2) rfl opsR2_ok hsz (RS2 s0 lo f t p w0) (fun _ w w' => Mk s0 w w') (⟨(Below.refl _ _).drew, p.is, p.inputs, p.gs, p.ghosts, p.vs, p.vars, p.as, p.arrays, hbx, FlD.off, FlD.off, FlD.off, FlD.off⟩) ?_
 have e : opsR2.toList = opsR2.toList := rfl
 conv at e => rhs; arg 1; whnf
 simp only at e
 rw [e]
 clear e
 apply StepsS.exact rfl rfl
 · exact fun _ _ h => RS2.flag (by decide) h
 · exact fun w => Mk.refl
 · rintro L a w ⟨-, hS, hbeh, hsm, haft⟩
   have f7 : a.tmps[7]?.getD undef = _ := (hsm 7 rfl).trans f7
   simp [go_sem, f7]
   exact rfl
 apply StepsS.exact rfl rfl
 · exact fun _ _ h => RS2.flag (by decide) h
 · exact fun w => Mk.refl
 · rintro L a w ⟨-, hS, hbeh, hsm, haft⟩
   have f3 : a.tmps[3]?.getD undef = _ := (hsm 3 rfl).trans f3
   simp [go_sem, f3]
   exact rfl
 apply StepsS.exact rfl rfl
 · exact fun _ _ h => RS2.flag (by decide) h
 · exact fun w => Mk.refl
 · rintro L a w ⟨-, hS, hbeh, hsm, haft⟩
   have f14 : a.tmps[14]?.getD undef = _ := tmps_of (haft.1 rfl).2
   obtain ⟨hm, i1, l1, g1, l2, v1, l3, a1, l4, hx, y0, y1, y2, y3⟩ := hS
   obtain ⟨rfl, rfl⟩ := y0.2 (hbeh 17 rfl)
   have hc : w.cell? ⟨s0, 2, none⟩ = some (.slice p.is.at_ p.inputs.length p.is.cap) := hx.cell 2 rfl
   simp [go_sem, f14, hc]
   exact rfl
 refine StepsS.any (fun L v w => ∃ sp1 : Sp, v = .slice sp1.at_ p.inputs.length sp1.cap ∧ RowOf w.heap.size (lowm lo w) sp1 3 DeclV.cells (p.inputs.map (renD f t))) rfl ?_ ?_ ?_
 · exact fun _ _ _ _ _ _ hm ⟨sp1, e, hr⟩ => ⟨sp1, e, NewRow.on hr hm hlo⟩
 · rintro L a w ⟨hL, hS, hbeh, hsm, haft⟩
   have f13 : a.tmps[13]?.getD undef = _ := tmps_of (haft.1 rfl).2
   have f15 : a.tmps[15]?.getD undef = _ := tmps_of (haft.2.1 rfl).2
   have hS2 := hS
   obtain ⟨hm, i1, l1, g1, l2, v1, l3, a1, l4, hx, y0, y1, y2, y3⟩ := hS
   refine Oper.wp_enter (f := 71) (args := #[.slice p.is.at_ p.inputs.length p.is.cap, .pointer (some ⟨bf, 0, none⟩), .pointer (some ⟨bt, 0, none⟩)]) (w' := w) ?_ ?_
   · simp [go_sem, f13, f15]
   · refine (decls_any f t w bf bt ((hm.heap hbf1 hbf2).trans hbf) ((hm.heap hbt1 hbt2).trans hbt) p.is p.inputs ((hp.inputs.row.below (hm.below hn0 hbx.lt)).more (by have := hm.size; omega)) (hfew.1)).mono ?_
     rintro o w' ⟨sp', rfl, hr, hb⟩
     exact ⟨_, rfl, _, rfl, fun e => (by cases e), ⟨sp', rfl, hr.cells (keeps_less (by have := hm.size; omega))⟩, RS2.flag (by decide) (hS2.on hlo hlw hb), Mk.of hb hx.lt⟩
 apply StepsS.exact rfl rfl
 · exact fun _ _ h => RS2.flag (by decide) h
 · exact fun w => Mk.refl
 · rintro L a w ⟨-, hS, hbeh, hsm, haft⟩
   have f7 : a.tmps[7]?.getD undef = _ := (hsm 7 rfl).trans f7
   simp [go_sem, f7]
   exact rfl
 apply StepsS.exact rfl rfl
 · exact fun _ _ h => RS2.flag (by decide) h
 · exact fun w => Mk.refl
 · rintro L a w ⟨-, hS, hbeh, hsm, haft⟩
   have f3 : a.tmps[3]?.getD undef = _ := (hsm 3 rfl).trans f3
   simp [go_sem, f3]
   exact rfl
 apply StepsS.exact rfl rfl
 · exact fun _ _ h => RS2.flag (by decide) h
 · exact fun w => Mk.refl
 · rintro L a w ⟨-, hS, hbeh, hsm, haft⟩
   have f18 : a.tmps[18]?.getD undef = _ := tmps_of (haft.1 rfl).2
   obtain ⟨hm, i1, l1, g1, l2, v1, l3, a1, l4, hx, y0, y1, y2, y3⟩ := hS
   obtain ⟨rfl, rfl⟩ := y1.2 (hbeh 19 rfl)
   have hc : w.cell? ⟨s0, 3, none⟩ = some (.slice p.gs.at_ p.ghosts.length p.gs.cap) := hx.cell 3 rfl
   simp [go_sem, f18, hc]
   exact rfl
 refine StepsS.any (fun L v w => ∃ sp1 : Sp, v = .slice sp1.at_ p.ghosts.length sp1.cap ∧ RowOf w.heap.size (lowm lo w) sp1 3 DeclV.cells (p.ghosts.map (renD f t))) rfl ?_ ?_ ?_
 · exact fun _ _ _ _ _ _ hm ⟨sp1, e, hr⟩ => ⟨sp1, e, NewRow.on hr hm hlo⟩
 · rintro L a w ⟨hL, hS, hbeh, hsm, haft⟩
   have f17 : a.tmps[17]?.getD undef = _ := tmps_of (haft.1 rfl).2
   have f19 : a.tmps[19]?.getD undef = _ := tmps_of (haft.2.1 rfl).2
   have hS2 := hS
   obtain ⟨hm, i1, l1, g1, l2, v1, l3, a1, l4, hx, y0, y1, y2, y3⟩ := hS
   refine Oper.wp_enter (f := 71) (args := #[.slice p.gs.at_ p.ghosts.length p.gs.cap, .pointer (some ⟨bf, 0, none⟩), .pointer (some ⟨bt, 0, none⟩)]) (w' := w) ?_ ?_
   · simp [go_sem, f17, f19]
   · refine (decls_any f t w bf bt ((hm.heap hbf1 hbf2).trans hbf) ((hm.heap hbt1 hbt2).trans hbt) p.gs p.ghosts ((hp.ghosts.row.below (hm.below hn0 hbx.lt)).more (by have := hm.size; omega)) (hfew.2.1)).mono ?_
     rintro o w' ⟨sp', rfl, hr, hb⟩
     exact ⟨_, rfl, _, rfl, fun e => (by cases e), ⟨sp', rfl, hr.cells (keeps_less (by have := hm.size; omega))⟩, RS2.flag (by decide) (hS2.on hlo hlw hb), Mk.of hb hx.lt⟩
 apply StepsS.exact rfl rfl
 · exact fun _ _ h => RS2.flag (by decide) h
 · exact fun w => Mk.refl
 · rintro L a w ⟨-, hS, hbeh, hsm, haft⟩
   have f7 : a.tmps[7]?.getD undef = _ := (hsm 7 rfl).trans f7
   simp [go_sem, f7]
   exact rfl
 apply StepsS.exact rfl rfl
 · exact fun _ _ h => RS2.flag (by decide) h
 · exact fun w => Mk.refl
 · rintro L a w ⟨-, hS, hbeh, hsm, haft⟩
   have f3 : a.tmps[3]?.getD undef = _ := (hsm 3 rfl).trans f3
   simp [go_sem, f3]
   exact rfl
 apply StepsS.exact rfl rfl
 · exact fun _ _ h => RS2.flag (by decide) h
 · exact fun w => Mk.refl
 · rintro L a w ⟨-, hS, hbeh, hsm, haft⟩
   have f22 : a.tmps[22]?.getD undef = _ := tmps_of (haft.1 rfl).2
   obtain ⟨hm, i1, l1, g1, l2, v1, l3, a1, l4, hx, y0, y1, y2, y3⟩ := hS
   obtain ⟨rfl, rfl⟩ := y2.2 (hbeh 21 rfl)
   have hc : w.cell? ⟨s0, 4, none⟩ = some (.slice p.vs.at_ p.vars.length p.vs.cap) := hx.cell 4 rfl
   simp [go_sem, f22, hc]
   exact rfl
 refine StepsS.any (fun L v w => ∃ sp1 : Sp, v = .slice sp1.at_ p.vars.length sp1.cap ∧ RowOf w.heap.size (lowm lo w) sp1 3 DeclV.cells (p.vars.map (renD f t))) rfl ?_ ?_ ?_
 · exact fun _ _ _ _ _ _ hm ⟨sp1, e, hr⟩ => ⟨sp1, e, NewRow.on hr hm hlo⟩
 · rintro L a w ⟨hL, hS, hbeh, hsm, haft⟩
   have f21 : a.tmps[21]?.getD undef = _ := tmps_of (haft.1 rfl).2
   have f23 : a.tmps[23]?.getD undef = _ := tmps_of (haft.2.1 rfl).2
   have hS2 := hS
   obtain ⟨hm, i1, l1, g1, l2, v1, l3, a1, l4, hx, y0, y1, y2, y3⟩ := hS
   refine Oper.wp_enter (f := 71) (args := #[.slice p.vs.at_ p.vars.length p.vs.cap, .pointer (some ⟨bf, 0, none⟩), .pointer (some ⟨bt, 0, none⟩)]) (w' := w) ?_ ?_
   · simp [go_sem, f21, f23]
   · refine (decls_any f t w bf bt ((hm.heap hbf1 hbf2).trans hbf) ((hm.heap hbt1 hbt2).trans hbt) p.vs p.vars ((hp.vars.row.below (hm.below hn0 hbx.lt)).more (by have := hm.size; omega)) (hfew.2.2.1)).mono ?_
     rintro o w' ⟨sp', rfl, hr, hb⟩
     exact ⟨_, rfl, _, rfl, fun e => (by cases e), ⟨sp', rfl, hr.cells (keeps_less (by have := hm.size; omega))⟩, RS2.flag (by decide) (hS2.on hlo hlw hb), Mk.of hb hx.lt⟩
 apply StepsS.exact rfl rfl
 · exact fun _ _ h => RS2.flag (by decide) h
 · exact fun w => Mk.refl
 · rintro L a w ⟨-, hS, hbeh, hsm, haft⟩
   have f7 : a.tmps[7]?.getD undef = _ := (hsm 7 rfl).trans f7
   simp [go_sem, f7]
   exact rfl
 apply StepsS.exact rfl rfl
 · exact fun _ _ h => RS2.flag (by decide) h
 · exact fun w => Mk.refl
 · rintro L a w ⟨-, hS, hbeh, hsm, haft⟩
   have f3 : a.tmps[3]?.getD undef = _ := (hsm 3 rfl).trans f3
   simp [go_sem, f3]
   exact rfl
 apply StepsS.exact rfl rfl
 · exact fun _ _ h => RS2.flag (by decide) h
 · exact fun w => Mk.refl
 · rintro L a w ⟨-, hS, hbeh, hsm, haft⟩
   have f26 : a.tmps[26]?.getD undef = _ := tmps_of (haft.1 rfl).2
   obtain ⟨hm, i1, l1, g1, l2, v1, l3, a1, l4, hx, y0, y1, y2, y3⟩ := hS
   obtain ⟨rfl, rfl⟩ := y3.2 (hbeh 23 rfl)
   have hc : w.cell? ⟨s0, 5, none⟩ = some (.slice p.as.at_ p.arrays.length p.as.cap) := hx.cell 5 rfl
   simp [go_sem, f26, hc]
   exact rfl
 refine StepsS.any (fun L v w => ∃ sp1 : Sp, v = .slice sp1.at_ p.arrays.length sp1.cap ∧ RowOf w.heap.size (lowm lo w) sp1 3 DeclV.cells (p.arrays.map (renD f t))) rfl ?_ ?_ ?_
 · exact fun _ _ _ _ _ _ hm ⟨sp1, e, hr⟩ => ⟨sp1, e, NewRow.on hr hm hlo⟩
 · rintro L a w ⟨hL, hS, hbeh, hsm, haft⟩
   have f25 : a.tmps[25]?.getD undef = _ := tmps_of (haft.1 rfl).2
   have f27 : a.tmps[27]?.getD undef = _ := tmps_of (haft.2.1 rfl).2
   have hS2 := hS
   obtain ⟨hm, i1, l1, g1, l2, v1, l3, a1, l4, hx, y0, y1, y2, y3⟩ := hS
   refine Oper.wp_enter (f := 71) (args := #[.slice p.as.at_ p.arrays.length p.as.cap, .pointer (some ⟨bf, 0, none⟩), .pointer (some ⟨bt, 0, none⟩)]) (w' := w) ?_ ?_
   · simp [go_sem, f25, f27]
   · refine (decls_any f t w bf bt ((hm.heap hbf1 hbf2).trans hbf) ((hm.heap hbt1 hbt2).trans hbt) p.as p.arrays ((hp.arrays.row.below (hm.below hn0 hbx.lt)).more (by have := hm.size; omega)) (hfew.2.2.2)).mono ?_
     rintro o w' ⟨sp', rfl, hr, hb⟩
     exact ⟨_, rfl, _, rfl, fun e => (by cases e), ⟨sp', rfl, hr.cells (keeps_less (by have := hm.size; omega))⟩, RS2.flag (by decide) (hS2.on hlo hlw hb), Mk.of hb hx.lt⟩
 apply StepsS.exact rfl rfl
 · exact fun _ _ h => RS2.flag (by decide) h
 · exact fun w => Mk.refl
 · rintro L a w ⟨-, hS, hbeh, hsm, haft⟩
   have f3 : a.tmps[3]?.getD undef = _ := (hsm 3 rfl).trans f3
   simp [go_sem, f3]
   exact rfl
 refine StepsS.any (fun L v w => True) rfl ?_ ?_ ?_
 · exact fun _ _ _ _ _ _ _ h => h
 · rintro L a w ⟨hL, hS, hbeh, hsm, haft⟩
   have f29 : a.tmps[29]?.getD undef = _ := tmps_of (haft.1 rfl).2
   obtain ⟨sp1, e16, hr⟩ := (haft.2.1 rfl).2
   have f16 : a.tmps[16]?.getD undef = .slice sp1.at_ p.inputs.length sp1.cap := tmps_of e16
   obtain ⟨hm, i1, l1, g1, l2, v1, l3, a1, l4, hx, y0, y1, y2, y3⟩ := hS
   have hm2 := Mk.set hx.lt 2 (.slice sp1.at_ p.inputs.length sp1.cap)
   have hc := hx.cell 2 rfl
   have hfr := hx.free 2
   refine Oper.wp_skip (w' := w.setCell ⟨s0, 2, none⟩ (.slice sp1.at_ p.inputs.length sp1.cap)) ?_ ?_
   · simp [go_sem, f29, f16, hc, hfr]
   · exact ⟨undef, rfl, fun _ => rfl, trivial, ⟨hm.trans hm2, sp1, (p.inputs.map (renD f t)), g1, l2, v1, l3, a1, l4, hx.put 2 _ (by simp [ProgV.arr, ProgV.cells, Sp.val]), (by rw [onL_same]; exact ⟨fun _ => ⟨rfl, NewRow.on hr hm2 hlo⟩, fun h => (by cases h)⟩), (by rw [onL_other (by decide)]; exact y1.on hm2 hlo), (by rw [onL_other (by decide)]; exact y2.on hm2 hlo), (by rw [onL_other (by decide)]; exact y3.on hm2 hlo)⟩, hm2⟩
 apply StepsS.exact rfl rfl
 · exact fun _ _ h => RS2.flag (by decide) h
 · exact fun w => Mk.refl
 · rintro L a w ⟨-, hS, hbeh, hsm, haft⟩
   have f3 : a.tmps[3]?.getD undef = _ := (hsm 3 rfl).trans f3
   simp [go_sem, f3]
   exact rfl
 refine StepsS.any (fun L v w => True) rfl ?_ ?_ ?_
 · exact fun _ _ _ _ _ _ _ h => h
 · rintro L a w ⟨hL, hS, hbeh, hsm, haft⟩
   have f30 : a.tmps[30]?.getD undef = _ := tmps_of (haft.1 rfl).2
   obtain ⟨sp1, e20, hr⟩ := (haft.2.1 rfl).2
   have f20 : a.tmps[20]?.getD undef = .slice sp1.at_ p.ghosts.length sp1.cap := tmps_of e20
   obtain ⟨hm, i1, l1, g1, l2, v1, l3, a1, l4, hx, y0, y1, y2, y3⟩ := hS
   have hm2 := Mk.set hx.lt 3 (.slice sp1.at_ p.ghosts.length sp1.cap)
   have hc := hx.cell 3 rfl
   have hfr := hx.free 3
   refine Oper.wp_skip (w' := w.setCell ⟨s0, 3, none⟩ (.slice sp1.at_ p.ghosts.length sp1.cap)) ?_ ?_
   · simp [go_sem, f30, f20, hc, hfr]
   · exact ⟨undef, rfl, fun _ => rfl, trivial, ⟨hm.trans hm2, i1, l1, sp1, (p.ghosts.map (renD f t)), v1, l3, a1, l4, hx.put 3 _ (by simp [ProgV.arr, ProgV.cells, Sp.val]), (by rw [onL_other (by decide)]; exact y0.on hm2 hlo), (by rw [onL_same]; exact ⟨fun _ => ⟨rfl, NewRow.on hr hm2 hlo⟩, fun h => (by cases h)⟩), (by rw [onL_other (by decide)]; exact y2.on hm2 hlo), (by rw [onL_other (by decide)]; exact y3.on hm2 hlo)⟩, hm2⟩
 apply StepsS.exact rfl rfl
 · exact fun _ _ h => RS2.flag (by decide) h
 · exact fun w => Mk.refl
 · rintro L a w ⟨-, hS, hbeh, hsm, haft⟩
   have f3 : a.tmps[3]?.getD undef = _ := (hsm 3 rfl).trans f3
   simp [go_sem, f3]
   exact rfl
 refine StepsS.any (fun L v w => True) rfl ?_ ?_ ?_
 · exact fun _ _ _ _ _ _ _ h => h
 · rintro L a w ⟨hL, hS, hbeh, hsm, haft⟩
   have f31 : a.tmps[31]?.getD undef = _ := tmps_of (haft.1 rfl).2
   obtain ⟨sp1, e24, hr⟩ := (haft.2.1 rfl).2
   have f24 : a.tmps[24]?.getD undef = .slice sp1.at_ p.vars.length sp1.cap := tmps_of e24
   obtain ⟨hm, i1, l1, g1, l2, v1, l3, a1, l4, hx, y0, y1, y2, y3⟩ := hS
   have hm2 := Mk.set hx.lt 4 (.slice sp1.at_ p.vars.length sp1.cap)
   have hc := hx.cell 4 rfl
   have hfr := hx.free 4
   refine Oper.wp_skip (w' := w.setCell ⟨s0, 4, none⟩ (.slice sp1.at_ p.vars.length sp1.cap)) ?_ ?_
   · simp [go_sem, f31, f24, hc, hfr]
   · exact ⟨undef, rfl, fun _ => rfl, trivial, ⟨hm.trans hm2, i1, l1, g1, l2, sp1, (p.vars.map (renD f t)), a1, l4, hx.put 4 _ (by simp [ProgV.arr, ProgV.cells, Sp.val]), (by rw [onL_other (by decide)]; exact y0.on hm2 hlo), (by rw [onL_other (by decide)]; exact y1.on hm2 hlo), (by rw [onL_same]; exact ⟨fun _ => ⟨rfl, NewRow.on hr hm2 hlo⟩, fun h => (by cases h)⟩), (by rw [onL_other (by decide)]; exact y3.on hm2 hlo)⟩, hm2⟩
 apply StepsS.exact rfl rfl
 · exact fun _ _ h => RS2.flag (by decide) h
 · exact fun w => Mk.refl
 · rintro L a w ⟨-, hS, hbeh, hsm, haft⟩
   have f3 : a.tmps[3]?.getD undef = _ := (hsm 3 rfl).trans f3
   simp [go_sem, f3]
   exact rfl
 refine StepsS.any (fun L v w => True) rfl ?_ ?_ ?_
 · exact fun _ _ _ _ _ _ _ h => h
 · rintro L a w ⟨hL, hS, hbeh, hsm, haft⟩
   have f32 : a.tmps[32]?.getD undef = _ := tmps_of (haft.1 rfl).2
   obtain ⟨sp1, e28, hr⟩ := (haft.2.1 rfl).2
   have f28 : a.tmps[28]?.getD undef = .slice sp1.at_ p.arrays.length sp1.cap := tmps_of e28
   obtain ⟨hm, i1, l1, g1, l2, v1, l3, a1, l4, hx, y0, y1, y2, y3⟩ := hS
   have hm2 := Mk.set hx.lt 5 (.slice sp1.at_ p.arrays.length sp1.cap)
   have hc := hx.cell 5 rfl
   have hfr := hx.free 5
   refine Oper.wp_skip (w' := w.setCell ⟨s0, 5, none⟩ (.slice sp1.at_ p.arrays.length sp1.cap)) ?_ ?_
   · simp [go_sem, f32, f28, hc, hfr]
   · exact ⟨undef, rfl, fun _ => rfl, trivial, ⟨hm.trans hm2, i1, l1, g1, l2, v1, l3, sp1, (p.arrays.map (renD f t)), hx.put 5 _ (by simp [ProgV.arr, ProgV.cells, Sp.val]), (by rw [onL_other (by decide)]; exact y0.on hm2 hlo), (by rw [onL_other (by decide)]; exact y1.on hm2 hlo), (by rw [onL_other (by decide)]; exact y2.on hm2 hlo), (by rw [onL_same]; exact ⟨fun _ => ⟨rfl, NewRow.on hr hm2 hlo⟩, fun h => (by cases h)⟩)⟩, hm2⟩
 rintro L a w hL ⟨hS, hsame, hv⟩
 refine ⟨rfl, hsame.1.trans hsz, hsame.2.1, hsame.2.2, ?_⟩
 unfold RS2 at hS ⊢
 rw [hL 17 (by decide), hL 19 (by decide), hL 21 (by decide), hL 23 (by decide)] at hS
 exact hS
noncomputable def opsR3 : Array Oper := ((Tryz.f37.body.bind (opsOf 3)).getD #[])
def keepR3 (t : Nat) : Bool := decide (t ≤ 32)
theorem opsR3_ok : stepsB opsR3 14 104 keepR3 = true := by kernel_rfl
def RS3 (s0 lo : Nat) (f t : ByteArray) (p : ProgV) (w0 : World) (L : Nat → Bool) (w : World) : Prop := Mk s0 w0 w ∧ ∃ (e1 e2 : ExprV), Bx s0 w { p with require := e1, invariant := e2 } ∧ FlX lo f t (L 11) w p.require e1 ∧ FlX lo f t (L 13) w p.invariant e2
theorem RS3.flag {s0 lo k : Nat} {f t : ByteArray} {p : ProgV} {w0 : World} {L : Nat → Bool} {w : World} (hk : k ≠ 11 ∧ k ≠ 13) (h : RS3 s0 lo f t p w0 L w) : RS3 s0 lo f t p w0 (onL L k) w := by
 unfold RS3 at h ⊢
 obtain ⟨h11, h13⟩ := hk
 rw [onL_other (Ne.symm h11), onL_other (Ne.symm h13)]
 exact h
theorem RS3.on {s0 lo : Nat} {f t : ByteArray} {p : ProgV} {w0 : World} {L : Nat → Bool} {w w' : World} (hs : s0 < lo) (_ : lo ≤ w0.heap.size) (h : RS3 s0 lo f t p w0 L w) (hb : Below w.heap.size w w') : RS3 s0 lo f t p w0 L w' := by
 obtain ⟨hm, e1, e2, hx, y0, y1⟩ := h
 have hm2 := Mk.of hb hx.lt
 exact ⟨hm.trans hm2, e1, e2, hx.on hb, y0.on hm2 (hs), y1.on hm2 (hs)⟩
set_option maxRecDepth 10000000 in
set_option maxHeartbeats 64000000 in
theorem renR3 {a0 : Act} {w0 : World} (hsz : a0.tmps.size = 104) (s0 lo n0 : Nat) (f t : ByteArray) (p : ProgV) (hlo : s0 < lo) (hlw : lo ≤ w0.heap.size) (hn0 : n0 ≤ s0)
   (f3 : a0.tmps[3]?.getD undef = .pointer (some ⟨s0, 0, none⟩)) (bf bt : Nat) (f4 : a0.tmps[4]?.getD undef = .pointer (some ⟨bf, 0, none⟩)) (f5 : a0.tmps[5]?.getD undef = .pointer (some ⟨bt, 0, none⟩)) (hbf1 : bf ≠ s0) (hbf2 : bf < w0.heap.size) (hbf : w0.cell? ⟨bf, 0, none⟩ = some (.string f)) (hbt1 : bt ≠ s0) (hbt2 : bt < w0.heap.size) (hbt : w0.cell? ⟨bt, 0, none⟩ = some (.string t)) (hren : RenOk f t n0 w0 p.require ∧ RenOk f t n0 w0 p.invariant)
   (hbx : Bx s0 w0 p) :
   (Code.region 3 opsR3 true).wp Tryz.prog (fun e a w => e = .normal ∧ a.tmps.size = 104 ∧ a.defers = a0.defers ∧ (∀ t : Nat, keepR3 t = true → a.tmps[t]?.getD undef = a0.tmps[t]?.getD undef) ∧ RS3 s0 lo f t p w0 (fun _ => true) w) a0 w0 := by
 refine wp_region_steps (n := 14) (sz := 104) (keep := keepR3) rfl opsR3_ok hsz (RS3 s0 lo f t p w0) (fun _ w w' => Mk s0 w w') (⟨(Below.refl _ _).drew, p.require, p.invariant, hbx, FlX.off, FlX.off⟩) ?_
 have e : opsR3.toList = opsR3.toList := rfl
 conv at e => rhs; arg 1; whnf
 simp only at e
 rw [e]
 clear e
 apply StepsS.exact rfl rfl
 · exact fun _ _ h => RS3.flag (by decide) h
 · exact fun w => Mk.refl
 · rintro L a w ⟨-, hS, hbeh, hsm, haft⟩
   have f3 : a.tmps[3]?.getD undef = _ := (hsm 3 rfl).trans f3
   simp [go_sem, f3]
   exact rfl
 apply StepsS.exact rfl rfl
 · exact fun _ _ h => RS3.flag (by decide) h
 · exact fun w => Mk.refl
 · rintro L a w ⟨-, hS, hbeh, hsm, haft⟩
   have f33 : a.tmps[33]?.getD undef = _ := tmps_of (haft.1 rfl).2
   obtain ⟨hm, e1, e2, hx, y0, y1⟩ := hS
   obtain rfl := y0.2 (hbeh 11 rfl)
   have c0 : w.cell? ⟨s0, 6, none⟩ = some (.int .u8 p.require.kind) := hx.cell 6 rfl
   have c1 : w.cell? ⟨s0, 7, none⟩ = some (.int .u8 p.require.op) := hx.cell 7 rfl
   have c2 : w.cell? ⟨s0, 8, none⟩ = some (.int .u32 p.require.value) := hx.cell 8 rfl
   have c3 : w.cell? ⟨s0, 9, none⟩ = some (.int .i64 p.require.width) := hx.cell 9 rfl
   have c4 : w.cell? ⟨s0, 10, none⟩ = some (.string p.require.name) := hx.cell 10 rfl
   have c5 : w.cell? ⟨s0, 11, none⟩ = some (.slice p.require.sp.at_ p.require.subs.length p.require.sp.cap) := hx.cell 11 rfl
   simp [go_sem, f33, c0, c1, c2, c3, c4, c5]
   exact rfl
 apply StepsS.exact rfl rfl
 · exact fun _ _ h => RS3.flag (by decide) h
 · exact fun w => Mk.refl
 · rintro L a w ⟨-, hS, hbeh, hsm, haft⟩
   have f4 : a.tmps[4]?.getD undef = _ := (hsm 4 rfl).trans f4
   have hc : w.cell? ⟨bf, 0, none⟩ = some (.string f) := (hS.1.cell (a := ⟨bf, 0, none⟩) hbf1 hbf2).trans hbf
   simp [go_sem, f4, hc]
   exact rfl
 apply StepsS.exact rfl rfl
 · exact fun _ _ h => RS3.flag (by decide) h
 · exact fun w => Mk.refl
 · rintro L a w ⟨-, hS, hbeh, hsm, haft⟩
   have f5 : a.tmps[5]?.getD undef = _ := (hsm 5 rfl).trans f5
   have hc : w.cell? ⟨bt, 0, none⟩ = some (.string t) := (hS.1.cell (a := ⟨bt, 0, none⟩) hbt1 hbt2).trans hbt
   simp [go_sem, f5, hc]
   exact rfl
 refine StepsS.any (fun L v w => ∃ e' : ExprV, v = .agg #[.int .u8 e'.kind, .int .u8 e'.op, .int .u32 e'.value, .int .i64 e'.width, .string e'.name, .slice e'.sp.at_ e'.subs.length e'.sp.cap] ∧ RenX f t p.require e' ∧ NewX lo w e') rfl ?_ ?_ ?_
 · exact fun _ _ _ _ _ _ hm ⟨e', h1, h2, h3⟩ => ⟨e', h1, h2, h3.on hm hlo⟩
 · rintro L a w ⟨hL, hS, hbeh, hsm, haft⟩
   have f34 : a.tmps[34]?.getD undef = _ := tmps_of (haft.1 rfl).2
   have f35 : a.tmps[35]?.getD undef = _ := tmps_of (haft.2.1 rfl).2
   have f36 : a.tmps[36]?.getD undef = _ := tmps_of (haft.2.2.1 rfl).2
   have hS2 := hS
   obtain ⟨hm, e1, e2, hx, y0, y1⟩ := hS
   refine Oper.wp_enter (f := 73) (args := #[.agg #[.int .u8 p.require.kind, .int .u8 p.require.op, .int .u32 p.require.value, .int .i64 p.require.width, .string p.require.name, .slice p.require.sp.at_ p.require.subs.length p.require.sp.cap], .string f, .string t]) (w' := w) ?_ ?_
   · simp [go_sem, f34, f35, f36]
   · refine (hren.1 w (hm.below hn0 hbx.lt) (by have := hm.size; omega)).mono ?_
     rintro o w' ⟨e', rfl, h1, h2, hb⟩
     exact ⟨_, rfl, _, rfl, fun e => (by cases e), ⟨e', rfl, h1, h2.less (by have := hm.size; omega)⟩, RS3.flag (by decide) (hS2.on hlo hlw hb), Mk.of hb hx.lt⟩
 apply StepsS.exact rfl rfl
 · exact fun _ _ h => RS3.flag (by decide) h
 · exact fun w => Mk.refl
 · rintro L a w ⟨-, hS, hbeh, hsm, haft⟩
   have f3 : a.tmps[3]?.getD undef = _ := (hsm 3 rfl).trans f3
   simp [go_sem, f3]
   exact rfl
 apply StepsS.exact rfl rfl
 · exact fun _ _ h => RS3.flag (by decide) h
 · exact fun w => Mk.refl
 · rintro L a w ⟨-, hS, hbeh, hsm, haft⟩
   have f38 : a.tmps[38]?.getD undef = _ := tmps_of (haft.1 rfl).2
   obtain ⟨hm, e1, e2, hx, y0, y1⟩ := hS
   obtain rfl := y1.2 (hbeh 13 rfl)
   have c0 : w.cell? ⟨s0, 16, none⟩ = some (.int .u8 p.invariant.kind) := hx.cell 16 rfl
   have c1 : w.cell? ⟨s0, 17, none⟩ = some (.int .u8 p.invariant.op) := hx.cell 17 rfl
   have c2 : w.cell? ⟨s0, 18, none⟩ = some (.int .u32 p.invariant.value) := hx.cell 18 rfl
   have c3 : w.cell? ⟨s0, 19, none⟩ = some (.int .i64 p.invariant.width) := hx.cell 19 rfl
   have c4 : w.cell? ⟨s0, 20, none⟩ = some (.string p.invariant.name) := hx.cell 20 rfl
   have c5 : w.cell? ⟨s0, 21, none⟩ = some (.slice p.invariant.sp.at_ p.invariant.subs.length p.invariant.sp.cap) := hx.cell 21 rfl
   simp [go_sem, f38, c0, c1, c2, c3, c4, c5]
   exact rfl
 apply StepsS.exact rfl rfl
 · exact fun _ _ h => RS3.flag (by decide) h
 · exact fun w => Mk.refl
 · rintro L a w ⟨-, hS, hbeh, hsm, haft⟩
   have f4 : a.tmps[4]?.getD undef = _ := (hsm 4 rfl).trans f4
   have hc : w.cell? ⟨bf, 0, none⟩ = some (.string f) := (hS.1.cell (a := ⟨bf, 0, none⟩) hbf1 hbf2).trans hbf
   simp [go_sem, f4, hc]
   exact rfl
 apply StepsS.exact rfl rfl
 · exact fun _ _ h => RS3.flag (by decide) h
 · exact fun w => Mk.refl
 · rintro L a w ⟨-, hS, hbeh, hsm, haft⟩
   have f5 : a.tmps[5]?.getD undef = _ := (hsm 5 rfl).trans f5
   have hc : w.cell? ⟨bt, 0, none⟩ = some (.string t) := (hS.1.cell (a := ⟨bt, 0, none⟩) hbt1 hbt2).trans hbt
   simp [go_sem, f5, hc]
   exact rfl
 refine StepsS.any (fun L v w => ∃ e' : ExprV, v = .agg #[.int .u8 e'.kind, .int .u8 e'.op, .int .u32 e'.value, .int .i64 e'.width, .string e'.name, .slice e'.sp.at_ e'.subs.length e'.sp.cap] ∧ RenX f t p.invariant e' ∧ NewX lo w e') rfl ?_ ?_ ?_
 · exact fun _ _ _ _ _ _ hm ⟨e', h1, h2, h3⟩ => ⟨e', h1, h2, h3.on hm hlo⟩
 · rintro L a w ⟨hL, hS, hbeh, hsm, haft⟩
   have f39 : a.tmps[39]?.getD undef = _ := tmps_of (haft.1 rfl).2
   have f40 : a.tmps[40]?.getD undef = _ := tmps_of (haft.2.1 rfl).2
   have f41 : a.tmps[41]?.getD undef = _ := tmps_of (haft.2.2.1 rfl).2
   have hS2 := hS
   obtain ⟨hm, e1, e2, hx, y0, y1⟩ := hS
   refine Oper.wp_enter (f := 73) (args := #[.agg #[.int .u8 p.invariant.kind, .int .u8 p.invariant.op, .int .u32 p.invariant.value, .int .i64 p.invariant.width, .string p.invariant.name, .slice p.invariant.sp.at_ p.invariant.subs.length p.invariant.sp.cap], .string f, .string t]) (w' := w) ?_ ?_
   · simp [go_sem, f39, f40, f41]
   · refine (hren.2 w (hm.below hn0 hbx.lt) (by have := hm.size; omega)).mono ?_
     rintro o w' ⟨e', rfl, h1, h2, hb⟩
     exact ⟨_, rfl, _, rfl, fun e => (by cases e), ⟨e', rfl, h1, h2.less (by have := hm.size; omega)⟩, RS3.flag (by decide) (hS2.on hlo hlw hb), Mk.of hb hx.lt⟩
 apply StepsS.exact rfl rfl
 · exact fun _ _ h => RS3.flag (by decide) h
 · exact fun w => Mk.refl
 · rintro L a w ⟨-, hS, hbeh, hsm, haft⟩
   have f3 : a.tmps[3]?.getD undef = _ := (hsm 3 rfl).trans f3
   simp [go_sem, f3]
   exact rfl
 refine StepsS.any (fun L v w => True) rfl ?_ ?_ ?_
 · exact fun _ _ _ _ _ _ _ h => h
 · rintro L a w ⟨hL, hS, hbeh, hsm, haft⟩
   have f43 : a.tmps[43]?.getD undef = _ := tmps_of (haft.1 rfl).2
   obtain ⟨e', x37, h1, h2⟩ := (haft.2.1 rfl).2
   have f37 : a.tmps[37]?.getD undef = .agg #[.int .u8 e'.kind, .int .u8 e'.op, .int .u32 e'.value, .int .i64 e'.width, .string e'.name, .slice e'.sp.at_ e'.subs.length e'.sp.cap] := tmps_of x37
   obtain ⟨hm, e1, e2, hx, y0, y1⟩ := hS
   have hm2 := Mk.six hx.lt 6 (.int .u8 e'.kind) (.int .u8 e'.op) (.int .u32 e'.value) (.int .i64 e'.width) (.string e'.name) (.slice e'.sp.at_ e'.subs.length e'.sp.cap)
   have hc0 := hx.cell 6 rfl
   have hc1 := hx.cell 7 rfl
   have hc2 := hx.cell 8 rfl
   have hc3 := hx.cell 9 rfl
   have hc4 := hx.cell 10 rfl
   have hc5 := hx.cell 11 rfl
   have hf0 := hx.free 6
   have hf1 := hx.free 7
   have hf2 := hx.free 8
   have hf3 := hx.free 9
   have hf4 := hx.free 10
   have hf5 := hx.free 11
   refine Oper.wp_skip (w' := six w s0 6 (.int .u8 e'.kind) (.int .u8 e'.op) (.int .u32 e'.value) (.int .i64 e'.width) (.string e'.name) (.slice e'.sp.at_ e'.subs.length e'.sp.cap)) ?_ ?_
   · simp [go_sem, six, f43, f37, hc0, hf0, hc1, hf1, hc2, hf2, hc3, hf3, hc4, hf4, hc5, hf5]
   · exact ⟨undef, rfl, fun _ => rfl, trivial, ⟨hm.trans hm2, e', e2, hx.six 6 _ _ _ _ _ _ (by simp [ProgV.arr, ProgV.cells, Sp.val]), (by rw [onL_same]; exact ⟨fun _ => ⟨h1, h2.on hm2 hlo⟩, fun h => (by cases h)⟩), (by rw [onL_other (by decide)]; exact y1.on hm2 hlo)⟩, hm2⟩
 apply StepsS.exact rfl rfl
 · exact fun _ _ h => RS3.flag (by decide) h
 · exact fun w => Mk.refl
 · rintro L a w ⟨-, hS, hbeh, hsm, haft⟩
   have f3 : a.tmps[3]?.getD undef = _ := (hsm 3 rfl).trans f3
   simp [go_sem, f3]
   exact rfl
 refine StepsS.any (fun L v w => True) rfl ?_ ?_ ?_
 · exact fun _ _ _ _ _ _ _ h => h
 · rintro L a w ⟨hL, hS, hbeh, hsm, haft⟩
   have f44 : a.tmps[44]?.getD undef = _ := tmps_of (haft.1 rfl).2
   obtain ⟨e', x42, h1, h2⟩ := (haft.2.1 rfl).2
   have f42 : a.tmps[42]?.getD undef = .agg #[.int .u8 e'.kind, .int .u8 e'.op, .int .u32 e'.value, .int .i64 e'.width, .string e'.name, .slice e'.sp.at_ e'.subs.length e'.sp.cap] := tmps_of x42
   obtain ⟨hm, e1, e2, hx, y0, y1⟩ := hS
   have hm2 := Mk.six hx.lt 16 (.int .u8 e'.kind) (.int .u8 e'.op) (.int .u32 e'.value) (.int .i64 e'.width) (.string e'.name) (.slice e'.sp.at_ e'.subs.length e'.sp.cap)
   have hc0 := hx.cell 16 rfl
   have hc1 := hx.cell 17 rfl
   have hc2 := hx.cell 18 rfl
   have hc3 := hx.cell 19 rfl
   have hc4 := hx.cell 20 rfl
   have hc5 := hx.cell 21 rfl
   have hf0 := hx.free 16
   have hf1 := hx.free 17
   have hf2 := hx.free 18
   have hf3 := hx.free 19
   have hf4 := hx.free 20
   have hf5 := hx.free 21
   refine Oper.wp_skip (w' := six w s0 16 (.int .u8 e'.kind) (.int .u8 e'.op) (.int .u32 e'.value) (.int .i64 e'.width) (.string e'.name) (.slice e'.sp.at_ e'.subs.length e'.sp.cap)) ?_ ?_
   · simp [go_sem, six, f44, f42, hc0, hf0, hc1, hf1, hc2, hf2, hc3, hf3, hc4, hf4, hc5, hf5]
   · exact ⟨undef, rfl, fun _ => rfl, trivial, ⟨hm.trans hm2, e1, e', hx.six 16 _ _ _ _ _ _ (by simp [ProgV.arr, ProgV.cells, Sp.val]), (by rw [onL_other (by decide)]; exact y0.on hm2 hlo), (by rw [onL_same]; exact ⟨fun _ => ⟨h1, h2.on hm2 hlo⟩, fun h => (by cases h)⟩)⟩, hm2⟩
 rintro L a w hL ⟨hS, hsame, hv⟩
 refine ⟨rfl, hsame.1.trans hsz, hsame.2.1, hsame.2.2, ?_⟩
 unfold RS3 at hS ⊢
 rw [hL 11 (by decide), hL 13 (by decide)] at hS
 exact hS
noncomputable def opsR4 : Array Oper := ((Tryz.f37.body.bind (opsOf 4)).getD #[])
def keepR4 (t : Nat) : Bool := decide (t ≤ 44)
theorem opsR4_ok : stepsB opsR4 10 104 keepR4 = true := by kernel_rfl
def RS4 (s0 _lo : Nat) (_f _t : ByteArray) (p : ProgV) (w0 : World) (L : Nat → Bool) (w : World) : Prop := Mk s0 w0 w ∧ ∃ (n1 r1 : Sp), Bx s0 w { p with ns := n1, rs := r1 } ∧ FlO w0.heap.size 118 7 InitV.cells (L 7) w p.ns n1 p.inits ∧ FlO w0.heap.size 47 3 ProcV.cells (L 9) w p.rs r1 p.procs
theorem RS4.flag {s0 lo k : Nat} {f t : ByteArray} {p : ProgV} {w0 : World} {L : Nat → Bool} {w : World} (hk : k ≠ 7 ∧ k ≠ 9) (h : RS4 s0 lo f t p w0 L w) : RS4 s0 lo f t p w0 (onL L k) w := by
 unfold RS4 at h ⊢
 obtain ⟨h7, h9⟩ := hk
 rw [onL_other (Ne.symm h7), onL_other (Ne.symm h9)]
 exact h
theorem RS4.on {s0 lo : Nat} {f t : ByteArray} {p : ProgV} {w0 : World} {L : Nat → Bool} {w w' : World} (hs : s0 < lo) (hlw : lo ≤ w0.heap.size) (h : RS4 s0 lo f t p w0 L w) (hb : Below w.heap.size w w') : RS4 s0 lo f t p w0 L w' := by
 obtain ⟨hm, n1, r1, hx, y0, y1⟩ := h
 have hm2 := Mk.of hb hx.lt
 exact ⟨hm.trans hm2, n1, r1, hx.on hb, y0.on hm2 (Nat.lt_of_lt_of_le hs hlw), y1.on hm2 (Nat.lt_of_lt_of_le hs hlw)⟩
set_option maxRecDepth 10000000 in
set_option maxHeartbeats 64000000 in
theorem renR4 {a0 : Act} {w0 : World} (hsz : a0.tmps.size = 104) (s0 lo n0 : Nat) (f t : ByteArray) (p : ProgV) (hlo : s0 < lo) (hlw : lo ≤ w0.heap.size) (hn0 : n0 ≤ s0)
   (f3 : a0.tmps[3]?.getD undef = .pointer (some ⟨s0, 0, none⟩)) (hir : RowOf n0 w0 p.ns 7 InitV.cells p.inits) (hpr : RowOf n0 w0 p.rs 3 ProcV.cells p.procs) (hfew : p.inits.length ≤ 1000000 ∧ p.procs.length ≤ 1000000)
   (hbx : Bx s0 w0 p) :
   (Code.region 4 opsR4 true).wp Tryz.prog (fun e a w => e = .normal ∧ a.tmps.size = 104 ∧ a.defers = a0.defers ∧ (∀ t : Nat, keepR4 t = true → a.tmps[t]?.getD undef = a0.tmps[t]?.getD undef) ∧ RS4 s0 lo f t p w0 (fun _ => true) w) a0 w0 := by
 refine wp_region_steps (n := 10) (sz := 104) (keep := keepR4) rfl opsR4_ok hsz (RS4 s0 lo f t p w0) (fun _ w w' => Mk s0 w w') (⟨(Below.refl _ _).drew, p.ns, p.rs, hbx, FlO.off, FlO.off⟩) ?_
 have e : opsR4.toList = opsR4.toList := rfl
 conv at e => rhs; arg 1; whnf
 simp only at e
 rw [e]
 clear e
 apply StepsS.exact rfl rfl
 · exact fun _ _ h => RS4.flag (by decide) h
 · exact fun w => Mk.refl
 · rintro L a w ⟨-, hS, hbeh, hsm, haft⟩
   have f3 : a.tmps[3]?.getD undef = _ := (hsm 3 rfl).trans f3
   simp [go_sem, f3]
   exact rfl
 apply StepsS.exact rfl rfl
 · exact fun _ _ h => RS4.flag (by decide) h
 · exact fun w => Mk.refl
 · rintro L a w ⟨-, hS, hbeh, hsm, haft⟩
   have f45 : a.tmps[45]?.getD undef = _ := tmps_of (haft.1 rfl).2
   obtain ⟨hm, n1, r1, hx, y0, y1⟩ := hS
   obtain rfl := y0.2 (hbeh 7 rfl)
   have hc : w.cell? ⟨s0, 12, none⟩ = some (.slice p.ns.at_ p.inits.length p.ns.cap) := hx.cell 12 rfl
   simp [go_sem, f45, hc]
   exact rfl
 refine StepsS.any (fun L v w => OwnL w0.heap.size w 118 7 InitV.cells v p.inits) rfl ?_ ?_ ?_
 · exact fun _ _ _ _ _ _ hm h => h.onM hm hbx.lt
 · rintro L a w ⟨hL, hS, hbeh, hsm, haft⟩
   have f46 : a.tmps[46]?.getD undef = _ := tmps_of (haft.1 rfl).2
   have hS2 := hS
   obtain ⟨hm, n1, r1, hx, y0, y1⟩ := hS
   refine Oper.wp_enter (f := 74) (args := #[.slice p.ns.at_ p.inits.length p.ns.cap]) (w' := w) ?_ ?_
   · simp [go_sem, f46]
   · refine (clone_init w p.ns p.inits _ ((hir.below (hm.below hn0 hbx.lt)).more (show n0 ≤ w.heap.size by have := hm.size; omega)) hfew.1).mono ?_
     rintro o w' ⟨⟨v, rfl, ho⟩, hb⟩
     exact ⟨v, rfl, v, rfl, fun e => (by cases e), ho.less hm.size, RS4.flag (by decide) (hS2.on hlo hlw hb), Mk.of hb hx.lt⟩
 apply StepsS.exact rfl rfl
 · exact fun _ _ h => RS4.flag (by decide) h
 · exact fun w => Mk.refl
 · rintro L a w ⟨-, hS, hbeh, hsm, haft⟩
   have f3 : a.tmps[3]?.getD undef = _ := (hsm 3 rfl).trans f3
   simp [go_sem, f3]
   exact rfl
 apply StepsS.exact rfl rfl
 · exact fun _ _ h => RS4.flag (by decide) h
 · exact fun w => Mk.refl
 · rintro L a w ⟨-, hS, hbeh, hsm, haft⟩
   have f48 : a.tmps[48]?.getD undef = _ := tmps_of (haft.1 rfl).2
   obtain ⟨hm, n1, r1, hx, y0, y1⟩ := hS
   obtain rfl := y1.2 (hbeh 9 rfl)
   have hc : w.cell? ⟨s0, 13, none⟩ = some (.slice p.rs.at_ p.procs.length p.rs.cap) := hx.cell 13 rfl
   simp [go_sem, f48, hc]
   exact rfl
 refine StepsS.any (fun L v w => OwnL w0.heap.size w 47 3 ProcV.cells v p.procs) rfl ?_ ?_ ?_
 · exact fun _ _ _ _ _ _ hm h => h.onM hm hbx.lt
 · rintro L a w ⟨hL, hS, hbeh, hsm, haft⟩
   have f49 : a.tmps[49]?.getD undef = _ := tmps_of (haft.1 rfl).2
   have hS2 := hS
   obtain ⟨hm, n1, r1, hx, y0, y1⟩ := hS
   refine Oper.wp_enter (f := 36) (args := #[.slice p.rs.at_ p.procs.length p.rs.cap]) (w' := w) ?_ ?_
   · simp [go_sem, f49]
   · refine (clone_proc w p.rs p.procs _ ((hpr.below (hm.below hn0 hbx.lt)).more (show n0 ≤ w.heap.size by have := hm.size; omega)) hfew.2).mono ?_
     rintro o w' ⟨⟨v, rfl, ho⟩, hb⟩
     exact ⟨v, rfl, v, rfl, fun e => (by cases e), ho.less hm.size, RS4.flag (by decide) (hS2.on hlo hlw hb), Mk.of hb hx.lt⟩
 apply StepsS.exact rfl rfl
 · exact fun _ _ h => RS4.flag (by decide) h
 · exact fun w => Mk.refl
 · rintro L a w ⟨-, hS, hbeh, hsm, haft⟩
   have f3 : a.tmps[3]?.getD undef = _ := (hsm 3 rfl).trans f3
   simp [go_sem, f3]
   exact rfl
 refine StepsS.any (fun L v w => True) rfl ?_ ?_ ?_
 · exact fun _ _ _ _ _ _ _ h => h
 · rintro L a w ⟨hL, hS, hbeh, hsm, haft⟩
   have f51 : a.tmps[51]?.getD undef = _ := tmps_of (haft.1 rfl).2
   have ho : OwnL w0.heap.size w 118 7 InitV.cells (a.eval (.tmp 47)) p.inits := (haft.2.1 rfl).2
   have f47x : a.tmps[47]?.getD undef = a.eval (.tmp 47) := tmps_of rfl
   obtain ⟨A, c, hform⟩ := ho.form
   rw [hform] at f47x ho
   obtain ⟨hm, n1, r1, hx, y0, y1⟩ := hS
   have hm2 := Mk.set hx.lt 12 (.slice A p.inits.length c)
   have hc := hx.cell 12 rfl
   have hfr := hx.free 12
   refine Oper.wp_skip (w' := w.setCell ⟨s0, 12, none⟩ (.slice A p.inits.length c)) ?_ ?_
   · simp [go_sem, f51, f47x, hc, hfr]
   · exact ⟨undef, rfl, fun _ => rfl, trivial, ⟨hm.trans hm2, ⟨A, c⟩, r1, hx.put 12 _ (by simp [ProgV.arr, ProgV.cells, Sp.val]), (by rw [onL_same]; exact ⟨fun _ => ho.onM hm2 hbx.lt, fun h => (by cases h)⟩), (by rw [onL_other (by decide)]; exact y1.on hm2 hbx.lt)⟩, hm2⟩
 apply StepsS.exact rfl rfl
 · exact fun _ _ h => RS4.flag (by decide) h
 · exact fun w => Mk.refl
 · rintro L a w ⟨-, hS, hbeh, hsm, haft⟩
   have f3 : a.tmps[3]?.getD undef = _ := (hsm 3 rfl).trans f3
   simp [go_sem, f3]
   exact rfl
 refine StepsS.any (fun L v w => True) rfl ?_ ?_ ?_
 · exact fun _ _ _ _ _ _ _ h => h
 · rintro L a w ⟨hL, hS, hbeh, hsm, haft⟩
   have f52 : a.tmps[52]?.getD undef = _ := tmps_of (haft.1 rfl).2
   have ho : OwnL w0.heap.size w 47 3 ProcV.cells (a.eval (.tmp 50)) p.procs := (haft.2.1 rfl).2
   have f50x : a.tmps[50]?.getD undef = a.eval (.tmp 50) := tmps_of rfl
   obtain ⟨A, c, hform⟩ := ho.form
   rw [hform] at f50x ho
   obtain ⟨hm, n1, r1, hx, y0, y1⟩ := hS
   have hm2 := Mk.set hx.lt 13 (.slice A p.procs.length c)
   have hc := hx.cell 13 rfl
   have hfr := hx.free 13
   refine Oper.wp_skip (w' := w.setCell ⟨s0, 13, none⟩ (.slice A p.procs.length c)) ?_ ?_
   · simp [go_sem, f52, f50x, hc, hfr]
   · exact ⟨undef, rfl, fun _ => rfl, trivial, ⟨hm.trans hm2, n1, ⟨A, c⟩, hx.put 13 _ (by simp [ProgV.arr, ProgV.cells, Sp.val]), (by rw [onL_other (by decide)]; exact y0.on hm2 hbx.lt), (by rw [onL_same]; exact ⟨fun _ => ho.onM hm2 hbx.lt, fun h => (by cases h)⟩)⟩, hm2⟩
 rintro L a w hL ⟨hS, hsame, hv⟩
 refine ⟨rfl, hsame.1.trans hsz, hsame.2.1, hsame.2.2, ?_⟩
 unfold RS4 at hS ⊢
 rw [hL 7 (by decide), hL 9 (by decide)] at hS
 exact hS
noncomputable def opsR15 : Array Oper := ((Tryz.f37.body.bind (opsOf 15)).getD #[])
def keepR15 (t : Nat) : Bool := decide (t ≤ 90)
theorem opsR15_ok : stepsB opsR15 14 104 keepR15 = true := by kernel_rfl
def RS15 (s0 lo : Nat) (f t : ByteArray) (p : ProgV) (w0 : World) (L : Nat → Bool) (w : World) : Prop := Mk s0 w0 w ∧ ∃ (s1 : Sp) (l1 : List StmtV) (s2 : Sp) (l2 : List StmtV), Bx s0 w { p with ws := s1, work := l1, cs := s2, recover := l2 } ∧ FlT lo f t (L 11) w p.ws p.work s1 l1 ∧ FlT lo f t (L 13) w p.cs p.recover s2 l2
theorem RS15.flag {s0 lo k : Nat} {f t : ByteArray} {p : ProgV} {w0 : World} {L : Nat → Bool} {w : World} (hk : k ≠ 11 ∧ k ≠ 13) (h : RS15 s0 lo f t p w0 L w) : RS15 s0 lo f t p w0 (onL L k) w := by
 unfold RS15 at h ⊢
 obtain ⟨h11, h13⟩ := hk
 rw [onL_other (Ne.symm h11), onL_other (Ne.symm h13)]
 exact h
theorem RS15.on {s0 lo : Nat} {f t : ByteArray} {p : ProgV} {w0 : World} {L : Nat → Bool} {w w' : World} (hs : s0 < lo) (_ : lo ≤ w0.heap.size) (h : RS15 s0 lo f t p w0 L w) (hb : Below w.heap.size w w') : RS15 s0 lo f t p w0 L w' := by
 obtain ⟨hm, s1, l1, s2, l2, hx, y0, y1⟩ := h
 have hm2 := Mk.of hb hx.lt
 exact ⟨hm.trans hm2, s1, l1, s2, l2, hx.on hb, y0.on hm2 (hs), y1.on hm2 (hs)⟩
set_option maxRecDepth 10000000 in
set_option maxHeartbeats 64000000 in
theorem renR15 {a0 : Act} {w0 : World} (hsz : a0.tmps.size = 104) (s0 lo n0 : Nat) (f t : ByteArray) (p : ProgV) (hlo : s0 < lo) (hlw : lo ≤ w0.heap.size) (hn0 : n0 ≤ s0)
   (f3 : a0.tmps[3]?.getD undef = .pointer (some ⟨s0, 0, none⟩)) (bf bt : Nat) (f4 : a0.tmps[4]?.getD undef = .pointer (some ⟨bf, 0, none⟩)) (f5 : a0.tmps[5]?.getD undef = .pointer (some ⟨bt, 0, none⟩)) (hbf1 : bf ≠ s0) (hbf2 : bf < w0.heap.size) (hbf : w0.cell? ⟨bf, 0, none⟩ = some (.string f)) (hbt1 : bt ≠ s0) (hbt2 : bt < w0.heap.size) (hbt : w0.cell? ⟨bt, 0, none⟩ = some (.string t)) (hren : RenTsOk f t n0 w0 p.ws p.work ∧ RenTsOk f t n0 w0 p.cs p.recover)
   (hbx : Bx s0 w0 p) :
   (Code.region 15 opsR15 true).wp Tryz.prog (fun e a w => e = .normal ∧ a.tmps.size = 104 ∧ a.defers = a0.defers ∧ (∀ t : Nat, keepR15 t = true → a.tmps[t]?.getD undef = a0.tmps[t]?.getD undef) ∧ RS15 s0 lo f t p w0 (fun _ => true) w) a0 w0 := by
 refine wp_region_steps (n := 14) (sz := 104) (keep := keepR15) rfl opsR15_ok hsz (RS15 s0 lo f t p w0) (fun _ w w' => Mk s0 w w') (⟨(Below.refl _ _).drew, p.ws, p.work, p.cs, p.recover, hbx, FlT.off, FlT.off⟩) ?_
 have e : opsR15.toList = opsR15.toList := rfl
 conv at e => rhs; arg 1; whnf
 simp only at e
 rw [e]
 clear e
 apply StepsS.exact rfl rfl
 · exact fun _ _ h => RS15.flag (by decide) h
 · exact fun w => Mk.refl
 · rintro L a w ⟨-, hS, hbeh, hsm, haft⟩
   have f3 : a.tmps[3]?.getD undef = _ := (hsm 3 rfl).trans f3
   simp [go_sem, f3]
   exact rfl
 apply StepsS.exact rfl rfl
 · exact fun _ _ h => RS15.flag (by decide) h
 · exact fun w => Mk.refl
 · rintro L a w ⟨-, hS, hbeh, hsm, haft⟩
   have f91 : a.tmps[91]?.getD undef = _ := tmps_of (haft.1 rfl).2
   obtain ⟨hm, s1, l1, s2, l2, hx, y0, y1⟩ := hS
   obtain ⟨rfl, rfl⟩ := y0.2 (hbeh 11 rfl)
   have hc : w.cell? ⟨s0, 14, none⟩ = some (.slice p.ws.at_ p.work.length p.ws.cap) := hx.cell 14 rfl
   simp [go_sem, f91, hc]
   exact rfl
 apply StepsS.exact rfl rfl
 · exact fun _ _ h => RS15.flag (by decide) h
 · exact fun w => Mk.refl
 · rintro L a w ⟨-, hS, hbeh, hsm, haft⟩
   have f4 : a.tmps[4]?.getD undef = _ := (hsm 4 rfl).trans f4
   have hc : w.cell? ⟨bf, 0, none⟩ = some (.string f) := (hS.1.cell (a := ⟨bf, 0, none⟩) hbf1 hbf2).trans hbf
   simp [go_sem, f4, hc]
   exact rfl
 apply StepsS.exact rfl rfl
 · exact fun _ _ h => RS15.flag (by decide) h
 · exact fun w => Mk.refl
 · rintro L a w ⟨-, hS, hbeh, hsm, haft⟩
   have f5 : a.tmps[5]?.getD undef = _ := (hsm 5 rfl).trans f5
   have hc : w.cell? ⟨bt, 0, none⟩ = some (.string t) := (hS.1.cell (a := ⟨bt, 0, none⟩) hbt1 hbt2).trans hbt
   simp [go_sem, f5, hc]
   exact rfl
 refine StepsS.any (fun L v w => ∃ (sp' : Sp) (l' : List StmtV), v = .slice sp'.at_ l'.length sp'.cap ∧ RenTs f t p.ws sp' p.work l' ∧ NewTs lo w sp' l') rfl ?_ ?_ ?_
 · exact fun _ _ _ _ _ _ hm ⟨sp', l', h1, h2, h3⟩ => ⟨sp', l', h1, h2, h3.on hm hlo⟩
 · rintro L a w ⟨hL, hS, hbeh, hsm, haft⟩
   have f92 : a.tmps[92]?.getD undef = _ := tmps_of (haft.1 rfl).2
   have f93 : a.tmps[93]?.getD undef = _ := tmps_of (haft.2.1 rfl).2
   have f94 : a.tmps[94]?.getD undef = _ := tmps_of (haft.2.2.1 rfl).2
   have hS2 := hS
   obtain ⟨hm, s1, l1, s2, l2, hx, y0, y1⟩ := hS
   refine Oper.wp_enter (f := 75) (args := #[.slice p.ws.at_ p.work.length p.ws.cap, .string f, .string t]) (w' := w) ?_ ?_
   · simp [go_sem, f92, f93, f94]
   · refine (hren.1 w (hm.below hn0 hbx.lt) (by have := hm.size; omega)).mono ?_
     rintro o w' ⟨sp', l', rfl, h1, h2, hb⟩
     exact ⟨_, rfl, _, rfl, fun e => (by cases e), ⟨sp', l', rfl, h1, h2.less (by have := hm.size; omega)⟩, RS15.flag (by decide) (hS2.on hlo hlw hb), Mk.of hb hx.lt⟩
 apply StepsS.exact rfl rfl
 · exact fun _ _ h => RS15.flag (by decide) h
 · exact fun w => Mk.refl
 · rintro L a w ⟨-, hS, hbeh, hsm, haft⟩
   have f3 : a.tmps[3]?.getD undef = _ := (hsm 3 rfl).trans f3
   simp [go_sem, f3]
   exact rfl
 apply StepsS.exact rfl rfl
 · exact fun _ _ h => RS15.flag (by decide) h
 · exact fun w => Mk.refl
 · rintro L a w ⟨-, hS, hbeh, hsm, haft⟩
   have f96 : a.tmps[96]?.getD undef = _ := tmps_of (haft.1 rfl).2
   obtain ⟨hm, s1, l1, s2, l2, hx, y0, y1⟩ := hS
   obtain ⟨rfl, rfl⟩ := y1.2 (hbeh 13 rfl)
   have hc : w.cell? ⟨s0, 15, none⟩ = some (.slice p.cs.at_ p.recover.length p.cs.cap) := hx.cell 15 rfl
   simp [go_sem, f96, hc]
   exact rfl
 apply StepsS.exact rfl rfl
 · exact fun _ _ h => RS15.flag (by decide) h
 · exact fun w => Mk.refl
 · rintro L a w ⟨-, hS, hbeh, hsm, haft⟩
   have f4 : a.tmps[4]?.getD undef = _ := (hsm 4 rfl).trans f4
   have hc : w.cell? ⟨bf, 0, none⟩ = some (.string f) := (hS.1.cell (a := ⟨bf, 0, none⟩) hbf1 hbf2).trans hbf
   simp [go_sem, f4, hc]
   exact rfl
 apply StepsS.exact rfl rfl
 · exact fun _ _ h => RS15.flag (by decide) h
 · exact fun w => Mk.refl
 · rintro L a w ⟨-, hS, hbeh, hsm, haft⟩
   have f5 : a.tmps[5]?.getD undef = _ := (hsm 5 rfl).trans f5
   have hc : w.cell? ⟨bt, 0, none⟩ = some (.string t) := (hS.1.cell (a := ⟨bt, 0, none⟩) hbt1 hbt2).trans hbt
   simp [go_sem, f5, hc]
   exact rfl
 refine StepsS.any (fun L v w => ∃ (sp' : Sp) (l' : List StmtV), v = .slice sp'.at_ l'.length sp'.cap ∧ RenTs f t p.cs sp' p.recover l' ∧ NewTs lo w sp' l') rfl ?_ ?_ ?_
 · exact fun _ _ _ _ _ _ hm ⟨sp', l', h1, h2, h3⟩ => ⟨sp', l', h1, h2, h3.on hm hlo⟩
 · rintro L a w ⟨hL, hS, hbeh, hsm, haft⟩
   have f97 : a.tmps[97]?.getD undef = _ := tmps_of (haft.1 rfl).2
   have f98 : a.tmps[98]?.getD undef = _ := tmps_of (haft.2.1 rfl).2
   have f99 : a.tmps[99]?.getD undef = _ := tmps_of (haft.2.2.1 rfl).2
   have hS2 := hS
   obtain ⟨hm, s1, l1, s2, l2, hx, y0, y1⟩ := hS
   refine Oper.wp_enter (f := 75) (args := #[.slice p.cs.at_ p.recover.length p.cs.cap, .string f, .string t]) (w' := w) ?_ ?_
   · simp [go_sem, f97, f98, f99]
   · refine (hren.2 w (hm.below hn0 hbx.lt) (by have := hm.size; omega)).mono ?_
     rintro o w' ⟨sp', l', rfl, h1, h2, hb⟩
     exact ⟨_, rfl, _, rfl, fun e => (by cases e), ⟨sp', l', rfl, h1, h2.less (by have := hm.size; omega)⟩, RS15.flag (by decide) (hS2.on hlo hlw hb), Mk.of hb hx.lt⟩
 apply StepsS.exact rfl rfl
 · exact fun _ _ h => RS15.flag (by decide) h
 · exact fun w => Mk.refl
 · rintro L a w ⟨-, hS, hbeh, hsm, haft⟩
   have f3 : a.tmps[3]?.getD undef = _ := (hsm 3 rfl).trans f3
   simp [go_sem, f3]
   exact rfl
 refine StepsS.any (fun L v w => True) rfl ?_ ?_ ?_
 · exact fun _ _ _ _ _ _ _ h => h
 · rintro L a w ⟨hL, hS, hbeh, hsm, haft⟩
   have f101 : a.tmps[101]?.getD undef = _ := tmps_of (haft.1 rfl).2
   obtain ⟨sp', l', x95, h1, h2⟩ := (haft.2.1 rfl).2
   have f95 : a.tmps[95]?.getD undef = .slice sp'.at_ l'.length sp'.cap := tmps_of x95
   obtain ⟨hm, s1, l1, s2, l2, hx, y0, y1⟩ := hS
   have hm2 := Mk.set hx.lt 14 (.slice sp'.at_ l'.length sp'.cap)
   have hc := hx.cell 14 rfl
   have hfr := hx.free 14
   refine Oper.wp_skip (w' := w.setCell ⟨s0, 14, none⟩ (.slice sp'.at_ l'.length sp'.cap)) ?_ ?_
   · simp [go_sem, f101, f95, hc, hfr]
   · exact ⟨undef, rfl, fun _ => rfl, trivial, ⟨hm.trans hm2, sp', l', s2, l2, hx.put 14 _ (by simp [ProgV.arr, ProgV.cells, Sp.val]), (by rw [onL_same]; exact ⟨fun _ => ⟨h1, h2.on hm2 hlo⟩, fun h => (by cases h)⟩), (by rw [onL_other (by decide)]; exact y1.on hm2 hlo)⟩, hm2⟩
 apply StepsS.exact rfl rfl
 · exact fun _ _ h => RS15.flag (by decide) h
 · exact fun w => Mk.refl
 · rintro L a w ⟨-, hS, hbeh, hsm, haft⟩
   have f3 : a.tmps[3]?.getD undef = _ := (hsm 3 rfl).trans f3
   simp [go_sem, f3]
   exact rfl
 refine StepsS.any (fun L v w => True) rfl ?_ ?_ ?_
 · exact fun _ _ _ _ _ _ _ h => h
 · rintro L a w ⟨hL, hS, hbeh, hsm, haft⟩
   have f102 : a.tmps[102]?.getD undef = _ := tmps_of (haft.1 rfl).2
   obtain ⟨sp', l', x100, h1, h2⟩ := (haft.2.1 rfl).2
   have f100 : a.tmps[100]?.getD undef = .slice sp'.at_ l'.length sp'.cap := tmps_of x100
   obtain ⟨hm, s1, l1, s2, l2, hx, y0, y1⟩ := hS
   have hm2 := Mk.set hx.lt 15 (.slice sp'.at_ l'.length sp'.cap)
   have hc := hx.cell 15 rfl
   have hfr := hx.free 15
   refine Oper.wp_skip (w' := w.setCell ⟨s0, 15, none⟩ (.slice sp'.at_ l'.length sp'.cap)) ?_ ?_
   · simp [go_sem, f102, f100, hc, hfr]
   · exact ⟨undef, rfl, fun _ => rfl, trivial, ⟨hm.trans hm2, s1, l1, sp', l', hx.put 15 _ (by simp [ProgV.arr, ProgV.cells, Sp.val]), (by rw [onL_other (by decide)]; exact y0.on hm2 hlo), (by rw [onL_same]; exact ⟨fun _ => ⟨h1, h2.on hm2 hlo⟩, fun h => (by cases h)⟩)⟩, hm2⟩
 rintro L a w hL ⟨hS, hsame, hv⟩
 refine ⟨rfl, hsame.1.trans hsz, hsame.2.1, hsame.2.2, ?_⟩
 unfold RS15 at hS ⊢
 rw [hL 11 (by decide), hL 13 (by decide)] at hS
 exact hS
end Go.Proofs.YthcboallnbaimaaGreatDoor
namespace Go.Proofs.YthcboallnbaimaaGreatDoor
open Go Go.RowKit Go.Maps
noncomputable def opsR8 : Array Oper := ((Tryz.f37.body.bind (opsOf 8)).getD #[])
def keepR8 (t : Nat) : Bool := decide (t ≤ 60) || decide (71 ≤ t)
theorem opsR8_ok : stepsB opsR8 11 104 keepR8 = true := by kernel_rfl
def RS8 (R : World → Prop) (w0 : World) (L : Nat → Bool) (w : World) : Prop := (L 10 = false → Below w0.heap.size w0 w) ∧ (L 10 = true → R w)
theorem RS8.flag {R : World → Prop} {w0 : World} {k : Nat} {L : Nat → Bool} {w : World} (hk : k ≠ 10) (h : RS8 R w0 L w) : RS8 R w0 (onL L k) w := by
 unfold RS8 at h ⊢
 rw [onL_other (Ne.symm hk)]
 exact h
set_option maxRecDepth 10000000 in
set_option maxHeartbeats 64000000 in
theorem renR8 {a0 : Act} {w0 : World} (hsz : a0.tmps.size = 104) (s0 g k n c bx bf bt : Nat) (f t : ByteArray)
   (f3 : a0.tmps[3]?.getD undef = .pointer (some ⟨s0, 0, none⟩)) (f4 : a0.tmps[4]?.getD undef = .pointer (some ⟨bf, 0, none⟩)) (f5 : a0.tmps[5]?.getD undef = .pointer (some ⟨bt, 0, none⟩)) (f8 : a0.tmps[8]?.getD undef = .int .i64 (k : Nat)) (f9 : a0.tmps[9]?.getD undef = .pointer (some ⟨bx, 0, none⟩)) (x : InitV) (hcell : w0.cell? ⟨s0, 12, none⟩ = some (.slice (some ⟨g, 0, none⟩) n c)) (hx : ∀ r u, x.cells[r]? = some u → w0.cell? ⟨bx, r, none⟩ = some u) (HC : ∀ W, Below w0.heap.size w0 W → Calls Tryz.prog 73 #[.agg #[.int .u8 x.value.kind, .int .u8 x.value.op, .int .u32 x.value.value, .int .i64 x.value.width, .string x.value.name, .slice x.value.sp.at_ x.value.subs.length x.value.sp.cap], .string f, .string t] W fun o w' => ∃ e' : ExprV, o = .returned (.agg #[.int .u8 e'.kind, .int .u8 e'.op, .int .u32 e'.value, .int .i64 e'.width, .string e'.name, .slice e'.sp.at_ e'.subs.length e'.sp.cap]) ∧ RenX f t x.value e' ∧ NewX W.heap.size w' e' ∧ Below W.heap.size W w') (hold : ∀ r, r < 6 → ∃ u, w0.cell? ⟨g, k * 7 + 1 + r, none⟩ = some u)
   (hs0 : s0 < w0.heap.size) (hg : g < w0.heap.size) (hbf2 : bf < w0.heap.size) (hbf : w0.cell? ⟨bf, 0, none⟩ = some (.string f)) (hbt2 : bt < w0.heap.size) (hbt : w0.cell? ⟨bt, 0, none⟩ = some (.string t)) (hk : k < n) (hbl : bx < w0.heap.size) (hfr : ∀ j, w0.frozen? ⟨g, j, none⟩ = false) :
   (Code.region 8 opsR8 true).wp Tryz.prog (fun e a w => e = .normal ∧ a.tmps.size = 104 ∧ a.defers = a0.defers ∧ (∀ t : Nat, keepR8 t = true → a.tmps[t]?.getD undef = a0.tmps[t]?.getD undef) ∧ (fun w => ∃ w1 e', Below w0.heap.size w0 w1 ∧ RenX f t x.value e' ∧ NewX w0.heap.size w1 e' ∧ w = six w1 g (k * 7 + 1) (.int .u8 e'.kind) (.int .u8 e'.op) (.int .u32 e'.value) (.int .i64 e'.width) (.string e'.name) (.slice e'.sp.at_ e'.subs.length e'.sp.cap)) w) a0 w0 := by
 refine wp_region_steps (n := 11) (sz := 104) (keep := keepR8) rfl opsR8_ok hsz (RS8 ((fun w => ∃ w1 e', Below w0.heap.size w0 w1 ∧ RenX f t x.value e' ∧ NewX w0.heap.size w1 e' ∧ w = six w1 g (k * 7 + 1) (.int .u8 e'.kind) (.int .u8 e'.op) (.int .u32 e'.value) (.int .i64 e'.width) (.string e'.name) (.slice e'.sp.at_ e'.subs.length e'.sp.cap))) w0) (fun i w w' => i = 10 ∨ Below w.heap.size w w') ⟨fun _ => (Below.refl _ _).drew, fun h => (by cases h)⟩ ?_
 have e : opsR8.toList = opsR8.toList := rfl
 conv at e => rhs; arg 1; whnf
 simp only at e
 rw [e]
 clear e
 apply StepsS.exact rfl rfl
 · exact fun _ _ h => RS8.flag (by decide) h
 · exact fun w => .inr (Below.refl _ w)
 · rintro L a w ⟨-, hS, hbeh, hsm, haft⟩
   have f3 : a.tmps[3]?.getD undef = _ := (hsm 3 rfl).trans f3
   simp [go_sem, f3]
   exact rfl
 apply StepsS.exact rfl rfl
 · exact fun _ _ h => RS8.flag (by decide) h
 · exact fun w => .inr (Below.refl _ w)
 · rintro L a w ⟨-, hS, hbeh, hsm, haft⟩
   have f61 : a.tmps[61]?.getD undef = _ := tmps_of (haft.1 rfl).2
   have hb := hS.1 (hbeh 10 rfl)
   have hc : w.cell? ⟨s0, 12, none⟩ = _ := (hb.cell (p := ⟨s0, 12, none⟩) hs0).trans hcell
   simp [go_sem, f61, hc]
   exact rfl
 apply StepsS.exact rfl rfl
 · exact fun _ _ h => RS8.flag (by decide) h
 · exact fun w => .inr (Below.refl _ w)
 · rintro L a w ⟨-, hS, hbeh, hsm, haft⟩
   have f8 : a.tmps[8]?.getD undef = _ := (hsm 8 rfl).trans f8
   simp [go_sem, f8]
   exact rfl
 apply StepsS.exact rfl rfl
 · exact fun _ _ h => RS8.flag (by decide) h
 · exact fun w => .inr (Below.refl _ w)
 · rintro L a w ⟨-, hS, hbeh, hsm, haft⟩
   have f9 : a.tmps[9]?.getD undef = _ := (hsm 9 rfl).trans f9
   simp [go_sem, f9]
   exact rfl
 apply StepsS.exact rfl rfl
 · exact fun _ _ h => RS8.flag (by decide) h
 · exact fun w => .inr (Below.refl _ w)
 · rintro L a w ⟨-, hS, hbeh, hsm, haft⟩
   have f64 : a.tmps[64]?.getD undef = _ := tmps_of (haft.1 rfl).2
   have hb := hS.1 (hbeh 10 rfl)
   have c0 : w.cell? ⟨bx, 1, none⟩ = some (.int .u8 x.value.kind) := (hb.cell (p := ⟨bx, 1, none⟩) hbl).trans (hx 1 _ rfl)
   have c1 : w.cell? ⟨bx, 2, none⟩ = some (.int .u8 x.value.op) := (hb.cell (p := ⟨bx, 2, none⟩) hbl).trans (hx 2 _ rfl)
   have c2 : w.cell? ⟨bx, 3, none⟩ = some (.int .u32 x.value.value) := (hb.cell (p := ⟨bx, 3, none⟩) hbl).trans (hx 3 _ rfl)
   have c3 : w.cell? ⟨bx, 4, none⟩ = some (.int .i64 x.value.width) := (hb.cell (p := ⟨bx, 4, none⟩) hbl).trans (hx 4 _ rfl)
   have c4 : w.cell? ⟨bx, 5, none⟩ = some (.string x.value.name) := (hb.cell (p := ⟨bx, 5, none⟩) hbl).trans (hx 5 _ rfl)
   have c5 : w.cell? ⟨bx, 6, none⟩ = some (.slice x.value.sp.at_ x.value.subs.length x.value.sp.cap) := (hb.cell (p := ⟨bx, 6, none⟩) hbl).trans (hx 6 _ rfl)
   simp [go_sem, f64, c0, c1, c2, c3, c4, c5]
   exact rfl
 apply StepsS.exact rfl rfl
 · exact fun _ _ h => RS8.flag (by decide) h
 · exact fun w => .inr (Below.refl _ w)
 · rintro L a w ⟨-, hS, hbeh, hsm, haft⟩
   have f4 : a.tmps[4]?.getD undef = _ := (hsm 4 rfl).trans f4
   have hb := hS.1 (hbeh 10 rfl)
   have hc : w.cell? ⟨bf, 0, none⟩ = _ := (hb.cell (p := ⟨bf, 0, none⟩) hbf2).trans hbf
   simp [go_sem, f4, hc]
   exact rfl
 apply StepsS.exact rfl rfl
 · exact fun _ _ h => RS8.flag (by decide) h
 · exact fun w => .inr (Below.refl _ w)
 · rintro L a w ⟨-, hS, hbeh, hsm, haft⟩
   have f5 : a.tmps[5]?.getD undef = _ := (hsm 5 rfl).trans f5
   have hb := hS.1 (hbeh 10 rfl)
   have hc : w.cell? ⟨bt, 0, none⟩ = _ := (hb.cell (p := ⟨bt, 0, none⟩) hbt2).trans hbt
   simp [go_sem, f5, hc]
   exact rfl
 refine StepsS.any (fun L v w => L 10 = true ∨ (Below w0.heap.size w0 w ∧ ∃ e' : ExprV, v = .agg #[.int .u8 e'.kind, .int .u8 e'.op, .int .u32 e'.value, .int .i64 e'.width, .string e'.name, .slice e'.sp.at_ e'.subs.length e'.sp.cap] ∧ RenX f t x.value e' ∧ NewX w0.heap.size w e')) rfl ?_ ?_ ?_
 · intro i L v w w' _ hR hP
   rcases hR with rfl | hR
   · exact .inl onL_same
   · rcases hP with h | h
     · left
       by_cases hi : 10 = i
       · rw [← hi]; exact onL_same
       · rw [onL_other hi]; exact h
     · exact .inr (h.imp (fun hb => hb.trans (hR.mono hb.size)) fun ⟨e', h1, h2, h3⟩ => ⟨e', h1, h2, h3.lowerR hR⟩)
 · rintro L a w ⟨hL, hS, hbeh, hsm, haft⟩
   have f65 : a.tmps[65]?.getD undef = _ := tmps_of (haft.1 rfl).2
   have f66 : a.tmps[66]?.getD undef = _ := tmps_of (haft.2.1 rfl).2
   have f67 : a.tmps[67]?.getD undef = _ := tmps_of (haft.2.2.1 rfl).2
   have hb := hS.1 (hbeh 10 rfl)
   refine Oper.wp_enter (f := 73) (args := #[.agg #[.int .u8 x.value.kind, .int .u8 x.value.op, .int .u32 x.value.value, .int .i64 x.value.width, .string x.value.name, .slice x.value.sp.at_ x.value.subs.length x.value.sp.cap], .string f, .string t]) (w' := w) ?_ ?_
   · simp [go_sem, f65, f66, f67]
   · refine (HC w hb).mono ?_
     rintro o w' ⟨e', rfl, h1, h2, hb2⟩
     have hb3 := hb.trans (hb2.mono hb.size)
     refine ⟨_, rfl, _, rfl, fun e => (by cases e), .inr ⟨hb3, e', rfl, h1, h2.less hb.size⟩, ⟨fun _ => hb3, fun h => ?_⟩, .inr hb2⟩
     rw [onL_other (by decide), hbeh 10 rfl] at h
     cases h
 apply StepsS.exact rfl rfl
 · exact fun _ _ h => RS8.flag (by decide) h
 · exact fun w => .inr (Below.refl _ w)
 · rintro L a w ⟨-, hS, hbeh, hsm, haft⟩
   have f62 : a.tmps[62]?.getD undef = _ := tmps_of (haft.1 rfl).2
   have f63 : a.tmps[63]?.getD undef = _ := tmps_of (haft.2.1 rfl).2
   simp [go_sem, f62, f63, hk]
   exact rfl
 apply StepsS.exact rfl rfl
 · exact fun _ _ h => RS8.flag (by decide) h
 · exact fun w => .inr (Below.refl _ w)
 · rintro L a w ⟨-, hS, hbeh, hsm, haft⟩
   have f69 : a.tmps[69]?.getD undef = _ := tmps_of (haft.1 rfl).2
   simp [go_sem, f69]
   exact rfl
 refine StepsS.any (fun L v w => True) rfl ?_ ?_ ?_
 · exact fun _ _ _ _ _ _ _ h => h
 · rintro L a w ⟨hL, hS, hbeh, hsm, haft⟩
   have f70 : a.tmps[70]?.getD undef = _ := tmps_of (haft.1 rfl).2
   obtain ⟨hb, e', x68, h1, h2⟩ := (haft.2.1 rfl).2.resolve_left (by rw [hL]; exact Bool.false_ne_true)
   have f68 : a.tmps[68]?.getD undef = .agg #[.int .u8 e'.kind, .int .u8 e'.op, .int .u32 e'.value, .int .i64 e'.width, .string e'.name, .slice e'.sp.at_ e'.subs.length e'.sp.cap] := tmps_of x68
   obtain ⟨u0, hu0⟩ := hold 0 (by decide)
   obtain ⟨u1, hu1⟩ := hold 1 (by decide)
   obtain ⟨u2, hu2⟩ := hold 2 (by decide)
   obtain ⟨u3, hu3⟩ := hold 3 (by decide)
   obtain ⟨u4, hu4⟩ := hold 4 (by decide)
   obtain ⟨u5, hu5⟩ := hold 5 (by decide)
   have hc0 : w.cell? ⟨g, k * 7 + 1, none⟩ = some u0 := (hb.cell (p := ⟨g, _, none⟩) hg).trans hu0
   have hc1 : w.cell? ⟨g, k * 7 + 1 + 1, none⟩ = some u1 := (hb.cell (p := ⟨g, _, none⟩) hg).trans hu1
   have hc2 : w.cell? ⟨g, k * 7 + 1 + 2, none⟩ = some u2 := (hb.cell (p := ⟨g, _, none⟩) hg).trans hu2
   have hc3 : w.cell? ⟨g, k * 7 + 1 + 3, none⟩ = some u3 := (hb.cell (p := ⟨g, _, none⟩) hg).trans hu3
   have hc4 : w.cell? ⟨g, k * 7 + 1 + 4, none⟩ = some u4 := (hb.cell (p := ⟨g, _, none⟩) hg).trans hu4
   have hc5 : w.cell? ⟨g, k * 7 + 1 + 5, none⟩ = some u5 := (hb.cell (p := ⟨g, _, none⟩) hg).trans hu5
   have hf0 : w.frozen? ⟨g, k * 7 + 1, none⟩ = false := (hb.frozen (p := ⟨g, _, none⟩) hg).trans (hfr _)
   have hf1 : w.frozen? ⟨g, k * 7 + 1 + 1, none⟩ = false := (hb.frozen (p := ⟨g, _, none⟩) hg).trans (hfr _)
   have hf2 : w.frozen? ⟨g, k * 7 + 1 + 2, none⟩ = false := (hb.frozen (p := ⟨g, _, none⟩) hg).trans (hfr _)
   have hf3 : w.frozen? ⟨g, k * 7 + 1 + 3, none⟩ = false := (hb.frozen (p := ⟨g, _, none⟩) hg).trans (hfr _)
   have hf4 : w.frozen? ⟨g, k * 7 + 1 + 4, none⟩ = false := (hb.frozen (p := ⟨g, _, none⟩) hg).trans (hfr _)
   have hf5 : w.frozen? ⟨g, k * 7 + 1 + 5, none⟩ = false := (hb.frozen (p := ⟨g, _, none⟩) hg).trans (hfr _)
   refine Oper.wp_skip (w' := six w g (k * 7 + 1) (.int .u8 e'.kind) (.int .u8 e'.op) (.int .u32 e'.value) (.int .i64 e'.width) (.string e'.name) (.slice e'.sp.at_ e'.subs.length e'.sp.cap)) ?_ ?_
   · simp [go_sem, six, f70, f68, hc0, hf0, hc1, hf1, hc2, hf2, hc3, hf3, hc4, hf4, hc5, hf5]
   · exact ⟨undef, rfl, fun _ => rfl, trivial, ⟨fun h => absurd onL_same (by rw [h]; exact Bool.false_ne_true), fun _ => ⟨w, e', hb, h1, h2, rfl⟩⟩, .inl rfl⟩
 rintro L a w hL ⟨hS, hsame, hv⟩
 refine ⟨rfl, hsame.1.trans hsz, hsame.2.1, hsame.2.2, hS.2 (hL 10 (by decide))⟩
noncomputable def opsR13 : Array Oper := ((Tryz.f37.body.bind (opsOf 13)).getD #[])
def keepR13 (t : Nat) : Bool := decide (t ≤ 79) || decide (90 ≤ t)
theorem opsR13_ok : stepsB opsR13 11 104 keepR13 = true := by kernel_rfl
def RS13 (R : World → Prop) (w0 : World) (L : Nat → Bool) (w : World) : Prop := (L 10 = false → Below w0.heap.size w0 w) ∧ (L 10 = true → R w)
theorem RS13.flag {R : World → Prop} {w0 : World} {k : Nat} {L : Nat → Bool} {w : World} (hk : k ≠ 10) (h : RS13 R w0 L w) : RS13 R w0 (onL L k) w := by
 unfold RS13 at h ⊢
 rw [onL_other (Ne.symm hk)]
 exact h
set_option maxRecDepth 10000000 in
set_option maxHeartbeats 64000000 in
theorem renR13 {a0 : Act} {w0 : World} (hsz : a0.tmps.size = 104) (s0 g k n c bx bf bt : Nat) (f t : ByteArray)
   (f3 : a0.tmps[3]?.getD undef = .pointer (some ⟨s0, 0, none⟩)) (f4 : a0.tmps[4]?.getD undef = .pointer (some ⟨bf, 0, none⟩)) (f5 : a0.tmps[5]?.getD undef = .pointer (some ⟨bt, 0, none⟩)) (f10 : a0.tmps[10]?.getD undef = .int .i64 (k : Nat)) (f11 : a0.tmps[11]?.getD undef = .pointer (some ⟨bx, 0, none⟩)) (x : ProcV) (hcell : w0.cell? ⟨s0, 13, none⟩ = some (.slice (some ⟨g, 0, none⟩) n c)) (hx : ∀ r u, x.cells[r]? = some u → w0.cell? ⟨bx, r, none⟩ = some u) (HC : ∀ W, Below w0.heap.size w0 W → Calls Tryz.prog 75 #[.slice x.bs.at_ x.body.length x.bs.cap, .string f, .string t] W fun o w' => ∃ (sp' : Sp) (l' : List StmtV), o = .returned (.slice sp'.at_ l'.length sp'.cap) ∧ RenTs f t x.bs sp' x.body l' ∧ NewTs W.heap.size w' sp' l' ∧ Below W.heap.size W w') (hold : ∃ u, w0.cell? ⟨g, k * 3 + 2, none⟩ = some u)
   (hs0 : s0 < w0.heap.size) (hg : g < w0.heap.size) (hbf2 : bf < w0.heap.size) (hbf : w0.cell? ⟨bf, 0, none⟩ = some (.string f)) (hbt2 : bt < w0.heap.size) (hbt : w0.cell? ⟨bt, 0, none⟩ = some (.string t)) (hk : k < n) (hbl : bx < w0.heap.size) (hfr : ∀ j, w0.frozen? ⟨g, j, none⟩ = false) :
   (Code.region 13 opsR13 true).wp Tryz.prog (fun e a w => e = .normal ∧ a.tmps.size = 104 ∧ a.defers = a0.defers ∧ (∀ t : Nat, keepR13 t = true → a.tmps[t]?.getD undef = a0.tmps[t]?.getD undef) ∧ (fun w => ∃ (w1 : World) (sp' : Sp) (l' : List StmtV), Below w0.heap.size w0 w1 ∧ RenTs f t x.bs sp' x.body l' ∧ NewTs w0.heap.size w1 sp' l' ∧ w = w1.setCell ⟨g, k * 3 + 2, none⟩ (.slice sp'.at_ l'.length sp'.cap)) w) a0 w0 := by
 refine wp_region_steps (n := 11) (sz := 104) (keep := keepR13) rfl opsR13_ok hsz (RS13 ((fun w => ∃ (w1 : World) (sp' : Sp) (l' : List StmtV), Below w0.heap.size w0 w1 ∧ RenTs f t x.bs sp' x.body l' ∧ NewTs w0.heap.size w1 sp' l' ∧ w = w1.setCell ⟨g, k * 3 + 2, none⟩ (.slice sp'.at_ l'.length sp'.cap))) w0) (fun i w w' => i = 10 ∨ Below w.heap.size w w') ⟨fun _ => (Below.refl _ _).drew, fun h => (by cases h)⟩ ?_
 have e : opsR13.toList = opsR13.toList := rfl
 conv at e => rhs; arg 1; whnf
 simp only at e
 rw [e]
 clear e
 apply StepsS.exact rfl rfl
 · exact fun _ _ h => RS13.flag (by decide) h
 · exact fun w => .inr (Below.refl _ w)
 · rintro L a w ⟨-, hS, hbeh, hsm, haft⟩
   have f3 : a.tmps[3]?.getD undef = _ := (hsm 3 rfl).trans f3
   simp [go_sem, f3]
   exact rfl
 apply StepsS.exact rfl rfl
 · exact fun _ _ h => RS13.flag (by decide) h
 · exact fun w => .inr (Below.refl _ w)
 · rintro L a w ⟨-, hS, hbeh, hsm, haft⟩
   have f80 : a.tmps[80]?.getD undef = _ := tmps_of (haft.1 rfl).2
   have hb := hS.1 (hbeh 10 rfl)
   have hc : w.cell? ⟨s0, 13, none⟩ = _ := (hb.cell (p := ⟨s0, 13, none⟩) hs0).trans hcell
   simp [go_sem, f80, hc]
   exact rfl
 apply StepsS.exact rfl rfl
 · exact fun _ _ h => RS13.flag (by decide) h
 · exact fun w => .inr (Below.refl _ w)
 · rintro L a w ⟨-, hS, hbeh, hsm, haft⟩
   have f10 : a.tmps[10]?.getD undef = _ := (hsm 10 rfl).trans f10
   simp [go_sem, f10]
   exact rfl
 apply StepsS.exact rfl rfl
 · exact fun _ _ h => RS13.flag (by decide) h
 · exact fun w => .inr (Below.refl _ w)
 · rintro L a w ⟨-, hS, hbeh, hsm, haft⟩
   have f11 : a.tmps[11]?.getD undef = _ := (hsm 11 rfl).trans f11
   simp [go_sem, f11]
   exact rfl
 apply StepsS.exact rfl rfl
 · exact fun _ _ h => RS13.flag (by decide) h
 · exact fun w => .inr (Below.refl _ w)
 · rintro L a w ⟨-, hS, hbeh, hsm, haft⟩
   have f83 : a.tmps[83]?.getD undef = _ := tmps_of (haft.1 rfl).2
   have hb := hS.1 (hbeh 10 rfl)
   have c0 : w.cell? ⟨bx, 2, none⟩ = some (.slice x.bs.at_ x.body.length x.bs.cap) := (hb.cell (p := ⟨bx, 2, none⟩) hbl).trans (hx 2 _ rfl)
   simp [go_sem, f83, c0]
   exact rfl
 apply StepsS.exact rfl rfl
 · exact fun _ _ h => RS13.flag (by decide) h
 · exact fun w => .inr (Below.refl _ w)
 · rintro L a w ⟨-, hS, hbeh, hsm, haft⟩
   have f4 : a.tmps[4]?.getD undef = _ := (hsm 4 rfl).trans f4
   have hb := hS.1 (hbeh 10 rfl)
   have hc : w.cell? ⟨bf, 0, none⟩ = _ := (hb.cell (p := ⟨bf, 0, none⟩) hbf2).trans hbf
   simp [go_sem, f4, hc]
   exact rfl
 apply StepsS.exact rfl rfl
 · exact fun _ _ h => RS13.flag (by decide) h
 · exact fun w => .inr (Below.refl _ w)
 · rintro L a w ⟨-, hS, hbeh, hsm, haft⟩
   have f5 : a.tmps[5]?.getD undef = _ := (hsm 5 rfl).trans f5
   have hb := hS.1 (hbeh 10 rfl)
   have hc : w.cell? ⟨bt, 0, none⟩ = _ := (hb.cell (p := ⟨bt, 0, none⟩) hbt2).trans hbt
   simp [go_sem, f5, hc]
   exact rfl
 refine StepsS.any (fun L v w => L 10 = true ∨ (Below w0.heap.size w0 w ∧ ∃ (sp' : Sp) (l' : List StmtV), v = .slice sp'.at_ l'.length sp'.cap ∧ RenTs f t x.bs sp' x.body l' ∧ NewTs w0.heap.size w sp' l')) rfl ?_ ?_ ?_
 · intro i L v w w' _ hR hP
   rcases hR with rfl | hR
   · exact .inl onL_same
   · rcases hP with h | h
     · left
       by_cases hi : 10 = i
       · rw [← hi]; exact onL_same
       · rw [onL_other hi]; exact h
     · exact .inr (h.imp (fun hb => hb.trans (hR.mono hb.size)) fun ⟨sp', l', h1, h2, h3⟩ => ⟨sp', l', h1, h2, h3.on' hR⟩)
 · rintro L a w ⟨hL, hS, hbeh, hsm, haft⟩
   have f84 : a.tmps[84]?.getD undef = _ := tmps_of (haft.1 rfl).2
   have f85 : a.tmps[85]?.getD undef = _ := tmps_of (haft.2.1 rfl).2
   have f86 : a.tmps[86]?.getD undef = _ := tmps_of (haft.2.2.1 rfl).2
   have hb := hS.1 (hbeh 10 rfl)
   refine Oper.wp_enter (f := 75) (args := #[.slice x.bs.at_ x.body.length x.bs.cap, .string f, .string t]) (w' := w) ?_ ?_
   · simp [go_sem, f84, f85, f86]
   · refine (HC w hb).mono ?_
     rintro o w' ⟨sp', l', rfl, h1, h2, hb2⟩
     have hb3 := hb.trans (hb2.mono hb.size)
     refine ⟨_, rfl, _, rfl, fun e => (by cases e), .inr ⟨hb3, sp', l', rfl, h1, h2.less hb.size⟩, ⟨fun _ => hb3, fun h => ?_⟩, .inr hb2⟩
     rw [onL_other (by decide), hbeh 10 rfl] at h
     cases h
 apply StepsS.exact rfl rfl
 · exact fun _ _ h => RS13.flag (by decide) h
 · exact fun w => .inr (Below.refl _ w)
 · rintro L a w ⟨-, hS, hbeh, hsm, haft⟩
   have f81 : a.tmps[81]?.getD undef = _ := tmps_of (haft.1 rfl).2
   have f82 : a.tmps[82]?.getD undef = _ := tmps_of (haft.2.1 rfl).2
   simp [go_sem, f81, f82, hk]
   exact rfl
 apply StepsS.exact rfl rfl
 · exact fun _ _ h => RS13.flag (by decide) h
 · exact fun w => .inr (Below.refl _ w)
 · rintro L a w ⟨-, hS, hbeh, hsm, haft⟩
   have f88 : a.tmps[88]?.getD undef = _ := tmps_of (haft.1 rfl).2
   simp [go_sem, f88]
   exact rfl
 refine StepsS.any (fun L v w => True) rfl ?_ ?_ ?_
 · exact fun _ _ _ _ _ _ _ h => h
 · rintro L a w ⟨hL, hS, hbeh, hsm, haft⟩
   have f89 : a.tmps[89]?.getD undef = _ := tmps_of (haft.1 rfl).2
   obtain ⟨hb, sp', l', x87, h1, h2⟩ := (haft.2.1 rfl).2.resolve_left (by rw [hL]; exact Bool.false_ne_true)
   have f87 : a.tmps[87]?.getD undef = .slice sp'.at_ l'.length sp'.cap := tmps_of x87
   obtain ⟨u, hu⟩ := hold
   have hc : w.cell? ⟨g, k * 3 + 2, none⟩ = some u := (hb.cell (p := ⟨g, _, none⟩) hg).trans hu
   have hf : w.frozen? ⟨g, k * 3 + 2, none⟩ = false := (hb.frozen (p := ⟨g, _, none⟩) hg).trans (hfr _)
   refine Oper.wp_skip (w' := w.setCell ⟨g, k * 3 + 2, none⟩ (.slice sp'.at_ l'.length sp'.cap)) ?_ ?_
   · simp [go_sem, f89, f87, hc, hf]
   · exact ⟨undef, rfl, fun _ => rfl, trivial, ⟨fun h => absurd onL_same (by rw [h]; exact Bool.false_ne_true), fun _ => ⟨w, sp', l', hb, h1, h2, rfl⟩⟩, .inl rfl⟩
 rintro L a w hL ⟨hS, hsame, hv⟩
 refine ⟨rfl, hsame.1.trans hsz, hsame.2.1, hsame.2.2, hS.2 (hL 10 (by decide))⟩
end Go.Proofs.YthcboallnbaimaaGreatDoor
namespace Go.Proofs.YthcboallnbaimaaGreatDoor
open Go Go.RowKit Go.Maps
section
variable {α : Type} {kk : Nat} {enc : α → List Value} {B : Nat} {W W' : World} {ty : TypeId} {g n c : Nat} {l : List α}
theorem OwnL.putA {j : Nat} {y : α} (h : OwnL B W ty kk enc (.slice (some ⟨g, 0, none⟩) n c) (l.set j y)) (hk : ∀ x, (enc x).length = kk) (hj : j < l.length) {r : Nat} {v : Value} {x : α} (hr : r < kk) (hx : (enc y).set r v = enc x) :
   OwnL B (W.setCell ⟨g, j * kk + r, none⟩ v) ty kk enc (.slice (some ⟨g, 0, none⟩) n c) (l.set j x) := by
 have := h.put1 (j := j) (r := r) (v := v) (x := x) hk (by rw [List.length_set]; exact hj) hr (by rw [List.getElem_set_self]; exact hx)
 rwa [List.set_set] at this
theorem OwnL.one {y : α} {j : Nat} (h : OwnL B W ty kk enc (.slice (some ⟨g, 0, none⟩) n c) l) (hj : j < l.length) (hy : l[j] = y) : OwnL B W ty kk enc (.slice (some ⟨g, 0, none⟩) n c) (l.set j y) := by
 subst hy
 rwa [List.set_getElem_self]
/-- A row of another type lies in another block. -/
theorem OwnL.ty_ne {β : Type} {k2 : Nat} {enc2 : β → List Value} {B2 : Nat} {t2 : TypeId} {v2 : Value} {l2 : List β} (h : OwnL B W ty kk enc (.slice (some ⟨g, 0, none⟩) n c) l) (h2 : OwnL B2 W t2 k2 enc2 v2 l2) (hne : ty ≠ t2) (hW : ∀ b, b ≠ g → W'.heap[b]? = W.heap[b]?) : OwnL B2 W' t2 k2 enc2 v2 l2 := by
 refine h2.kept fun b cs fr _ hh => hW b fun e => ?_
 subst e
 rcases h.2 with ⟨h0, _⟩ | ⟨g', cap, cur, e', _, h3, _⟩
 · cases h0
 · cases e'
   rw [hh] at h3
   cases h3
   exact hne rfl
end
theorem put_init {B : Nat} {W : World} {g n c : Nat} {l : List InitV} {j : Nat} (h : OwnL B W 118 7 InitV.cells (.slice (some ⟨g, 0, none⟩) n c) l) (hj : j < l.length) {y : InitV} (hy : l[j] = y) (e : ExprV) :
   OwnL B (six W g (j * 7 + 1) (.int .u8 e.kind) (.int .u8 e.op) (.int .u32 e.value) (.int .i64 e.width) (.string e.name) (.slice e.sp.at_ e.subs.length e.sp.cap)) 118 7 InitV.cells (.slice (some ⟨g, 0, none⟩) n c) (l.set j ⟨y.block, e⟩) := by
 obtain ⟨b, ⟨k0, o0, v0, w0, n0, s0, l0⟩⟩ := y
 obtain ⟨k, o, v, w, nm, s, ls⟩ := e
 have hk : ∀ x : InitV, (InitV.cells x).length = 7 := fun _ => rfl
 have h0 := h.one hj hy
 have h1 := h0.putA (r := 1) (v := .int .u8 k) (x := ⟨b, .mk k o0 v0 w0 n0 s0 l0⟩) hk hj (by decide) rfl
 have h2 := h1.putA (r := 2) (v := .int .u8 o) (x := ⟨b, .mk k o v0 w0 n0 s0 l0⟩) hk hj (by decide) rfl
 have h3 := h2.putA (r := 3) (v := .int .u32 v) (x := ⟨b, .mk k o v w0 n0 s0 l0⟩) hk hj (by decide) rfl
 have h4 := h3.putA (r := 4) (v := .int .i64 w) (x := ⟨b, .mk k o v w n0 s0 l0⟩) hk hj (by decide) rfl
 have h5 := h4.putA (r := 5) (v := .string nm) (x := ⟨b, .mk k o v w nm s0 l0⟩) hk hj (by decide) rfl
 exact h5.putA (r := 6) (v := .slice s.at_ ls.length s.cap) (x := ⟨b, .mk k o v w nm s ls⟩) hk hj (by decide) rfl
/-- The fields that are done before the loops: they lie between lo and hi. -/
structure RnD (f t : ByteArray) (n0 lo hi : Nat) (w W : World) (p pc : ProgV) : Prop where
 low : Below n0 w W
 hlo : n0 + 4 ≤ lo
 hhi : lo ≤ hi
 hiW : hi ≤ W.heap.size
 box : Bx n0 W pc
 bf : W.heap[n0 + 1]? = some (.cells #[.string f] 9 (0, 0))
 bt : W.heap[n0 + 2]? = some (.cells #[.string t] 9 (0, 0))
 res : ∃ z, W.heap[n0 + 3]? = some (.cells z 39 (0, 0)) ∧ z.size = 22
 is : pc.inputs = p.inputs.map (renD f t) ∧ RowOf hi (lowm lo W) pc.is 3 DeclV.cells pc.inputs
 gs : pc.ghosts = p.ghosts.map (renD f t) ∧ RowOf hi (lowm lo W) pc.gs 3 DeclV.cells pc.ghosts
 vs : pc.vars = p.vars.map (renD f t) ∧ RowOf hi (lowm lo W) pc.vs 3 DeclV.cells pc.vars
 as_ : pc.arrays = p.arrays.map (renD f t) ∧ RowOf hi (lowm lo W) pc.as 3 DeclV.cells pc.arrays
 req : RenX f t p.require pc.require ∧ RdX hi (lowm lo W) pc.require
 inv : RenX f t p.invariant pc.invariant ∧ RdX hi (lowm lo W) pc.invariant
 dev : pc.blocks = p.blocks ∧ pc.width = p.width
 ilen : pc.inits.length = p.inits.length
 qlen : pc.procs.length = p.procs.length
 wrk : pc.ws = p.ws ∧ pc.work = p.work ∧ pc.cs = p.cs ∧ pc.recover = p.recover
section
variable {f t : ByteArray} {n0 lo hi : Nat} {w W W' : World} {p pc : ProgV}
theorem low_keep {lo hi : Nat} {W W' : World} (hb : ∀ b, lo ≤ b → b < hi → W'.heap[b]? = W.heap[b]?) : ∀ (q : Addr) (u : Value), q.block < hi → (lowm lo W).cell? q = some u → (lowm lo W').cell? q = some u := fun q u hq hc => by
 obtain ⟨h1, h2⟩ := lowm_cell.1 hc
 exact lowm_cell.2 ⟨h1, (World.cell?_of_block (hb _ h1 hq)).trans h2⟩
theorem RnD.keep (h : RnD f t n0 lo hi w W p pc) (hb : Below hi W W') : RnD f t n0 lo hi w W' p pc := by
 have h1 := h.hlo
 have h2 := h.hhi
 have hk : ∀ (q : Addr) (u : Value), q.block < hi → (lowm lo W).cell? q = some u → (lowm lo W').cell? q = some u := low_keep fun b _ hb2 => hb.block b hb2
 have ho : ∀ b, b < hi → W'.heap[b]? = W.heap[b]? := fun b hb2 => hb.block b hb2
 exact ⟨h.low.trans (hb.mono (by omega)), h1, h2, Nat.le_trans h.hiW hb.size, (ho n0 (by omega)).trans h.box, (ho _ (by omega)).trans h.bf, (ho _ (by omega)).trans h.bt, h.res.imp fun z hz => ⟨(ho _ (by omega)).trans hz.1, hz.2⟩,
   ⟨h.is.1, h.is.2.cells hk⟩, ⟨h.gs.1, h.gs.2.cells hk⟩, ⟨h.vs.1, h.vs.2.cells hk⟩, ⟨h.as_.1, h.as_.2.cells hk⟩, ⟨h.req.1, h.req.2.cells hk⟩, ⟨h.inv.1, h.inv.2.cells hk⟩, h.dev, h.ilen, h.qlen, h.wrk⟩
end
/-- The first loop. -/
structure IxS (f t : ByteArray) (n0 lo hi lo2 : Nat) (w W : World) (p pc : ProgV) (sa : Option Addr) (sc : Nat) (ra : Option Addr) (rc : Nat) (k : Nat) (cur : List InitV) : Prop where
 d : RnD f t n0 lo hi w W p pc
 ns : pc.ns = ⟨sa, sc⟩
 rs : pc.rs = ⟨ra, rc⟩
 hlo2 : hi ≤ lo2
 lo2W : lo2 ≤ W.heap.size
 at_ : ∀ a, sa = some a → a.block < lo2
 own : OwnL hi W 118 7 InitV.cells (.slice sa p.inits.length sc) cur
 pat : ∀ a, ra = some a → a.block < lo2
 pown : OwnL hi W 47 3 ProcV.cells (.slice ra p.procs.length rc) p.procs
 len : cur.length = p.inits.length
 done : ∀ i (h : i < p.inits.length) (h' : i < cur.length), i < k → RenI f t p.inits[i] cur[i] ∧ NewX lo2 W (cur[i]).value
 todo : ∀ i (h : i < p.inits.length) (h' : i < cur.length), k ≤ i → cur[i] = p.inits[i]
section
variable {f t : ByteArray} {n0 lo hi lo2 k : Nat} {w W W' : World} {p pc : ProgV} {sa ra : Option Addr} {sc rc : Nat} {cur : List InitV}
theorem IxS.on (h : IxS f t n0 lo hi lo2 w W p pc sa sc ra rc k cur) (hb : Below W.heap.size W W') : IxS f t n0 lo hi lo2 w W' p pc sa sc ra rc k cur :=
 ⟨h.d.keep (hb.mono h.d.hiW), h.ns, h.rs, h.hlo2, Nat.le_trans h.lo2W hb.size, h.at_, h.own.on hb, h.pat, h.pown.on hb, h.len, fun i h1 h2 h3 => ⟨(h.done i h1 h2 h3).1, (h.done i h1 h2 h3).2.lowerR hb⟩, h.todo⟩
theorem IxS.c12 (h : IxS f t n0 lo hi lo2 w W p pc sa sc ra rc k cur) : W.cell? ⟨n0, 12, none⟩ = some (.slice sa p.inits.length sc) := by
 have := h.d.box.cell 12 rfl
 rw [h.ns, h.d.ilen] at this
 exact this
theorem IxS.c13 (h : IxS f t n0 lo hi lo2 w W p pc sa sc ra rc k cur) : W.cell? ⟨n0, 13, none⟩ = some (.slice ra p.procs.length rc) := by
 have := h.d.box.cell 13 rfl
 rw [h.rs, h.d.qlen] at this
 exact this
theorem IxS.put {g : Nat} (h : IxS f t n0 lo hi lo2 w W p pc (some ⟨g, 0, none⟩) sc ra rc k cur) (hgh : hi ≤ g) (hk : k < p.inits.length) {e : ExprV} (hr : RenX f t (p.inits[k]).value e) (he : NewX lo2 W e) :
   IxS f t n0 lo hi lo2 w (six W g (k * 7 + 1) (.int .u8 e.kind) (.int .u8 e.op) (.int .u32 e.value) (.int .i64 e.width) (.string e.name) (.slice e.sp.at_ e.subs.length e.sp.cap)) p pc (some ⟨g, 0, none⟩) sc ra rc (k + 1) (cur.set k ⟨(p.inits[k]).block, e⟩) := by
 have hkc : k < cur.length := by rw [h.len]; exact hk
 have hgl : g < lo2 := h.at_ _ rfl
 have ho := h.own
 refine ⟨h.d.keep (six_below (Below.refl _ _) hgh _ _ _ _ _ _ _), h.ns, h.rs, h.hlo2, by rw [six_size]; exact h.lo2W, h.at_, ?_, h.pat, ho.ty_ne h.pown (by decide) fun b hb => six_heap _ _ _ _ _ _ _ _ _ hb, by rw [List.length_set]; exact h.len, fun i h1 h2 h3 => ?_, fun i h1 h2 h3 => ?_⟩
 · exact put_init ho hkc (h.todo k hk hkc (Nat.le_refl _)) e
 · by_cases hi : i = k
   · subst hi
     rw [List.getElem_set_self]
     exact ⟨⟨rfl, hr⟩, six_new he hgl _ _ _ _ _ _ _⟩
   · rw [List.getElem_set_ne (Ne.symm hi)]
     have := h.done i h1 (by rw [h.len]; exact h1) (by omega)
     exact ⟨this.1, six_new this.2 hgl _ _ _ _ _ _ _⟩
 · rw [List.getElem_set_ne (by omega)]
   exact h.todo i h1 (by rw [h.len]; exact h1) (by omega)
/-- Its beginning. -/
theorem IxS.start {w3 w4 : World} (hlow : Below n0 w w4) (hlo : n0 + 4 ≤ lo) (hl3 : lo ≤ w3.heap.size) (hm : Mk n0 w3 w4) (hx : Bx n0 w4 pc) (bf : w4.heap[n0 + 1]? = some (.cells #[.string f] 9 (0, 0))) (bt : w4.heap[n0 + 2]? = some (.cells #[.string t] 9 (0, 0))) (res : ∃ z, w4.heap[n0 + 3]? = some (.cells z 39 (0, 0)) ∧ z.size = 22)
   (is : pc.inputs = p.inputs.map (renD f t) ∧ RowOf w3.heap.size (lowm lo w3) pc.is 3 DeclV.cells pc.inputs) (gs : pc.ghosts = p.ghosts.map (renD f t) ∧ RowOf w3.heap.size (lowm lo w3) pc.gs 3 DeclV.cells pc.ghosts) (vs : pc.vars = p.vars.map (renD f t) ∧ RowOf w3.heap.size (lowm lo w3) pc.vs 3 DeclV.cells pc.vars) (as_ : pc.arrays = p.arrays.map (renD f t) ∧ RowOf w3.heap.size (lowm lo w3) pc.as 3 DeclV.cells pc.arrays)
   (req : RenX f t p.require pc.require ∧ NewX lo w3 pc.require) (inv : RenX f t p.invariant pc.invariant ∧ NewX lo w3 pc.invariant) (dev : pc.blocks = p.blocks ∧ pc.width = p.width) (inits : pc.inits = p.inits) (procs : pc.procs = p.procs) (wrk : pc.ws = p.ws ∧ pc.work = p.work ∧ pc.cs = p.cs ∧ pc.recover = p.recover) (ns : pc.ns = ⟨sa, sc⟩) (rs : pc.rs = ⟨ra, rc⟩)
   (own : OwnL w3.heap.size w4 118 7 InitV.cells (.slice sa p.inits.length sc) p.inits) (pown : OwnL w3.heap.size w4 47 3 ProcV.cells (.slice ra p.procs.length rc) p.procs) : IxS f t n0 lo w3.heap.size w4.heap.size w w4 p pc sa sc ra rc 0 p.inits := by
 have hk : ∀ (q : Addr) (u : Value), q.block < w3.heap.size → (lowm lo w3).cell? q = some u → (lowm lo w4).cell? q = some u := low_keep fun b hb hb2 => hm.heap (by omega) hb2
 exact ⟨⟨hlow, hlo, hl3, hm.size, hx, bf, bt, res, ⟨is.1, is.2.cells hk⟩, ⟨gs.1, gs.2.cells hk⟩, ⟨vs.1, vs.2.cells hk⟩, ⟨as_.1, as_.2.cells hk⟩, ⟨req.1, RdX.cells req.2 hk⟩, ⟨inv.1, RdX.cells inv.2 hk⟩, dev, by rw [inits], by rw [procs], wrk⟩, ns, rs, hm.size, Nat.le_refl _,
   fun a ha => by subst ha; exact (World.ownsRow.lt own _ rfl).2, own, fun a ha => by subst ha; exact (World.ownsRow.lt pown _ rfl).2, pown, rfl, fun _ _ _ h => absurd h (Nat.not_lt_zero _), fun _ _ _ _ => rfl⟩
end
/-- The second loop; what the first one made lies between lo2 and lo3. -/
structure PxS (f t : ByteArray) (n0 lo hi lo2 lo3 : Nat) (w W : World) (p pc : ProgV) (sa : Option Addr) (sc : Nat) (ra : Option Addr) (rc : Nat) (ci : List InitV) (k : Nat) (cur : List ProcV) : Prop where
 d : RnD f t n0 lo hi w W p pc
 ns : pc.ns = ⟨sa, sc⟩
 rs : pc.rs = ⟨ra, rc⟩
 hlo2 : hi ≤ lo2
 hlo3 : lo2 ≤ lo3
 lo3W : lo3 ≤ W.heap.size
 iown : OwnL hi W 118 7 InitV.cells (.slice sa p.inits.length sc) ci
 ilen : ci.length = p.inits.length
 iall : ∀ i (h : i < p.inits.length) (h' : i < ci.length), RenI f t p.inits[i] ci[i] ∧ RdX lo3 (lowm lo2 W) (ci[i]).value
 at_ : ∀ a, ra = some a → a.block < lo2
 own : OwnL hi W 47 3 ProcV.cells (.slice ra p.procs.length rc) cur
 len : cur.length = p.procs.length
 done : ∀ i (h : i < p.procs.length) (h' : i < cur.length), i < k → (RenQ f t p.procs[i] cur[i] ∧ (cur[i]).ps = (p.procs[i]).ps) ∧ NewTs lo2 W (cur[i]).bs (cur[i]).body
 todo : ∀ i (h : i < p.procs.length) (h' : i < cur.length), k ≤ i → cur[i] = p.procs[i]
section
variable {f t : ByteArray} {n0 lo hi lo2 lo3 k : Nat} {w W W' : World} {p pc : ProgV} {sa ra : Option Addr} {sc rc : Nat} {ci : List InitV} {cur : List ProcV}
theorem IxS.next (h : IxS f t n0 lo hi lo2 w W p pc sa sc ra rc p.inits.length ci) : PxS f t n0 lo hi lo2 W.heap.size w W p pc sa sc ra rc ci 0 p.procs :=
 ⟨h.d, h.ns, h.rs, h.hlo2, h.lo2W, Nat.le_refl _, h.own, h.len, fun i h1 h2 => h.done i h1 h2 h1, h.pat, h.pown, rfl, fun _ _ _ h => absurd h (Nat.not_lt_zero _), fun _ _ _ _ => rfl⟩
theorem PxS.on (h : PxS f t n0 lo hi lo2 lo3 w W p pc sa sc ra rc ci k cur) (hb : Below W.heap.size W W') : PxS f t n0 lo hi lo2 lo3 w W' p pc sa sc ra rc ci k cur :=
 ⟨h.d.keep (hb.mono h.d.hiW), h.ns, h.rs, h.hlo2, h.hlo3, Nat.le_trans h.lo3W hb.size, h.iown.on hb, h.ilen, fun i h1 h2 => ⟨(h.iall i h1 h2).1, (h.iall i h1 h2).2.cells (low_keep fun b _ hb2 => hb.block b (Nat.lt_of_lt_of_le hb2 h.lo3W))⟩, h.at_, h.own.on hb, h.len, fun i h1 h2 h3 => ⟨(h.done i h1 h2 h3).1, (h.done i h1 h2 h3).2.on' hb⟩, h.todo⟩
theorem PxS.c13 (h : PxS f t n0 lo hi lo2 lo3 w W p pc sa sc ra rc ci k cur) : W.cell? ⟨n0, 13, none⟩ = some (.slice ra p.procs.length rc) := by
 have := h.d.box.cell 13 rfl
 rw [h.rs, h.d.qlen] at this
 exact this
theorem PxS.put {g : Nat} (h : PxS f t n0 lo hi lo2 lo3 w W p pc sa sc (some ⟨g, 0, none⟩) rc ci k cur) (hgh : hi ≤ g) (hk : k < p.procs.length) {sp : Sp} {l : List StmtV} (hr : RenTs f t (p.procs[k]).bs sp (p.procs[k]).body l) (he : NewTs lo2 W sp l) :
   PxS f t n0 lo hi lo2 lo3 w (W.setCell ⟨g, k * 3 + 2, none⟩ (.slice sp.at_ l.length sp.cap)) p pc sa sc (some ⟨g, 0, none⟩) rc ci (k + 1) (cur.set k ⟨(p.procs[k]).name, (p.procs[k]).ps, (p.procs[k]).params, sp, l⟩) := by
 have hkc : k < cur.length := by rw [h.len]; exact hk
 have hgl : g < lo2 := h.at_ _ rfl
 have ho := h.own
 have hne : ∀ b, b ≠ g → (W.setCell ⟨g, k * 3 + 2, none⟩ (.slice sp.at_ l.length sp.cap)).heap[b]? = W.heap[b]? := fun b hb => Below.heap_setCell _ _ _ _ hb
 have hsz : (W.setCell ⟨g, k * 3 + 2, none⟩ (.slice sp.at_ l.length sp.cap)).heap.size = W.heap.size := by simp
 refine ⟨h.d.keep ((Below.refl _ _).setCell (p := ⟨g, k * 3 + 2, none⟩) hgh _), h.ns, h.rs, h.hlo2, h.hlo3, by rw [hsz]; exact h.lo3W, ho.ty_ne h.iown (by decide) hne, h.ilen, fun i h1 h2 => ⟨(h.iall i h1 h2).1, (h.iall i h1 h2).2.cells (low_keep fun b hb _ => hne b (by omega))⟩, h.at_, ?_, by rw [List.length_set]; exact h.len, fun i h1 h2 h3 => ?_, fun i h1 h2 h3 => ?_⟩
 · refine ho.put1 (r := 2) (fun _ => rfl) hkc (by decide) ?_
   rw [h.todo k hk hkc (Nat.le_refl _)]
   rfl
 · by_cases hi : i = k
   · subst hi
     rw [List.getElem_set_self]
     exact ⟨⟨⟨rfl, rfl, hr⟩, rfl⟩, he.keep (by rw [hsz]; exact Nat.le_refl _) fun b hb _ => hne b (by omega)⟩
   · rw [List.getElem_set_ne (Ne.symm hi)]
     have := h.done i h1 (by rw [h.len]; exact h1) (by omega)
     exact ⟨this.1, this.2.keep (by rw [hsz]; exact Nat.le_refl _) fun b hb _ => hne b (by omega)⟩
 · rw [List.getElem_set_ne (by omega)]
   exact h.todo i h1 (by rw [h.len]; exact h1) (by omega)
theorem renD_ok {f t : ByteArray} (ht : t.size ≤ maxLen) {l : List DeclV} (h : ∀ d ∈ l, DeclOk d) : ∀ d ∈ l.map (renD f t), DeclOk d := fun d hd => by
 obtain ⟨x, hx, rfl⟩ := List.mem_map.1 hd
 obtain ⟨h1, h2, h3⟩ := h x hx
 refine ⟨?_, h2, h3⟩
 show (renN f t x.name).size ≤ maxLen
 unfold renN
 split
 · exact ht
 · exact h1
theorem low_rd {lo : Nat} {W : World} : ∀ (q : Addr) (u : Value), (lowm lo W).cell? q = some u → W.cell? q = some u := fun _ _ h => (lowm_cell.1 h).2
/-- What comes of all. -/
theorem PxS.fin {W2 W3 : World} {s1 s2 : Sp} {l1 l2 : List StmtV} (h : PxS f t n0 lo hi lo2 lo3 w W p pc sa sc ra rc ci p.procs.length cur) (ht : t.size ≤ maxLen) (hn : n0 = w.heap.size) (hp : RdP w.heap.size w p)
   (hm : Mk n0 W W2) (hr1 : RenTs f t p.ws s1 p.work l1) (hn1 : NewTs lo W2 s1 l1) (hr2 : RenTs f t p.cs s2 p.recover l2) (hn2 : NewTs lo W2 s2 l2) (h3 : ∀ b, b ≠ n0 + 3 → W3.heap[b]? = W2.heap[b]?) (hs3 : W3.heap.size = W2.heap.size) (hos : Below n0 W2 W3) :
   ∃ p' : ProgV, p'.arr = ({ pc with ws := s1, work := l1, cs := s2, recover := l2 } : ProgV).arr ∧ RenP f t p p' ∧ RdP W3.heap.size W3 p' ∧ Below w.heap.size w W3 := by
 have q1 := h.d.hlo
 have q2 := h.d.hhi
 have q3 := h.hlo2
 have q4 := h.hlo3
 have q5 := h.lo3W
 have q6 := hm.size
 have hlow : Below w.heap.size w W3 := by
   have := h.d.low.trans (hm.below (Nat.le_refl n0) h.d.box.lt)
   rw [hn] at this hos
   exact this.trans hos
 have hk : ∀ b, b ≠ n0 → b ≠ n0 + 3 → b < W.heap.size → W3.heap[b]? = W.heap[b]? := fun b h1 h2 h4 => (h3 b h2).trans (hm.heap h1 h4)
 have hlo : ∀ (q : Addr) (u : Value), q.block < W.heap.size → (lowm lo W).cell? q = some u → W3.cell? q = some u := fun q u hq hc => by
   obtain ⟨g1, g2⟩ := lowm_cell.1 hc
   exact (World.cell?_of_block (hk _ (by omega) (by omega) hq)).trans g2
 have hrow : ∀ {α : Type} {k : Nat} {enc : α → List Value} {sp : Sp} {l : List α}, RowOf hi (lowm lo W) sp k enc l → RowOf W3.heap.size W3 sp k enc l := fun hr => (hr.cells fun q u hq hc => hlo q u (by omega) hc).more (by omega)
 have hX : ∀ {e : ExprV} {n lo' : Nat}, lo ≤ lo' → n ≤ W.heap.size → RdX n (lowm lo' W) e → RdX W3.heap.size W3 e := fun hl hn hr => (hr.cells fun q u hq hc => hlo q u (by omega) (keeps_less hl q u (by omega) hc)).more (by omega)
 have hT2 : ∀ {sp : Sp} {l : List StmtV}, NewTs lo W2 sp l → RdTs W3.heap.size W3 sp l := fun hr => by
   have := hr.keep (W' := W3) (by omega) fun b hb _ => h3 b (by omega)
   exact this.rd
 have hTs : ∀ {sp : Sp} {l : List StmtV}, NewTs lo2 W sp l → RdTs W3.heap.size W3 sp l := fun hr => by
   have := hr.keep (W' := W3) (by omega) fun b hb hb2 => hk b (by omega) (by omega) hb2
   exact this.rd
 have hi1 := h.d.hiW
 refine ⟨{ pc with inits := ci, procs := cur, ws := s1, work := l1, cs := s2, recover := l2 }, ?_, ?_, ?_, hlow⟩
 · have e1 : ci.length = pc.inits.length := h.ilen.trans h.d.ilen.symm
   have e2 : cur.length = pc.procs.length := h.len.trans h.d.qlen.symm
   simp only [ProgV.arr, ProgV.cells, e1, e2]
 · exact ⟨h.d.dev.1, h.d.dev.2, h.d.is.1, h.d.gs.1, h.d.vs.1, h.d.as_.1, h.d.req.1, h.ilen, fun i h1 h2 => (h.iall i h1 h2).1, h.len, fun i h1 h2 => (h.done i h1 h2 h1).1.1, hr1, hr2, h.d.inv.1⟩
 · have hpw := hp.below hlow
   have hpp := hp.more (show w.heap.size ≤ W3.heap.size by omega)
   refine ⟨by rw [show _ = p.blocks from h.d.dev.1]; exact hp.blocks, by rw [show _ = p.width from h.d.dev.2]; exact hp.width, ⟨hrow h.d.is.2, ?_⟩, ⟨hrow h.d.gs.2, ?_⟩, ⟨hrow h.d.vs.2, ?_⟩, ⟨hrow h.d.as_.2, ?_⟩, hX (Nat.le_refl _) hi1 h.d.req.2, ?_, ?_, ?_, ?_, hT2 hn1, hT2 hn2, hX (Nat.le_refl _) hi1 h.d.inv.2⟩
   · show ∀ d ∈ pc.inputs, _
     rw [h.d.is.1]; exact renD_ok ht hp.inputs.ok
   · show ∀ d ∈ pc.ghosts, _
     rw [h.d.gs.1]; exact renD_ok ht hp.ghosts.ok
   · show ∀ d ∈ pc.vars, _
     rw [h.d.vs.1]; exact renD_ok ht hp.vars.ok
   · show ∀ d ∈ pc.arrays, _
     rw [h.d.as_.1]; exact renD_ok ht hp.arrays.ok
   · have hf : ci.length ≤ 2199023255552 := by rw [h.ilen]; exact hp.irow.few
     exact (h.ns ▸ ((h.iown.low (B2 := lo) (fun _ => rfl) hf (by omega)).cells hlo).more (by omega))
   · intro x hx
     obtain ⟨i, hi, rfl⟩ := List.getElem_of_mem hx
     have h1 : i < p.inits.length := by rw [← h.ilen]; exact hi
     have hi2 := h.iall i h1 hi
     refine ⟨?_, hX (by omega) q5 hi2.2⟩
     rw [hi2.1.block]
     exact (hp.inits _ (List.getElem_mem h1)).block
   · have hf : cur.length ≤ 2199023255552 := by rw [h.len]; exact hp.prow.few
     exact (h.rs ▸ ((h.own.low (B2 := lo) (fun _ => rfl) hf (by omega)).cells hlo).more (by omega))
   · intro x hx
     obtain ⟨i, hi, rfl⟩ := List.getElem_of_mem hx
     have h1 : i < p.procs.length := by rw [← h.len]; exact hi
     have hi2 := h.done i h1 hi h1
     have hq := hpw.procs _ (List.getElem_mem h1)
     refine ⟨?_, ?_, hTs hi2.2⟩
     · rw [hi2.1.1.name]; exact hq.name
     · rw [hi2.1.1.params, hi2.1.2]
       exact hq.params.more (by omega)
end
end Go.Proofs.YthcboallnbaimaaGreatDoor
namespace Go.Proofs.YthcboallnbaimaaGreatDoor
open Go Go.RowKit Go.Maps
set_option maxRecDepth 1000000 in
theorem act_F104 {a : Act} (h : a.tmps.size = 104) (hd : a.defers = []) : ∃ F : Nat → Value, (∀ i : Nat, F i = a.eval (.tmp i)) ∧ a = ⟨(F 0 :: F 1 :: F 2 :: F 3 :: F 4 :: F 5 :: F 6 :: F 7 :: F 8 :: F 9 :: F 10 :: F 11 :: F 12 :: F 13 :: F 14 :: F 15 :: F 16 :: F 17 :: F 18 :: F 19 :: F 20 :: F 21 :: F 22 :: F 23 :: F 24 :: F 25 :: F 26 :: F 27 :: F 28 :: F 29 :: F 30 :: F 31 :: F 32 :: F 33 :: F 34 :: F 35 :: F 36 :: F 37 :: F 38 :: F 39 :: F 40 :: F 41 :: F 42 :: F 43 :: F 44 :: F 45 :: F 46 :: F 47 :: F 48 :: F 49 :: F 50 :: F 51 :: F 52 :: F 53 :: F 54 :: F 55 :: F 56 :: F 57 :: F 58 :: F 59 :: F 60 :: F 61 :: F 62 :: F 63 :: F 64 :: F 65 :: F 66 :: F 67 :: F 68 :: F 69 :: F 70 :: F 71 :: F 72 :: F 73 :: F 74 :: F 75 :: F 76 :: F 77 :: F 78 :: F 79 :: F 80 :: F 81 :: F 82 :: F 83 :: F 84 :: F 85 :: F 86 :: F 87 :: F 88 :: F 89 :: F 90 :: F 91 :: F 92 :: F 93 :: F 94 :: F 95 :: F 96 :: F 97 :: F 98 :: F 99 :: F 100 :: F 101 :: F 102 :: F 103 :: []).toArray, []⟩ := ⟨fun i => a.eval (.tmp i), fun _ => rfl, act_eq h hd⟩
theorem wp_codeR {P : Program} {Q : Exit → Act → World → Prop} {a : Act} {w : World} {C C' : Code} (h : C = C') (h2 : C'.wp P Q a w) : C.wp P Q a w := by subst h; exact h2
theorem cell_oneR {W : World} {b : Nat} {v : Value} {ty : TypeId} (h : W.heap[b]? = some (.cells #[v] ty (0, 0))) : W.cell? ⟨b, 0, none⟩ = some v := by simp [World.cell?, h]
theorem row_cells {W : World} {b : Nat} {cs : List Value} {ty : TypeId} (h : W.heap[b]? = some (.cells cs.toArray ty (0, 0))) : ∀ r u, cs[r]? = some u → W.cell? ⟨b, r, none⟩ = some u := fun r u hu => by simp [World.cell?, h, hu]
theorem wp_frame104 {P : Program} {Q : Exit → Act → World → Prop} {a : Act} {w : World} {C : Code} (hs : a.tmps.size = 104) (hd : a.defers = []) (h : ∀ F : Nat → Value, (∀ i : Nat, F i = a.eval (.tmp i)) → C.wp P Q ⟨(F 0 :: F 1 :: F 2 :: F 3 :: F 4 :: F 5 :: F 6 :: F 7 :: F 8 :: F 9 :: F 10 :: F 11 :: F 12 :: F 13 :: F 14 :: F 15 :: F 16 :: F 17 :: F 18 :: F 19 :: F 20 :: F 21 :: F 22 :: F 23 :: F 24 :: F 25 :: F 26 :: F 27 :: F 28 :: F 29 :: F 30 :: F 31 :: F 32 :: F 33 :: F 34 :: F 35 :: F 36 :: F 37 :: F 38 :: F 39 :: F 40 :: F 41 :: F 42 :: F 43 :: F 44 :: F 45 :: F 46 :: F 47 :: F 48 :: F 49 :: F 50 :: F 51 :: F 52 :: F 53 :: F 54 :: F 55 :: F 56 :: F 57 :: F 58 :: F 59 :: F 60 :: F 61 :: F 62 :: F 63 :: F 64 :: F 65 :: F 66 :: F 67 :: F 68 :: F 69 :: F 70 :: F 71 :: F 72 :: F 73 :: F 74 :: F 75 :: F 76 :: F 77 :: F 78 :: F 79 :: F 80 :: F 81 :: F 82 :: F 83 :: F 84 :: F 85 :: F 86 :: F 87 :: F 88 :: F 89 :: F 90 :: F 91 :: F 92 :: F 93 :: F 94 :: F 95 :: F 96 :: F 97 :: F 98 :: F 99 :: F 100 :: F 101 :: F 102 :: F 103 :: []).toArray, []⟩ w) : C.wp P Q a w := by
 obtain ⟨F, hF, e⟩ := act_F104 hs hd
 rw [e]
 exact h F hF
theorem arr_oneR (p : ProgV) : p.arr.all (·.oneCell') = true := by
 simp [ProgV.arr, ProgV.cells, Sp.val, Value.oneCell']
theorem setRow_at {W : World} {g : Nat} {cs : Array Value} {ty : TypeId} {fr : Nat × Nat} (h : W.heap[g]? = some (.cells cs ty fr)) (ds : Array Value) : (W.setRow g ds).heap[g]? = some (.cells ds ty fr) := by
 have hlt := (Array.getElem?_eq_some_iff.1 h).1
 simp [World.setRow, Array.getElem?_modify, h]
theorem heft_parts {p : ProgV} (h : heftP p ≤ 1000000) : (p.inputs.length ≤ 1000000 ∧ p.ghosts.length ≤ 1000000 ∧ p.vars.length ≤ 1000000 ∧ p.arrays.length ≤ 1000000) ∧ p.require.pre.length ≤ 1000000 ∧ p.invariant.pre.length ≤ 1000000 ∧ heftL p.work ≤ 1000000 ∧ heftL p.recover ≤ 1000000 := by
 unfold heftP at h
 refine ⟨⟨?_, ?_, ?_, ?_⟩, ?_, ?_, ?_, ?_⟩ <;> omega
set_option maxRecDepth 10000000 in
set_option maxHeartbeats 64000000 in
theorem renamedP_any (f t : ByteArray) (ht : t.size ≤ maxLen) (w : World) (p : ProgV) (hp : RdP w.heap.size w p) (hl : heftP p ≤ 1000000) (hil : p.inits.length ≤ 1000000 ∧ ∀ x ∈ p.inits, x.value.pre.length ≤ 1000000) (hql : p.procs.length ≤ 1000000 ∧ ∀ x ∈ p.procs, heftL x.body ≤ 1000000) :
   Calls Tryz.prog 37 #[.agg p.arr, .string f, .string t] w fun o w' => ∃ p' : ProgV, o = .returned (.agg p'.arr) ∧ RenP f t p p' ∧ RdP w'.heap.size w' p' ∧ Below w.heap.size w w' := by
 have HP := Lib.hid hp
 have HL := Lib.hid (heft_parts hl)
 have HIL := Lib.hid hil
 have HQL := Lib.hid hql
 clear hp hl hil hql
 go_enter Tryz.func37, Tryz.ntmps37
 go_upto_region 2 with fail
 obtain ⟨hb0, hb1, hb2, hb3, hsz, hbA⟩ := alloc4 w (.cells p.arr 39) (.cells #[.string f] 9) (.cells #[.string t] 9) (.cells #[.int .i64 0, .int .i64 0, .slice none 0 0, .slice none 0 0, .slice none 0 0, .slice none 0 0, .int .u8 0, .int .u8 0, .int .u32 0, .int .i64 0, .string ⟨#[]⟩, .slice none 0 0, .slice none 0 0, .slice none 0 0, .slice none 0 0, .slice none 0 0, .int .u8 0, .int .u8 0, .int .u32 0, .int .i64 0, .string ⟨#[]⟩, .slice none 0 0] 39)
 generalize (((w.alloc (.cells p.arr 39)).alloc (.cells #[.string f] 9)).alloc (.cells #[.string t] 9)).alloc (.cells #[.int .i64 0, .int .i64 0, .slice none 0 0, .slice none 0 0, .slice none 0 0, .slice none 0 0, .int .u8 0, .int .u8 0, .int .u32 0, .int .i64 0, .string ⟨#[]⟩, .slice none 0 0, .slice none 0 0, .slice none 0 0, .slice none 0 0, .slice none 0 0, .int .u8 0, .int .u8 0, .int .u32 0, .int .i64 0, .string ⟨#[]⟩, .slice none 0 0] 39) = W1 at *
 refine Code.wp_mono ?_ (wp_codeR (C' := .region 2 opsR2 true) (by kernel_rfl) (renR2 rfl w.heap.size (w.heap.size + 4) w.heap.size f t p (by omega) (by omega) (Nat.le_refl _) rfl (w.heap.size + 1) (w.heap.size + 1 + 1) rfl (by omega) (by omega) hb1 (by omega) (by omega) hb2 (HP.out.below hbA) HL.out.1 hb0))
 rintro e a9 w2 ⟨rfl, hsz9, hd9, hsm9, hm2, i1, l1, g1, l2, v1, l3, a1, l4, hx2, y0, y1, y2, y3⟩
 obtain ⟨F, hF, rfl⟩ := act_F104 hsz9 hd9
 have g3 : F 3 = .pointer (some ⟨w.heap.size, 0, none⟩) := (hF 3).trans (eval_of ((hsm9 3 rfl).trans rfl))
 have g4 : F 4 = .pointer (some ⟨w.heap.size + 1, 0, none⟩) := (hF 4).trans (eval_of ((hsm9 4 rfl).trans rfl))
 have g5 : F 5 = .pointer (some ⟨w.heap.size + 1 + 1, 0, none⟩) := (hF 5).trans (eval_of ((hsm9 5 rfl).trans rfl))
 have g6 : F 6 = .pointer (some ⟨w.heap.size + 1 + 1 + 1, 0, none⟩) := (hF 6).trans (eval_of ((hsm9 6 rfl).trans rfl))
 rw [g3, g4, g5, g6]
 clear hF g3 g4 g5 g6 hsz9 hd9 hsm9
 have HBF2 := Lib.hid ((hm2.heap (b := w.heap.size + 1) (by omega) (by omega)).trans hb1)
 have HBT2 := Lib.hid ((hm2.heap (b := w.heap.size + 1 + 1) (by omega) (by omega)).trans hb2)
 have HRS2 := Lib.hid ((hm2.heap (b := w.heap.size + 1 + 1 + 1) (by omega) (by omega)).trans hb3)
 have HB2 := Lib.hid (hbA.trans (hm2.below (Nat.le_refl _) (by omega)))
 have HX2 := Lib.hid hx2
 have hs2 := hm2.size
 have HY0 := Lib.hid (y0.1 rfl)
 have HY1 := Lib.hid (y1.1 rfl)
 have HY2 := Lib.hid (y2.1 rfl)
 have HY3 := Lib.hid (y3.1 rfl)
 clear hb0 hb1 hb2 hb3 hbA hm2 hx2 y0 y1 y2 y3
 go_upto_region 3 with fail
 refine Code.wp_mono ?_ (wp_codeR (C' := .region 3 opsR3 true) (by kernel_rfl) (renR3 rfl w.heap.size (w.heap.size + 4) w.heap.size f t { p with is := i1, inputs := l1, gs := g1, ghosts := l2, vs := v1, vars := l3, «as» := a1, arrays := l4 } (by omega) (by omega) (Nat.le_refl _) rfl (w.heap.size + 1) (w.heap.size + 1 + 1) rfl rfl (by omega) (by omega) (cell_oneR HBF2.out) (by omega) (by omega) (cell_oneR HBT2.out) ⟨renamed_any f t ht w.heap.size w2 p.require (HP.out.require.stays HB2.out) HL.out.2.1, renamed_any f t ht w.heap.size w2 p.invariant (HP.out.invariant.stays HB2.out) HL.out.2.2.1⟩ HX2.out))
 rintro e a9 w3 ⟨rfl, hsz9, hd9, hsm9, hm3, e1, e2, hx3, y0, y1⟩
 obtain ⟨G, hG, rfl⟩ := act_F104 hsz9 hd9
 have g3 : G 3 = .pointer (some ⟨w.heap.size, 0, none⟩) := (hG 3).trans (eval_of ((hsm9 3 rfl).trans rfl))
 have g4 : G 4 = .pointer (some ⟨w.heap.size + 1, 0, none⟩) := (hG 4).trans (eval_of ((hsm9 4 rfl).trans rfl))
 have g5 : G 5 = .pointer (some ⟨w.heap.size + 1 + 1, 0, none⟩) := (hG 5).trans (eval_of ((hsm9 5 rfl).trans rfl))
 have g6 : G 6 = .pointer (some ⟨w.heap.size + 1 + 1 + 1, 0, none⟩) := (hG 6).trans (eval_of ((hsm9 6 rfl).trans rfl))
 rw [g3, g4, g5, g6]
 clear hG g3 g4 g5 g6 hsz9 hd9 hsm9
 have HBF3 := Lib.hid ((hm3.heap (b := w.heap.size + 1) (by omega) (by omega)).trans HBF2.out)
 have HBT3 := Lib.hid ((hm3.heap (b := w.heap.size + 1 + 1) (by omega) (by omega)).trans HBT2.out)
 have HRS3 := Lib.hid ((hm3.heap (b := w.heap.size + 1 + 1 + 1) (by omega) (by omega)).trans HRS2.out)
 have HB3 := Lib.hid (HB2.out.trans (hm3.below (Nat.le_refl _) (by omega)))
 have HX3 := Lib.hid hx3
 have hs3 := hm3.size
 have HZ0 := Lib.hid (And.intro HY0.out.1 (NewRow.on HY0.out.2 hm3 (by omega)))
 have HZ1 := Lib.hid (And.intro HY1.out.1 (NewRow.on HY1.out.2 hm3 (by omega)))
 have HZ2 := Lib.hid (And.intro HY2.out.1 (NewRow.on HY2.out.2 hm3 (by omega)))
 have HZ3 := Lib.hid (And.intro HY3.out.1 (NewRow.on HY3.out.2 hm3 (by omega)))
 have HE1 := Lib.hid (y0.1 rfl)
 have HE2 := Lib.hid (y1.1 rfl)
 clear HBF2 HBT2 HRS2 HB2 HX2 HY0 HY1 HY2 HY3 hm3 hx3 y0 y1
 go_upto_region 4 with fail
 refine Code.wp_mono ?_ (wp_codeR (C' := .region 4 opsR4 true) (by kernel_rfl) (renR4 rfl w.heap.size (w.heap.size + 4) w.heap.size f t { ({ p with is := i1, inputs := l1, gs := g1, ghosts := l2, vs := v1, vars := l3, «as» := a1, arrays := l4 } : ProgV) with require := e1, invariant := e2 } (by omega) (by omega) (Nat.le_refl _) rfl (HP.out.irow.below HB3.out) (HP.out.prow.below HB3.out) ⟨HIL.out.1, HQL.out.1⟩ HX3.out))
 rintro e a9 w4 ⟨rfl, hsz9, hd9, hsm9, hm4, ⟨sa, sc⟩, ⟨ra, rc⟩, hx4, y0, y1⟩
 obtain ⟨H, hH, rfl⟩ := act_F104 hsz9 hd9
 have g3 : H 3 = .pointer (some ⟨w.heap.size, 0, none⟩) := (hH 3).trans (eval_of ((hsm9 3 rfl).trans rfl))
 have g4 : H 4 = .pointer (some ⟨w.heap.size + 1, 0, none⟩) := (hH 4).trans (eval_of ((hsm9 4 rfl).trans rfl))
 have g5 : H 5 = .pointer (some ⟨w.heap.size + 1 + 1, 0, none⟩) := (hH 5).trans (eval_of ((hsm9 5 rfl).trans rfl))
 have g6 : H 6 = .pointer (some ⟨w.heap.size + 1 + 1 + 1, 0, none⟩) := (hH 6).trans (eval_of ((hsm9 6 rfl).trans rfl))
 rw [g3, g4, g5, g6]
 clear hH g3 g4 g5 g6 hsz9 hd9 hsm9
 obtain ⟨pc, hpc⟩ : ∃ pc : ProgV, pc = { ({ p with is := i1, inputs := l1, gs := g1, ghosts := l2, vs := v1, vars := l3, «as» := a1, arrays := l4 } : ProgV) with require := e1, invariant := e2, ns := ⟨sa, sc⟩, rs := ⟨ra, rc⟩ } := ⟨_, rfl⟩
 have HIX : Hid (IxS f t w.heap.size (w.heap.size + 4) w3.heap.size w4.heap.size w w4 p pc sa sc ra rc 0 p.inits) := Lib.hid (by
   subst hpc
   exact IxS.start (HB3.out.trans (hm4.below (Nat.le_refl _) (by omega))) (Nat.le_refl _) (by omega) hm4 hx4 ((hm4.heap (b := w.heap.size + 1) (by omega) (by omega)).trans HBF3.out) ((hm4.heap (b := w.heap.size + 1 + 1) (by omega) (by omega)).trans HBT3.out) ⟨_, (hm4.heap (b := w.heap.size + 1 + 1 + 1) (by omega) (by omega)).trans HRS3.out, rfl⟩ HZ0.out HZ1.out HZ2.out HZ3.out HE1.out HE2.out ⟨rfl, rfl⟩ rfl rfl ⟨rfl, rfl, rfl, rfl⟩ rfl rfl (y0.1 rfl) (y1.1 rfl))
 have hs4 := hm4.size
 clear HBF3 HBT3 HRS3 HB3 HX3 HZ0 HZ1 HZ2 HZ3 HE1 HE2 hm4 hx4 y0 y1 hpc
 obtain ⟨lo, hlo⟩ : ∃ lo, lo = w.heap.size + 4 := ⟨_, rfl⟩
 rw [← hlo] at HIX
 generalize hhi : w3.heap.size = hi at *
 generalize hlo2 : w4.heap.size = lo2 at *
 have c12 := HIX.out.c12
 go_upto_region 6 with fail
 go_loopw [56] (fun s56 wr => ∃ k cur, k ≤ p.inits.length ∧ s56 = .int .i64 (k : Nat) ∧ IxS f t w.heap.size lo hi lo2 w wr p pc sa sc ra rc k cur) (fun s56 _ => p.inits.length - (intOf s56).toNat)
 case atStart => exact ⟨0, p.inits, Nat.zero_le _, rfl, HIX.out⟩
 case round =>
   obtain ⟨k, cur, hk, rfl, hx⟩ := hrel
   clear HIX c12
   by_cases hlt : k < p.inits.length
   · obtain ⟨g, hA, hg2, hgl, hc⟩ := hx.own.cell (fun _ => rfl) (j := k) (by rw [hx.len]; exact hlt)
     subst hA
     rw [hx.todo k hlt (by rw [hx.len]; exact hlt) (Nat.le_refl _)] at hc
     obtain ⟨x, hxe⟩ : ∃ x, p.inits[k] = x := ⟨_, rfl⟩
     rw [hxe] at hc
     have HXE := Lib.hid hxe
     have HXV := Lib.hid (show RdX w.heap.size w x.value by rw [← hxe]; exact (HP.out.inits _ (List.getElem_mem hlt)).value)
     have HXL := Lib.hid (show x.value.pre.length ≤ 1000000 by rw [← hxe]; exact HIL.out.2 _ (List.getElem_mem hlt))
     clear hxe
     have c0 : wr.cell? ⟨g, k * 7, none⟩ = some (.int .i64 x.block) := hc 0 _ rfl
     have c1 : wr.cell? ⟨g, k * 7 + 1, none⟩ = some (.int .u8 x.value.kind) := hc 1 _ rfl
     have c2 : wr.cell? ⟨g, k * 7 + 2, none⟩ = some (.int .u8 x.value.op) := hc 2 _ rfl
     have c3 : wr.cell? ⟨g, k * 7 + 3, none⟩ = some (.int .u32 x.value.value) := hc 3 _ rfl
     have c4 : wr.cell? ⟨g, k * 7 + 4, none⟩ = some (.int .i64 x.value.width) := hc 4 _ rfl
     have c5 : wr.cell? ⟨g, k * 7 + 5, none⟩ = some (.string x.value.name) := hc 5 _ rfl
     have c6 : wr.cell? ⟨g, k * 7 + 6, none⟩ = some (.slice x.value.sp.at_ x.value.subs.length x.value.sp.cap) := hc 6 _ rfl
     have hbA := (Below.refl wr.heap.size wr).alloc (Nat.le_refl _) (.cells #[.int .i64 x.block, .int .u8 x.value.kind, .int .u8 x.value.op, .int .u32 x.value.value, .int .i64 x.value.width, .string x.value.name, .slice x.value.sp.at_ x.value.subs.length x.value.sp.cap] 118)
     have HX5 := Lib.hid (hx.on hbA)
     have HA5 := Lib.hid (World.alloc_heap_new wr (.cells #[.int .i64 x.block, .int .u8 x.value.kind, .int .u8 x.value.op, .int .u32 x.value.value, .int .i64 x.value.width, .string x.value.name, .slice x.value.sp.at_ x.value.subs.length x.value.sp.cap] 118))
     have hgW : g < wr.heap.size := hgl
     clear hc hx hbA
     go_upto_region 8 with fail
     clear c0 c1 c2 c3 c4 c5 c6
     generalize wr.alloc (.cells #[.int .i64 x.block, .int .u8 x.value.kind, .int .u8 x.value.op, .int .u32 x.value.value, .int .i64 x.value.width, .string x.value.name, .slice x.value.sp.at_ x.value.subs.length x.value.sp.cap] 118) = W5 at *
     generalize wr.heap.size = bx at *
     have hblt : bx < W5.heap.size := (Array.getElem?_eq_some_iff.1 HA5.out).1
     have hd := HX5.out.d
     obtain ⟨g', hA', -, -, hc⟩ := HX5.out.own.cell (fun _ => rfl) (j := k) (by rw [HX5.out.len]; exact hlt)
     cases hA'
     have hd1 := hd.hlo
     have hd2 := hd.hhi
     have hd3 := hd.hiW
     refine Code.wp_mono ?_ (wp_codeR (C' := .region 8 opsR8 true) (by kernel_rfl) (renR8 rfl w.heap.size g k p.inits.length sc bx (w.heap.size + 1) (w.heap.size + 1 + 1) f t rfl rfl rfl rfl rfl x HX5.out.c12 (row_cells HA5.out) (fun W hW => renamed_any f t ht w.heap.size w x.value HXV.out HXL.out W (hd.low.trans (hW.mono (by omega))) (by have := hW.size; omega)) (fun r hr => ⟨_, by rw [Nat.add_assoc]; exact hc (1 + r) _ (by rw [HX5.out.todo k hlt (by rw [HX5.out.len]; exact hlt) (Nat.le_refl _)]; exact List.getElem?_eq_getElem (by show 1 + r < 7; omega))⟩) (by omega) (by omega) (by omega) (cell_oneR hd.bf) (by omega) (cell_oneR hd.bt) hlt hblt (fun j => HX5.out.own.frozen j)))
     clear hd hc HA5
     rintro e a9 w6 ⟨rfl, hsz9, hd9, hsm9, w5, e', hb5, hr5, hn5, rfl⟩
     obtain ⟨I, hI, rfl⟩ := act_F104 hsz9 hd9
     have g0 : I 0 = H 0 := (hI 0).trans (eval_of ((hsm9 0 rfl).trans rfl))
     have g1 : I 1 = H 1 := (hI 1).trans (eval_of ((hsm9 1 rfl).trans rfl))
     have g2 : I 2 = H 2 := (hI 2).trans (eval_of ((hsm9 2 rfl).trans rfl))
     have g3 : I 3 = .pointer (some ⟨w.heap.size, 0, none⟩) := (hI 3).trans (eval_of ((hsm9 3 rfl).trans rfl))
     have g4 : I 4 = .pointer (some ⟨w.heap.size + 1, 0, none⟩) := (hI 4).trans (eval_of ((hsm9 4 rfl).trans rfl))
     have g5 : I 5 = .pointer (some ⟨w.heap.size + 1 + 1, 0, none⟩) := (hI 5).trans (eval_of ((hsm9 5 rfl).trans rfl))
     have g6 : I 6 = .pointer (some ⟨w.heap.size + 1 + 1 + 1, 0, none⟩) := (hI 6).trans (eval_of ((hsm9 6 rfl).trans rfl))
     have g7 : I 7 = H 7 := (hI 7).trans (eval_of ((hsm9 7 rfl).trans rfl))
     have g8 : I 8 = .int .i64 (k : Nat) := (hI 8).trans (eval_of ((hsm9 8 rfl).trans rfl))
     have g9 : I 9 = .pointer (some ⟨bx, 0, none⟩) := (hI 9).trans (eval_of ((hsm9 9 rfl).trans rfl))
     have g10 : I 10 = H 10 := (hI 10).trans (eval_of ((hsm9 10 rfl).trans rfl))
     have g11 : I 11 = H 11 := (hI 11).trans (eval_of ((hsm9 11 rfl).trans rfl))
     have g12 : I 12 = H 12 := (hI 12).trans (eval_of ((hsm9 12 rfl).trans rfl))
     have g13 : I 13 = H 13 := (hI 13).trans (eval_of ((hsm9 13 rfl).trans rfl))
     have g14 : I 14 = H 14 := (hI 14).trans (eval_of ((hsm9 14 rfl).trans rfl))
     have g15 : I 15 = H 15 := (hI 15).trans (eval_of ((hsm9 15 rfl).trans rfl))
     have g16 : I 16 = H 16 := (hI 16).trans (eval_of ((hsm9 16 rfl).trans rfl))
     have g17 : I 17 = H 17 := (hI 17).trans (eval_of ((hsm9 17 rfl).trans rfl))
     have g18 : I 18 = H 18 := (hI 18).trans (eval_of ((hsm9 18 rfl).trans rfl))
     have g19 : I 19 = H 19 := (hI 19).trans (eval_of ((hsm9 19 rfl).trans rfl))
     have g20 : I 20 = H 20 := (hI 20).trans (eval_of ((hsm9 20 rfl).trans rfl))
     have g21 : I 21 = H 21 := (hI 21).trans (eval_of ((hsm9 21 rfl).trans rfl))
     have g22 : I 22 = H 22 := (hI 22).trans (eval_of ((hsm9 22 rfl).trans rfl))
     have g23 : I 23 = H 23 := (hI 23).trans (eval_of ((hsm9 23 rfl).trans rfl))
     have g24 : I 24 = H 24 := (hI 24).trans (eval_of ((hsm9 24 rfl).trans rfl))
     have g25 : I 25 = H 25 := (hI 25).trans (eval_of ((hsm9 25 rfl).trans rfl))
     have g26 : I 26 = H 26 := (hI 26).trans (eval_of ((hsm9 26 rfl).trans rfl))
     have g27 : I 27 = H 27 := (hI 27).trans (eval_of ((hsm9 27 rfl).trans rfl))
     have g28 : I 28 = H 28 := (hI 28).trans (eval_of ((hsm9 28 rfl).trans rfl))
     have g29 : I 29 = H 29 := (hI 29).trans (eval_of ((hsm9 29 rfl).trans rfl))
     have g30 : I 30 = H 30 := (hI 30).trans (eval_of ((hsm9 30 rfl).trans rfl))
     have g31 : I 31 = H 31 := (hI 31).trans (eval_of ((hsm9 31 rfl).trans rfl))
     have g32 : I 32 = H 32 := (hI 32).trans (eval_of ((hsm9 32 rfl).trans rfl))
     have g33 : I 33 = H 33 := (hI 33).trans (eval_of ((hsm9 33 rfl).trans rfl))
     have g34 : I 34 = H 34 := (hI 34).trans (eval_of ((hsm9 34 rfl).trans rfl))
     have g35 : I 35 = H 35 := (hI 35).trans (eval_of ((hsm9 35 rfl).trans rfl))
     have g36 : I 36 = H 36 := (hI 36).trans (eval_of ((hsm9 36 rfl).trans rfl))
     have g37 : I 37 = H 37 := (hI 37).trans (eval_of ((hsm9 37 rfl).trans rfl))
     have g38 : I 38 = H 38 := (hI 38).trans (eval_of ((hsm9 38 rfl).trans rfl))
     have g39 : I 39 = H 39 := (hI 39).trans (eval_of ((hsm9 39 rfl).trans rfl))
     have g40 : I 40 = H 40 := (hI 40).trans (eval_of ((hsm9 40 rfl).trans rfl))
     have g41 : I 41 = H 41 := (hI 41).trans (eval_of ((hsm9 41 rfl).trans rfl))
     have g42 : I 42 = H 42 := (hI 42).trans (eval_of ((hsm9 42 rfl).trans rfl))
     have g43 : I 43 = H 43 := (hI 43).trans (eval_of ((hsm9 43 rfl).trans rfl))
     have g44 : I 44 = H 44 := (hI 44).trans (eval_of ((hsm9 44 rfl).trans rfl))
     have g45 : I 45 = H 45 := (hI 45).trans (eval_of ((hsm9 45 rfl).trans rfl))
     have g46 : I 46 = H 46 := (hI 46).trans (eval_of ((hsm9 46 rfl).trans rfl))
     have g47 : I 47 = H 47 := (hI 47).trans (eval_of ((hsm9 47 rfl).trans rfl))
     have g48 : I 48 = H 48 := (hI 48).trans (eval_of ((hsm9 48 rfl).trans rfl))
     have g49 : I 49 = H 49 := (hI 49).trans (eval_of ((hsm9 49 rfl).trans rfl))
     have g50 : I 50 = H 50 := (hI 50).trans (eval_of ((hsm9 50 rfl).trans rfl))
     have g51 : I 51 = H 51 := (hI 51).trans (eval_of ((hsm9 51 rfl).trans rfl))
     have g52 : I 52 = H 52 := (hI 52).trans (eval_of ((hsm9 52 rfl).trans rfl))
     have g53 : I 53 = .pointer (some ⟨w.heap.size, 12, none⟩) := (hI 53).trans (eval_of ((hsm9 53 rfl).trans rfl))
     have g54 : I 54 = .slice (some ⟨g, 0, none⟩) p.inits.length sc := (hI 54).trans (eval_of ((hsm9 54 rfl).trans rfl))
     have g55 : I 55 = .int .i64 (p.inits.length : Nat) := (hI 55).trans (eval_of ((hsm9 55 rfl).trans rfl))
     have g56 : I 56 = .int .i64 (k : Nat) := (hI 56).trans (eval_of ((hsm9 56 rfl).trans rfl))
     have g72 : I 72 = H 72 := (hI 72).trans (eval_of ((hsm9 72 rfl).trans rfl))
     have g73 : I 73 = H 73 := (hI 73).trans (eval_of ((hsm9 73 rfl).trans rfl))
     have g74 : I 74 = H 74 := (hI 74).trans (eval_of ((hsm9 74 rfl).trans rfl))
     have g75 : I 75 = H 75 := (hI 75).trans (eval_of ((hsm9 75 rfl).trans rfl))
     have g76 : I 76 = H 76 := (hI 76).trans (eval_of ((hsm9 76 rfl).trans rfl))
     have g77 : I 77 = H 77 := (hI 77).trans (eval_of ((hsm9 77 rfl).trans rfl))
     have g78 : I 78 = H 78 := (hI 78).trans (eval_of ((hsm9 78 rfl).trans rfl))
     have g79 : I 79 = H 79 := (hI 79).trans (eval_of ((hsm9 79 rfl).trans rfl))
     have g80 : I 80 = H 80 := (hI 80).trans (eval_of ((hsm9 80 rfl).trans rfl))
     have g81 : I 81 = H 81 := (hI 81).trans (eval_of ((hsm9 81 rfl).trans rfl))
     have g82 : I 82 = H 82 := (hI 82).trans (eval_of ((hsm9 82 rfl).trans rfl))
     have g83 : I 83 = H 83 := (hI 83).trans (eval_of ((hsm9 83 rfl).trans rfl))
     have g84 : I 84 = H 84 := (hI 84).trans (eval_of ((hsm9 84 rfl).trans rfl))
     have g85 : I 85 = H 85 := (hI 85).trans (eval_of ((hsm9 85 rfl).trans rfl))
     have g86 : I 86 = H 86 := (hI 86).trans (eval_of ((hsm9 86 rfl).trans rfl))
     have g87 : I 87 = H 87 := (hI 87).trans (eval_of ((hsm9 87 rfl).trans rfl))
     have g88 : I 88 = H 88 := (hI 88).trans (eval_of ((hsm9 88 rfl).trans rfl))
     have g89 : I 89 = H 89 := (hI 89).trans (eval_of ((hsm9 89 rfl).trans rfl))
     have g90 : I 90 = H 90 := (hI 90).trans (eval_of ((hsm9 90 rfl).trans rfl))
     have g91 : I 91 = H 91 := (hI 91).trans (eval_of ((hsm9 91 rfl).trans rfl))
     have g92 : I 92 = H 92 := (hI 92).trans (eval_of ((hsm9 92 rfl).trans rfl))
     have g93 : I 93 = H 93 := (hI 93).trans (eval_of ((hsm9 93 rfl).trans rfl))
     have g94 : I 94 = H 94 := (hI 94).trans (eval_of ((hsm9 94 rfl).trans rfl))
     have g95 : I 95 = H 95 := (hI 95).trans (eval_of ((hsm9 95 rfl).trans rfl))
     have g96 : I 96 = H 96 := (hI 96).trans (eval_of ((hsm9 96 rfl).trans rfl))
     have g97 : I 97 = H 97 := (hI 97).trans (eval_of ((hsm9 97 rfl).trans rfl))
     have g98 : I 98 = H 98 := (hI 98).trans (eval_of ((hsm9 98 rfl).trans rfl))
     have g99 : I 99 = H 99 := (hI 99).trans (eval_of ((hsm9 99 rfl).trans rfl))
     have g100 : I 100 = H 100 := (hI 100).trans (eval_of ((hsm9 100 rfl).trans rfl))
     have g101 : I 101 = H 101 := (hI 101).trans (eval_of ((hsm9 101 rfl).trans rfl))
     have g102 : I 102 = H 102 := (hI 102).trans (eval_of ((hsm9 102 rfl).trans rfl))
     have g103 : I 103 = H 103 := (hI 103).trans (eval_of ((hsm9 103 rfl).trans rfl))
     rw [g0, g1, g2, g3, g4, g5, g6, g7, g8, g9, g10, g11, g12, g13, g14, g15, g16, g17, g18, g19, g20, g21, g22, g23, g24, g25, g26, g27, g28, g29, g30, g31, g32, g33, g34, g35, g36, g37, g38, g39, g40, g41, g42, g43, g44, g45, g46, g47, g48, g49, g50, g51, g52, g53, g54, g55, g56, g72, g73, g74, g75, g76, g77, g78, g79, g80, g81, g82, g83, g84, g85, g86, g87, g88, g89, g90, g91, g92, g93, g94, g95, g96, g97, g98, g99, g100, g101, g102, g103]
     clear hI g0 g1 g2 g3 g4 g5 g6 g7 g8 g9 g10 g11 g12 g13 g14 g15 g16 g17 g18 g19 g20 g21 g22 g23 g24 g25 g26 g27 g28 g29 g30 g31 g32 g33 g34 g35 g36 g37 g38 g39 g40 g41 g42 g43 g44 g45 g46 g47 g48 g49 g50 g51 g52 g53 g54 g55 g56 g72 g73 g74 g75 g76 g77 g78 g79 g80 g81 g82 g83 g84 g85 g86 g87 g88 g89 g90 g91 g92 g93 g94 g95 g96 g97 g98 g99 g100 g101 g102 g103 hsz9 hd9 hsm9
     have HPUT := Lib.hid ((HX5.out.on hb5).put hg2 hlt (by rw [HXE.out]; exact hr5) (hn5.less HX5.out.lo2W))
     have hw : wrap64 ((k : Int) + 1) = (k : Int) + 1 := IntWalk.wrap64_in _ ⟨by omega, by have := HIL.out.1; omega⟩
     have hms : p.inits.length - ((k : Int) + 1).toNat < p.inits.length - (k : Int).toNat := by clear hw; omega
     clear HX5 hb5 hr5 hn5 HXV HXL HXE hd1 hd2 hd3 hblt
     go_wp2_with fail
     rw [hw]
     go_roundw
     case rel => first | exact ⟨k + 1, _, hlt, by first | rfl | (rw [hw]; rfl) | go_num, HPUT.out⟩ | ((repeat apply Exists.intro); exact ⟨⟨k + 1, _, hlt, by first | rfl | (rw [hw]; rfl) | go_num, HPUT.out⟩, rfl⟩)
     case measure => first | exact hms | (rw [hw]; exact hms) | (simp only [intOf]; exact hms) | (simp only [intOf, hw]; exact hms) | (simp [intOf]; omega)
   · obtain rfl : k = p.inits.length := Nat.le_antisymm hk (Nat.le_of_not_lt hlt)
     have HPX := Lib.hid hx.next
     have hlen := hx.len
     clear hx hk hlt
     generalize hlo3 : wr.heap.size = lo3 at *
     have c13 := HPX.out.c13
     go_upto_region 11 with fail
     refine wp_frame104 rfl rfl fun K hK => ?_
     have g3 : K 3 = .pointer (some ⟨w.heap.size, 0, none⟩) := (hK 3).trans rfl
     have g4 : K 4 = .pointer (some ⟨w.heap.size + 1, 0, none⟩) := (hK 4).trans rfl
     have g5 : K 5 = .pointer (some ⟨w.heap.size + 1 + 1, 0, none⟩) := (hK 5).trans rfl
     have g6 : K 6 = .pointer (some ⟨w.heap.size + 1 + 1 + 1, 0, none⟩) := (hK 6).trans rfl
     have g72 : K 72 = .pointer (some ⟨w.heap.size, 13, none⟩) := (hK 72).trans rfl
     have g73 : K 73 = .slice ra p.procs.length rc := (hK 73).trans rfl
     have g74 : K 74 = .int .i64 (p.procs.length : Nat) := (hK 74).trans rfl
     have g75 : K 75 = .int .i64 0 := (hK 75).trans rfl
     rw [g3, g4, g5, g6, g72, g73, g74, g75]
     clear hK g3 g4 g5 g6 g72 g73 g74 g75
     clear c13
     go_loopw [75] (fun s75 wr => ∃ k cur2, k ≤ p.procs.length ∧ s75 = .int .i64 (k : Nat) ∧ PxS f t w.heap.size lo hi lo2 lo3 w wr p pc sa sc ra rc cur k cur2) (fun s75 _ => p.procs.length - (intOf s75).toNat)
     case atStart => exact ⟨0, p.procs, Nat.zero_le _, rfl, HPX.out⟩
     case round =>
       obtain ⟨k, cur2, hk, rfl, hx⟩ := hrel
       clear HPX
       by_cases hlt : k < p.procs.length
       · obtain ⟨g, hA, hg2, hgl, hc⟩ := hx.own.cell (fun _ => rfl) (j := k) (by rw [hx.len]; exact hlt)
         subst hA
         rw [hx.todo k hlt (by rw [hx.len]; exact hlt) (Nat.le_refl _)] at hc
         obtain ⟨x, hxe⟩ : ∃ x, p.procs[k] = x := ⟨_, rfl⟩
         rw [hxe] at hc
         have HXE := Lib.hid hxe
         have HXV := Lib.hid (show RdTs w.heap.size w x.bs x.body by rw [← hxe]; exact (HP.out.procs _ (List.getElem_mem hlt)).body)
         have HXL := Lib.hid (show heftL x.body ≤ 1000000 by rw [← hxe]; exact HQL.out.2 _ (List.getElem_mem hlt))
         clear hxe
         have c0 : wr.cell? ⟨g, k * 3, none⟩ = some (.string x.name) := hc 0 _ rfl
         have c1 : wr.cell? ⟨g, k * 3 + 1, none⟩ = some (.slice x.ps.at_ x.params.length x.ps.cap) := hc 1 _ rfl
         have c2 : wr.cell? ⟨g, k * 3 + 2, none⟩ = some (.slice x.bs.at_ x.body.length x.bs.cap) := hc 2 _ rfl
         have hbA := (Below.refl wr.heap.size wr).alloc (Nat.le_refl _) (.cells #[.string x.name, .slice x.ps.at_ x.params.length x.ps.cap, .slice x.bs.at_ x.body.length x.bs.cap] 47)
         have HX5 := Lib.hid (hx.on hbA)
         have HA5 := Lib.hid (World.alloc_heap_new wr (.cells #[.string x.name, .slice x.ps.at_ x.params.length x.ps.cap, .slice x.bs.at_ x.body.length x.bs.cap] 47))
         have hgW : g < wr.heap.size := hgl
         clear hc hx hbA
         go_upto_region 13 with fail
         clear c0 c1 c2
         generalize wr.alloc (.cells #[.string x.name, .slice x.ps.at_ x.params.length x.ps.cap, .slice x.bs.at_ x.body.length x.bs.cap] 47) = W5 at *
         generalize wr.heap.size = bx at *
         have hblt : bx < W5.heap.size := (Array.getElem?_eq_some_iff.1 HA5.out).1
         have hd := HX5.out.d
         obtain ⟨g', hA', -, -, hc⟩ := HX5.out.own.cell (fun _ => rfl) (j := k) (by rw [HX5.out.len]; exact hlt)
         cases hA'
         have hd1 := hd.hlo
         have hd2 := hd.hhi
         have hd3 := hd.hiW
         refine Code.wp_mono ?_ (wp_codeR (C' := .region 13 opsR13 true) (by kernel_rfl) (renR13 rfl w.heap.size g k p.procs.length rc bx (w.heap.size + 1) (w.heap.size + 1 + 1) f t rfl rfl rfl rfl rfl x HX5.out.c13 (row_cells HA5.out) (fun W hW => renamedStmts_any f t ht w.heap.size w x.bs x.body HXV.out HXL.out W (hd.low.trans (hW.mono (by omega))) (by have := hW.size; omega)) ⟨_, hc 2 _ (by rw [HX5.out.todo k hlt (by rw [HX5.out.len]; exact hlt) (Nat.le_refl _)]; rfl)⟩ (by omega) (by omega) (by omega) (cell_oneR hd.bf) (by omega) (cell_oneR hd.bt) hlt hblt (fun j => HX5.out.own.frozen j)))
         clear hd hc HA5
         rintro e a9 w6 ⟨rfl, hsz9, hd9, hsm9, w5, sp', l', hb5, hr5, hn5, rfl⟩
         obtain ⟨J, hJ, rfl⟩ := act_F104 hsz9 hd9
         have g0 : J 0 = K 0 := (hJ 0).trans (eval_of ((hsm9 0 rfl).trans rfl))
         have g1 : J 1 = K 1 := (hJ 1).trans (eval_of ((hsm9 1 rfl).trans rfl))
         have g2 : J 2 = K 2 := (hJ 2).trans (eval_of ((hsm9 2 rfl).trans rfl))
         have g3 : J 3 = .pointer (some ⟨w.heap.size, 0, none⟩) := (hJ 3).trans (eval_of ((hsm9 3 rfl).trans rfl))
         have g4 : J 4 = .pointer (some ⟨w.heap.size + 1, 0, none⟩) := (hJ 4).trans (eval_of ((hsm9 4 rfl).trans rfl))
         have g5 : J 5 = .pointer (some ⟨w.heap.size + 1 + 1, 0, none⟩) := (hJ 5).trans (eval_of ((hsm9 5 rfl).trans rfl))
         have g6 : J 6 = .pointer (some ⟨w.heap.size + 1 + 1 + 1, 0, none⟩) := (hJ 6).trans (eval_of ((hsm9 6 rfl).trans rfl))
         have g7 : J 7 = K 7 := (hJ 7).trans (eval_of ((hsm9 7 rfl).trans rfl))
         have g8 : J 8 = K 8 := (hJ 8).trans (eval_of ((hsm9 8 rfl).trans rfl))
         have g9 : J 9 = K 9 := (hJ 9).trans (eval_of ((hsm9 9 rfl).trans rfl))
         have g10 : J 10 = .int .i64 (k : Nat) := (hJ 10).trans (eval_of ((hsm9 10 rfl).trans rfl))
         have g11 : J 11 = .pointer (some ⟨bx, 0, none⟩) := (hJ 11).trans (eval_of ((hsm9 11 rfl).trans rfl))
         have g12 : J 12 = K 12 := (hJ 12).trans (eval_of ((hsm9 12 rfl).trans rfl))
         have g13 : J 13 = K 13 := (hJ 13).trans (eval_of ((hsm9 13 rfl).trans rfl))
         have g14 : J 14 = K 14 := (hJ 14).trans (eval_of ((hsm9 14 rfl).trans rfl))
         have g15 : J 15 = K 15 := (hJ 15).trans (eval_of ((hsm9 15 rfl).trans rfl))
         have g16 : J 16 = K 16 := (hJ 16).trans (eval_of ((hsm9 16 rfl).trans rfl))
         have g17 : J 17 = K 17 := (hJ 17).trans (eval_of ((hsm9 17 rfl).trans rfl))
         have g18 : J 18 = K 18 := (hJ 18).trans (eval_of ((hsm9 18 rfl).trans rfl))
         have g19 : J 19 = K 19 := (hJ 19).trans (eval_of ((hsm9 19 rfl).trans rfl))
         have g20 : J 20 = K 20 := (hJ 20).trans (eval_of ((hsm9 20 rfl).trans rfl))
         have g21 : J 21 = K 21 := (hJ 21).trans (eval_of ((hsm9 21 rfl).trans rfl))
         have g22 : J 22 = K 22 := (hJ 22).trans (eval_of ((hsm9 22 rfl).trans rfl))
         have g23 : J 23 = K 23 := (hJ 23).trans (eval_of ((hsm9 23 rfl).trans rfl))
         have g24 : J 24 = K 24 := (hJ 24).trans (eval_of ((hsm9 24 rfl).trans rfl))
         have g25 : J 25 = K 25 := (hJ 25).trans (eval_of ((hsm9 25 rfl).trans rfl))
         have g26 : J 26 = K 26 := (hJ 26).trans (eval_of ((hsm9 26 rfl).trans rfl))
         have g27 : J 27 = K 27 := (hJ 27).trans (eval_of ((hsm9 27 rfl).trans rfl))
         have g28 : J 28 = K 28 := (hJ 28).trans (eval_of ((hsm9 28 rfl).trans rfl))
         have g29 : J 29 = K 29 := (hJ 29).trans (eval_of ((hsm9 29 rfl).trans rfl))
         have g30 : J 30 = K 30 := (hJ 30).trans (eval_of ((hsm9 30 rfl).trans rfl))
         have g31 : J 31 = K 31 := (hJ 31).trans (eval_of ((hsm9 31 rfl).trans rfl))
         have g32 : J 32 = K 32 := (hJ 32).trans (eval_of ((hsm9 32 rfl).trans rfl))
         have g33 : J 33 = K 33 := (hJ 33).trans (eval_of ((hsm9 33 rfl).trans rfl))
         have g34 : J 34 = K 34 := (hJ 34).trans (eval_of ((hsm9 34 rfl).trans rfl))
         have g35 : J 35 = K 35 := (hJ 35).trans (eval_of ((hsm9 35 rfl).trans rfl))
         have g36 : J 36 = K 36 := (hJ 36).trans (eval_of ((hsm9 36 rfl).trans rfl))
         have g37 : J 37 = K 37 := (hJ 37).trans (eval_of ((hsm9 37 rfl).trans rfl))
         have g38 : J 38 = K 38 := (hJ 38).trans (eval_of ((hsm9 38 rfl).trans rfl))
         have g39 : J 39 = K 39 := (hJ 39).trans (eval_of ((hsm9 39 rfl).trans rfl))
         have g40 : J 40 = K 40 := (hJ 40).trans (eval_of ((hsm9 40 rfl).trans rfl))
         have g41 : J 41 = K 41 := (hJ 41).trans (eval_of ((hsm9 41 rfl).trans rfl))
         have g42 : J 42 = K 42 := (hJ 42).trans (eval_of ((hsm9 42 rfl).trans rfl))
         have g43 : J 43 = K 43 := (hJ 43).trans (eval_of ((hsm9 43 rfl).trans rfl))
         have g44 : J 44 = K 44 := (hJ 44).trans (eval_of ((hsm9 44 rfl).trans rfl))
         have g45 : J 45 = K 45 := (hJ 45).trans (eval_of ((hsm9 45 rfl).trans rfl))
         have g46 : J 46 = K 46 := (hJ 46).trans (eval_of ((hsm9 46 rfl).trans rfl))
         have g47 : J 47 = K 47 := (hJ 47).trans (eval_of ((hsm9 47 rfl).trans rfl))
         have g48 : J 48 = K 48 := (hJ 48).trans (eval_of ((hsm9 48 rfl).trans rfl))
         have g49 : J 49 = K 49 := (hJ 49).trans (eval_of ((hsm9 49 rfl).trans rfl))
         have g50 : J 50 = K 50 := (hJ 50).trans (eval_of ((hsm9 50 rfl).trans rfl))
         have g51 : J 51 = K 51 := (hJ 51).trans (eval_of ((hsm9 51 rfl).trans rfl))
         have g52 : J 52 = K 52 := (hJ 52).trans (eval_of ((hsm9 52 rfl).trans rfl))
         have g53 : J 53 = K 53 := (hJ 53).trans (eval_of ((hsm9 53 rfl).trans rfl))
         have g54 : J 54 = K 54 := (hJ 54).trans (eval_of ((hsm9 54 rfl).trans rfl))
         have g55 : J 55 = K 55 := (hJ 55).trans (eval_of ((hsm9 55 rfl).trans rfl))
         have g56 : J 56 = K 56 := (hJ 56).trans (eval_of ((hsm9 56 rfl).trans rfl))
         have g57 : J 57 = K 57 := (hJ 57).trans (eval_of ((hsm9 57 rfl).trans rfl))
         have g58 : J 58 = K 58 := (hJ 58).trans (eval_of ((hsm9 58 rfl).trans rfl))
         have g59 : J 59 = K 59 := (hJ 59).trans (eval_of ((hsm9 59 rfl).trans rfl))
         have g60 : J 60 = K 60 := (hJ 60).trans (eval_of ((hsm9 60 rfl).trans rfl))
         have g61 : J 61 = K 61 := (hJ 61).trans (eval_of ((hsm9 61 rfl).trans rfl))
         have g62 : J 62 = K 62 := (hJ 62).trans (eval_of ((hsm9 62 rfl).trans rfl))
         have g63 : J 63 = K 63 := (hJ 63).trans (eval_of ((hsm9 63 rfl).trans rfl))
         have g64 : J 64 = K 64 := (hJ 64).trans (eval_of ((hsm9 64 rfl).trans rfl))
         have g65 : J 65 = K 65 := (hJ 65).trans (eval_of ((hsm9 65 rfl).trans rfl))
         have g66 : J 66 = K 66 := (hJ 66).trans (eval_of ((hsm9 66 rfl).trans rfl))
         have g67 : J 67 = K 67 := (hJ 67).trans (eval_of ((hsm9 67 rfl).trans rfl))
         have g68 : J 68 = K 68 := (hJ 68).trans (eval_of ((hsm9 68 rfl).trans rfl))
         have g69 : J 69 = K 69 := (hJ 69).trans (eval_of ((hsm9 69 rfl).trans rfl))
         have g70 : J 70 = K 70 := (hJ 70).trans (eval_of ((hsm9 70 rfl).trans rfl))
         have g71 : J 71 = K 71 := (hJ 71).trans (eval_of ((hsm9 71 rfl).trans rfl))
         have g72 : J 72 = .pointer (some ⟨w.heap.size, 13, none⟩) := (hJ 72).trans (eval_of ((hsm9 72 rfl).trans rfl))
         have g73 : J 73 = .slice (some ⟨g, 0, none⟩) p.procs.length rc := (hJ 73).trans (eval_of ((hsm9 73 rfl).trans rfl))
         have g74 : J 74 = .int .i64 (p.procs.length : Nat) := (hJ 74).trans (eval_of ((hsm9 74 rfl).trans rfl))
         have g75 : J 75 = .int .i64 (k : Nat) := (hJ 75).trans (eval_of ((hsm9 75 rfl).trans rfl))
         have g91 : J 91 = K 91 := (hJ 91).trans (eval_of ((hsm9 91 rfl).trans rfl))
         have g92 : J 92 = K 92 := (hJ 92).trans (eval_of ((hsm9 92 rfl).trans rfl))
         have g93 : J 93 = K 93 := (hJ 93).trans (eval_of ((hsm9 93 rfl).trans rfl))
         have g94 : J 94 = K 94 := (hJ 94).trans (eval_of ((hsm9 94 rfl).trans rfl))
         have g95 : J 95 = K 95 := (hJ 95).trans (eval_of ((hsm9 95 rfl).trans rfl))
         have g96 : J 96 = K 96 := (hJ 96).trans (eval_of ((hsm9 96 rfl).trans rfl))
         have g97 : J 97 = K 97 := (hJ 97).trans (eval_of ((hsm9 97 rfl).trans rfl))
         have g98 : J 98 = K 98 := (hJ 98).trans (eval_of ((hsm9 98 rfl).trans rfl))
         have g99 : J 99 = K 99 := (hJ 99).trans (eval_of ((hsm9 99 rfl).trans rfl))
         have g100 : J 100 = K 100 := (hJ 100).trans (eval_of ((hsm9 100 rfl).trans rfl))
         have g101 : J 101 = K 101 := (hJ 101).trans (eval_of ((hsm9 101 rfl).trans rfl))
         have g102 : J 102 = K 102 := (hJ 102).trans (eval_of ((hsm9 102 rfl).trans rfl))
         have g103 : J 103 = K 103 := (hJ 103).trans (eval_of ((hsm9 103 rfl).trans rfl))
         rw [g0, g1, g2, g3, g4, g5, g6, g7, g8, g9, g10, g11, g12, g13, g14, g15, g16, g17, g18, g19, g20, g21, g22, g23, g24, g25, g26, g27, g28, g29, g30, g31, g32, g33, g34, g35, g36, g37, g38, g39, g40, g41, g42, g43, g44, g45, g46, g47, g48, g49, g50, g51, g52, g53, g54, g55, g56, g57, g58, g59, g60, g61, g62, g63, g64, g65, g66, g67, g68, g69, g70, g71, g72, g73, g74, g75, g91, g92, g93, g94, g95, g96, g97, g98, g99, g100, g101, g102, g103]
         clear hJ g0 g1 g2 g3 g4 g5 g6 g7 g8 g9 g10 g11 g12 g13 g14 g15 g16 g17 g18 g19 g20 g21 g22 g23 g24 g25 g26 g27 g28 g29 g30 g31 g32 g33 g34 g35 g36 g37 g38 g39 g40 g41 g42 g43 g44 g45 g46 g47 g48 g49 g50 g51 g52 g53 g54 g55 g56 g57 g58 g59 g60 g61 g62 g63 g64 g65 g66 g67 g68 g69 g70 g71 g72 g73 g74 g75 g91 g92 g93 g94 g95 g96 g97 g98 g99 g100 g101 g102 g103 hsz9 hd9 hsm9
         have HPUT := Lib.hid ((HX5.out.on hb5).put hg2 hlt (by rw [HXE.out]; exact hr5) (hn5.less (Nat.le_trans HX5.out.hlo3 HX5.out.lo3W)))
         have hw : wrap64 ((k : Int) + 1) = (k : Int) + 1 := IntWalk.wrap64_in _ ⟨by omega, by have := HQL.out.1; omega⟩
         have hms : p.procs.length - ((k : Int) + 1).toNat < p.procs.length - (k : Int).toNat := by clear hw; omega
         clear HX5 hb5 hr5 hn5 HXV HXL HXE hd1 hd2 hd3 hblt
         go_wp2_with fail
         rw [hw]
         go_roundw
         case rel => first | exact ⟨k + 1, _, hlt, by first | rfl | (rw [hw]; rfl) | go_num, HPUT.out⟩ | ((repeat apply Exists.intro); exact ⟨⟨k + 1, _, hlt, by first | rfl | (rw [hw]; rfl) | go_num, HPUT.out⟩, rfl⟩)
         case measure => first | exact hms | (rw [hw]; exact hms) | (simp only [intOf]; exact hms) | (simp only [intOf, hw]; exact hms) | (simp [intOf]; omega)
       · obtain rfl : k = p.procs.length := Nat.le_antisymm hk (Nat.le_of_not_lt hlt)
         have HPX := Lib.hid hx
         have hd := hx.d
         have hd1 := hd.hlo
         have hd2 := hd.hhi
         have hd3 := hd.hiW
         obtain ⟨w1, w2', w3', w4'⟩ := hd.wrk
         have hdl := hd.low
         have hbx := hd.box
         have hbf := hd.bf
         have hbt := hd.bt
         have hwk : RdTs w.heap.size wr pc.ws pc.work ∧ RdTs w.heap.size wr pc.cs pc.recover := by
           rw [w1, w2', w3', w4']
           exact ⟨HP.out.work.below hdl, HP.out.recover.below hdl⟩
         have hwh : heftL pc.work ≤ 1000000 ∧ heftL pc.recover ≤ 1000000 := by
           rw [w2', w4']
           exact HL.out.2.2.2
         have HW := Lib.hid (And.intro (And.intro w1 w2') (And.intro w3' w4'))
         clear hx hk hlt hd w1 w2' w3' w4'
         go_upto_region 15 with fail
         refine Code.wp_mono ?_ (wp_codeR (C' := .region 15 opsR15 true) (by kernel_rfl) (renR15 rfl w.heap.size lo w.heap.size f t pc (by omega) (by omega) (Nat.le_refl _) rfl (w.heap.size + 1) (w.heap.size + 1 + 1) rfl rfl (by omega) (by omega) (cell_oneR hbf) (by omega) (by omega) (cell_oneR hbt) ⟨renamedStmts_any f t ht w.heap.size wr pc.ws pc.work hwk.1 hwh.1, renamedStmts_any f t ht w.heap.size wr pc.cs pc.recover hwk.2 hwh.2⟩ hbx))
         clear hdl hbx hbf hbt hwk hwh
         rintro e a9 w7 ⟨rfl, hsz9, hd9, hsm9, hm7, s1, l1', s2, l2', hx7, y0, y1⟩
         obtain ⟨M, hM, rfl⟩ := act_F104 hsz9 hd9
         have g3 : M 3 = .pointer (some ⟨w.heap.size, 0, none⟩) := (hM 3).trans (eval_of ((hsm9 3 rfl).trans rfl))
         have g4 : M 4 = .pointer (some ⟨w.heap.size + 1, 0, none⟩) := (hM 4).trans (eval_of ((hsm9 4 rfl).trans rfl))
         have g5 : M 5 = .pointer (some ⟨w.heap.size + 1 + 1, 0, none⟩) := (hM 5).trans (eval_of ((hsm9 5 rfl).trans rfl))
         have g6 : M 6 = .pointer (some ⟨w.heap.size + 1 + 1 + 1, 0, none⟩) := (hM 6).trans (eval_of ((hsm9 6 rfl).trans rfl))
         rw [g3, g4, g5, g6]
         clear hM g3 g4 g5 g6 hsz9 hd9 hsm9
         obtain ⟨z, hz, hzs⟩ := HPX.out.d.res
         have HZ7 := Lib.hid ((hm7.heap (b := w.heap.size + 1 + 1 + 1) (by omega) (by omega)).trans hz)
         have HX7 := Lib.hid hx7
         have HM7 := Lib.hid hm7
         have HY0 := Lib.hid (y0.1 rfl)
         have HY1 := Lib.hid (y1.1 rfl)
         obtain ⟨pf, hpf⟩ : ∃ q : ProgV, q = { pc with ws := s1, work := l1', cs := s2, recover := l2' } := ⟨_, rfl⟩
         rw [← hpf] at HX7
         have HPF := Lib.hid hpf
         have HZS := Lib.hid hzs
         clear hm7 hx7 y0 y1 hz hzs hpf hd1 hd2 hd3
         go_upto_region 17 with (first
           | (refine wpList_load_row rfl 39 _ rfl w.heap.size rfl 39 _ (0, 0) _ HX7.out Tryz.underlying39 rfl (arr_size _) ?_)
           | (refine wpList_store_row rfl 39 _ _ rfl (w.heap.size + 1 + 1 + 1) pf.arr (by rfl) (by rfl) 39 z HZ7.out (arr_size _) HZS.out (arr_oneR _) ?_)
           | fail)
         obtain ⟨p', e1', hren, hrd, hbel⟩ := HPX.out.fin (W2 := w7) (W3 := w7.setRow (w.heap.size + 1 + 1 + 1) pf.arr) ht rfl HP.out HM7.out (by have := HY0.out.1; rw [HW.out.1.1, HW.out.1.2] at this; exact this) HY0.out.2 (by have := HY1.out.1; rw [HW.out.2.1, HW.out.2.2] at this; exact this) HY1.out.2 (fun b hb => setRow_other _ _ _ _ hb) (size_setRow _ _ _) (below_setRow (Below.refl _ _) (by omega))
         have hze := HX7.out
         have hse : (w7.setRow (w.heap.size + 1 + 1 + 1) pf.arr).heap[w.heap.size + 1 + 1 + 1]? = some (.cells pf.arr 39 (0, 0)) := setRow_at HZ7.out pf.arr
         rw [← HPF.out] at e1'
         exact bodyPost_ret (results_cell_row rfl _ _ (w.heap.size + 1 + 1 + 1) 39 _ (0, 0) _ rfl hse Tryz.underlying39 rfl (arr_size _)) rfl ⟨p', by rw [e1'], hren, hrd, hbel⟩
end Go.Proofs.YthcboallnbaimaaGreatDoor
