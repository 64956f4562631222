import Derived.Test.YtepacjkacjabbaaGreatDoorKAF
import Derived.Laws.OwnMore
import Derived.Test.YtepacjkacjabbaaGreatDoorKAE
import Derived.Test.YtepacjkacjabbaaGreatDoorKAA
import Derived.Below
import Derived.Maps.AppendAt
import Derived.OneCell
import Derived.RangeFuncRecord
import Derived.Laws.Rows
import Derived.Laws.Tables
import Derived.Laws.CopyOwn
namespace Go.Proofs.YtepacjkacjabbaaGreatDoor
open Go Go.RowKit
def lowm (lo : Nat) (W : World) : World := { W with heap := W.heap.mapIdx fun k o => if k < lo then .cells #[] 0 else o }
theorem lowm_heap (lo : Nat) (W : World) (k : Nat) : (lowm lo W).heap[k]? = (W.heap[k]?).map fun o => if k < lo then .cells #[] 0 else o := by simp [lowm]
theorem lowm_cell {lo : Nat} {W : World} {p : Addr} {u : Value} : (lowm lo W).cell? p = some u ↔ lo ≤ p.block ∧ W.cell? p = some u := by
 by_cases h : p.block < lo
 · constructor
   · intro hc
     exfalso
     simp only [World.cell?, lowm_heap] at hc
     cases hh : W.heap[p.block]? with
     | none => rw [hh] at hc; simp at hc
     | some o => rw [hh] at hc; simp [h] at hc
   · intro hc; omega
 · have e : (lowm lo W).cell? p = W.cell? p := World.cell?_of_block (by
     rw [lowm_heap]
     cases W.heap[p.block]? <;> simp [h])
   rw [e]
   exact ⟨fun hc => ⟨by omega, hc⟩, fun hc => hc.2⟩
section
variable {n : Nat} {W W' : World}
theorem RowOf.cells {α : Type} {s : Sp} {k : Nat} {enc : α → List Value} {l : List α} (h : RowOf n W s k enc l) (hc : ∀ p u, p.block < n → W.cell? p = some u → W'.cell? p = some u) : RowOf n W' s k enc l :=
 ⟨h.cap, h.big, h.few, fun h0 => by
   obtain ⟨b, off, e, hlt, hx⟩ := h.row h0
   exact ⟨b, off, e, hlt, fun j hj r u hu => hc _ _ hlt (hx j hj r u hu)⟩⟩
theorem RdX.cells {e : ExprV} (h : RdX n W e) (hc : ∀ p u, p.block < n → W.cell? p = some u → W'.cell? p = some u) : RdX n W' e := by
 induction h with
 | mk e k o v w n row _ ih => exact .mk e k o v w n (row.cells hc) ih
theorem RdT.cells {s : StmtV} (h : RdT n W s) (hc : ∀ p u, p.block < n → W.cell? p = some u → W'.cell? p = some u) : RdT n W' s := by
 induction h with
 | mk s k b n er ex tr _ or _ ih1 ih2 => exact .mk s k b n (er.cells hc) (fun e he => (ex e he).cells hc) (tr.cells hc) ih1 (or.cells hc) ih2
end
def NewX (lo : Nat) (W : World) (e : ExprV) : Prop := RdX W.heap.size (lowm lo W) e
def NewT (lo : Nat) (W : World) (s : StmtV) : Prop := RdT W.heap.size (lowm lo W) s
def NewTs (lo : Nat) (W : World) (sp : Sp) (l : List StmtV) : Prop := RowOf W.heap.size (lowm lo W) sp 6 StmtV.cells l ∧ ∀ s, s ∈ l → NewT lo W s
section
variable {lo q : Nat} {W W' : World}
theorem keeps_mask (hb : Below W.heap.size (mask q W) (mask q W')) (hq : q < lo) : ∀ p u, p.block < W.heap.size → (lowm lo W).cell? p = some u → (lowm lo W').cell? p = some u := fun p u hp hc => by
 obtain ⟨h1, h2⟩ := lowm_cell.1 hc
 refine lowm_cell.2 ⟨h1, ?_⟩
 have h3 := hb.block p.block hp
 rw [mask_heap (by omega), mask_heap (by omega)] at h3
 exact (World.cell?_of_block h3).trans h2
theorem keeps_less {lo' : Nat} (h : lo' ≤ lo) : ∀ (p : Addr) u, p.block < W.heap.size → (lowm lo W).cell? p = some u → (lowm lo' W).cell? p = some u := fun p u _ hc => by
 obtain ⟨h1, h2⟩ := lowm_cell.1 hc
 exact lowm_cell.2 ⟨by omega, h2⟩
theorem keeps_set {g : Nat} {cs : Array Value} (h : g < lo) : ∀ (p : Addr) u, p.block < W.heap.size → (lowm lo W).cell? p = some u → (lowm lo (W.setRow g cs)).cell? p = some u := fun p u _ hc => by
 obtain ⟨h1, h2⟩ := lowm_cell.1 hc
 exact lowm_cell.2 ⟨h1, (cell_setRow_other W g cs p (by omega)).trans h2⟩
theorem keeps_out : ∀ (p : Addr) (u : Value), p.block < W.heap.size → (lowm lo W).cell? p = some u → W.cell? p = some u := fun _ _ _ hc => (lowm_cell.1 hc).2
theorem size_mask (hb : Below W.heap.size (mask q W) (mask q W')) : W.heap.size ≤ W'.heap.size := by have := hb.size; rw [mask_size, mask_size] at this; exact this
theorem NewX.on {e : ExprV} (h : NewX lo W e) (hb : Below W.heap.size (mask q W) (mask q W')) (hq : q < lo) : NewX lo W' e := (RdX.cells h (keeps_mask hb hq)).more (size_mask hb)
theorem NewX.less {e : ExprV} {lo' : Nat} (h : NewX lo W e) (hl : lo' ≤ lo) : NewX lo' W e := RdX.cells h (keeps_less hl)
theorem NewX.set {e : ExprV} {g : Nat} {cs : Array Value} (h : NewX lo W e) (hg : g < lo) : NewX lo (W.setRow g cs) e := by
 unfold NewX; rw [size_setRow]; exact RdX.cells h (keeps_set hg)
theorem NewX.rd {e : ExprV} (h : NewX lo W e) : RdX W.heap.size W e := RdX.cells h keeps_out
theorem NewT.on {e : StmtV} (h : NewT lo W e) (hb : Below W.heap.size (mask q W) (mask q W')) (hq : q < lo) : NewT lo W' e := (RdT.cells h (keeps_mask hb hq)).more (size_mask hb)
theorem NewT.less {e : StmtV} {lo' : Nat} (h : NewT lo W e) (hl : lo' ≤ lo) : NewT lo' W e := RdT.cells h (keeps_less hl)
theorem NewT.rd {e : StmtV} (h : NewT lo W e) : RdT W.heap.size W e := RdT.cells h keeps_out
theorem NewTs.on {sp : Sp} {l : List StmtV} (h : NewTs lo W sp l) (hb : Below W.heap.size (mask q W) (mask q W')) (hq : q < lo) : NewTs lo W' sp l := ⟨(h.1.cells (keeps_mask hb hq)).more (size_mask hb), fun s hs => (h.2 s hs).on hb hq⟩
theorem NewTs.less {sp : Sp} {l : List StmtV} {lo' : Nat} (h : NewTs lo W sp l) (hl : lo' ≤ lo) : NewTs lo' W sp l := ⟨h.1.cells (keeps_less hl), fun s hs => (h.2 s hs).less hl⟩
theorem NewTs.rd {sp : Sp} {l : List StmtV} (h : NewTs lo W sp l) : RdTs W.heap.size W sp l := ⟨h.1.cells keeps_out, fun s hs => (h.2 s hs).rd⟩
theorem RowOf.low {α : Type} {n k b off c : Nat} {enc : α → List Value} {l : List α} (h : RowOf n W ⟨some ⟨b, off, none⟩, c⟩ k enc l) (hb : lo ≤ b) : RowOf n (lowm lo W) ⟨some ⟨b, off, none⟩, c⟩ k enc l :=
 ⟨h.cap, h.big, h.few, fun h0 => by
   obtain ⟨b', off', e, hlt, hc⟩ := h.row h0
   have e2 : b = b' := by have := Option.some.inj e; exact (Addr.mk.inj this).1
   exact ⟨b', off', e, hlt, fun j hj r u hu => lowm_cell.2 ⟨by show lo ≤ b'; omega, hc j hj r u hu⟩⟩⟩
end
end Go.Proofs.YtepacjkacjabbaaGreatDoor
namespace Go.Proofs.YtepacjkacjabbaaGreatDoor
open Go Go.RowKit Go.Maps
section
variable {α : Type} {k : Nat} {enc : α → List Value}
theorem flat_set1 (hk : ∀ x, (enc x).length = k) : ∀ (l : List α) (j r : Nat) (v : Value) (x : α) (hj : j < l.length), r < k → (enc (l[j])).set r v = enc x → (l.flatMap enc).set (j * k + r) v = (l.set j x).flatMap enc
 | y :: l, 0, r, v, x, _, hr, h => by
   rw [List.flatMap_cons, List.set_cons_zero, List.flatMap_cons, Nat.zero_mul, Nat.zero_add, List.set_append_left _ _ (by rw [hk]; exact hr)]
   rw [show (y :: l)[0] = y from rfl] at h
   rw [h]
 | y :: l, j + 1, r, v, x, hj, hr, h => by
   rw [List.flatMap_cons, List.set_cons_succ, List.flatMap_cons]
   have e : (j + 1) * k + r = (enc y).length + (j * k + r) := by rw [hk, Nat.add_mul]; omega
   rw [e, List.set_append_right _ _ (Nat.le_add_right _ _), Nat.add_sub_cancel_left, flat_set1 hk l j r v x (by simpa using hj) hr (by simpa using h)]
theorem flat_set6 (hk : ∀ x, (enc x).length = 6) (v0 v1 v2 v3 v4 v5 : Value) : ∀ (l : List α) (j : Nat) (x : α), j < l.length → enc x = [v0, v1, v2, v3, v4, v5] →
   ((((((l.flatMap enc).set (j * 6) v0).set (j * 6 + 1) v1).set (j * 6 + 2) v2).set (j * 6 + 3) v3).set (j * 6 + 4) v4).set (j * 6 + 5) v5 = (l.set j x).flatMap enc
 | y :: l, 0, x, _, h => by
   rw [List.flatMap_cons, List.set_cons_zero, List.flatMap_cons, h]
   have hy := hk y
   match enc y, hy with
   | [a, b, c, d, e, g], _ => simp
 | y :: l, j + 1, x, hj, h => by
   rw [List.flatMap_cons, List.set_cons_succ, List.flatMap_cons, ← flat_set6 hk v0 v1 v2 v3 v4 v5 l j x (by simpa using hj) h]
   have e : (j + 1) * 6 = (enc y).length + j * 6 := by rw [hk, Nat.add_mul]; omega
   rw [e]
   simp only [List.set_append_right _ _ (Nat.le_add_right _ _), Nat.add_assoc, Nat.add_sub_cancel_left]
variable {B : Nat} {W : World} {t : TypeId} {g n c : Nat} {l : List α}
theorem OwnL.frozen (h : OwnL B W t k enc (.slice (some ⟨g, 0, none⟩) n c) l) (j : Nat) : W.frozen? ⟨g, j, none⟩ = false := by
 have hn := h.len
 subst hn
 exact World.ownsRow.frozenAt h j
theorem OwnL.put1 (h : OwnL B W t k enc (.slice (some ⟨g, 0, none⟩) n c) l) (hk : ∀ x, (enc x).length = k) {j r : Nat} {v : Value} {x : α} (hj : j < l.length) (hr : r < k) (hx : (enc (l[j])).set r v = enc x) :
   OwnL B (W.setCell ⟨g, j * k + r, none⟩ v) t k enc (.slice (some ⟨g, 0, none⟩) n c) (l.set j x) := by
 have hn := h.len
 subst hn
 have h1 := (World.ownsRow.stored h (j * k + r) v).1
 unfold OwnL
 rw [List.length_set, ← flat_set1 hk l j r v x hj hr hx]
 exact h1
theorem OwnL.put6 {enc : α → List Value} (h : OwnL B W t 6 enc (.slice (some ⟨g, 0, none⟩) n c) l) (hk : ∀ x, (enc x).length = 6) {j : Nat} {x : α} {v0 v1 v2 v3 v4 v5 : Value} (hj : j < l.length) (hx : enc x = [v0, v1, v2, v3, v4, v5]) :
   OwnL B ((((((W.setCell ⟨g, j * 6, none⟩ v0).setCell ⟨g, j * 6 + 1, none⟩ v1).setCell ⟨g, j * 6 + 2, none⟩ v2).setCell ⟨g, j * 6 + 3, none⟩ v3).setCell ⟨g, j * 6 + 4, none⟩ v4).setCell ⟨g, j * 6 + 5, none⟩ v5) t 6 enc (.slice (some ⟨g, 0, none⟩) n c) (l.set j x) := by
 have hn := h.len
 subst hn
 unfold OwnL
 rw [List.length_set, ← flat_set6 hk v0 v1 v2 v3 v4 v5 l j x hj hx]
 exact (World.ownsRow.stored (World.ownsRow.stored (World.ownsRow.stored (World.ownsRow.stored (World.ownsRow.stored (World.ownsRow.stored h _ v0).1 _ v1).1 _ v2).1 _ v3).1 _ v4).1 _ v5).1
end
theorem clone_expr_nil (w : World) (c : Nat) : Calls Tryz.prog 196 #[.slice none 0 c] w fun o w' => o = .returned (.slice none 0 0) ∧ w' = w := by
 have q22 : ∀ (w : World) (a : Option Addr) (n c n' c' : Nat), (binOp .eql 28 (.slice a n c) (.slice none n' c')).run Tryz.prog w = .ok (.bool a.isNone) w := fun w a n c n' c' => Lib.run_eql_slice_nil w _ _ a n c n' c' Tryz.underlying28
 go_enter Tryz.func196, Tryz.ntmps196
 go_wp2_with fail
 go_ret
 exact ⟨rfl, rfl⟩
theorem clone_stmt_nil (w : World) (c : Nat) : Calls Tryz.prog 70 #[.slice none 0 c] w fun o w' => o = .returned (.slice none 0 0) ∧ w' = w := by
 have q22 : ∀ (w : World) (a : Option Addr) (n c n' c' : Nat), (binOp .eql 33 (.slice a n c) (.slice none n' c')).run Tryz.prog w = .ok (.bool a.isNone) w := fun w a n c n' c' => Lib.run_eql_slice_nil w _ _ a n c n' c' Tryz.underlying33
 go_enter Tryz.func70, Tryz.ntmps70
 go_wp2_with fail
 go_ret
 exact ⟨rfl, rfl⟩
theorem row_none {α : Type} {B k : Nat} {W : World} {sp : Sp} {enc : α → List Value} {l : List α} (h : RowOf B W sp k enc l) (hat : sp.at_ = none) : l = [] := by
 cases l with
 | nil => rfl
 | cons x l => obtain ⟨b, off, e, _⟩ := h.row (by simp); rw [hat] at e; cases e
theorem clone_expr' (w : World) (sp : Sp) (l : List ExprV) (B : Nat) (h : RowOf B w sp 6 ExprV.cells l) (hl : l.length ≤ 1000000) :
   Calls Tryz.prog 196 #[.slice sp.at_ l.length sp.cap] w fun o w' => (∃ sp' : Sp, o = .returned (.slice sp'.at_ l.length sp'.cap) ∧ OwnL w.heap.size w' 30 6 ExprV.cells (.slice sp'.at_ l.length sp'.cap) l ∧ (sp.at_ = none → sp' = Sp.none)) ∧ Below w.heap.size w w' := by
 cases hat : sp.at_ with
 | none =>
   have h0 := row_none h hat
   subst h0
   refine (clone_expr_nil w sp.cap).mono ?_
   rintro o w' ⟨rfl, rfl⟩
   exact ⟨⟨Sp.none, rfl, OwnL.nil, fun _ => rfl⟩, Below.refl _ _⟩
 | some a =>
   have h1 := clone_expr w sp l B h hl
   rw [hat] at h1
   refine h1.mono ?_
   rintro o w' ⟨⟨v, rfl, hv⟩, hb⟩
   obtain ⟨A, c, rfl⟩ := hv.form
   exact ⟨⟨⟨A, c⟩, rfl, hv, fun h => by cases h⟩, hb⟩
theorem clone_stmt' (w : World) (sp : Sp) (l : List StmtV) (B : Nat) (h : RowOf B w sp 6 StmtV.cells l) (hl : l.length ≤ 1000000) :
   Calls Tryz.prog 70 #[.slice sp.at_ l.length sp.cap] w fun o w' => (∃ sp' : Sp, o = .returned (.slice sp'.at_ l.length sp'.cap) ∧ OwnL w.heap.size w' 43 6 StmtV.cells (.slice sp'.at_ l.length sp'.cap) l ∧ (sp.at_ = none → sp' = Sp.none)) ∧ Below w.heap.size w w' := by
 cases hat : sp.at_ with
 | none =>
   have h0 := row_none h hat
   subst h0
   refine (clone_stmt_nil w sp.cap).mono ?_
   rintro o w' ⟨rfl, rfl⟩
   exact ⟨⟨Sp.none, rfl, OwnL.nil, fun _ => rfl⟩, Below.refl _ _⟩
 | some a =>
   have h1 := clone_stmt w sp l B h hl
   rw [hat] at h1
   refine h1.mono ?_
   rintro o w' ⟨⟨v, rfl, hv⟩, hb⟩
   obtain ⟨A, c, rfl⟩ := hv.form
   exact ⟨⟨⟨A, c⟩, rfl, hv, fun h => by cases h⟩, hb⟩
end Go.Proofs.YtepacjkacjabbaaGreatDoor
namespace Go.Proofs.YtepacjkacjabbaaGreatDoor
open Go
mutual
def bareX : ExprV → ExprV
 | .mk k o v w n _ l => .mk k o v w n Sp.none (bareXs l)
def bareXs : List ExprV → List ExprV
 | [] => []
 | e :: l => bareX e :: bareXs l
end
theorem bareXs_eq : ∀ l : List ExprV, bareXs l = l.map bareX
 | [] => by rw [bareXs]; rfl
 | e :: l => by rw [bareXs, bareXs_eq l]; rfl
theorem bareX_mk (k o v w : Int) (n : ByteArray) (sp : Sp) (l : List ExprV) : bareX (.mk k o v w n sp l) = .mk k o v w n Sp.none (l.map bareX) := by rw [bareX, bareXs_eq]
mutual
def bareT : StmtV → StmtV
 | .mk k n _ ex b _ th _ el => .mk k n Sp.none (bareXs ex) b Sp.none (bareTs th) Sp.none (bareTs el)
def bareTs : List StmtV → List StmtV
 | [] => []
 | s :: l => bareT s :: bareTs l
end
theorem bareTs_eq : ∀ l : List StmtV, bareTs l = l.map bareT
 | [] => by rw [bareTs]; rfl
 | e :: l => by rw [bareTs, bareTs_eq l]; rfl
theorem bareT_mk (k b : Int) (n : ByteArray) (es ts os : Sp) (ex : List ExprV) (th el : List StmtV) : bareT (.mk k n es ex b ts th os el) = .mk k n Sp.none (ex.map bareX) b Sp.none (th.map bareT) Sp.none (el.map bareT) := by rw [bareT, bareXs_eq, bareTs_eq, bareTs_eq]
def bareI (i : InitV) : InitV := ⟨i.block, bareX i.value⟩
def bareQ (q : ProcV) : ProcV := ⟨q.name, Sp.none, q.params, Sp.none, q.body.map bareT⟩
def bareP (p : ProgV) : ProgV :=
 { blocks := p.blocks, width := p.width, is := Sp.none, inputs := p.inputs, gs := Sp.none, ghosts := p.ghosts, vs := Sp.none, vars := p.vars, «as» := Sp.none, arrays := p.arrays, require := bareX p.require, ns := Sp.none, inits := p.inits.map bareI, rs := Sp.none, procs := p.procs.map bareQ, ws := Sp.none, work := p.work.map bareT, cs := Sp.none, recover := p.recover.map bareT, invariant := bareX p.invariant }
section
variable (e : ExprV) (s : StmtV)
theorem bareX_kind : (bareX e).kind = e.kind := by cases e; rw [bareX_mk]; rfl
theorem bareX_op : (bareX e).op = e.op := by cases e; rw [bareX_mk]; rfl
theorem bareX_value : (bareX e).value = e.value := by cases e; rw [bareX_mk]; rfl
theorem bareX_width : (bareX e).width = e.width := by cases e; rw [bareX_mk]; rfl
theorem bareX_name : (bareX e).name = e.name := by cases e; rw [bareX_mk]; rfl
theorem bareX_subs : (bareX e).subs = e.subs.map bareX := by cases e; rw [bareX_mk]; rfl
theorem bareT_kind : (bareT s).kind = s.kind := by cases s; rw [bareT_mk]; rfl
theorem bareT_name : (bareT s).name = s.name := by cases s; rw [bareT_mk]; rfl
theorem bareT_bound : (bareT s).bound = s.bound := by cases s; rw [bareT_mk]; rfl
theorem bareT_exprs : (bareT s).exprs = s.exprs.map bareX := by cases s; rw [bareT_mk]; rfl
theorem bareT_thn : (bareT s).thn = s.thn.map bareT := by cases s; rw [bareT_mk]; rfl
theorem bareT_els : (bareT s).els = s.els.map bareT := by cases s; rw [bareT_mk]; rfl
end
section
variable (p : ProgV) (E : Env)
theorem findW_bare (s : ByteArray) : findW (bareP p) E s = findW p E s := rfl
theorem rawWidth_bare (k op wd : Int) (nm : ByteArray) (s0 s1 : Int) : rawWidth (bareP p) E k op wd nm s0 s1 = rawWidth p E k op wd nm s0 s1 := rfl
end
theorem ExprV.ind {M : ExprV → Prop} (h : ∀ k o v w n sp l, (∀ s ∈ l, M s) → M (.mk k o v w n sp l)) : ∀ e, M e := fun e => by
 refine ExprV.rec (motive_1 := M) (motive_2 := fun l => ∀ s ∈ l, M s) (fun k o v w n sp l ih => h k o v w n sp l ih) (fun s hs => by cases hs) (fun a l ha hl s hs => ?_) e
 rcases List.mem_cons.1 hs with rfl | hs
 · exact ha
 · exact hl s hs
theorem StmtV.ind {M : StmtV → Prop} (h : ∀ k n es ex b ts th os el, (∀ s ∈ th, M s) → (∀ s ∈ el, M s) → M (.mk k n es ex b ts th os el)) : ∀ s, M s := fun s => by
 refine StmtV.rec (motive_1 := M) (motive_2 := fun l => ∀ s ∈ l, M s) (fun k n es ex b ts th os el i1 i2 => h k n es ex b ts th os el i1 i2) (fun s hs => by cases hs) (fun a l ha hl s hs => ?_) s
 rcases List.mem_cons.1 hs with rfl | hs
 · exact ha
 · exact hl s hs
theorem flatMap_same {α β : Type} {f g : α → List β} : ∀ {l : List α}, (∀ x ∈ l, f x = g x) → l.flatMap f = l.flatMap g
 | [], _ => rfl
 | x :: l, h => by rw [List.flatMap_cons, List.flatMap_cons, h x (List.mem_cons_self ..), flatMap_same fun y hy => h y (List.mem_cons_of_mem _ hy)]
theorem map_congr_mem {α β : Type} {f g : α → β} {l : List α} (h : ∀ x ∈ l, f x = g x) : l.map f = l.map g := List.map_congr_left h
section
variable (p : ProgV) (E : Env)
theorem subW_map {l : List ExprV} (h : ∀ s ∈ l, widthE (bareP p) E (bareX s) = widthE p E s) (i : Nat) : subW (bareP p) E (l.map bareX) i = subW p E l i := by
 unfold subW
 rw [List.getElem?_map]
 cases hi : l[i]? with
 | none => rfl
 | some x => exact h x (List.mem_of_getElem? hi)
theorem widthE_bare (e : ExprV) : widthE (bareP p) E (bareX e) = widthE p E e := by
 induction e using ExprV.ind with
 | h k o v w n sp l ih =>
   rw [widthE_eq, widthE_eq, bareX_kind, bareX_op, bareX_width, bareX_name, bareX_subs, rawWidth_bare, subW_map (l := (ExprV.mk k o v w n sp l).subs) p E ih, subW_map (l := (ExprV.mk k o v w n sp l).subs) p E ih]
theorem subW_bare (l : List ExprV) (i : Nat) : subW (bareP p) E (l.map bareX) i = subW p E l i := subW_map p E (fun s _ => widthE_bare p E s) i
theorem shapeB_bare (e : ExprV) : shapeB (bareX e) = shapeB e := by
 unfold shapeB
 rw [bareX_kind, bareX_op, bareX_value, bareX_width, bareX_name, bareX_subs, List.length_map]
theorem widthsB_bare (e : ExprV) : widthsB (bareP p) E (bareX e) = widthsB p E e := by
 unfold widthsB
 rw [bareX_kind, bareX_value, bareX_width, bareX_subs, List.length_map, subW_bare, subW_bare, subW_bare]
theorem limitP_bare (a b : Int) : limitP (bareP p) a b = limitP p a b := by
 unfold limitP
 rw [show (bareP p).procs.length = p.procs.length from List.length_map _]
theorem exprE_bare (wh : Int) (e : ExprV) (d : Nat) : exprE (bareP p) E wh (bareX e) d = exprE p E wh e d := by
 unfold exprE namesB
 rw [bareX_kind, bareX_name, shapeB_bare, widthsB_bare, limitP_bare, findW_bare]
theorem exprC_bare (wh : Int) (e : ExprV) : ∀ d, exprC (bareP p) E wh (bareX e) d = exprC p E wh e d := by
 induction e using ExprV.ind with
 | h k o v w n sp l ih =>
   intro d
   rw [exprC_eq, exprC_eq, exprE_bare, exprsC_eq, exprsC_eq, bareX_subs, List.flatMap_map]
   congr 1
   exact flatMap_same fun s hs => ih s hs (d + 1)
theorem exprsC_bare (wh : Int) (l : List ExprV) (d : Nat) : exprsC (bareP p) E wh (l.map bareX) d = exprsC p E wh l d := by
 rw [exprsC_eq, exprsC_eq, List.flatMap_map]
 exact flatMap_same fun s _ => exprC_bare p E wh s d
theorem formB_bare (s : StmtV) : formB (bareT s) = formB s := by
 unfold formB
 rw [bareT_kind, bareT_bound, bareT_name, bareT_exprs, bareT_thn, bareT_els, List.length_map, List.length_map, List.length_map]
theorem numbered_map {α β : Type} (f : β → ByteArray) (g : α → β) : ∀ (l : List α) (n : Nat), numbered f (l.map g) n = numbered (fun x => f (g x)) l n
 | [], _ => rfl
 | x :: l, n => by rw [List.map_cons, numbered, numbered, numbered_map f g l]
theorem procsAt_bare : procsAt (bareP p) = procsAt p := by
 unfold procsAt
 rw [show (bareP p).procs = p.procs.map bareQ from rfl, numbered_map]
 rfl
theorem bareT_pre (s : StmtV) : (bareT s).pre = s.pre.map bareT := by
 induction s using StmtV.ind with
 | h k n es ex b ts th os el i1 i2 =>
   rw [StmtV.pre_eq, StmtV.pre_eq, List.map_cons, List.map_append, bareT_thn, bareT_els, List.flatMap_map, List.flatMap_map, List.map_flatMap, List.map_flatMap]
   congr 2
   · exact flatMap_same fun s hs => i1 s hs
   · exact flatMap_same fun s hs => i2 s hs
theorem pres_bare (l : List StmtV) : (l.map bareT).flatMap StmtV.pre = (l.flatMap StmtV.pre).map bareT := by
 rw [List.flatMap_map, List.map_flatMap]
 exact flatMap_same fun s _ => bareT_pre s
theorem callsN_bare (l : List StmtV) : callsN (l.map bareT) = callsN l := by
 unfold callsN
 rw [pres_bare, List.foldl_map]
 simp only [bareT_kind, bareT_name]
theorem nextP_bare (i : Nat) : nextP (bareP p) i = nextP p i := by
 unfold nextP
 rw [procsAt_bare, show (bareP p).procs[i]? = (p.procs[i]?).map bareQ from List.getElem?_map]
 cases p.procs[i]? with
 | none => rfl
 | some q => simp only [Option.map_some]; rw [show (bareQ q).body = q.body.map bareT from rfl, callsN_bare]
theorem leadsF_bare (to : Nat) : ∀ (n : Nat) (seen todo : List Nat), leadsF (bareP p) to n seen todo = leadsF p to n seen todo
 | 0, _, _ => rfl
 | _ + 1, _, [] => rfl
 | n + 1, seen, i :: todo => by
   rw [leadsF, leadsF, leadsF_bare to n, leadsF_bare to n, nextP_bare]
theorem leadsB_bare (a b : Nat) : leadsB (bareP p) a b = leadsB p a b := by
 unfold leadsB fuelP
 rw [leadsF_bare, show (bareP p).procs.length = p.procs.length from List.length_map _]
 simp only [nextP_bare]
theorem argsL_bare : ∀ (ds : List DeclV) (l : List ExprV), argsL (bareP p) E ds (l.map bareX) = argsL p E ds l
 | [], _ => by simp [argsL]
 | _ :: _, [] => by simp [argsL]
 | d :: ds, e :: l => by rw [List.map_cons, argsL, argsL, widthE_bare, argsL_bare ds l]
theorem argsB_bare (i : Nat) (l : List ExprV) : argsB (bareP p) E i (l.map bareX) = argsB p E i l := by
 unfold argsB
 rw [show (bareP p).procs[i]? = (p.procs[i]?).map bareQ from List.getElem?_map]
 cases p.procs[i]? with
 | none => rfl
 | some q =>
   simp only [Option.map_some, List.length_map]
   rw [show (bareQ q).params = q.params from rfl, argsL_bare]
theorem wrongE_bare (s : StmtV) : wrongE (bareP p) E (bareT s) = wrongE p E s := by
 unfold wrongE
 rw [bareT_kind, bareT_name, bareT_bound, bareT_exprs, subW_bare, subW_bare, procsAt_bare, findW_bare]
 simp only [argsB_bare, leadsB_bare]
 rfl
theorem stmtE_bare (s : StmtV) (d : Nat) : stmtE (bareP p) E (bareT s) d = stmtE p E s d := by
 unfold stmtE
 rw [formB_bare, wrongE_bare, limitP_bare]
theorem stmtC_bare (s : StmtV) : ∀ d, stmtC (bareP p) E (bareT s) d = stmtC p E s d := by
 induction s using StmtV.ind with
 | h k n es ex b ts th os el i1 i2 =>
   intro d
   rw [stmtC_eq, stmtC_eq, stmtE_bare, bareT_exprs, bareT_thn, bareT_els, exprsC_bare, stmtsC_eq, stmtsC_eq, stmtsC_eq, stmtsC_eq, List.flatMap_map, List.flatMap_map]
   congr 2
   congr 1
   · exact flatMap_same fun s hs => i1 s hs (d + 1)
   · exact flatMap_same fun s hs => i2 s hs (d + 1)
theorem stmtsC_bare (l : List StmtV) (d : Nat) : stmtsC (bareP p) E (l.map bareT) d = stmtsC p E l d := by
 rw [stmtsC_eq, stmtsC_eq, List.flatMap_map]
 exact flatMap_same fun s _ => stmtC_bare p E s d
theorem nameB_bare (s : List UInt8) : nameB (bareP p) s = nameB p s := by
 unfold nameB
 rw [show (bareP p).procs.length = p.procs.length from List.length_map _]
theorem declE_bare (before : List ByteArray) (a : Bool) (d : DeclV) : declE (bareP p) before a d = declE p before a d := by
 unfold declE
 rw [nameB_bare]
theorem declsC_bare (a : Bool) : ∀ (l : List DeclV) (before : List ByteArray), declsC (bareP p) a l before = declsC p a l before
 | [], _ => rfl
 | d :: l, before => by rw [declsC, declsC, declE_bare, declsC_bare a l]
theorem inside_bare (i : Nat) : inside (bareP p) i = inside p i := by
 unfold inside
 rw [show (bareP p).procs[i]? = (p.procs[i]?).map bareQ from List.getElem?_map]
 cases p.procs[i]? <;> rfl
theorem procC_bare (before : List ByteArray) (i : Nat) (q : ProcV) : procC (bareP p) before i (bareQ q) = procC p before i q := by
 unfold procC procE
 rw [nameB_bare, declsC_bare, inside_bare, show (bareQ q).body = q.body.map bareT from rfl, stmtsC_bare]
 rfl
theorem procsC_bare : ∀ (l : List ProcV) (i : Nat) (before : List ByteArray), procsC (bareP p) (l.map bareQ) i before = procsC p l i before
 | [], _, _ => rfl
 | q :: l, i, before => by rw [List.map_cons, procsC, procsC, procC_bare, procsC_bare l]; rfl
theorem initsC_bare : ∀ (l : List InitV) (before : List Int), initsC (bareP p) (l.map bareI) before = initsC p l before
 | [], _ => rfl
 | x :: l, before => by
   rw [List.map_cons, initsC, initsC, initsC_bare l]
   have e1 : initE (bareP p) before (bareI x) = initE p before x := by
     unfold initE
     rw [show (bareI x).value = bareX x.value from rfl, widthE_bare]
     rfl
   rw [e1, show (bareI x).value = bareX x.value from rfl, exprC_bare]
   rfl
theorem programE_bare (k : Int) : programE (bareP p) k = programE p k := by
 unfold programE
 rw [limitP_bare, limitP_bare, show (bareP p).procs.length = p.procs.length from List.length_map _]
 rfl
theorem codesP_bare (k : Int) : codesP (bareP p) k = codesP p k := by
 unfold codesP
 rw [programE_bare, declsC_bare, declsC_bare, declsC_bare, declsC_bare]
 rw [show (bareP p).require = bareX p.require from rfl, show (bareP p).invariant = bareX p.invariant from rfl, show (bareP p).inits = p.inits.map bareI from rfl, show (bareP p).procs = p.procs.map bareQ from rfl, show (bareP p).work = p.work.map bareT from rfl, show (bareP p).recover = p.recover.map bareT from rfl]
 rw [exprC_bare, exprC_bare, initsC_bare, procsC_bare, stmtsC_bare, stmtsC_bare]
 rfl
end
end Go.Proofs.YtepacjkacjabbaaGreatDoor
namespace Go.Proofs.YtepacjkacjabbaaGreatDoor
open Go
abbrev NmF := Int → ByteArray → ByteArray
mutual
def nmX (g : NmF) : ExprV → ExprV
 | .mk k o v w n sp l => .mk k o v w (g k n) sp (nmXs g l)
def nmXs (g : NmF) : List ExprV → List ExprV
 | [] => []
 | e :: l => nmX g e :: nmXs g l
end
theorem nmXs_eq (g : NmF) : ∀ l : List ExprV, nmXs g l = l.map (nmX g)
 | [] => by rw [nmXs]; rfl
 | e :: l => by rw [nmXs, nmXs_eq g l]; rfl
theorem nmX_mk (g : NmF) (k o v w : Int) (n : ByteArray) (sp : Sp) (l : List ExprV) : nmX g (.mk k o v w n sp l) = .mk k o v w (g k n) sp (l.map (nmX g)) := by rw [nmX, nmXs_eq]
mutual
def nmT (g h : NmF) : StmtV → StmtV
 | .mk k n es ex b ts th os el => .mk k (h k n) es (ex.map (nmX g)) b ts (nmTs g h th) os (nmTs g h el)
def nmTs (g h : NmF) : List StmtV → List StmtV
 | [] => []
 | s :: l => nmT g h s :: nmTs g h l
end
theorem nmTs_eq (g h : NmF) : ∀ l : List StmtV, nmTs g h l = l.map (nmT g h)
 | [] => by rw [nmTs]; rfl
 | e :: l => by rw [nmTs, nmTs_eq g h l]; rfl
theorem nmT_mk (g h : NmF) (k b : Int) (n : ByteArray) (es ts os : Sp) (ex : List ExprV) (th el : List StmtV) : nmT g h (.mk k n es ex b ts th os el) = .mk k (h k n) es (ex.map (nmX g)) b ts (th.map (nmT g h)) os (el.map (nmT g h)) := by rw [nmT, nmTs_eq, nmTs_eq]
def nmI : NmF := fun _ n => n
theorem nmX_id (e : ExprV) : nmX nmI e = e := by
 induction e using ExprV.ind with
 | h k o v w n sp l ih =>
   rw [nmX_mk, map_congr_mem (g := id) ih, List.map_id]
   rfl
theorem nmT_id (s : StmtV) : nmT nmI nmI s = s := by
 induction s using StmtV.ind with
 | h k n es ex b ts th os el i1 i2 =>
   rw [nmT_mk, map_congr_mem (g := id) i1, map_congr_mem (g := id) i2, map_congr_mem (f := nmX nmI) (g := id) fun e _ => nmX_id e, List.map_id, List.map_id, List.map_id]
   rfl
def SmX (g : NmF) (e e' : ExprV) : Prop := bareX e' = bareX (nmX g e)
def SmT (g h : NmF) (s s' : StmtV) : Prop := bareT s' = bareT (nmT g h s)
theorem ext_map {α β γ : Type} (f : β → γ) (f2 : α → γ) {l : List α} {l' : List β} (len : l'.length = l.length) (h : ∀ i (h1 : i < l.length) (h2 : i < l'.length), f l'[i] = f2 l[i]) : l'.map f = l.map f2 := by
 refine List.ext_getElem (by simpa using len) fun i h1 h2 => ?_
 rw [List.getElem_map, List.getElem_map]
 exact h i (by simpa using h2) (by simpa using h1)
theorem SmX.mk {g : NmF} {k o v w : Int} {nm : ByteArray} {sp sp' : Sp} {l l' : List ExprV} (len : l'.length = l.length) (subs : ∀ i (h : i < l.length) (h' : i < l'.length), SmX g l[i] l'[i]) : SmX g (.mk k o v w nm sp l) (.mk k o v w (g k nm) sp' l') := by
 unfold SmX
 rw [nmX_mk, bareX_mk, bareX_mk, List.map_map, ext_map bareX (bareX ∘ nmX g) len subs]
def SmXs (g : NmF) (l l' : List ExprV) : Prop := l'.map bareX = l.map fun e => bareX (nmX g e)
def SmTs (g h : NmF) (l l' : List StmtV) : Prop := l'.map bareT = l.map fun s => bareT (nmT g h s)
theorem SmXs.of {g : NmF} {l l' : List ExprV} (len : l'.length = l.length) (subs : ∀ i (h : i < l.length) (h' : i < l'.length), SmX g l[i] l'[i]) : SmXs g l l' := ext_map bareX (fun e => bareX (nmX g e)) len subs
theorem SmTs.of {g h : NmF} {l l' : List StmtV} (len : l'.length = l.length) (subs : ∀ i (h1 : i < l.length) (h' : i < l'.length), SmT g h l[i] l'[i]) : SmTs g h l l' := ext_map bareT (fun e => bareT (nmT g h e)) len subs
theorem SmXs.len {g : NmF} {l l' : List ExprV} (h : SmXs g l l') : l'.length = l.length := by have := congrArg List.length h; simpa using this
theorem SmTs.len {g h : NmF} {l l' : List StmtV} (hh : SmTs g h l l') : l'.length = l.length := by have := congrArg List.length hh; simpa using this
theorem SmT.mk {g h : NmF} {k b : Int} {nm : ByteArray} {es es' ts ts' os os' : Sp} {ex ex' : List ExprV} {th th' el el' : List StmtV} (exs : SmXs g ex ex') (hth : SmTs g h th th') (hel : SmTs g h el el') :
   SmT g h (.mk k nm es ex b ts th os el) (.mk k (h k nm) es' ex' b ts' th' os' el') := by
 unfold SmT
 unfold SmXs at exs
 unfold SmTs at hth hel
 rw [nmT_mk, bareT_mk, bareT_mk, List.map_map, List.map_map, List.map_map, exs, hth, hel]
 rfl
theorem SmX.same {e e' : ExprV} (h : SmX nmI e e') : bareX e' = bareX e := by unfold SmX at h; rwa [nmX_id] at h
theorem SmTs.same {l l' : List StmtV} (h : SmTs nmI nmI l l') : l'.map bareT = l.map bareT := by
 unfold SmTs at h
 rw [h]
 exact List.map_congr_left fun s _ => by rw [nmT_id]
def chX (f t : ByteArray) : NmF := fun k n => if k = 2 ∨ k = 3 then (if n = f then t else n) else n
def chT (f t : ByteArray) : NmF := fun k n => if k = 1 ∨ k = 2 then (if n = f then t else n) else n
def tX (τ : ByteArray → ByteArray) : NmF := fun k n => if k = 2 ∨ k = 3 then τ n else n
def tT (τ : ByteArray → ByteArray) : NmF := fun k n => if k = 1 ∨ k = 2 then τ n else n
end Go.Proofs.YtepacjkacjabbaaGreatDoor
namespace Go.Proofs.YtepacjkacjabbaaGreatDoor
open Go Go.RowKit
def numE (x w : Int) : ExprV := .mk 1 0 x w ⟨#[]⟩ Sp.none []
def nameE (s : ByteArray) : ExprV := .mk 2 0 0 0 s Sp.none []
def setT (sp : Sp) (s : ByteArray) (e : ExprV) : StmtV := .mk 1 s sp [e] 0 Sp.none [] Sp.none []
def writeT (sp : Sp) (b e : ExprV) : StmtV := .mk 3 ⟨#[]⟩ sp [b, e] 0 Sp.none [] Sp.none []
def callT (sp : Sp) (s : ByteArray) (l : List ExprV) : StmtV := .mk 8 s sp l 0 Sp.none [] Sp.none []
def xB : ByteArray := ⟨#[120]⟩
end Go.Proofs.YtepacjkacjabbaaGreatDoor
namespace Go.Proofs.YtepacjkacjabbaaGreatDoor
open Go Go.RowKit
theorem row_one {α : Type} {W : World} {b k : Nat} {t : TypeId} {fr : Nat × Nat} {enc : α → List Value} {x : α} (h : W.heap[b]? = some (.cells (enc x).toArray t fr)) : RowOf W.heap.size W ⟨some ⟨b, 0, none⟩, 1⟩ k enc [x] := by
 refine ⟨Nat.le_refl _, by simp [maxLen], by simp, fun _ => ⟨b, 0, rfl, (Array.getElem?_eq_some_iff.1 h).1, fun j hj r u hu => ?_⟩⟩
 have : j = 0 := by simp at hj; omega
 subst this
 simp only [List.getElem_cons_zero] at hu
 simp [World.cell?, h, hu]
theorem row_two {α : Type} {W : World} {b k : Nat} {t : TypeId} {fr : Nat × Nat} {enc : α → List Value} {x y : α} (hk : (enc x).length = k) (h : W.heap[b]? = some (.cells (enc x ++ enc y).toArray t fr)) : RowOf W.heap.size W ⟨some ⟨b, 0, none⟩, 2⟩ k enc [x, y] := by
 refine ⟨Nat.le_refl _, by simp [maxLen], by simp, fun _ => ⟨b, 0, rfl, (Array.getElem?_eq_some_iff.1 h).1, fun j hj r u hu => ?_⟩⟩
 have hj2 : j = 0 ∨ j = 1 := by simp at hj; omega
 rcases hj2 with rfl | rfl
 · simp only [List.getElem_cons_zero] at hu
   have hr : r < (enc x).length := (List.getElem?_eq_some_iff.1 hu).1
   simp [World.cell?, h, List.getElem?_append_left hr, hu]
 · simp only [List.getElem_cons_succ, List.getElem_cons_zero] at hu
   have e : (enc x ++ enc y)[k + r]? = some u := by rw [List.getElem?_append_right (by omega)]; rw [hk, Nat.add_sub_cancel_left]; exact hu
   simp [World.cell?, h, e]
def NowX (W : World) (e : ExprV) : Prop := RdX W.heap.size W e
def NowT (W : World) (s : StmtV) : Prop := RdT W.heap.size W s
theorem NowX.on {W W' : World} {e : ExprV} (h : NowX W e) (hb : Below W.heap.size W W') : NowX W' e := (RdX.stays h hb).more hb.size
theorem NowT.on {W W' : World} {s : StmtV} (h : NowT W s) (hb : Below W.heap.size W W') : NowT W' s := (RdT.stays h hb).more hb.size
theorem num_now (W : World) (x wd : Int) (hx : 0 ≤ x ∧ x ≤ 4294967295) (hw : (Lit.int .i64 wd).wf = true) : NowX W (numE x wd) :=
 .mk _ (show (0 : Int) ≤ 1 ∧ (1 : Int) ≤ 255 by decide) (show (0 : Int) ≤ 0 ∧ (0 : Int) ≤ 255 by decide) hx hw (show (0 : Nat) ≤ maxLen by decide) RowOf.nil (fun _ h => absurd h (by simp [numE, ExprV.subs]))
theorem name_now (W : World) (s : ByteArray) (hs : s.size ≤ maxLen) : NowX W (nameE s) :=
 .mk _ (show (0 : Int) ≤ 2 ∧ (2 : Int) ≤ 255 by decide) (show (0 : Int) ≤ 0 ∧ (0 : Int) ≤ 255 by decide) (show (0 : Int) ≤ 0 ∧ (0 : Int) ≤ 4294967295 by decide) (show (Lit.int .i64 0).wf = true by decide) hs RowOf.nil (fun _ h => absurd h (by simp [nameE, ExprV.subs]))
theorem alloc2 (w : World) (o1 o2 : Obj) : ((w.alloc o1).alloc o2).heap[w.heap.size]? = some o1 ∧ ((w.alloc o1).alloc o2).heap[w.heap.size + 1]? = some o2 ∧ ((w.alloc o1).alloc o2).heap.size = w.heap.size + 2 ∧ Below w.heap.size w ((w.alloc o1).alloc o2) := by
 have h1 := World.alloc_heap_new w o1
 have h2 := World.alloc_heap_new (w.alloc o1) o2
 rw [World.size_alloc] at h2
 refine ⟨(Below.heap_alloc _ _ _ (by simp)).trans h1, h2, by simp, ((Below.refl _ _).alloc (Nat.le_refl _) _).alloc (by simp) _⟩
theorem alloc3 (w : World) (o1 o2 o3 : Obj) : (((w.alloc o1).alloc o2).alloc o3).heap[w.heap.size]? = some o1 ∧ (((w.alloc o1).alloc o2).alloc o3).heap[w.heap.size + 1]? = some o2 ∧ (((w.alloc o1).alloc o2).alloc o3).heap[w.heap.size + 1 + 1]? = some o3 ∧ (((w.alloc o1).alloc o2).alloc o3).heap.size = w.heap.size + 3 ∧ Below w.heap.size w (((w.alloc o1).alloc o2).alloc o3) := by
 obtain ⟨h1, h2, h3, h4⟩ := alloc2 w o1 o2
 have h5 := World.alloc_heap_new ((w.alloc o1).alloc o2) o3
 rw [h3] at h5
 refine ⟨(Below.heap_alloc _ _ _ (by omega)).trans h1, (Below.heap_alloc _ _ _ (by omega)).trans h2, h5, by simp, h4.alloc (by omega) _⟩
theorem alloc4 (w : World) (o1 o2 o3 o4 : Obj) : ((((w.alloc o1).alloc o2).alloc o3).alloc o4).heap[w.heap.size]? = some o1 ∧ ((((w.alloc o1).alloc o2).alloc o3).alloc o4).heap[w.heap.size + 1]? = some o2 ∧ ((((w.alloc o1).alloc o2).alloc o3).alloc o4).heap[w.heap.size + 1 + 1]? = some o3 ∧ ((((w.alloc o1).alloc o2).alloc o3).alloc o4).heap[w.heap.size + 1 + 1 + 1]? = some o4 ∧ ((((w.alloc o1).alloc o2).alloc o3).alloc o4).heap.size = w.heap.size + 4 ∧ Below w.heap.size w ((((w.alloc o1).alloc o2).alloc o3).alloc o4) := by
 obtain ⟨h1, h2, h3, h4, h6⟩ := alloc3 w o1 o2 o3
 have h5 := World.alloc_heap_new (((w.alloc o1).alloc o2).alloc o3) o4
 rw [h4] at h5
 refine ⟨(Below.heap_alloc _ _ _ (by omega)).trans h1, (Below.heap_alloc _ _ _ (by omega)).trans h2, (Below.heap_alloc _ _ _ (by omega)).trans h3, h5, by simp, h6.alloc (by omega) _⟩
theorem RdTs.on {W W' : World} {sp : Sp} {l : List StmtV} (h : RdTs W.heap.size W sp l) (hb : Below W.heap.size W W') : RdTs W'.heap.size W' sp l := (h.below hb).more hb.size
theorem RdP.on {W W' : World} {p : ProgV} (h : RdP W.heap.size W p) (hb : Below W.heap.size W W') : RdP W'.heap.size W' p := (h.below hb).more hb.size
end Go.Proofs.YtepacjkacjabbaaGreatDoor
