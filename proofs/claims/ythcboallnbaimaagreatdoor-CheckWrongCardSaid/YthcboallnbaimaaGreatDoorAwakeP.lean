/- Chapter 32's law: awake: what its nine examples need. -/
import Derived.Test.YthcboallnbaimaaGreatDoorMake
import Derived.ArgAppend
namespace Go.Proofs.YthcboallnbaimaaGreatDoor
open Go Go.RowKit Go.Maps
theorem small_names (v ws : Sp) (l : List StmtV) : NamesOk (smallP v ws l) :=
  ⟨fun d h => by
    have : d = ⟨xB, 3, 0⟩ := by simpa [smallP] using h
    rw [this]; decide, fun q h => absurd h (by simp [smallP])⟩
section
variable (v ws a b c d : Sp)
theorem fit0 : Fit (smallP v ws []) := fit_of (k := 4) (by kernel_rfl) (by decide) (small_names _ _ _)
theorem fit1 : Fit (smallP v ws [setT a xB (numE 1 3), writeT b (numE 0 1) (nameE xB)]) := fit_of (k := 9) (by kernel_rfl) (by decide) (small_names _ _ _)
theorem fit2 (s : ByteArray) : Fit (smallP v ws [setT a s (numE 1 2)]) := fit_of (k := 6) (by kernel_rfl) (by decide) (small_names _ _ _)
theorem fit4 (rs : Sp) : Fit (loopP v ws a b rs) := fit_of (k := 6) (by kernel_rfl) (by decide) ⟨(small_names v ws []).decls, fun q h => by
  have : q = ⟨⟨#[112]⟩, Sp.none, [], a, [callT b ⟨#[112]⟩ []]⟩ := by simpa [loopP] using h
  rw [this]; exact ⟨show (1 : Nat) ≤ 4294967200 by decide, fun d h => absurd h (by simp)⟩⟩
theorem fit5 : Fit (smallP v ws [whileT a]) := fit_of (k := 6) (by kernel_rfl) (by decide) (small_names _ _ _)
theorem fit6 : Fit (requireP v ws) := fit_of (k := 4) (by kernel_rfl) (by decide) ⟨(small_names v ws []).decls, fun q h => absurd h (by simp [requireP, smallP])⟩
theorem fit7 : Fit (smallP v ws [setT b xB (castE a (numE 5 2))]) := fit_of (k := 7) (by kernel_rfl) (by decide) (small_names _ _ _)
theorem fit8 : Fit (twiceP v ws) := fit_of (k := 5) (by kernel_rfl) (by decide) ⟨fun d h => by
  have h2 : d = ⟨xB, 3, 0⟩ ∨ d = ⟨xB, 1, 0⟩ := by simpa [twiceP, smallP] using h
  rcases h2 with rfl | rfl <;> decide, fun q h => absurd h (by simp [twiceP, smallP])⟩
end
/-- A program in its box. -/
structure InBox (W : World) (q : Nat) (p : ProgV) : Prop where
  box : W.heap[q]? = some (.cells p.arr 39 (0, 0))
  rd : RdP W.heap.size W p
theorem InBox.on {W W' : World} {q : Nat} {p : ProgV} (h : InBox W q p) (hb : Below W.heap.size W W') : InBox W' q p :=
  ⟨(hb.block _ (Array.getElem?_eq_some_iff.1 h.box).1).trans h.box, h.rd.on hb⟩
theorem InBox.new {W : World} {p : ProgV} (h : RdP W.heap.size W p) : InBox (W.alloc (.cells p.arr 39)) W.heap.size p :=
  ⟨World.alloc_heap_new _ _, h.on ((Below.refl _ _).alloc (Nat.le_refl _) _)⟩
theorem InBox.frozen {W : World} {q : Nat} {p : ProgV} (h : InBox W q p) (i : Nat) : W.frozen? ⟨q, i, none⟩ = false := by simp [World.frozen?, h.box]
theorem none_rows {n : Nat} {W : World} : RdDs n W Sp.none [] := ⟨RowOf.nil, fun _ h => absurd h (by simp)⟩
theorem none_stmts {n : Nat} {W : World} : RdTs n W Sp.none [] := ⟨RowOf.nil, fun _ h => absurd h (by simp)⟩
/-- The program that calls itself, laid into its box. -/
theorem loop_made {W : World} {q pb bb : Nat} {v ws : Sp} (hx : W.heap[q]? = some (.cells (smallP v ws []).arr 39 (0, 0))) (hr : RdP q W (smallP v ws [])) (hb : W.heap[bb]? = some (.cells (callT Sp.none ⟨#[112]⟩ []).cells.toArray 49 (0, 0))) (hp : W.heap[pb]? = some (.cells #[.string ⟨#[112]⟩, .slice none 0 0, .slice (some ⟨bb, 0, none⟩) 1 1] 47 (0, 0))) (hq : q < pb) (hq2 : q < bb) :
    InBox (W.setCell ⟨q, 13, none⟩ (.slice (some ⟨pb, 0, none⟩) 1 1)) q (loopP v ws ⟨some ⟨bb, 0, none⟩, 1⟩ Sp.none ⟨some ⟨pb, 0, none⟩, 1⟩) := by
  have hbox : (W.setCell ⟨q, 13, none⟩ (.slice (some ⟨pb, 0, none⟩) 1 1)).heap[q]? = some (.cells (loopP v ws ⟨some ⟨bb, 0, none⟩, 1⟩ Sp.none ⟨some ⟨pb, 0, none⟩, 1⟩).arr 39 (0, 0)) := by
    simp [World.setCell, Array.getElem?_modify, hx, ProgV.arr, ProgV.cells, smallP, loopP, Sp.val]
  have hb2 := (Below.heap_setCell W ⟨q, 13, none⟩ (.slice (some ⟨pb, 0, none⟩) 1 1) bb (by simp only; omega)).trans hb
  have hp2 := (Below.heap_setCell W ⟨q, 13, none⟩ (.slice (some ⟨pb, 0, none⟩) 1 1) pb (by simp only; omega)).trans hp
  have hr2 := hr.below ((Below.refl q W).setCell (p := ⟨q, 13, none⟩) (Nat.le_refl _) (.slice (some ⟨pb, 0, none⟩) 1 1))
  generalize W.setCell ⟨q, 13, none⟩ (.slice (some ⟨pb, 0, none⟩) 1 1) = W2 at *
  have hlt := (Array.getElem?_eq_some_iff.1 hbox).1
  have hr3 := hr2.more (Nat.le_of_lt hlt)
  refine ⟨hbox, { hr3 with prow := row_one (enc := ProcV.cells) (x := ⟨⟨#[112]⟩, Sp.none, [], ⟨some ⟨bb, 0, none⟩, 1⟩, [callT Sp.none ⟨#[112]⟩ []]⟩) hp2, procs := fun q' h => ?_ }⟩
  have e : q' = ⟨⟨#[112]⟩, Sp.none, [], ⟨some ⟨bb, 0, none⟩, 1⟩, [callT Sp.none ⟨#[112]⟩ []]⟩ := by simpa [loopP] using h
  rw [e]
  refine ⟨show (1 : Nat) ≤ maxLen by decide, none_rows, ⟨row_one (enc := StmtV.cells) (x := callT Sp.none ⟨#[112]⟩ []) hb2, fun s hs => ?_⟩⟩
  have e2 : s = callT Sp.none ⟨#[112]⟩ [] := by simpa using hs
  rw [e2]
  exact call_now (show (1 : Nat) ≤ maxLen by decide)
theorem require_made {W : World} {q : Nat} {v ws : Sp} (hx : W.heap[q]? = some (.cells (smallP v ws []).arr 39 (0, 0))) (hr : RdP q W (smallP v ws [])) :
    InBox ((((((W.setCell ⟨q, 6, none⟩ (.int .u8 2)).setCell ⟨q, 7, none⟩ (.int .u8 0)).setCell ⟨q, 8, none⟩ (.int .u32 0)).setCell ⟨q, 9, none⟩ (.int .i64 0)).setCell ⟨q, 10, none⟩ (.string xB)).setCell ⟨q, 11, none⟩ (.slice none 0 0)) q (requireP v ws) := by
  have hbox : ((((((W.setCell ⟨q, 6, none⟩ (.int .u8 2)).setCell ⟨q, 7, none⟩ (.int .u8 0)).setCell ⟨q, 8, none⟩ (.int .u32 0)).setCell ⟨q, 9, none⟩ (.int .i64 0)).setCell ⟨q, 10, none⟩ (.string xB)).setCell ⟨q, 11, none⟩ (.slice none 0 0)).heap[q]? = some (.cells (requireP v ws).arr 39 (0, 0)) := by
    simp [World.setCell, Array.getElem?_modify, hx, ProgV.arr, ProgV.cells, smallP, requireP, Sp.val, Sp.none, nameE, numE, ExprV.kind, ExprV.op, ExprV.value, ExprV.width, ExprV.name, ExprV.sp, ExprV.subs]
  have hr2 := hr.below (((((((Below.refl q W).setCell (p := ⟨q, 6, none⟩) (Nat.le_refl _) (.int .u8 2)).setCell (p := ⟨q, 7, none⟩) (Nat.le_refl _) (.int .u8 0)).setCell (p := ⟨q, 8, none⟩) (Nat.le_refl _) (.int .u32 0)).setCell (p := ⟨q, 9, none⟩) (Nat.le_refl _) (.int .i64 0)).setCell (p := ⟨q, 10, none⟩) (Nat.le_refl _) (.string xB)).setCell (p := ⟨q, 11, none⟩) (Nat.le_refl _) (.slice none 0 0))
  have hlt := (Array.getElem?_eq_some_iff.1 hbox).1
  have hr3 := hr2.more (Nat.le_of_lt hlt)
  exact ⟨hbox, { hr3 with require := name_now _ xB (by decide) }⟩
theorem twice_made {W : World} {q vb c : Nat} {v ws : Sp} (hx : W.heap[q]? = some (.cells (smallP v ws []).arr 39 (0, 0))) (hr : RdP q W (smallP v ws [])) (hv : RowOf W.heap.size (W.setCell ⟨q, 4, none⟩ (.slice (some ⟨vb, 0, none⟩) 2 c)) ⟨some ⟨vb, 0, none⟩, c⟩ 3 DeclV.cells [⟨xB, 3, 0⟩, ⟨xB, 1, 0⟩]) :
    InBox (W.setCell ⟨q, 4, none⟩ (.slice (some ⟨vb, 0, none⟩) 2 c)) q (twiceP ⟨some ⟨vb, 0, none⟩, c⟩ ws) := by
  have hbox : (W.setCell ⟨q, 4, none⟩ (.slice (some ⟨vb, 0, none⟩) 2 c)).heap[q]? = some (.cells (twiceP ⟨some ⟨vb, 0, none⟩, c⟩ ws).arr 39 (0, 0)) := by
    simp [World.setCell, Array.getElem?_modify, hx, ProgV.arr, ProgV.cells, smallP, twiceP, Sp.val]
  have hr2 := hr.below ((Below.refl q W).setCell (p := ⟨q, 4, none⟩) (Nat.le_refl _) (.slice (some ⟨vb, 0, none⟩) 2 c))
  have hsz : (W.setCell ⟨q, 4, none⟩ (.slice (some ⟨vb, 0, none⟩) 2 c)).heap.size = W.heap.size := by simp
  have hlt := (Array.getElem?_eq_some_iff.1 hbox).1
  have hr3 := hr2.more (Nat.le_of_lt hlt)
  refine ⟨hbox, { hr3 with vars := ⟨by rw [hsz]; exact hv, fun d h => ?_⟩ }⟩
  have h2 : d = ⟨xB, 3, 0⟩ ∨ d = ⟨xB, 1, 0⟩ := by simpa [twiceP] using h
  rcases h2 with rfl | rfl <;> exact ⟨by decide, by decide, by decide⟩
/-- A program in its box, its rows below n. -/
structure InAt (n : Nat) (W : World) (q : Nat) (p : ProgV) : Prop where
  box : W.heap[q]? = some (.cells p.arr 39 (0, 0))
  rd : RdP n W p
  lt : q < n
theorem InBox.at {W : World} {q : Nat} {p : ProgV} (h : InBox W q p) : InAt W.heap.size W q p := ⟨h.box, h.rd, (Array.getElem?_eq_some_iff.1 h.box).1⟩
theorem InAt.below {n q : Nat} {W W' : World} {p : ProgV} (h : InAt n W q p) (hb : Below n W W') : InAt n W' q p := ⟨(hb.block _ h.lt).trans h.box, h.rd.below hb, h.lt⟩
theorem InAt.more {n m q : Nat} {W : World} {p : ProgV} (h : InAt n W q p) (hm : n ≤ m) : InAt m W q p := ⟨h.box, h.rd.more hm, Nat.lt_of_lt_of_le h.lt hm⟩
theorem InAt.inb {n q : Nat} {W : World} {p : ProgV} (h : InAt n W q p) (hn : n ≤ W.heap.size) : InBox W q p := ⟨h.box, h.rd.more hn⟩
/-- The three programs in their boxes. -/
structure AwSt (w W : World) (q1 q2 q3 : Nat) (p1 p2 p3 : ProgV) : Prop where
  i1 : InBox W q1 p1
  i2 : InBox W q2 p2
  i3 : InBox W q3 p3
  low : Below w.heap.size w W
theorem AwSt.on {w W W' : World} {q1 q2 q3 : Nat} {p1 p2 p3 : ProgV} (h : AwSt w W q1 q2 q3 p1 p2 p3) (hb : Below W.heap.size W W') : AwSt w W' q1 q2 q3 p1 p2 p3 :=
  ⟨h.i1.on hb, h.i2.on hb, h.i3.on hb, h.low.trans (hb.mono h.low.size)⟩
theorem RowOf.setCell {α : Type} {n : Nat} {W : World} {b c k : Nat} {enc : α → List Value} {l : List α} (h : RowOf n W ⟨some ⟨b, 0, none⟩, c⟩ k enc l) (p : Addr) (hp : p.block ≠ b) (v : Value) : RowOf n (W.setCell p v) ⟨some ⟨b, 0, none⟩, c⟩ k enc l :=
  ⟨h.cap, h.big, h.few, fun h0 => by
    obtain ⟨b', off, e, hlt, hc⟩ := h.row h0
    refine ⟨b', off, e, hlt, fun j hj r u hu => ?_⟩
    have e2 : b = b' := by have := Option.some.inj e; exact (Addr.mk.inj this).1
    refine (World.cell?_of_block (a := ⟨b', off + j * k + r, none⟩) ?_).trans (hc j hj r u hu)
    exact Below.heap_setCell W p v b' (by rw [← e2]; exact fun h => hp h.symm)⟩
theorem num_exp (x wd : Int) (w : World) : Calls Tryz.prog 22 #[.int .u32 x, .int .i64 wd] w fun o w' => o = .returned (.agg #[.int .u8 1, .int .u8 0, .int .u32 x, .int .i64 wd, .string ⟨#[]⟩, .slice none 0 0]) ∧ Below w.heap.size w w' := num_any x wd w
theorem name_exp (s : ByteArray) (w : World) : Calls Tryz.prog 25 #[.string s] w fun o w' => o = .returned (.agg #[.int .u8 2, .int .u8 0, .int .u32 0, .int .i64 0, .string s, .slice none 0 0]) ∧ Below w.heap.size w w' := name_any32 s w
theorem call_exp (s : ByteArray) (w : World) : Calls Tryz.prog 17 #[.string s, .slice none 0 0] w fun o w' => o = .returned (.agg #[.int .u8 8, .string s, .slice none 0 0, .int .i64 0, .slice none 0 0, .slice none 0 0]) ∧ Below w.heap.size w w' := call_any32 s Sp.none [] w
theorem set_exp (s : ByteArray) (hs : s.size ≤ maxLen) (e : ExprV) (w : World) (he : NowX w e) : Calls Tryz.prog 23 #[.string s, .agg #[.int .u8 e.kind, .int .u8 e.op, .int .u32 e.value, .int .i64 e.width, .string e.name, .slice e.sp.at_ e.subs.length e.sp.cap]] w fun o w' => ∃ sp : Sp, o = .returned (.agg #[.int .u8 1, .string s, .slice sp.at_ 1 sp.cap, .int .i64 0, .slice none 0 0, .slice none 0 0]) ∧ NowT w' (setT sp s e) ∧ Below w.heap.size w w' := set_any s hs e w he
theorem write_exp (e1 e2 : ExprV) (w : World) (he1 : NowX w e1) (he2 : NowX w e2) : Calls Tryz.prog 24 #[.agg #[.int .u8 e1.kind, .int .u8 e1.op, .int .u32 e1.value, .int .i64 e1.width, .string e1.name, .slice e1.sp.at_ e1.subs.length e1.sp.cap], .agg #[.int .u8 e2.kind, .int .u8 e2.op, .int .u32 e2.value, .int .i64 e2.width, .string e2.name, .slice e2.sp.at_ e2.subs.length e2.sp.cap]] w fun o w' => ∃ sp : Sp, o = .returned (.agg #[.int .u8 3, .string ⟨#[]⟩, .slice sp.at_ 2 sp.cap, .int .i64 0, .slice none 0 0, .slice none 0 0]) ∧ NowT w' (writeT sp e1 e2) ∧ Below w.heap.size w w' := write_any e1 e2 w he1 he2
theorem small_exp (ws : Sp) (l : List StmtV) (w : World) (h : RdTs w.heap.size w ws l) : Calls Tryz.prog 15 #[.slice ws.at_ l.length ws.cap] w fun o w' => ∃ b : Nat, o = .returned (.agg (smallP ⟨some ⟨b, 0, none⟩, 1⟩ ws l).arr) ∧ RdP w'.heap.size w' (smallP ⟨some ⟨b, 0, none⟩, 1⟩ ws l) ∧ Below w.heap.size w w' := small_any ws l w h
theorem stmts_one {W : World} {s : StmtV} (h : NowT W s) : RdTs (W.alloc (.cells s.cells.toArray 49)).heap.size (W.alloc (.cells s.cells.toArray 49)) ⟨some ⟨W.heap.size, 0, none⟩, 1⟩ [s] :=
  ⟨row_one (World.alloc_heap_new _ _), fun x hx => by rw [List.mem_singleton.1 hx]; exact h.on ((Below.refl _ _).alloc (Nat.le_refl _) _)⟩
theorem stmts_two {W : World} {s1 s2 : StmtV} (h1 : NowT W s1) (h2 : NowT W s2) : RdTs (W.alloc (.cells (s1.cells ++ s2.cells).toArray 49)).heap.size (W.alloc (.cells (s1.cells ++ s2.cells).toArray 49)) ⟨some ⟨W.heap.size, 0, none⟩, 2⟩ [s1, s2] :=
  ⟨row_two rfl (World.alloc_heap_new _ _), fun x hx => by
    have h3 : x = s1 ∨ x = s2 := by simpa using hx
    rcases h3 with rfl | rfl
    · exact h1.on ((Below.refl _ _).alloc (Nat.le_refl _) _)
    · exact h2.on ((Below.refl _ _).alloc (Nat.le_refl _) _)⟩
theorem wrong_exp (w : World) (p : ProgV) (hp : RdP w.heap.size w p) (hn0 : 0 < w.heap.size) (hf : Fit p) (hmx : MxAt w) (pl e : Int) (h : checkP p = (pl, e)) :
    Calls Tryz.prog 16 #[.agg p.arr, .int .i64 pl, .int .i64 e] w fun o w' => o = .returned (.bool true) ∧ Below w.heap.size w w' := wrongAt_any w p hp hn0 hf.names hf.weight hmx pl e h
theorem decl_info : (Tryz.prog.info? 44).map (fun i => (i.zero, i.size, i.bytes)) = some (some (.agg #[.string ⟨#[]⟩, .int .i64 0, .int .i64 0]), 3, 32) := by kernel_rfl
theorem wpList_append_decl {ops : Array Oper} {rest : List Oper} {o : Oper} {a : Act} {w : World} {Q : Exit → Act → World → Prop} (hgd : o.guard = none) (s x : Operand)
    (ho : o.op = .call { callee := .builtin .append, args := #[s, x], argTypes := #[28, 28] }) (n b g : Nat) (hs : a.eval s = .slice (some ⟨b, 0, none⟩) 1 1) (h : RowOf n w ⟨some ⟨b, 0, none⟩, 1⟩ 3 DeclV.cells [⟨xB, 3, 0⟩])
    (hx : a.eval x = .slice (some ⟨g, 0, none⟩) 1 1) (hg : w.heap[g]? = some (.cells #[.string xB, .int .i64 1, .int .i64 0] 44 (0, 0)))
    (hK : ∀ vb c w', w.heap.size ≤ vb → RowOf w'.heap.size w' ⟨some ⟨vb, 0, none⟩, c⟩ 3 DeclV.cells [⟨xB, 3, 0⟩, ⟨xB, 1, 0⟩] → Below w.heap.size w w' → wpList Tryz.prog ops Q rest (a.put o.dst (.slice (some ⟨vb, 0, none⟩) 2 c)) w') : wpList Tryz.prog ops Q (o :: rest) a w := by
  refine wpList_plain hgd fun K hK' => ?_
  obtain ⟨i0, hi, hz0, hz1, hz2⟩ := info_of decl_info
  obtain ⟨b', off, e, hlt, hc⟩ := h.row (by simp)
  obtain ⟨rfl, rfl⟩ : b = b' ∧ 0 = off := by have := Option.some.inj e; exact ⟨(Addr.mk.inj this).1, (Addr.mk.inj this).2.1⟩
  have hold : ∀ j u, (DeclV.cells ⟨xB, 3, 0⟩)[j]? = some u → w.cell? ((⟨b, 0, none⟩ : Addr).add j) = some u := fun j u hj => by
    have := hc 0 (by simp) j u hj
    rw [Addr.add_lit]; simpa using this
  have hnew : ∀ j u, (DeclV.cells ⟨xB, 1, 0⟩)[j]? = some u → w.cell? ((⟨g, 0, none⟩ : Addr).add j) = some u := fun j u hj => by
    have e2 : (#[Value.string xB, .int .i64 1, .int .i64 0] : Array Value)[j]? = some u := by simpa [DeclV.cells] using hj
    rw [Addr.add_lit]; simp only [World.cell?, Nat.zero_add, hg]; exact e2
  obtain ⟨v', w', hr, hown, hgr⟩ := run_append_arg_grows (P := Tryz.prog) w 28 o.type 44 i0 _ 3 32 Tryz.underlying28 hi hz0 hz1 hz2 rfl (by decide) ⟨b, 0, none⟩ 1 1 (DeclV.cells ⟨xB, 3, 0⟩) rfl hold ⟨g, 0, none⟩ 1 1 (DeclV.cells ⟨xB, 1, 0⟩) rfl hnew (by decide) (by decide) (by decide)
  have hbl : Below w.heap.size w w' := ⟨hgr.os, hgr.tape, hgr.output, hgr.size, fun k hk => hgr.block k hk (by simp)⟩
  obtain ⟨hlen, ho2⟩ := hown
  rcases ho2 with ⟨_, h0⟩ | ⟨vb, cp, cur, rfl, g1, g2, g3, g4, g5, g6⟩
  · omega
  · have hrow : RowOf w'.heap.size w' ⟨some ⟨vb, 0, none⟩, cp⟩ 3 DeclV.cells [⟨xB, 3, 0⟩, ⟨xB, 1, 0⟩] := by
      refine ⟨g3, g4, by simp, fun _ => ⟨vb, 0, rfl, (Array.getElem?_eq_some_iff.1 g2).1, fun j hj r u hu => ?_⟩⟩
      have hr3 : r < 3 := by
        have := (List.getElem?_eq_some_iff.1 hu).1
        exact this
      have hj2 : j = 0 ∨ j = 1 := by simp at hj; omega
      have e3 : (cur.toList.take ((1 + 1) * 3))[j * 3 + r]? = (DeclV.cells ⟨xB, 3, 0⟩ ++ DeclV.cells ⟨xB, 1, 0⟩)[j * 3 + r]? := by rw [g6]
      rw [List.getElem?_take_of_lt (by omega)] at e3
      have e4 : cur[0 + j * 3 + r]? = some u := by
        rw [Nat.zero_add, ← Array.getElem?_toList, e3, ← hu]
        rcases hj2 with rfl | rfl
        · rw [Nat.zero_mul, Nat.zero_add, List.getElem?_append_left (by exact hr3)]; rfl
        · rw [Nat.one_mul, List.getElem?_append_right (by exact Nat.le_add_right 3 r)]
          have : 3 + r - (DeclV.cells ⟨xB, 3, 0⟩).length = r := Nat.add_sub_cancel_left 3 r
          rw [this]; rfl
      rw [Nat.zero_add] at e4; simp [World.cell?, g2, e4]
    unfold Oper.wp execOp
    simp only [ho, resolve, invoke, builtin, Sem.run_bind, Sem.run_pure, Result.andThen_ok, List.map_toArray, List.map_cons, List.map_nil, hs, hx, hr]
    exact hK' _ _ (hK vb cp w' g1 hrow hbl)
theorem right_exp (w : World) (p : ProgV) (hp : RdP w.heap.size w p) (hn0 : 0 < w.heap.size) (hf : Fit p) (hmx : MxAt w) (h : checkP p = (0, 0)) :
    Calls Tryz.prog 18 #[.agg p.arr] w fun o w' => o = .returned (.bool true) ∧ Below w.heap.size w w' :=
  (right_any w p hp hn0 hf.names hf.weight hmx).mono fun o w' ⟨h1, h2⟩ => ⟨by rw [h1, h]; rfl, h2⟩
theorem small_one {W : World} {s : StmtV} (h : NowT W s) (n : Nat) (hn : W.heap.size = n) : Calls Tryz.prog 15 #[.slice (some ⟨n, 0, none⟩) 1 1] (W.alloc (.cells s.cells.toArray 49)) fun o w' => ∃ b : Nat, o = .returned (.agg (smallP ⟨some ⟨b, 0, none⟩, 1⟩ ⟨some ⟨n, 0, none⟩, 1⟩ [s]).arr) ∧ RdP w'.heap.size w' (smallP ⟨some ⟨b, 0, none⟩, 1⟩ ⟨some ⟨n, 0, none⟩, 1⟩ [s]) ∧ Below W.heap.size W w' := by
  subst hn
  have hb : Below W.heap.size W (W.alloc (.cells s.cells.toArray 49)) := (Below.refl _ _).alloc (Nat.le_refl _) _
  exact (small_exp ⟨some ⟨W.heap.size, 0, none⟩, 1⟩ [s] _ (stmts_one h)).mono fun o w' ⟨b, h1, h2, h3⟩ => ⟨b, h1, h2, hb.trans (h3.mono hb.size)⟩
theorem small_two {W : World} {s1 s2 : StmtV} (h1 : NowT W s1) (h2 : NowT W s2) : Calls Tryz.prog 15 #[.slice (some ⟨W.heap.size, 0, none⟩) 2 2] (W.alloc (.cells (s1.cells ++ s2.cells).toArray 49)) fun o w' => ∃ b : Nat, o = .returned (.agg (smallP ⟨some ⟨b, 0, none⟩, 1⟩ ⟨some ⟨W.heap.size, 0, none⟩, 2⟩ [s1, s2]).arr) ∧ RdP w'.heap.size w' (smallP ⟨some ⟨b, 0, none⟩, 1⟩ ⟨some ⟨W.heap.size, 0, none⟩, 2⟩ [s1, s2]) ∧ Below W.heap.size W w' := by
  have hb : Below W.heap.size W (W.alloc (.cells (s1.cells ++ s2.cells).toArray 49)) := (Below.refl _ _).alloc (Nat.le_refl _) _
  exact (small_exp ⟨some ⟨W.heap.size, 0, none⟩, 2⟩ [s1, s2] _ (stmts_two h1 h2)).mono fun o w' ⟨b, h1, h2, h3⟩ => ⟨b, h1, h2, hb.trans (h3.mono hb.size)⟩
theorem cast_now {W : World} {e : ExprV} (he : NowX W e) : NowX (W.alloc (.cells e.cells.toArray 34)) (castE ⟨some ⟨W.heap.size, 0, none⟩, 1⟩ e) :=
  .mk _ (show (0 : Int) ≤ 8 ∧ (8 : Int) ≤ 255 by decide) (show (0 : Int) ≤ 0 ∧ (0 : Int) ≤ 255 by decide) (show (0 : Int) ≤ 0 ∧ (0 : Int) ≤ 4294967295 by decide) (show (Lit.int .i64 3).wf = true by decide) (show (0 : Nat) ≤ maxLen by decide) (row_one (enc := ExprV.cells) (x := e) (World.alloc_heap_new _ _)) (fun y hy => by
    have : y = e := by simpa [castE, ExprV.subs] using hy
    rw [this]; exact he.on ((Below.refl _ _).alloc (Nat.le_refl _) _))
theorem while_now {W : World} (he : NowX W (nameE xB)) : NowT (W.alloc (.cells (nameE xB).cells.toArray 34)) (whileT ⟨some ⟨W.heap.size, 0, none⟩, 1⟩) :=
  .mk _ (show (0 : Int) ≤ 7 ∧ (7 : Int) ≤ 255 by decide) (show (Lit.int .i64 0).wf = true by decide) (show (0 : Nat) ≤ maxLen by decide) (row_one (enc := ExprV.cells) (x := nameE xB) (World.alloc_heap_new _ _)) (fun y hy => by
    have : y = nameE xB := by simpa [whileT, StmtV.exprs] using hy
    rw [this]; exact he.on ((Below.refl _ _).alloc (Nat.le_refl _) _)) RowOf.nil (fun _ h => absurd h (by simp [whileT, StmtV.thn])) RowOf.nil (fun _ h => absurd h (by simp [whileT, StmtV.els]))
theorem set_cast {W : World} {e : ExprV} (he : NowX W e) : Calls Tryz.prog 23 #[.string xB, .agg #[.int .u8 8, .int .u8 0, .int .u32 0, .int .i64 3, .string ⟨#[]⟩, .slice (some ⟨W.heap.size, 0, none⟩) 1 1]] (W.alloc (.cells e.cells.toArray 34)) fun o w' => ∃ sp : Sp, o = .returned (.agg #[.int .u8 1, .string xB, .slice sp.at_ 1 sp.cap, .int .i64 0, .slice none 0 0, .slice none 0 0]) ∧ NowT w' (setT sp xB (castE ⟨some ⟨W.heap.size, 0, none⟩, 1⟩ e)) ∧ Below W.heap.size W w' := by
  have hb : Below W.heap.size W (W.alloc (.cells e.cells.toArray 34)) := (Below.refl _ _).alloc (Nat.le_refl _) _
  exact (set_exp xB (by decide) (castE ⟨some ⟨W.heap.size, 0, none⟩, 1⟩ e) _ (cast_now he)).mono fun o w' ⟨sp, h1, h2, h3⟩ => ⟨sp, h1, h2, hb.trans (h3.mono hb.size)⟩
theorem small_while {W : World} (he : NowX W (nameE xB)) : Calls Tryz.prog 15 #[.slice (some ⟨W.heap.size + 1, 0, none⟩) 1 1] ((W.alloc (.cells (nameE xB).cells.toArray 34)).alloc (.cells (whileT ⟨some ⟨W.heap.size, 0, none⟩, 1⟩).cells.toArray 49)) fun o w' => ∃ b : Nat, o = .returned (.agg (smallP ⟨some ⟨b, 0, none⟩, 1⟩ ⟨some ⟨W.heap.size + 1, 0, none⟩, 1⟩ [whileT ⟨some ⟨W.heap.size, 0, none⟩, 1⟩]).arr) ∧ RdP w'.heap.size w' (smallP ⟨some ⟨b, 0, none⟩, 1⟩ ⟨some ⟨W.heap.size + 1, 0, none⟩, 1⟩ [whileT ⟨some ⟨W.heap.size, 0, none⟩, 1⟩]) ∧ Below W.heap.size W w' := by
  have hb : Below W.heap.size W (W.alloc (.cells (nameE xB).cells.toArray 34)) := (Below.refl _ _).alloc (Nat.le_refl _) _
  exact (small_one (while_now he) _ (by simp)).mono fun o w' ⟨b, h1, h2, h3⟩ => ⟨b, h1, h2, hb.trans (h3.mono hb.size)⟩
end Go.Proofs.YthcboallnbaimaaGreatDoor
