/- check: the state of all; what the lists of declarations tell. -/
import Derived.Test.YthcboallnbaimaaGreatDoorProc
import Derived.Test.YthcboallnbaimaaGreatDoorProgram
import Derived.Test.YthcboallnbaimaaGreatDoorIndexI
namespace Go.Proofs.YthcboallnbaimaaGreatDoor
open Go Go.RowKit Go.Maps
/-- The names before the list j, and what the lists before it tell. -/
def befN (p : ProgV) (j : Nat) : List ByteArray := (List.range j).flatMap fun i => (listAt p i).map DeclV.name
def dclN (p : ProgV) (j : Nat) : List Int := (List.range j).flatMap fun i => declsC p (decide (i = 3)) (listAt p i) (befN p i)
theorem befN_succ (p : ProgV) (j : Nat) : befN p (j + 1) = befN p j ++ (listAt p j).map DeclV.name := by
  unfold befN; rw [List.range_succ, List.flatMap_append]; simp
theorem dclN_succ (p : ProgV) (j : Nat) : dclN p (j + 1) = dclN p j ++ declsC p (decide (j = 3)) (listAt p j) (befN p j) := by
  unfold dclN; rw [List.range_succ, List.flatMap_append]; simp
theorem befN_four (p : ProgV) : befN p 4 = names4 p := by
  simp [befN, List.range, List.range.loop, listAt, names4, names3, names2, names1]
theorem dclN_four (p : ProgV) : dclN p 4 = declsC p false p.inputs [] ++ (declsC p false p.ghosts (names1 p) ++ (declsC p false p.vars (names2 p) ++ declsC p true p.arrays (names3 p))) := by
  simp [dclN, befN, List.range, List.range.loop, listAt, names3, names2, names1]
/-- The codes of a light program: the pieces one behind the other. -/
theorem codesP_pieces (p : ProgV) (n : Int) : codesP p n = ((((((([programE p n] ++ dclN p 4) ++ exprC p outside 1 p.require 1) ++ initsC p p.inits []) ++ procsC p p.procs 0 (names4 p)) ++ stmtsC p outside p.work 1) ++ stmtsC p outside p.recover 1) ++ exprC p outside 2 p.invariant 1) := by
  rw [dclN_four]
  unfold codesP
  simp
theorem dclN_len (p : ProgV) : ∀ j, (dclN p j).length = (befN p j).length
  | 0 => rfl
  | j + 1 => by rw [dclN_succ, befN_succ, List.length_append, List.length_append, dclN_len p j, declsC_len, List.length_map]
theorem initsC_snoc (p : ProgV) : ∀ (l : List InitV) (b : List Int) (x : InitV), initsC p (l ++ [x]) b = initsC p l b ++ (initE p (b ++ l.map InitV.block) x :: exprC p outside 1 x.value 1)
  | [], b, x => by simp [initsC]
  | y :: l, b, x => by
    rw [List.cons_append, initsC, initsC_snoc p l, initsC]
    simp
theorem procsC_snoc (p : ProgV) : ∀ (l : List ProcV) (i : Nat) (b : List ByteArray) (q : ProcV), procsC p (l ++ [q]) i b = procsC p l i b ++ procC p (b ++ l.map ProcV.name) (i + l.length) q
  | [], i, b, q => by simp [procsC]
  | y :: l, i, b, q => by
    rw [List.cons_append, procsC, procsC_snoc p l, procsC]
    simp [Nat.add_assoc, Nat.add_comm 1]
theorem procC_len (p : ProgV) (b b' : List ByteArray) (i : Nat) (q : ProcV) : (procC p b i q).length = (procC p b' i q).length := rfl
/-- The state of all: so much is told; the program's box; the map of the names before. -/
structure AllSt (K : CkE) (J Jx : List (Int × Int) → World → Prop) (w : World) (bp mb : Nat) (cs : List Int) (bef : List ByteArray) (X : World) : Prop where
  st : ∃ pm, CkSt K J Jx pm outside cs X ∧ pm ≠ some mb
  keeps : KeepsQ K w X
  box : X.heap[bp]? = some (.cells K.p.arr 39 (0, 0))
  bef : ∃ f n, n ≤ bef.length ∧ BefAt X mb n bef f
/-- What is fixed meanwhile. -/
structure AllFix (K : CkE) (w : World) (bp mb : Nat) : Prop where
  hbp : w.heap.size ≤ bp
  hmb : bp < mb
  hq : K.q < w.heap.size
  hB : K.B ≤ K.q
  hn0 : K.n₀ ≤ w.heap.size
  hmt : K.mt < w.heap.size
  hmp : K.mp < w.heap.size
section
variable {K : CkE} {J Jx : List (Int × Int) → World → Prop} {w : World} {bp mb : Nat} {cs : List Int} {bef : List ByteArray} {X X' : World}
theorem AllSt.new (h : AllSt K J Jx w bp mb cs bef X) (hJ : OwnC 129 K.B J) (hJx : OwnC 129 K.B Jx) (F : AllFix K w bp mb) (hb : Below X.heap.size X X') : AllSt K J Jx w bp mb cs bef X' := by
  obtain ⟨pm, h1, h2⟩ := h.st
  obtain ⟨f, n, h3, h4⟩ := h.bef
  exact ⟨⟨pm, h1.new hJ hJx hb, h2⟩, h.keeps.trans (.of_below hb (Nat.le_trans F.hn0 h.keeps.size)), (hb.block _ (Array.getElem?_eq_some_iff.1 h.box).1).trans h.box, ⟨f, n, h3, h4.new hb⟩⟩
theorem AllSt.told (h : AllSt K J Jx w bp mb cs bef X) (F : AllFix K w bp mb) {cs' : List Int} {pm : Option Nat} (hpm : pm ≠ some mb) (ht : Told K J Jx pm outside cs' X X') : AllSt K J Jx w bp mb cs' bef X' := by
  obtain ⟨f, n, h3, h4⟩ := h.bef
  have h5 := F.hbp; have h6 := F.hmb; have h7 := F.hq; have h8 := F.hB
  exact ⟨⟨pm, ht.st, hpm⟩, h.keeps.trans ht.keeps, ht.keeps.cells _ _ _ _ h.box rfl (by omega), ⟨f, n, h3, h4.keeps ht.keeps (by omega)⟩⟩
theorem AllSt.entered (h : AllSt K J Jx w bp mb cs bef X) (F : AllFix K w bp mb) {cs' : List Int} (ht : Entered K J Jx outside cs' X X') : AllSt K J Jx w bp mb cs' bef X' := by
  obtain ⟨f, n, h3, h4⟩ := h.bef
  have h5 := F.hbp; have h6 := F.hmb; have h7 := F.hq; have h8 := F.hB
  obtain ⟨pm, h9, h10⟩ := ht.st
  have h11 := h4.map.lt
  exact ⟨⟨pm, h9, fun e => by have := h10 _ e; omega⟩, h.keeps.trans ht.keeps, ht.keeps.cells _ _ _ _ h.box rfl (by omega), ⟨f, n, h3, h4.keeps ht.keeps (by omega)⟩⟩
theorem AllSt.stored (h : AllSt K J Jx w bp mb cs bef X) (hJ : OwnC 129 K.B J) (hJx : OwnC 129 K.B Jx) (F : AllFix K w bp mb) (ht : X.mapTurned X' mb) {s : ByteArray} {n : Nat} {f : ByteArray → Option Int} (hn : n ≤ bef.length) (hb : BefAt X' mb (n + 1) (bef ++ [s]) f) : AllSt K J Jx w bp mb cs (bef ++ [s]) X' := by
  have h5 := F.hbp; have h6 := F.hmb; have h7 := F.hq; have h8 := F.hB; have h9 := F.hmt; have h10 := F.hmp
  obtain ⟨pm, h1, h2⟩ := h.st
  have hlt := (Array.getElem?_eq_some_iff.1 h.box).1
  refine ⟨⟨pm, h1.turned hJ hJx ht (by omega) (by omega) (by omega) h2, h2⟩, h.keeps.turned ht (by omega) F.hn0, (ht.grown.block _ hlt (by intro e; have := Option.some.inj e; omega)).trans h.box, ⟨f, n + 1, by simp; omega, hb⟩⟩
end
theorem arr_cells {W : World} {q : Nat} {p : ProgV} (h : W.heap[q]? = some (.cells p.arr 39 (0, 0))) (i : Nat) {v : Value} (hv : p.cells[i]? = some v) : W.cell? ⟨q, i, none⟩ = some v := by
  simp [World.cell?, h, ProgV.arr, hv]
end Go.Proofs.YthcboallnbaimaaGreatDoor
