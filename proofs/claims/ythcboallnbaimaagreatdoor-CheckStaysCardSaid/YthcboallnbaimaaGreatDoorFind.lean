/- check: find, limit. -/
import Derived.Test.YthcboallnbaimaaGreatDoorCkr
import Derived.Test.YthcboallnbaimaaGreatDoorLeaf
namespace Go.Proofs.YthcboallnbaimaaGreatDoor
open Go Go.RowKit Go.Maps
theorem Ckr.cell {K : CkE} {pm : Option Nat} {E : Env} {n : Int} {over : Bool} {W : World} (h : Ckr K pm E n over W) (i : Nat) (v : Value) (hv : (K.cells pm E n over)[i]? = some v) : W.cell? ⟨K.q, i, none⟩ = some v := by
  simp [World.cell?, h.box, hv]
theorem Ckr.frozen {K : CkE} {pm : Option Nat} {E : Env} {n : Int} {over : Bool} {W : World} (h : Ckr K pm E n over W) (i : Nat) : W.frozen? ⟨K.q, i, none⟩ = false := by
  simp [World.frozen?, h.box]
section
variable {K : CkE} {pm : Option Nat} {E : Env} {n : Int} {over : Bool} {W : World}
theorem Ckr.c1 (h : Ckr K pm E n over W) : W.cell? ⟨K.q, 1, none⟩ = some (.int .i64 K.p.width) := h.cell 1 _ rfl
theorem Ckr.c13 (h : Ckr K pm E n over W) : W.cell? ⟨K.q, 13, none⟩ = some (.slice K.p.rs.at_ K.p.procs.length K.p.rs.cap) := h.cell 13 _ rfl
theorem Ckr.c22 (h : Ckr K pm E n over W) : W.cell? ⟨K.q, 22, none⟩ = some (.map (some K.mt)) := h.cell 22 _ rfl
theorem Ckr.c23 (h : Ckr K pm E n over W) : W.cell? ⟨K.q, 23, none⟩ = some (.map (some K.mp)) := h.cell 23 _ rfl
theorem Ckr.c24 (h : Ckr K pm E n over W) : W.cell? ⟨K.q, 24, none⟩ = some (.map pm) := h.cell 24 _ rfl
theorem Ckr.c25 (h : Ckr K pm E n over W) : W.cell? ⟨K.q, 25, none⟩ = some (.int .i64 E.within) := h.cell 25 _ rfl
theorem Ckr.c26 (h : Ckr K pm E n over W) : W.cell? ⟨K.q, 26, none⟩ = some (.int .i64 n) := h.cell 26 _ rfl
theorem Ckr.c28 (h : Ckr K pm E n over W) : W.cell? ⟨K.q, 28, none⟩ = some K.yv := h.cell 28 _ rfl
theorem Ckr.c29 (h : Ckr K pm E n over W) : W.cell? ⟨K.q, 29, none⟩ = some (.bool over) := h.cell 29 _ rfl
end
theorem Ckr.lookP {K : CkE} {pm : Option Nat} {E : Env} {n : Int} {over : Bool} {W : World} (h : Ckr K pm E n over W) {s : ByteArray} (hs : s.size ≤ maxLen) :
    (Instr.lookup 126 (.map pm) (.string s) true).run Tryz.prog W = .ok (.tuple #[.agg #[.int .u8 ((look E.params s).getD ⟨0, 0⟩).kind, .int .i64 ((look E.params s).getD ⟨0, 0⟩).width], .bool (look E.params s).isSome]) W := by
  cases pm with
  | none =>
    have e : look E.params s = none := by rw [show E.params = [] from h.params]; rfl
    rw [e]
    exact MapF.look_nil thC W lawS Tryz.underlying126 (keyS hs)
  | some m =>
    obtain ⟨_, k, hm⟩ := h.params
    have := hm.look_ok lawS Tryz.underlying126 (keyS hs)
    rw [onStr_skey] at this
    exact this
theorem Ckr.lookT {K : CkE} {pm : Option Nat} {E : Env} {n : Int} {over : Bool} {W : World} (h : Ckr K pm E n over W) {s : ByteArray} (hs : s.size ≤ maxLen) :
    (Instr.lookup 126 (.map (some K.mt)) (.string s) false).run Tryz.prog W = .ok (.agg #[.int .u8 ((look (thingsP K.p) s).getD ⟨0, 0⟩).kind, .int .i64 ((look (thingsP K.p) s).getD ⟨0, 0⟩).width]) W := by
  obtain ⟨k, hm⟩ := h.things
  have := hm.look lawS Tryz.underlying126 (keyS hs)
  rw [onStr_skey] at this
  exact this
set_option maxRecDepth 1000000 in
theorem find_any {K : CkE} {pm : Option Nat} {E : Env} {n : Int} {over : Bool} (w : World) (h : Ckr K pm E n over w) (s : ByteArray) (hs : s.size ≤ maxLen) :
    Calls Tryz.prog 104 #[.pointer (some ⟨K.q, 0, none⟩), .string s] w fun o w' => o = .returned (.agg #[.int .u8 (findW K.p E s).kind, .int .i64 (findW K.p E s).width]) ∧ Below w.heap.size w w' := by
  have hb1 : Below w.heap.size w (w.alloc (.cells #[.int .u8 0, .int .i64 0] 169)) := (Below.refl _ w).alloc (Nat.le_refl _) _
  have h1 := h.new hb1
  have c24 := h1.c24
  have l24 := h1.lookP hs
  cases hl : look E.params s with
  | some x =>
    have hf : findW K.p E s = x := by unfold findW; rw [hl]
    rw [hf]
    rw [hl] at l24
    simp only [Option.getD_some, Option.isSome_some] at l24
    clear hf hl hb1 h1 h
    go_enter Tryz.func104, Tryz.ntmps104
    go_wp2
    go_returns
    exact ⟨rfl, ((Below.refl _ _).alloc (Nat.le_refl _) _).alloc (by simp) _⟩
  | none =>
    have hf : findW K.p E s = (look (thingsP K.p) s).getD ⟨0, 0⟩ := by unfold findW; rw [hl]
    rw [hl] at l24
    simp only [Option.getD_none, Option.isSome_none] at l24
    have hb2 : Below w.heap.size w ((w.alloc (.cells #[.int .u8 0, .int .i64 0] 169)).alloc (.cells #[.int .u8 0, .int .i64 0] 169)) := hb1.alloc (Nat.le_of_lt (by simp)) _
    have h2 := h.new hb2
    have c22 := h2.c22
    have l22 := h2.lookT hs
    rw [← hf] at l22
    generalize findW K.p E s = y at *
    clear hf hl hb1 h1 h h2 hb2
    go_enter Tryz.func104, Tryz.ntmps104
    go_wp2
    go_returns
    exact ⟨rfl, ((Below.refl _ _).alloc (Nat.le_refl _) _).alloc (by simp) _⟩
set_option maxRecDepth 1000000 in
theorem limit_any {K : CkE} {pm : Option Nat} {E : Env} {n : Int} {over : Bool} (w : World) (h : Ckr K pm E n over w) (small large : Int) :
    Calls Tryz.prog 111 #[.pointer (some ⟨K.q, 0, none⟩), .int .i64 small, .int .i64 large] w fun o w' => o = .returned (.int .i64 (limitP K.p small large)) ∧ w = w' := by
  have c13 := h.c13
  have hl := h.prog.prow.few
  clear h
  by_cases hp : 0 < K.p.procs.length
  · have e : limitP K.p small large = small := if_pos hp
    rw [e]
    have hd : decide (0 < K.p.procs.length) = true := decide_eq_true hp
    clear e hp
    go_enter Tryz.func111, Tryz.ntmps111
    go_wp2
    go_ret
    exact ⟨rfl, rfl⟩
  · have e : limitP K.p small large = large := if_neg hp
    rw [e]
    have hd : decide (0 < K.p.procs.length) = false := decide_eq_false hp
    clear e hp
    go_enter Tryz.func111, Tryz.ntmps111
    go_wp2
    go_ret
    exact ⟨rfl, rfl⟩
end Go.Proofs.YthcboallnbaimaaGreatDoor
