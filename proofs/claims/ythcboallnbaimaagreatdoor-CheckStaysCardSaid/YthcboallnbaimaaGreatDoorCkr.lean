/- The checker under way: what the memory holds of it; what is told so far. -/
import Derived.Test.YthcboallnbaimaaGreatDoorCheckP
import Derived.Test.YthcboallnbaimaaGreatDoorMapF
import Derived.Test.YthcboallnbaimaaGreatDoorNetC
import Derived.Test.YthcboallnbaimaaGreatDoorProg
import Derived.WalkKit
import Derived.Handy
import Derived.StringKeys
namespace Go.Proofs.YthcboallnbaimaaGreatDoor
open Go Go.RowKit Go.Maps
/-- How a thing reads. -/
def rThing : Value → Option (DataW Unit × List MemPlace)
  | .agg cs => match cs.toList with
    | [.int .u8 a, .int .i64 b] => some (.agg [.lit (.int .u8 a), .lit (.int .i64 b)], [])
    | _ => none
  | _ => none
def Thing.val (x : Thing) : Value := .agg #[.int .u8 x.kind, .int .i64 x.width]
def thC : Codec Tryz.prog 169 Thing where
  val := Thing.val
  dat x := .agg [.lit (.int .u8 x.kind), .lit (.int .i64 x.width)]
  read := rThing
  put _ := rfl
  inv v z h := by
    unfold rThing at h
    split at h
    · rename_i cs
      split at h
      · rename_i a b he
        cases h
        refine ⟨⟨a, b⟩, ?_, rfl⟩
        have : cs = #[.int .u8 a, .int .i64 b] := by rw [← Array.toList_inj]; exact he
        rw [this]; rfl
      · cases h
    · cases h
  inj x y h := by cases x; cases y; simp at h; simp [h]
  zero := ⟨0, 0⟩
  zrun w := by kernel_rfl
def rNum : Value → Option (DataW Unit × List MemPlace)
  | .int .i64 a => some (.lit (.int .i64 a), [])
  | _ => none
def numC : Codec Tryz.prog 3 Int where
  val x := .int .i64 x
  dat x := .lit (.int .i64 x)
  read := rNum
  put _ := rfl
  inv v z h := by
    unfold rNum at h
    split at h
    · rename_i a
      cases h
      exact ⟨a, rfl, rfl⟩
    · cases h
  inj x y h := by simpa using h
  zero := 0
  zrun w := by kernel_rfl
theorem lawS : Keyed Tryz.prog 9 := string_keyed Tryz.underlying9
theorem lawI : Keyed Tryz.prog 3 := int_keyed Tryz.underlying3
theorem keyS {s : ByteArray} (h : s.size ≤ maxLen) : keyOf Tryz.prog 9 (.string s) = some (skey s) := Go.WideMaps.keyOf_string_mk Tryz.underlying9 h
theorem keyI {a : Int} (h : (Lit.int .i64 a).wf = true) : keyOf Tryz.prog 3 (.int .i64 a) = some (.int .i64 a) := keyOf_int_mk Tryz.underlying3 h
/-- What stays the same of a checker under way: its block, the program, which lies below n₀; from B on all is its own; what it yields to; the maps of things and of procedures. -/
structure CkE where
  q : Nat
  p : ProgV
  n₀ : Nat
  B : Nat
  yv : Value
  mt : Nat
  mp : Nat
def CkE.cells (K : CkE) (pm : Option Nat) (E : Env) (n : Int) (over : Bool) : Array Value :=
  #[.int .i64 K.p.blocks, .int .i64 K.p.width, .slice K.p.is.at_ K.p.inputs.length K.p.is.cap, .slice K.p.gs.at_ K.p.ghosts.length K.p.gs.cap, .slice K.p.vs.at_ K.p.vars.length K.p.vs.cap, .slice K.p.as.at_ K.p.arrays.length K.p.as.cap, .int .u8 K.p.require.kind, .int .u8 K.p.require.op, .int .u32 K.p.require.value, .int .i64 K.p.require.width, .string K.p.require.name, .slice K.p.require.sp.at_ K.p.require.subs.length K.p.require.sp.cap, .slice K.p.ns.at_ K.p.inits.length K.p.ns.cap, .slice K.p.rs.at_ K.p.procs.length K.p.rs.cap, .slice K.p.ws.at_ K.p.work.length K.p.ws.cap, .slice K.p.cs.at_ K.p.recover.length K.p.cs.cap, .int .u8 K.p.invariant.kind, .int .u8 K.p.invariant.op, .int .u32 K.p.invariant.value, .int .i64 K.p.invariant.width, .string K.p.invariant.name, .slice K.p.invariant.sp.at_ K.p.invariant.subs.length K.p.invariant.sp.cap,
    .map (some K.mt), .map (some K.mp), .map pm, .int .i64 E.within, .int .i64 n, .int .i64 0, K.yv, .bool over]
def ParamsAt (K : CkE) (E : Env) (W : World) : Option Nat → Prop
  | none => E.params = []
  | some m => K.B ≤ m ∧ ∃ n, MapF thC 9 W m n (onStr (look E.params))
structure Ckr (K : CkE) (pm : Option Nat) (E : Env) (n : Int) (over : Bool) (W : World) : Prop where
  box : W.heap[K.q]? = some (.cells (K.cells pm E n over) 129 (0, 0))
  params : ParamsAt K E W pm
  things : ∃ n, MapF thC 9 W K.mt n (onStr (look (thingsP K.p)))
  procs : ∃ n, MapF numC 9 W K.mp n (onStr (look (procsAt K.p)))
  prog : RdP K.n₀ W K.p
  n0 : K.n₀ ≤ K.B
  q : K.B ≤ K.q
  mt : K.B ≤ K.mt
  mp : K.B ≤ K.mp
theorem ParamsAt.stays {K : CkE} {E : Env} {W W' : World} {pm : Option Nat} (h : ParamsAt K E W pm) (hk : ∀ k o, K.B ≤ k → W.heap[k]? = some o → o.isCells = false → W'.heap[k]? = some o) : ParamsAt K E W' pm := by
  cases pm with
  | none => exact h
  | some m =>
    obtain ⟨h1, n, h2⟩ := h
    obtain ⟨es, cl, h3⟩ := h2.obj
    exact ⟨h1, n, h2.of_block ((hk m _ h1 h3 rfl).trans h3.symm)⟩
theorem map_stays {P : Program} {e : TypeId} {α : Type} {C : Codec P e α} {t : TypeId} {B m : Nat} {f : Lit → Option α} {W W' : World} (h : ∃ n, MapF C t W m n f) (hB : B ≤ m) (hk : ∀ k o, B ≤ k → W.heap[k]? = some o → o.isCells = false → W'.heap[k]? = some o) : ∃ n, MapF C t W' m n f := by
  obtain ⟨n, h2⟩ := h
  obtain ⟨es, cl, h3⟩ := h2.obj
  exact ⟨n, h2.of_block ((hk m _ hB h3 rfl).trans h3.symm)⟩
/-- The types of cells that no round over the problems turns. -/
def TK (t : TypeId) : Bool := t == 129 || t == 39 || t == 34 || t == 49 || t == 44 || t == 47 || t == 118
/-- What the checker leaves alone where it tells: objects of its own that are no cells; cells of those types, but its own block; what lies below n₀. -/
structure KeepsQ (K : CkE) (W W' : World) : Prop where
  size : W.heap.size ≤ W'.heap.size
  same : ∀ (k : Nat) (o : Obj), K.B ≤ k → W.heap[k]? = some o → o.isCells = false → W'.heap[k]? = some o
  cells : ∀ (k : Nat) (cs : Array Value) (t : TypeId) (fr : Nat × Nat), W.heap[k]? = some (.cells cs t fr) → TK t = true → k ≠ K.q → W'.heap[k]? = some (.cells cs t fr)
  low : Below K.n₀ W W'
section
variable {K : CkE} {W W' W'' : World}
theorem KeepsQ.refl (K : CkE) (W : World) : KeepsQ K W W := ⟨Nat.le_refl _, fun _ _ _ h _ => h, fun _ _ _ _ h _ _ => h, Below.refl _ _⟩
theorem KeepsQ.trans (h : KeepsQ K W W') (k : KeepsQ K W' W'') : KeepsQ K W W'' :=
  ⟨Nat.le_trans h.size k.size, fun i o hB hi ho => k.same i o hB (h.same i o hB hi ho) ho, fun i cs t fr hi ht hq => k.cells i cs t fr (h.cells i cs t fr hi ht hq) ht hq, h.low.trans k.low⟩
theorem KeepsQ.of_below (h : Below W.heap.size W W') (hn : K.n₀ ≤ W.heap.size) : KeepsQ K W W' :=
  ⟨h.size, fun k _ _ hk _ => (h.block k (Array.getElem?_eq_some_iff.1 hk).1).trans hk, fun k _ _ _ hk _ _ => (h.block k (Array.getElem?_eq_some_iff.1 hk).1).trans hk, h.mono hn⟩
theorem KeepsQ.of_keeps (h : KeepsT TK K.B W W') (hl : Below K.n₀ W W') : KeepsQ K W W' := ⟨h.size, h.same, fun k cs t fr hk ht _ => h.cells k cs t fr hk ht, hl⟩
theorem KeepsQ.set {cs : Array Value} {t : TypeId} {fr : Nat × Nat} {i : Nat} (hb : W.heap[K.q]? = some (.cells cs t fr)) (hn : K.n₀ ≤ K.q) (v : Value) : KeepsQ K W (W.setCell ⟨K.q, i, none⟩ v) :=
  ⟨by simp, fun k o _ hk ho => (Below.heap_setCell _ _ _ k (fun e => by simp only at e; subst e; rw [hb] at hk; cases hk; cases ho)).trans hk,
    fun k cs' t' fr' hk _ hq => (Below.heap_setCell _ _ _ k (fun e => hq e)).trans hk, (Below.refl _ _).setCell hn _⟩
end
theorem Ckr.stays {K : CkE} {pm : Option Nat} {E : Env} {n : Int} {over : Bool} {W W' : World} (h : Ckr K pm E n over W) (hk : KeepsQ K W W') {n' : Int} {over' : Bool}
    (hb : W'.heap[K.q]? = some (.cells (K.cells pm E n' over') 129 (0, 0))) : Ckr K pm E n' over' W' :=
  ⟨hb, h.params.stays hk.same, map_stays h.things h.mt hk.same, map_stays h.procs h.mp hk.same, h.prog.below hk.low, h.n0, h.q, h.mt, h.mp⟩
theorem Ckr.lt {K : CkE} {pm : Option Nat} {E : Env} {n : Int} {over : Bool} {W : World} (h : Ckr K pm E n over W) : K.q < W.heap.size := (Array.getElem?_eq_some_iff.1 h.box).1
theorem Ckr.new {K : CkE} {pm : Option Nat} {E : Env} {n : Int} {over : Bool} {W W' : World} (h : Ckr K pm E n over W) (hb : Below W.heap.size W W') : Ckr K pm E n over W' :=
  h.stays (.of_below hb (by have := h.lt; have := h.q; have := h.n0; omega)) ((hb.block _ h.lt).trans h.box)
/-- What is known while the checker goes on: the codes that were told so far; all were yielded, or a round has said no more. -/
def TellSt (J Jx : List (Int × Int) → World → Prop) (cs : List Int) (over : Bool) (W : World) : Prop :=
  (over = false ∧ J (probs cs 0) W) ∨ (over = true ∧ ∃ l, l ≠ [] ∧ l <+: probs cs 0 ∧ Jx l W)
structure CkSt (K : CkE) (J Jx : List (Int × Int) → World → Prop) (pm : Option Nat) (E : Env) (cs : List Int) (W : World) : Prop where
  ex : ∃ over, Ckr K pm E cs.length over W ∧ TellSt J Jx cs over W
/-- What a function that tells leaves: so many codes more. -/
structure Told (K : CkE) (J Jx : List (Int × Int) → World → Prop) (pm : Option Nat) (E : Env) (cs : List Int) (W W' : World) : Prop where
  st : CkSt K J Jx pm E cs W'
  keeps : KeepsQ K W W'
/-- Telling. -/
def TellOk (K : CkE) (J Jx : List (Int × Int) → World → Prop) : Prop :=
  ∀ (pm : Option Nat) (E : Env) (cs : List Int) (W : World) (c : Int), CkSt K J Jx pm E cs W → cs.length < 1000000 →
    Calls Tryz.prog 110 #[.pointer (some ⟨K.q, 0, none⟩), .int .i64 c] W fun o W' => o = .returned (.tuple #[]) ∧ Told K J Jx pm E (cs ++ [c]) W W'
theorem CkSt.new {K : CkE} {J Jx : List (Int × Int) → World → Prop} {pm : Option Nat} {E : Env} {cs : List Int} {W W' : World} (h : CkSt K J Jx pm E cs W)
    (hJ : OwnC 129 K.B J) (hJx : OwnC 129 K.B Jx) (hb : Below W.heap.size W W') : CkSt K J Jx pm E cs W' := by
  obtain ⟨over, h1, h2⟩ := h.ex
  refine ⟨over, h1.new hb, ?_⟩
  rcases h2 with ⟨e, h2⟩ | ⟨e, l, h3, h4, h5⟩
  · exact .inl ⟨e, hJ.new h2 hb⟩
  · exact .inr ⟨e, l, h3, h4, hJx.new h5 hb⟩
end Go.Proofs.YthcboallnbaimaaGreatDoor
