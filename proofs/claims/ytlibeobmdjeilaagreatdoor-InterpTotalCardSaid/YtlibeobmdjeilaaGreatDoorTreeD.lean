/- The executor and what it leans on (TreeD): told in wip/x. -/
import Derived.Below
import Derived.RowKit
import Derived.WalkKit
set_option linter.all false
namespace Go.Proofs.YtlibeobmdjeilaaGreatDoor
open Go Go.RowKit
/-- Where a slice lies, and what it can hold. -/
structure Sp where
  at_ : Option Addr
  cap : Nat
def Sp.none : Sp := ⟨.none, 0⟩
def Sp.val (s : Sp) (n : Nat) : Value := .slice s.at_ n s.cap
/-- A row: the slice s of n elements of k cells; enc: an element's cells. -/
structure RowOf {α : Type} (n₀ : Nat) (W : World) (s : Sp) (k : Nat) (enc : α → List Value) (l : List α) : Prop where
  cap : l.length ≤ s.cap
  big : s.cap ≤ maxLen
  few : l.length ≤ 4398046511104
  row : 0 < l.length → ∃ b off, s.at_ = some ⟨b, off, .none⟩ ∧ b < n₀ ∧ ∀ j (h : j < l.length) r u, (enc (l[j]))[r]? = some u → W.cell? ⟨b, off + j * k + r, .none⟩ = some u
section
variable {α : Type} {n₀ n₁ : Nat} {W W' : World} {s : Sp} {k : Nat} {enc : α → List Value} {l : List α}
theorem RowOf.below (h : RowOf n₀ W s k enc l) (hb : Below n₀ W W') : RowOf n₀ W' s k enc l :=
  ⟨h.cap, h.big, h.few, fun h0 => by
    obtain ⟨b, off, e, hlt, hc⟩ := h.row h0
    exact ⟨b, off, e, hlt, fun j hj r u hu => (hb.cell (p := ⟨b, off + j * k + r, .none⟩) hlt).trans (hc j hj r u hu)⟩⟩
theorem RowOf.more (h : RowOf n₀ W s k enc l) (hn : n₀ ≤ n₁) : RowOf n₁ W s k enc l :=
  ⟨h.cap, h.big, h.few, fun h0 => by
    obtain ⟨b, off, e, hlt, hc⟩ := h.row h0
    exact ⟨b, off, e, by omega, hc⟩⟩
theorem RowOf.nil : RowOf n₀ W Sp.none k enc ([] : List α) := ⟨Nat.le_refl _, Nat.zero_le _, Nat.zero_le _, fun h => absurd h (by simp)⟩
end
/-- Kind, Op, Value, Width, Name; the Subs' place; the Subs. -/
inductive ExprV where
  | mk (kind op value width : Int) (name : ByteArray) (sp : Sp) (subs : List ExprV)
namespace ExprV
def kind : ExprV → Int | mk k _ _ _ _ _ _ => k
def op : ExprV → Int | mk _ o _ _ _ _ _ => o
def value : ExprV → Int | mk _ _ v _ _ _ _ => v
def width : ExprV → Int | mk _ _ _ w _ _ _ => w
def name : ExprV → ByteArray | mk _ _ _ _ n _ _ => n
def sp : ExprV → Sp | mk _ _ _ _ _ s _ => s
def subs : ExprV → List ExprV | mk _ _ _ _ _ _ l => l
def cells (e : ExprV) : List Value := [.int .u8 e.kind, .int .u8 e.op, .int .u32 e.value, .int .i64 e.width, .string e.name, e.sp.val e.subs.length]
def val (e : ExprV) : Value := .agg #[.int .u8 e.kind, .int .u8 e.op, .int .u32 e.value, .int .i64 e.width, .string e.name, e.sp.val e.subs.length]
end ExprV
/-- The memory holds the expression's parts, in blocks below n₀. -/
inductive RdX (n₀ : Nat) (W : World) : ExprV → Prop
  | mk (e : ExprV) (k : 0 ≤ e.kind ∧ e.kind ≤ 255) (o : 0 ≤ e.op ∧ e.op ≤ 255) (v : 0 ≤ e.value ∧ e.value ≤ 4294967295) (w : (Lit.int .i64 e.width).wf = true) (n : e.name.size ≤ maxLen)
      (row : RowOf n₀ W e.sp 6 ExprV.cells e.subs) (subs : ∀ s, s ∈ e.subs → RdX n₀ W s) : RdX n₀ W e
theorem RdX.stays {n₀ : Nat} {W W' : World} {e : ExprV} (h : RdX n₀ W e) (hb : Below n₀ W W') : RdX n₀ W' e := by
  induction h with
  | mk e k o v w n row _ ih => exact .mk e k o v w n (row.below hb) ih
theorem RdX.more {n₀ n₁ : Nat} {W : World} {e : ExprV} (h : RdX n₀ W e) (hn : n₀ ≤ n₁) : RdX n₁ W e := by
  induction h with
  | mk e k o v w n row _ ih => exact .mk e k o v w n (row.more hn) ih
theorem RdX.row {n₀ : Nat} {W : World} {e : ExprV} (h : RdX n₀ W e) : RowOf n₀ W e.sp 6 ExprV.cells e.subs := by cases h; assumption
theorem RdX.sub {n₀ : Nat} {W : World} {e : ExprV} (h : RdX n₀ W e) : ∀ s, s ∈ e.subs → RdX n₀ W s := by cases h; assumption
/-- Kind, Name, Exprs, Bound, Then, Else. -/
inductive StmtV where
  | mk (kind : Int) (name : ByteArray) (es : Sp) (exprs : List ExprV) (bound : Int) (ts : Sp) (thn : List StmtV) (os : Sp) (els : List StmtV)
namespace StmtV
def kind : StmtV → Int | mk k _ _ _ _ _ _ _ _ => k
def name : StmtV → ByteArray | mk _ n _ _ _ _ _ _ _ => n
def es : StmtV → Sp | mk _ _ s _ _ _ _ _ _ => s
def exprs : StmtV → List ExprV | mk _ _ _ l _ _ _ _ _ => l
def bound : StmtV → Int | mk _ _ _ _ b _ _ _ _ => b
def ts : StmtV → Sp | mk _ _ _ _ _ s _ _ _ => s
def thn : StmtV → List StmtV | mk _ _ _ _ _ _ l _ _ => l
def os : StmtV → Sp | mk _ _ _ _ _ _ _ s _ => s
def els : StmtV → List StmtV | mk _ _ _ _ _ _ _ _ l => l
def cells (s : StmtV) : List Value := [.int .u8 s.kind, .string s.name, s.es.val s.exprs.length, .int .i64 s.bound, s.ts.val s.thn.length, s.os.val s.els.length]
def val (s : StmtV) : Value := .agg #[.int .u8 s.kind, .string s.name, s.es.val s.exprs.length, .int .i64 s.bound, s.ts.val s.thn.length, s.os.val s.els.length]
end StmtV
inductive RdT (n₀ : Nat) (W : World) : StmtV → Prop
  | mk (s : StmtV) (k : 0 ≤ s.kind ∧ s.kind ≤ 255) (b : (Lit.int .i64 s.bound).wf = true) (n : s.name.size ≤ maxLen)
      (erow : RowOf n₀ W s.es 6 ExprV.cells s.exprs) (exprs : ∀ e, e ∈ s.exprs → RdX n₀ W e)
      (trow : RowOf n₀ W s.ts 6 StmtV.cells s.thn) (thn : ∀ t, t ∈ s.thn → RdT n₀ W t)
      (orow : RowOf n₀ W s.os 6 StmtV.cells s.els) (els : ∀ t, t ∈ s.els → RdT n₀ W t) : RdT n₀ W s
theorem RdT.stays {n₀ : Nat} {W W' : World} {s : StmtV} (h : RdT n₀ W s) (hb : Below n₀ W W') : RdT n₀ W' s := by
  induction h with
  | mk s k b n er ex tr _ or _ ih1 ih2 => exact .mk s k b n (er.below hb) (fun e he => (ex e he).stays hb) (tr.below hb) ih1 (or.below hb) ih2
theorem RdT.more {n₀ n₁ : Nat} {W : World} {s : StmtV} (h : RdT n₀ W s) (hn : n₀ ≤ n₁) : RdT n₁ W s := by
  induction h with
  | mk s k b n er ex tr _ or _ ih1 ih2 => exact .mk s k b n (er.more hn) (fun e he => (ex e he).more hn) (tr.more hn) ih1 (or.more hn) ih2
structure DeclV where
  name : ByteArray
  width : Int
  size : Int
def DeclV.cells (d : DeclV) : List Value := [.string d.name, .int .i64 d.width, .int .i64 d.size]
def DeclV.val (d : DeclV) : Value := .agg #[.string d.name, .int .i64 d.width, .int .i64 d.size]
/-- What every declaration of a row is. -/
def DeclOk (d : DeclV) : Prop := d.name.size ≤ maxLen ∧ (Lit.int .i64 d.width).wf = true ∧ (Lit.int .i64 d.size).wf = true
structure RdDs (n₀ : Nat) (W : World) (s : Sp) (l : List DeclV) : Prop where
  row : RowOf n₀ W s 3 DeclV.cells l
  ok : ∀ d ∈ l, DeclOk d
theorem RdDs.below {n₀ : Nat} {W W' : World} {s : Sp} {l : List DeclV} (h : RdDs n₀ W s l) (hb : Below n₀ W W') : RdDs n₀ W' s l := ⟨h.row.below hb, h.ok⟩
theorem RdDs.more {n₀ n₁ : Nat} {W : World} {s : Sp} {l : List DeclV} (h : RdDs n₀ W s l) (hn : n₀ ≤ n₁) : RdDs n₁ W s l := ⟨h.row.more hn, h.ok⟩
structure RdTs (n₀ : Nat) (W : World) (s : Sp) (l : List StmtV) : Prop where
  row : RowOf n₀ W s 6 StmtV.cells l
  ok : ∀ t ∈ l, RdT n₀ W t
theorem RdTs.below {n₀ : Nat} {W W' : World} {s : Sp} {l : List StmtV} (h : RdTs n₀ W s l) (hb : Below n₀ W W') : RdTs n₀ W' s l := ⟨h.row.below hb, fun t ht => (h.ok t ht).stays hb⟩
theorem RdTs.more {n₀ n₁ : Nat} {W : World} {s : Sp} {l : List StmtV} (h : RdTs n₀ W s l) (hn : n₀ ≤ n₁) : RdTs n₁ W s l := ⟨h.row.more hn, fun t ht => (h.ok t ht).more hn⟩
structure RdXs (n₀ : Nat) (W : World) (s : Sp) (l : List ExprV) : Prop where
  row : RowOf n₀ W s 6 ExprV.cells l
  ok : ∀ e ∈ l, RdX n₀ W e
theorem RdXs.below {n₀ : Nat} {W W' : World} {s : Sp} {l : List ExprV} (h : RdXs n₀ W s l) (hb : Below n₀ W W') : RdXs n₀ W' s l := ⟨h.row.below hb, fun t ht => (h.ok t ht).stays hb⟩
theorem RdXs.more {n₀ n₁ : Nat} {W : World} {s : Sp} {l : List ExprV} (h : RdXs n₀ W s l) (hn : n₀ ≤ n₁) : RdXs n₁ W s l := ⟨h.row.more hn, fun t ht => (h.ok t ht).more hn⟩
theorem RdX.xs {n₀ : Nat} {W : World} {e : ExprV} (h : RdX n₀ W e) : RdXs n₀ W e.sp e.subs := ⟨h.row, h.sub⟩
theorem RdT.xs {n₀ : Nat} {W : World} {s : StmtV} (h : RdT n₀ W s) : RdXs n₀ W s.es s.exprs := by cases h with | mk _ _ _ _ er ex => exact ⟨er, ex⟩
theorem RdT.then_ {n₀ : Nat} {W : World} {s : StmtV} (h : RdT n₀ W s) : RdTs n₀ W s.ts s.thn := by cases h with | mk _ _ _ _ _ _ tr th => exact ⟨tr, th⟩
theorem RdT.else_ {n₀ : Nat} {W : World} {s : StmtV} (h : RdT n₀ W s) : RdTs n₀ W s.os s.els := by cases h with | mk _ _ _ _ _ _ _ _ orow el => exact ⟨orow, el⟩
structure InitV where
  block : Int
  value : ExprV
def InitV.cells (i : InitV) : List Value := .int .i64 i.block :: i.value.cells
/-- A struct within a struct lies flat: its fields stand among the outer one's. -/
def InitV.val (i : InitV) : Value := .agg #[.int .i64 i.block, .int .u8 i.value.kind, .int .u8 i.value.op, .int .u32 i.value.value, .int .i64 i.value.width, .string i.value.name, i.value.sp.val i.value.subs.length]
structure ProcV where
  name : ByteArray
  ps : Sp
  params : List DeclV
  bs : Sp
  body : List StmtV
def ProcV.cells (p : ProcV) : List Value := [.string p.name, p.ps.val p.params.length, p.bs.val p.body.length]
def ProcV.val (p : ProcV) : Value := .agg #[.string p.name, p.ps.val p.params.length, p.bs.val p.body.length]
structure ProgV where
  blocks : Int
  width : Int
  is : Sp
  inputs : List DeclV
  gs : Sp
  ghosts : List DeclV
  vs : Sp
  vars : List DeclV
  as : Sp
  arrays : List DeclV
  require : ExprV
  ns : Sp
  inits : List InitV
  rs : Sp
  procs : List ProcV
  ws : Sp
  work : List StmtV
  cs : Sp
  recover : List StmtV
  invariant : ExprV
def ProgV.val (p : ProgV) : Value := .agg #[.int .i64 p.blocks, .int .i64 p.width, p.is.val p.inputs.length, p.gs.val p.ghosts.length, p.vs.val p.vars.length, p.as.val p.arrays.length, .int .u8 p.require.kind, .int .u8 p.require.op, .int .u32 p.require.value, .int .i64 p.require.width, .string p.require.name, p.require.sp.val p.require.subs.length, p.ns.val p.inits.length, p.rs.val p.procs.length, p.ws.val p.work.length, p.cs.val p.recover.length, .int .u8 p.invariant.kind, .int .u8 p.invariant.op, .int .u32 p.invariant.value, .int .i64 p.invariant.width, .string p.invariant.name, p.invariant.sp.val p.invariant.subs.length]
def ProgV.cells (p : ProgV) : List Value := [.int .i64 p.blocks, .int .i64 p.width, p.is.val p.inputs.length, p.gs.val p.ghosts.length, p.vs.val p.vars.length, p.as.val p.arrays.length, .int .u8 p.require.kind, .int .u8 p.require.op, .int .u32 p.require.value, .int .i64 p.require.width, .string p.require.name, p.require.sp.val p.require.subs.length, p.ns.val p.inits.length, p.rs.val p.procs.length, p.ws.val p.work.length, p.cs.val p.recover.length, .int .u8 p.invariant.kind, .int .u8 p.invariant.op, .int .u32 p.invariant.value, .int .i64 p.invariant.width, .string p.invariant.name, p.invariant.sp.val p.invariant.subs.length]
structure RdI' (n₀ : Nat) (W : World) (i : InitV) : Prop where
  block : (Lit.int .i64 i.block).wf = true
  value : RdX n₀ W i.value
structure RdPr (n₀ : Nat) (W : World) (p : ProcV) : Prop where
  name : p.name.size ≤ maxLen
  params : RdDs n₀ W p.ps p.params
  body : RdTs n₀ W p.bs p.body
structure RdP (n₀ : Nat) (W : World) (p : ProgV) : Prop where
  blocks : (Lit.int .i64 p.blocks).wf = true
  width : (Lit.int .i64 p.width).wf = true
  inputs : RdDs n₀ W p.is p.inputs
  ghosts : RdDs n₀ W p.gs p.ghosts
  vars : RdDs n₀ W p.vs p.vars
  arrays : RdDs n₀ W p.as p.arrays
  require : RdX n₀ W p.require
  irow : RowOf n₀ W p.ns 7 InitV.cells p.inits
  inits : ∀ i ∈ p.inits, RdI' n₀ W i
  prow : RowOf n₀ W p.rs 3 ProcV.cells p.procs
  procs : ∀ q ∈ p.procs, RdPr n₀ W q
  work : RdTs n₀ W p.ws p.work
  recover : RdTs n₀ W p.cs p.recover
  invariant : RdX n₀ W p.invariant
theorem RdI'.below {n₀ : Nat} {W W' : World} {i : InitV} (h : RdI' n₀ W i) (hb : Below n₀ W W') : RdI' n₀ W' i := ⟨h.block, h.value.stays hb⟩
theorem RdPr.below {n₀ : Nat} {W W' : World} {p : ProcV} (h : RdPr n₀ W p) (hb : Below n₀ W W') : RdPr n₀ W' p := ⟨h.name, h.params.below hb, h.body.below hb⟩
theorem RdP.below {n₀ : Nat} {W W' : World} {p : ProgV} (h : RdP n₀ W p) (hb : Below n₀ W W') : RdP n₀ W' p :=
  ⟨h.blocks, h.width, h.inputs.below hb, h.ghosts.below hb, h.vars.below hb, h.arrays.below hb, h.require.stays hb, h.irow.below hb, fun i hi => (h.inits i hi).below hb, h.prow.below hb, fun q hq => (h.procs q hq).below hb, h.work.below hb, h.recover.below hb, h.invariant.stays hb⟩
theorem RdP.more {n₀ n₁ : Nat} {W : World} {p : ProgV} (h : RdP n₀ W p) (hn : n₀ ≤ n₁) : RdP n₁ W p :=
  ⟨h.blocks, h.width, h.inputs.more hn, h.ghosts.more hn, h.vars.more hn, h.arrays.more hn, h.require.more hn, h.irow.more hn, fun i hi => ⟨(h.inits i hi).block, (h.inits i hi).value.more hn⟩, h.prow.more hn, fun q hq => ⟨(h.procs q hq).name, (h.procs q hq).params.more hn, (h.procs q hq).body.more hn⟩, h.work.more hn, h.recover.more hn, h.invariant.more hn⟩
/-- All nodes of an expression, from the left. -/
def ExprV.pre : ExprV → List ExprV
  | mk k o v w n s l => mk k o v w n s l :: l.flatMap ExprV.pre
theorem ExprV.pre_eq (e : ExprV) : e.pre = e :: e.subs.flatMap ExprV.pre := by
  cases e; rw [ExprV.pre]; rfl
/-- All statements of a list, each before those in it. -/
def StmtV.pre : StmtV → List StmtV
  | mk k n es ex b ts th os el => mk k n es ex b ts th os el :: (th.flatMap StmtV.pre ++ el.flatMap StmtV.pre)
theorem StmtV.pre_eq (s : StmtV) : s.pre = s :: (s.thn.flatMap StmtV.pre ++ s.els.flatMap StmtV.pre) := by
  cases s; rw [StmtV.pre]; rfl
end Go.Proofs.YtlibeobmdjeilaaGreatDoor
