/- The executor and what it leans on (PC): told in wip/x. -/
import Derived.Test.YtlibeobmdjeilaaGreatDoorPA
import Derived.Deep.AppendSrc
import Derived.Below
import Derived.RangeFuncIn
import Derived.IntWalk
import Derived.Laws.Strings
set_option linter.all false
namespace Go.Proofs.YtlibeobmdjeilaaGreatDoor.Ex
open Go
/-- Where a name's block lies: its block in memory, the shift, how many elements it has in all. -/
structure E where
  blk : Nat
  sh : Nat
  tot : Nat
abbrev Env := Nat → Option E
def Env.le (s t : Env) : Prop := ∀ b e, s b = some e → t b = some e
theorem Env.le.rf (s : Env) : s.le s := fun _ _ h => h
theorem Env.le.tr {s t u : Env} (h : s.le t) (k : t.le u) : s.le u := fun b e x => k b e (h b e x)
def E.ad (e : E) (o : Nat) : Addr := ⟨e.blk, e.sh + o, none⟩
mutual
def VR (s : Env) : XV → Value → Prop
  | .bool b, v => v = .bool b
  | .int k n, v => v = .int k n
  | .str l, v => v = .string ⟨⟨l⟩⟩
  | .nilp, v => v = .pointer none
  | .ptr b o, v => ∃ e, s b = some e ∧ v = .pointer (some (e.ad o))
  | .nsl, v => v = .slice none 0 0
  | .sl b o n (.ex c), v => ∃ e, s b = some e ∧ v = .slice (some (e.ad o)) n c
  | .sl b o n (.op k), v => ∃ e, s b = some e ∧ v = .slice (some (e.ad o)) n (e.tot - k)
  | .esl, v => ∃ ad c, v = .slice (some ad) 0 c
  | .nmap, v => v = .map none
  | .map b, v => ∃ e, s b = some e ∧ v = .map (some e.blk)
  | .nfn, v => v = .nilFunc
  | .fn f a c, v => ∃ va vc, v = .func (.func f) ⟨va⟩ ⟨vc⟩ ∧ VRs s a va ∧ VRs s c vc
  | .yld l, v => ∃ e, s l = some e ∧ v = .func (.yield e.blk) #[] #[]
  | .agg l, v => ∃ vs, v = .agg ⟨vs⟩ ∧ VRs s l vs ∧ l.all XV.one = true
  | .tup l, v => ∃ vs, v = .tuple ⟨vs⟩ ∧ VRs s l vs
def VRs (s : Env) : List XV → List Value → Prop
  | [], vs => vs = []
  | x :: l, vs => ∃ v ws, vs = v :: ws ∧ VR s x v ∧ VRs s l ws
end
section
variable {s t : Env}
mutual
theorem VR.mono (h : s.le t) : ∀ {x : XV} {v : Value}, VR s x v → VR t x v := by
  intro x v hv
  cases x with
  | ptr b o => obtain ⟨e, h1, h2⟩ := hv; exact ⟨e, h _ _ h1, h2⟩
  | sl b o n c => cases c with
    | ex c => obtain ⟨e, h1, h2⟩ := hv; exact ⟨e, h _ _ h1, h2⟩
    | op c => obtain ⟨e, h1, h2⟩ := hv; exact ⟨e, h _ _ h1, h2⟩
  | map b => obtain ⟨e, h1, h2⟩ := hv; exact ⟨e, h _ _ h1, h2⟩
  | yld b => obtain ⟨e, h1, h2⟩ := hv; exact ⟨e, h _ _ h1, h2⟩
  | fn f a c => obtain ⟨va, vc, h1, h2, h3⟩ := hv; exact ⟨va, vc, h1, VRs.mono h h2, VRs.mono h h3⟩
  | agg l => obtain ⟨vs, h1, h2, h3⟩ := hv; exact ⟨vs, h1, VRs.mono h h2, h3⟩
  | tup l => obtain ⟨vs, h1, h2⟩ := hv; exact ⟨vs, h1, VRs.mono h h2⟩
  | bool b => exact hv
  | int k n => exact hv
  | str l => exact hv
  | nilp => exact hv
  | nsl => exact hv
  | esl => exact hv
  | nmap => exact hv
  | nfn => exact hv
theorem VRs.mono (h : s.le t) : ∀ {l : List XV} {vs : List Value}, VRs s l vs → VRs t l vs := by
  intro l vs hv
  cases l with
  | nil => exact hv
  | cons x l => obtain ⟨v, ws, h1, h2, h3⟩ := hv; exact ⟨v, ws, h1, VR.mono h h2, VRs.mono h h3⟩
end
theorem VRs.length {l : List XV} : ∀ {vs : List Value}, VRs s l vs → vs.length = l.length := by
  induction l with
  | nil => intro vs h; rw [VRs] at h; subst h; rfl
  | cons x l ih => intro vs h; obtain ⟨v, ws, rfl, _, h3⟩ := h; simp [ih h3]
theorem VRs.get {l : List XV} : ∀ {vs : List Value}, VRs s l vs → ∀ {i : Nat} {x : XV}, l[i]? = some x → ∃ v, vs[i]? = some v ∧ VR s x v := by
  induction l with
  | nil => intro vs h i x hx; simp at hx
  | cons y l ih =>
    intro vs h i x hx
    obtain ⟨v, ws, rfl, h2, h3⟩ := h
    cases i with
    | zero => simp at hx; subst hx; exact ⟨v, rfl, h2⟩
    | succ i => simp at hx; simpa using ih h3 hx
theorem VRs.drop {l : List XV} : ∀ {vs : List Value} (n : Nat), VRs s l vs → VRs s (l.drop n) (vs.drop n) := by
  induction l with
  | nil => intro vs n h; rw [VRs] at h; subst h; simp [VRs]
  | cons y l ih =>
    intro vs n h
    cases n with
    | zero => exact h
    | succ n => obtain ⟨v, ws, rfl, h2, h3⟩ := h; exact ih n h3
theorem VRs.append {l m : List XV} : ∀ {vs ws : List Value}, VRs s l vs → VRs s m ws → VRs s (l ++ m) (vs ++ ws) := by
  induction l with
  | nil => intro vs ws h k; rw [VRs] at h; subst h; exact k
  | cons y l ih => intro vs ws h k; obtain ⟨v, us, rfl, h2, h3⟩ := h; exact ⟨v, us ++ ws, rfl, h2, ih h3 k⟩
theorem takeL_length : ∀ {l : List XV} {n : Nat} {r : List XV}, takeL l n = some r → r = l.take n ∧ n ≤ l.length
  | l, 0, r, h => by simp only [takeL] at h; cases h; simp
  | [], n + 1, r, h => by simp [takeL] at h
  | x :: l, n + 1, r, h => by
    simp only [takeL] at h
    cases e : takeL l n with
    | none => rw [e] at h; cases h
    | some r' => rw [e] at h; cases h; obtain ⟨h1, h2⟩ := takeL_length e; subst h1; exact ⟨by simp, by simpa using h2⟩
theorem VRs.take {l : List XV} : ∀ {vs : List Value} (n : Nat), VRs s l vs → VRs s (l.take n) (vs.take n) := by
  induction l with
  | nil => intro vs n h; rw [VRs] at h; subst h; simp [VRs]
  | cons y l ih =>
    intro vs n h
    cases n with
    | zero => simp [VRs]
    | succ n => obtain ⟨v, ws, rfl, h2, h3⟩ := h; exact ⟨v, ws.take n, rfl, h2, ih n h3⟩
/-- A cell is no row of cells. -/
theorem VR.one {x : XV} {v : Value} (h : VR s x v) (hx : x.one = true) : v.oneCell' = true := by
  cases x with
  | agg l => cases hx
  | tup l => cases hx
  | sl b o n c => cases c <;> (obtain ⟨e, _, rfl⟩ := h; rfl)
  | ptr b o => obtain ⟨e, _, rfl⟩ := h; rfl
  | esl => obtain ⟨ad, c, rfl⟩ := h; rfl
  | map b => obtain ⟨e, _, rfl⟩ := h; rfl
  | yld b => obtain ⟨e, _, rfl⟩ := h; rfl
  | fn f a c => obtain ⟨va, vc, rfl, _⟩ := h; rfl
  | bool b => rw [VR] at h; rw [h]; rfl
  | int k n => rw [VR] at h; rw [h]; rfl
  | str l => rw [VR] at h; rw [h]; rfl
  | nilp => rw [VR] at h; rw [h]; rfl
  | nsl => rw [VR] at h; rw [h]; rfl
  | nmap => rw [VR] at h; rw [h]; rfl
  | nfn => rw [VR] at h; rw [h]; rfl
theorem VRs.ones {l : List XV} : ∀ {vs : List Value}, VRs s l vs → l.all XV.one = true → ∀ v ∈ vs, v.oneCell' = true := by
  induction l with
  | nil => intro vs h _ v hv; rw [VRs] at h; subst h; cases hv
  | cons y l ih =>
    intro vs h ho v hv
    obtain ⟨u, ws, rfl, h2, h3⟩ := h
    simp only [List.all_cons, Bool.and_eq_true] at ho
    cases hv with
    | head => exact h2.one ho.1
    | tail _ hm => exact ih h3 ho.2 v hm
/-- The cells that a value fills. -/
theorem VR.cells {x : XV} {v : Value} (h : VR s x v) {cs : List XV} (hc : x.cells = some cs) : VRs s cs v.cells.toList ∧ cs.all XV.one = true := by
  cases x with
  | agg l => cases hc; obtain ⟨vs, rfl, h2, h3⟩ := h; exact ⟨h2, h3⟩
  | tup l => cases hc
  | sl b o n c => cases hc; cases c <;> (obtain ⟨e, h1, rfl⟩ := h; exact ⟨⟨_, [], rfl, ⟨e, h1, rfl⟩, rfl⟩, rfl⟩)
  | ptr b o => cases hc; obtain ⟨e, h1, rfl⟩ := h; exact ⟨⟨_, [], rfl, ⟨e, h1, rfl⟩, rfl⟩, rfl⟩
  | esl => cases hc; obtain ⟨ad, c, rfl⟩ := h; exact ⟨⟨_, [], rfl, ⟨ad, c, rfl⟩, rfl⟩, rfl⟩
  | map b => cases hc; obtain ⟨e, h1, rfl⟩ := h; exact ⟨⟨_, [], rfl, ⟨e, h1, rfl⟩, rfl⟩, rfl⟩
  | yld b => cases hc; obtain ⟨e, h1, rfl⟩ := h; exact ⟨⟨_, [], rfl, ⟨e, h1, rfl⟩, rfl⟩, rfl⟩
  | fn f a c => cases hc; obtain ⟨va, vc, rfl, h1⟩ := h; exact ⟨⟨_, [], rfl, ⟨va, vc, rfl, h1⟩, rfl⟩, rfl⟩
  | bool b => cases hc; rw [VR] at h; subst h; exact ⟨⟨_, [], rfl, rfl, rfl⟩, rfl⟩
  | int k n => cases hc; rw [VR] at h; subst h; exact ⟨⟨_, [], rfl, rfl, rfl⟩, rfl⟩
  | str l => cases hc; rw [VR] at h; subst h; exact ⟨⟨_, [], rfl, rfl, rfl⟩, rfl⟩
  | nilp => cases hc; rw [VR] at h; subst h; exact ⟨⟨_, [], rfl, rfl, rfl⟩, rfl⟩
  | nsl => cases hc; rw [VR] at h; subst h; exact ⟨⟨_, [], rfl, rfl, rfl⟩, rfl⟩
  | nmap => cases hc; rw [VR] at h; subst h; exact ⟨⟨_, [], rfl, rfl, rfl⟩, rfl⟩
  | nfn => cases hc; rw [VR] at h; subst h; exact ⟨⟨_, [], rfl, rfl, rfl⟩, rfl⟩
theorem VR.xv1 {v : Value} {x : XV} (h : xv1 v = some x) : VR s x v ∧ x.one = true := by
  cases v with
  | bool b => cases h; exact ⟨rfl, rfl⟩
  | int k n => cases h; exact ⟨rfl, rfl⟩
  | string b => cases h; exact ⟨rfl, rfl⟩
  | pointer a => cases a with
    | none => cases h; exact ⟨rfl, rfl⟩
    | some a => cases h
  | slice a n c => cases a with
    | some a => simp [Ex.xv1] at h
    | none => cases n with
      | succ n => simp [Ex.xv1] at h
      | zero => cases c with
        | succ n => simp [Ex.xv1] at h
        | zero => cases h; exact ⟨rfl, rfl⟩
  | map r => cases r with
    | none => cases h; exact ⟨rfl, rfl⟩
    | some a => cases h
  | nilFunc => cases h; exact ⟨rfl, rfl⟩
  | _ => cases h
theorem VRs.xvs1 : ∀ {vs : List Value} {l : List XV}, xvs1 vs = some l → VRs s l vs ∧ l.all XV.one = true
  | [], l, h => by simp only [Ex.xvs1] at h; cases h; exact ⟨rfl, rfl⟩
  | v :: vs, l, h => by
    simp only [Ex.xvs1] at h
    cases e1 : Ex.xv1 v with
    | none => rw [e1] at h; cases h
    | some x => cases e2 : Ex.xvs1 vs with
      | none => rw [e1, e2] at h; cases h
      | some xs =>
        rw [e1, e2] at h; cases h
        obtain ⟨h1, h2⟩ := VR.xv1 (s := s) e1
        obtain ⟨h3, h4⟩ := VRs.xvs1 e2
        exact ⟨⟨v, vs, rfl, h1, h3⟩, by simp [h2, h4]⟩
theorem VR.xvOf {v : Value} {x : XV} (h : xvOf v = some x) : VR s x v := by
  cases v with
  | agg cs =>
    obtain ⟨l⟩ := cs
    simp only [Ex.xvOf] at h
    cases e : Ex.xvs1 l with
    | none => rw [e] at h; cases h
    | some xs => rw [e] at h; cases h; obtain ⟨h1, h2⟩ := VRs.xvs1 (s := s) e; exact ⟨l, rfl, h1, h2⟩
  | _ => simp only [Ex.xvOf] at h; exact (VR.xv1 h).1
end
end Go.Proofs.YtlibeobmdjeilaaGreatDoor.Ex
namespace Go.Proofs.YtlibeobmdjeilaaGreatDoor.Ex
open Go Go.RowKit
/-- What is kept: the blocks below nf of the world wf; besides, some blocks of the world wp. rs: names that nobody takes. -/
structure Gq where
  nf : Nat
  wf : World
  pr : Nat → Prop
  wp : World
  rs : Nat → Prop
/-- Names below fl lie below nf. -/
structure Gh where
  fl : Nat
  q : Gq
def jcode : XJ → Code
  | .exit id => .exit id
  | .goto l => .goto l
  | .ret => .ret
def TR (s : Env) (tm : T XV) (tmps : Array Value) : Prop := ∀ t x, tm.get t = some x → ∃ v, tmps[t]? = some v ∧ VR s x v
def MRs (s : Env) : List (XV × XV × Nat) → List MapEntry → Prop
  | [], ms => ms = []
  | x :: l, ms => ∃ m ns, ms = m :: ns ∧ VR s x.1 m.key ∧ VR s x.2.1 m.val ∧ m.born = x.2.2 ∧ MRs s l ns
structure LR (s : Env) (L : XL) (r : Loop) : Prop where
  st : r.state = L.st
  pend : r.pending = L.pend.map jcode
  size : r.tmps.size = L.n
  tm : TR s L.tm r.tmps
  params : r.params = L.params
  assign : r.assign = L.assign
  body : r.body = L.body
  defers : ∃ e, s L.defers = some e ∧ r.defers = e.blk
structure RowR (s : Env) (B : XB) (e : E) (arr : Array Value) : Prop where
  cs : ∀ (i : Nat) (x : XV), B.cs[i]? = some x → ∃ v, arr[e.sh + i]? = some v ∧ VR s x v
  one : B.cs.all XV.one = true
  own : B.own = true → e.sh + e.tot * B.sz ≤ arr.size
  lb : B.lb ≤ e.tot
def OR (s : Env) (o : XO) (e : E) (ob : Obj) : Prop := match o with
  | .cells B => ∃ arr ty, ob = .cells arr ty (0, 0) ∧ RowR s B e arr
  | .map es clock => ∃ ents, ob = .map ents clock ∧ MRs s es ents.toList
  | .siter l p => ob = .stringIter ⟨⟨l⟩⟩ p ∧ e.sh = 0
  | .loop L => ∃ r, ob = .loop r ∧ LR s L r
  | .defd b => ob = .deferred (match b with | true => some [] | false => none)
/-- Two names of one block: rows that share what may not be written. -/
def Apart (o o' : XO) (e e' : E) : Prop := ∃ B B', o = .cells B ∧ o' = .cells B' ∧ (∀ i i', i < B.cs.length → i' < B'.cs.length → e.sh + i = e'.sh + i' → i < B.fz ∧ i' < B'.fz) ∧ (B.own = true → B'.own = false ∧ e'.sh + B'.cs.length ≤ e.sh + B.cs.length)
structure Rel (g : Gh) (s : Env) (S : St) (w : World) : Prop where
  dom : ∀ b e, s b = some e → b < S.nx
  obj : ∀ b o, S.hp.get b = some o → ∃ e ob, s b = some e ∧ w.heap[e.blk]? = some ob ∧ OR s o e ob
  new : ∀ b e, s b = some e → g.fl ≤ b → g.q.nf ≤ e.blk
  blw : Below g.q.nf g.q.wf w
  nf : g.q.nf ≤ g.q.wf.heap.size
  glb : ∀ k, k < g.fl → ∃ e, s k = some e ∧ e.blk < g.q.nf
  fl : g.fl ≤ S.nx
  pr : ∀ k, g.q.pr k → k < w.heap.size ∧ w.heap[k]? = g.q.wp.heap[k]?
  npr : ∀ b o e, S.hp.get b = some o → s b = some e → g.fl ≤ b → ¬ g.q.pr e.blk
  ali : ∀ b b' o o' e e', b ≠ b' → S.hp.get b = some o → S.hp.get b' = some o' → s b = some e → s b' = some e' → e.blk = e'.blk → Apart o o' e e'
  res : ∀ b, g.q.rs b → s b = none ∧ b < S.nx
  zero : ∃ tot, s 0 = some ⟨0, 0, tot⟩
section
variable {g : Gh} {s t : Env} {S : St} {w : World}
theorem TR.mono (h : s.le t) {tm : T XV} {a : Array Value} (k : TR s tm a) : TR t tm a := fun i x hx => let ⟨v, h1, h2⟩ := k i x hx; ⟨v, h1, h2.mono h⟩
theorem MRs.mono (h : s.le t) : ∀ {l : List (XV × XV × Nat)} {ms : List MapEntry}, MRs s l ms → MRs t l ms
  | [], _, k => k
  | _ :: _, _, ⟨m, ns, h1, h2, h3, h4, h5⟩ => ⟨m, ns, h1, h2.mono h, h3.mono h, h4, MRs.mono h h5⟩
theorem LR.mono (h : s.le t) {L : XL} {r : Loop} (k : LR s L r) : LR t L r :=
  ⟨k.st, k.pend, k.size, k.tm.mono h, k.params, k.assign, k.body, let ⟨e, h1, h2⟩ := k.defers; ⟨e, h _ _ h1, h2⟩⟩
theorem RowR.mono (h : s.le t) {B : XB} {e : E} {arr : Array Value} (k : RowR s B e arr) : RowR t B e arr :=
  ⟨fun i x hx => let ⟨v, h1, h2⟩ := k.cs i x hx; ⟨v, h1, h2.mono h⟩, k.one, k.own, k.lb⟩
theorem OR.mono (h : s.le t) {o : XO} {e : E} {ob : Obj} (k : OR s o e ob) : OR t o e ob := by
  cases o with
  | cells B => obtain ⟨arr, ty, h1, h2⟩ := k; exact ⟨arr, ty, h1, h2.mono h⟩
  | map es c => obtain ⟨m, h1, h2⟩ := k; exact ⟨m, h1, h2.mono h⟩
  | siter l p => exact k
  | loop L => obtain ⟨r, h1, h2⟩ := k; exact ⟨r, h1, h2.mono h⟩
  | defd b => exact k
theorem Rel.lt (h : Rel g s S w) {b : Nat} {o : XO} {e : E} (hb : S.hp.get b = some o) (he : s b = some e) : e.blk < w.heap.size := by
  obtain ⟨e', ob, h1, h2, _⟩ := h.obj b o hb
  rw [he] at h1; cases h1
  exact (Array.getElem?_eq_some_iff.1 h2).1
theorem Rel.at (h : Rel g s S w) {b : Nat} {o : XO} (hb : S.hp.get b = some o) : ∃ e ob, s b = some e ∧ w.heap[e.blk]? = some ob ∧ OR s o e ob := h.obj b o hb
/-- A world with the same memory. -/
theorem Rel.same (h : Rel g s S w) {w' : World} (hh : w'.heap = w.heap) (h1 : w'.os = w.os) (h2 : w'.tape = w.tape) (h3 : w'.output = w.output) : Rel g s S w' :=
  ⟨h.dom, fun b o hb => by rw [hh]; exact h.obj b o hb, h.new, ⟨h1.trans h.blw.os, h2.trans h.blw.tape, h3.trans h.blw.output, by rw [hh]; exact h.blw.size, fun k hk => by rw [hh]; exact h.blw.block k hk⟩, h.nf, h.glb, h.fl, fun k hk => by rw [hh]; exact h.pr k hk, h.npr, h.ali, h.res, h.zero⟩
theorem Rel.drew (h : Rel g s S w) : Rel g s S w.drew := h.same rfl rfl rfl rfl
theorem Env.upd_le {n : Nat} (hn : s n = none) (e : E) : s.le fun b => if b = n then some e else s b := fun b e' hb => by
  have : b ≠ n := fun he => by rw [he, hn] at hb; cases hb
  simp [this, hb]
/-- A new block. -/
theorem Rel.alloc (h : Rel g s S w) (o : XO) (ob : Obj) (tot : Nat) (ho : ∀ t : Env, s.le t → t S.nx = some ⟨w.heap.size, 0, tot⟩ → OR t o ⟨w.heap.size, 0, tot⟩ ob) :
    ∃ t : Env, s.le t ∧ t S.nx = some ⟨w.heap.size, 0, tot⟩ ∧ Rel g t (S.new o) (w.alloc ob) := by
  have hn : s S.nx = none := by
    cases e : s S.nx with
    | none => rfl
    | some x => exact absurd (h.dom _ _ e) (Nat.lt_irrefl _)
  have hle := Env.upd_le hn ⟨w.heap.size, 0, tot⟩
  refine ⟨_, hle, by simp, ?_⟩
  have hget : ∀ b o', (S.new o).hp.get b = some o' → (b = S.nx ∧ o' = o) ∨ (b ≠ S.nx ∧ S.hp.get b = some o') := by
    intro b o' hb
    simp only [St.new, T.get_set] at hb
    by_cases e : b = S.nx
    · rw [if_pos e] at hb; exact .inl ⟨e, by cases hb; rfl⟩
    · rw [if_neg e] at hb; exact .inr ⟨e, hb⟩
  refine ⟨?_, ?_, ?_, ?_, h.nf, fun k hk => ?_, Nat.le_succ_of_le h.fl, fun k hk => ?_, ?_, ?_, fun b hb => ?_, let ⟨tot, h1⟩ := h.zero; ⟨tot, hle _ _ h1⟩⟩
  · intro b e hb
    show b < S.nx + 1
    by_cases hbn : b = S.nx
    · omega
    · simp [hbn] at hb; have := h.dom _ _ hb; omega
  · intro b o' hb
    rcases hget b o' hb with ⟨rfl, rfl⟩ | ⟨hne, hb'⟩
    · exact ⟨⟨w.heap.size, 0, tot⟩, ob, by simp, heap_alloc_new w ob, ho _ hle (by simp)⟩
    · obtain ⟨e, ob', h1, h2, h3⟩ := h.obj b o' hb'
      have hlt := h.lt hb' h1
      exact ⟨e, ob', by simp [hne, h1], by rw [heap_alloc_old w ob _ hlt]; exact h2, h3.mono hle⟩
  · intro b e hb hf
    by_cases hbn : b = S.nx
    · subst hbn; simp at hb; subst hb; exact Nat.le_trans h.nf h.blw.size
    · simp [hbn] at hb; exact h.new b e hb hf
  · exact h.blw.alloc (Nat.le_trans h.nf h.blw.size) ob
  · obtain ⟨e1, h1, h2⟩ := h.glb k hk
    exact ⟨e1, hle _ _ h1, h2⟩
  · obtain ⟨h1, h2⟩ := h.pr k hk
    exact ⟨by rw [World.size_alloc]; omega, by rw [heap_alloc_old w ob k h1]; exact h2⟩
  · intro b o1 e hb he hf hp
    rcases hget b o1 hb with ⟨rfl, rfl⟩ | ⟨hne, hb'⟩
    · simp at he; subst he; exact Nat.lt_irrefl _ (h.pr _ hp).1
    · simp [hne] at he; exact h.npr b o1 e hb' he hf hp
  · intro b b' o1 o2 e1 e2 hne hb hb' he he' heq
    rcases hget b o1 hb with ⟨rfl, rfl⟩ | ⟨h1, hb1⟩ <;> rcases hget b' o2 hb' with ⟨rfl, rfl⟩ | ⟨h2, hb2⟩
    · exact absurd rfl hne
    · simp at he; subst he; simp [h2] at he'; have := h.lt hb2 he'; simp only at heq; omega
    · simp at he'; subst he'; simp [h1] at he; have := h.lt hb1 he; simp only at heq; omega
    · simp [h1] at he; simp [h2] at he'; exact h.ali b b' o1 o2 e1 e2 hne hb1 hb2 he he' heq
  · obtain ⟨h1, h2⟩ := h.res b hb
    refine ⟨?_, Nat.lt_succ_of_lt h2⟩
    show (if b = S.nx then _ else s b) = none
    rw [if_neg (by omega)]
    exact h1
/-- One block written. -/
theorem Rel.upd (h : Rel g s S w) {b : Nat} {o o' : XO} {e : E} (hb : S.hp.get b = some o) (he : s b = some e) (hf : g.fl ≤ b) {w' : World} {ob' : Obj} (hsz : w'.heap.size = w.heap.size)
    (hh : ∀ k, k ≠ e.blk → w'.heap[k]? = w.heap[k]?) (h1 : w'.os = w.os) (h2 : w'.tape = w.tape) (h3 : w'.output = w.output) (hob : w'.heap[e.blk]? = some ob') (hor : OR s o' e ob')
    (hoth : ∀ b' o2 e2, b' ≠ b → S.hp.get b' = some o2 → s b' = some e2 → e2.blk = e.blk → OR s o2 e2 ob' ∧ Apart o' o2 e e2 ∧ Apart o2 o' e2 e) : Rel g s ⟨S.hp.set (some o') b, S.nx⟩ w' := by
  have hget : ∀ b1 o1, (S.hp.set (some o') b).get b1 = some o1 → (b1 = b ∧ o1 = o') ∨ (b1 ≠ b ∧ S.hp.get b1 = some o1) := by
    intro b1 o1 hb1
    rw [T.get_set] at hb1
    by_cases e : b1 = b
    · rw [if_pos e] at hb1; exact .inl ⟨e, by cases hb1; rfl⟩
    · rw [if_neg e] at hb1; exact .inr ⟨e, hb1⟩
  have hnp := h.npr b o e hb he hf
  refine ⟨h.dom, ?_, h.new, ?_, h.nf, h.glb, h.fl, fun k hk => ?_, ?_, ?_, h.res, h.zero⟩
  · intro b1 o1 hb1
    rcases hget b1 o1 hb1 with ⟨rfl, rfl⟩ | ⟨hne, hb1'⟩
    · exact ⟨e, ob', he, hob, hor⟩
    · obtain ⟨e1, ob1, h4, h5, h6⟩ := h.obj b1 o1 hb1'
      by_cases hq : e1.blk = e.blk
      · exact ⟨e1, ob', h4, by rw [hq]; exact hob, (hoth b1 o1 e1 hne hb1' h4 hq).1⟩
      · exact ⟨e1, ob1, h4, by rw [hh _ hq]; exact h5, h6⟩
  · have hnf := h.new b e he hf
    exact ⟨h1.trans h.blw.os, h2.trans h.blw.tape, h3.trans h.blw.output, by rw [hsz]; exact h.blw.size, fun k hk => (hh k (by omega)).trans (h.blw.block k hk)⟩
  · obtain ⟨h4, h5⟩ := h.pr k hk
    exact ⟨by rw [hsz]; exact h4, (hh k fun q => hnp (q ▸ hk)).trans h5⟩
  · intro b1 o1 e1 hb1 he1 hf1
    rcases hget b1 o1 hb1 with ⟨rfl, rfl⟩ | ⟨h4, hb1'⟩
    · rw [he] at he1; cases he1; exact hnp
    · exact h.npr b1 o1 e1 hb1' he1 hf1
  · intro b1 b2 o1 o2 e1 e2 hne hb1 hb2 he1 he2 heq
    rcases hget b1 o1 hb1 with ⟨rfl, rfl⟩ | ⟨h4, hb1'⟩ <;> rcases hget b2 o2 hb2 with ⟨rfl, rfl⟩ | ⟨h5, hb2'⟩
    · exact absurd rfl hne
    · rw [he] at he1; cases he1; exact (hoth b2 o2 e2 h5 hb2' he2 heq.symm).2.1
    · rw [he] at he2; cases he2; exact (hoth b1 o1 e1 h4 hb1' he1 heq).2.2
    · exact h.ali b1 b2 o1 o2 e1 e2 hne hb1' hb2' he1 he2 heq
def XO.isRow : XO → Bool
  | .cells _ => true
  | _ => false
/-- What is no row has its block for itself. -/
theorem Rel.sole (h : Rel g s S w) {b b' : Nat} {o o' : XO} {e e' : E} (hb : S.hp.get b = some o) (he : s b = some e) (ho : o.isRow = false) (hne : b' ≠ b) (hb' : S.hp.get b' = some o') (he' : s b' = some e') : e'.blk ≠ e.blk := fun hq => by
  obtain ⟨B, B', h1, _⟩ := h.ali b b' o o' e e' (Ne.symm hne) hb hb' he he' hq.symm
  subst h1
  cases ho
theorem put_some {fl b : Nat} {o : XO} {S' : St} (h : S.put fl b o = some S') : fl ≤ b ∧ S' = ⟨S.hp.set (some o) b, S.nx⟩ := by
  unfold St.put at h
  cases hq : Nat.ble fl b with
  | true => rw [hq] at h; cases h; exact ⟨ble_iff.1 hq, rfl⟩
  | false => rw [hq] at h; cases h
/-- What is no row written over. -/
theorem Rel.put (h : Rel g s S w) {b : Nat} {o o' : XO} {S' : St} (hb : S.hp.get b = some o) (ho : o.isRow = false) (hp : S.put g.fl b o' = some S') {e : E} (he : s b = some e) {ob' : Obj} (hor : OR s o' e ob') :
    Rel g s S' { w with heap := w.heap.setIfInBounds e.blk ob' } := by
  obtain ⟨hf, rfl⟩ := put_some hp
  have hlt := h.lt hb he
  refine h.upd hb he hf (by simp) (fun k hk => ?_) rfl rfl rfl ?_ hor (fun b' o2 e2 hne hb' he' hq => absurd hq (h.sole hb he ho hne hb' he'))
  · simp [Array.getElem?_setIfInBounds_ne (Ne.symm hk)]
  · simp [hlt]
end
end Go.Proofs.YtlibeobmdjeilaaGreatDoor.Ex
namespace Go.Proofs.YtlibeobmdjeilaaGreatDoor.Ex
open Go Go.RowKit
section
variable {P : Program} {g : Gh} {s t : Env} {S : St} {w : World}
theorem blk_some {b : Nat} {B : XB} (h : S.blk b = some B) : S.hp.get b = some (.cells B) := by
  unfold St.blk at h
  cases e : S.hp.get b with
  | none => rw [e] at h; cases h
  | some o => cases o with
    | cells B' => rw [e] at h; cases h; rfl
    | _ => rw [e] at h; cases h
/-- A row in memory. -/
theorem Rel.row (h : Rel g s S w) {b : Nat} {B : XB} (hb : S.blk b = some B) : ∃ e arr ty, s b = some e ∧ w.heap[e.blk]? = some (.cells arr ty (0, 0)) ∧ RowR s B e arr := by
  obtain ⟨e, ob, h1, h2, arr, ty, rfl, h3⟩ := h.obj b _ (blk_some hb)
  exact ⟨e, arr, ty, h1, h2, h3⟩
theorem E.add (e : E) (o j : Nat) : (e.ad o).add j = e.ad (o + j) := by
  unfold E.ad Addr.add
  split
  · simp [*]
  · simp [Nat.add_assoc]
theorem VRs.of_get : ∀ {l : List XV} {vs : List Value}, vs.length = l.length → (∀ (i : Nat) (x : XV) (v : Value), l[i]? = some x → vs[i]? = some v → VR s x v) → VRs s l vs
  | [], vs, h, _ => by simpa [VRs] using h
  | x :: l, [], h, _ => by simp at h
  | x :: l, v :: vs, h, k => ⟨v, vs, rfl, k 0 x v rfl rfl, VRs.of_get (by simpa using h) fun i y u hy hu => k (i + 1) y u (by simpa using hy) (by simpa using hu)⟩
theorem RowR.fits {B : XB} {e : E} {arr : Array Value} (k : RowR s B e arr) (h0 : B.cs ≠ []) : e.sh + B.cs.length ≤ arr.size := by
  have hl : 0 < B.cs.length := List.length_pos_iff.2 h0
  have h1 : B.cs[B.cs.length - 1]? = some (B.cs[B.cs.length - 1]'(by omega)) := List.getElem?_eq_getElem (by omega)
  obtain ⟨v, h2, _⟩ := k.cs _ _ h1
  have := (Array.getElem?_eq_some_iff.1 h2).1
  omega
theorem RowR.reads {B : XB} {e : E} {arr : Array Value} (k : RowR s B e arr) {o n : Nat} {cs : List XV} (h : takeL (B.cs.drop o) n = some cs) :
    ∃ us, VRs s cs us ∧ cs.all XV.one = true ∧ us.length = n ∧ ∀ (j : Nat) (u : Value), us[j]? = some u → arr[e.sh + (o + j)]? = some u := by
  obtain ⟨rfl, h5⟩ := takeL_length h
  simp only [List.length_drop] at h5
  have hsz : n = 0 ∨ e.sh + (o + n) ≤ arr.size := by
    by_cases hn : n = 0
    · exact .inl hn
    · have := k.fits (fun hb => by rw [hb] at h5; simp at h5; omega)
      exact .inr (by omega)
  have hlen : ((arr.toList.drop (e.sh + o)).take n).length = n := by
    simp only [List.length_take, List.length_drop, Array.length_toList]; omega
  refine ⟨(arr.toList.drop (e.sh + o)).take n, VRs.of_get ?_ fun i x v hx hv => ?_, ?_, hlen, fun j u hj => ?_⟩
  · rw [hlen]; simp only [List.length_take, List.length_drop]; omega
  · have hi := (List.getElem?_eq_some_iff.1 hv).1
    rw [hlen] at hi
    rw [List.getElem?_take_of_lt hi, List.getElem?_drop] at hx hv
    obtain ⟨v', h6, h7⟩ := k.cs _ _ hx
    rw [Array.getElem?_toList, Nat.add_assoc, h6] at hv
    cases hv
    exact h7
  · rw [List.all_eq_true]
    intro x hx
    exact List.all_eq_true.1 k.one x (List.mem_of_mem_drop (List.mem_of_mem_take hx))
  · have hi := (List.getElem?_eq_some_iff.1 hj).1
    rw [hlen] at hi
    rw [List.getElem?_take_of_lt hi, List.getElem?_drop, Array.getElem?_toList, Nat.add_assoc] at hj
    exact hj
/-- What a load of cells reads. -/
theorem Rel.loads (h : Rel g s S w) {b o n : Nat} {cs : List XV} (hl : S.load b o n = some cs) :
    ∃ e us, s b = some e ∧ VRs s cs us ∧ cs.all XV.one = true ∧ us.length = n ∧ ∀ j u, us[j]? = some u → w.cell? ((e.ad o).add j) = some u := by
  unfold St.load at hl
  cases hB : S.blk b with
  | none => rw [hB] at hl; cases hl
  | some B =>
    rw [hB] at hl
    obtain ⟨e, arr, ty, h1, h2, h3⟩ := h.row hB
    obtain ⟨us, h4, h5, h6, h7⟩ := h3.reads hl
    refine ⟨e, us, h1, h4, h5, h6, fun j u hj => ?_⟩
    rw [E.add]
    simp [World.cell?, E.ad, h2, h7 j u hj]
theorem setL_some : ∀ {l : List XV} {o : Nat} {vs r : List XV}, setL l o vs = some r → r.length = l.length ∧ (vs ≠ [] → o + vs.length ≤ l.length) ∧ ∀ i, r[i]? = if o ≤ i ∧ i < o + vs.length then vs[i - o]? else l[i]?
  | l, o, [], r, h => by
    have : setL l o [] = some l := by cases l <;> cases o <;> rfl
    rw [this] at h; cases h
    exact ⟨rfl, fun h => absurd rfl h, fun i => by rw [if_neg (by simp)]⟩
  | [], o, v :: vs, r, h => by simp [setL] at h
  | x :: l, 0, v :: vs, r, h => by
    simp only [setL] at h
    cases e : setL l 0 vs with
    | none => rw [e] at h; cases h
    | some r' =>
      rw [e] at h; cases h
      obtain ⟨h1, h2, h3⟩ := setL_some e
      refine ⟨by simp [h1], fun _ => ?_, fun i => ?_⟩
      · cases vs with
        | nil => simp
        | cons y ys => have := h2 (by simp); simp at this ⊢; omega
      · cases i with
        | zero => simp
        | succ i =>
          rw [List.getElem?_cons_succ, h3 i]
          simp only [List.length_cons]
          by_cases hi : i < vs.length
          · rw [if_pos (by omega), if_pos (by omega)]
            simp
          · rw [if_neg (by omega), if_neg (by omega)]
            simp
  | x :: l, o + 1, v :: vs, r, h => by
    simp only [setL] at h
    cases e : setL l o (v :: vs) with
    | none => rw [e] at h; cases h
    | some r' =>
      rw [e] at h; cases h
      obtain ⟨h1, h2, h3⟩ := setL_some e
      refine ⟨by simp [h1], fun _ => ?_, fun i => ?_⟩
      · have := h2 (by simp); simp at this ⊢; omega
      · cases i with
        | zero => simp
        | succ i =>
          rw [List.getElem?_cons_succ, h3 i]
          simp only [List.length_cons]
          by_cases hi : o ≤ i ∧ i < o + (vs.length + 1)
          · rw [if_pos hi, if_pos (by omega)]
            congr 1; omega
          · rw [if_neg hi, if_neg (by omega)]
            simp
/-- A row's cells after a store. -/
def wr (arr : Array Value) (p : Nat) (us : List Value) : Array Value := (arr.toList.take p ++ us ++ arr.toList.drop (p + us.length)).toArray
theorem wr_size {arr : Array Value} {p : Nat} {us : List Value} (h : p + us.length ≤ arr.size) : (wr arr p us).size = arr.size := by
  simp only [wr, List.size_toArray, List.length_append, List.length_take, List.length_drop, Array.length_toList]; omega
theorem wr_get {arr : Array Value} {p : Nat} {us : List Value} (h : p + us.length ≤ arr.size) (i : Nat) : (wr arr p us)[i]? = if p ≤ i ∧ i < p + us.length then us[i - p]? else arr[i]? := by
  have hp : (arr.toList.take p).length = p := by simp only [List.length_take, Array.length_toList]; omega
  simp only [wr, List.getElem?_toArray]
  by_cases h1 : p ≤ i ∧ i < p + us.length
  · rw [if_pos h1, List.append_assoc, List.getElem?_append_right (by omega), hp, List.getElem?_append_left (by omega)]
  · rw [if_neg h1]
    by_cases h2 : i < p
    · rw [List.append_assoc, List.getElem?_append_left (by omega), List.getElem?_take_of_lt h2, Array.getElem?_toList]
    · rw [List.getElem?_append_right (by simp only [List.length_append]; omega), List.getElem?_drop, Array.getElem?_toList]
      congr 1
      simp only [List.length_append, hp]
      omega
/-- A row whose cells from o on are written over. -/
theorem RowR.write {B : XB} {e : E} {arr : Array Value} (k : RowR s B e arr) {o : Nat} {vs cs : List XV} (hs : setL B.cs o vs = some cs) (hne : vs ≠ []) {us : List Value} (hv : VRs s vs us) (h1 : vs.all XV.one = true) :
    e.sh + o + us.length ≤ arr.size ∧ RowR s { B with cs := cs } e (wr arr (e.sh + o) us) := by
  obtain ⟨h5, h6, h7⟩ := setL_some hs
  have h8 := h6 hne
  have hl := hv.length
  have hf := k.fits (fun hb => by rw [hb] at h8; simp at h8; exact hne h8.2)
  have hsz : e.sh + o + us.length ≤ arr.size := by omega
  refine ⟨hsz, ⟨fun i x hx => ?_, ?_, fun ho => ?_, k.lb⟩⟩
  · change cs[i]? = some x at hx
    rw [h7 i] at hx
    rw [wr_get hsz]
    by_cases hi : o ≤ i ∧ i < o + vs.length
    · rw [if_pos hi] at hx
      rw [if_pos (by omega)]
      obtain ⟨v, h9, h10⟩ := hv.get hx
      exact ⟨v, by rw [← h9]; congr 1; omega, h10⟩
    · rw [if_neg hi] at hx
      rw [if_neg (by omega)]
      exact k.cs i x hx
  · show cs.all XV.one = true
    rw [List.all_eq_true]
    intro x hx
    obtain ⟨i, hi⟩ := List.getElem?_of_mem hx
    rw [h7 i] at hi
    split at hi
    · exact List.all_eq_true.1 h1 x (List.mem_of_getElem? hi)
    · exact List.all_eq_true.1 k.one x (List.mem_of_getElem? hi)
  · rw [wr_size hsz]; exact k.own ho
/-- Another name of the row that is written: it keeps what it had, if nothing of its own was written. -/
theorem RowR.other {B : XB} {e : E} {arr : Array Value} (k : RowR s B e arr) {p : Nat} {us : List Value} (h : p + us.length ≤ arr.size) (hd : ∀ i, i < B.cs.length → ¬ (p ≤ e.sh + i ∧ e.sh + i < p + us.length)) : RowR s B e (wr arr p us) := by
  refine ⟨fun i x hx => ?_, k.one, fun ho => by rw [wr_size h]; exact k.own ho, k.lb⟩
  rw [wr_get h, if_neg (hd i (List.getElem?_eq_some_iff.1 hx).1)]
  exact k.cs i x hx
theorem store_some {fl b o : Nat} {vs : List XV} {S' : St} (h : S.store fl b o vs = some S') : ∃ B cs, S.blk b = some B ∧ setL B.cs o vs = some cs ∧ B.fz ≤ o ∧ fl ≤ b ∧ S' = ⟨S.hp.set (some (.cells { B with cs := cs })) b, S.nx⟩ := by
  unfold St.store at h
  cases hB : S.blk b with
  | none => rw [hB] at h; cases h
  | some B =>
    rw [hB] at h
    dsimp only at h
    cases hc : setL B.cs o vs with
    | none => rw [hc] at h; cases h
    | some cs =>
      rw [hc] at h
      dsimp only at h
      cases hf : Nat.ble B.fz o with
      | false => rw [hf] at h; cases h
      | true =>
        rw [hf] at h
        obtain ⟨h1, h2⟩ := put_some h
        exact ⟨B, cs, rfl, hc, ble_iff.1 hf, h1, h2⟩
/-- A store of cells into a row. -/
theorem Rel.store (h : Rel g s S w) {b o : Nat} {vs : List XV} {S' : St} (hs : S.store g.fl b o vs = some S') (hne : vs ≠ []) {us : List Value} (hv : VRs s vs us) (h1 : vs.all XV.one = true) :
    ∃ e arr ty, s b = some e ∧ w.heap[e.blk]? = some (.cells arr ty (0, 0)) ∧ e.sh + o + us.length ≤ arr.size ∧ (∀ u ∈ us, u.oneCell' = true) ∧ Rel g s S' (w.setRow e.blk (wr arr (e.sh + o) us)) := by
  obtain ⟨B, cs, hB, hc, hfz, hfl, rfl⟩ := store_some hs
  obtain ⟨e, arr, ty, he, hh, hrow⟩ := h.row hB
  obtain ⟨hsz, hw⟩ := hrow.write hc hne hv h1
  have hbb := blk_some hB
  obtain ⟨h5, h6, h7⟩ := setL_some hc
  have hl := hv.length
  refine ⟨e, arr, ty, he, hh, hsz, hv.ones h1, h.upd hbb he hfl (setRow_size _ _ _) (fun k hk => setRow_other _ _ _ _ hk) rfl rfl rfl (setRow_heap w e.blk arr _ ty (0, 0) hh) ⟨_, _, rfl, hw⟩ ?_⟩
  intro b' o2 e2 hne' hb' he' hq
  obtain ⟨B1, B2, e1, rfl, h8, h9⟩ := h.ali b b' _ o2 e e2 (Ne.symm hne') hbb hb' he he' hq.symm
  cases e1
  obtain ⟨B3, B4, e3, e4, h10, h11⟩ := h.ali b' b _ _ e2 e hne' hb' hbb he' he hq
  cases e3; cases e4
  obtain ⟨e2', ob2, h12, h13, arr2, ty2, rfl, hr2⟩ := h.obj b' _ hb'
  rw [he'] at h12; cases h12
  rw [hq, hh] at h13; cases h13
  have hcl : cs.length = B.cs.length := h5
  have h6' := h6 hne
  refine ⟨⟨_, _, rfl, hr2.other hsz fun i hi hp => ?_⟩, ⟨_, _, rfl, rfl, ?_, ?_⟩, ⟨_, _, rfl, rfl, ?_, ?_⟩⟩
  · obtain ⟨j, hj⟩ : ∃ j, e2.sh + i = e.sh + j := ⟨e2.sh + i - e.sh, by omega⟩
    have := h8 j i (by omega) hi hj.symm
    omega
  · intro i i' hi hi' hp
    exact h8 i i' (by rw [← hcl]; exact hi) hi' hp
  · intro ho
    have := h9 ho
    refine ⟨this.1, ?_⟩
    show e2.sh + B2.cs.length ≤ e.sh + cs.length
    omega
  · intro i i' hi hi' hp
    exact h10 i i' hi (by rw [← hcl]; exact hi') hp
  · intro ho
    have := h11 ho
    refine ⟨this.1, ?_⟩
    show e.sh + cs.length ≤ e2.sh + B2.cs.length
    omega
end
end Go.Proofs.YtlibeobmdjeilaaGreatDoor.Ex
namespace Go.Proofs.YtlibeobmdjeilaaGreatDoor.Ex
open Go Go.RowKit
section
variable {P : Program} {s : Env} {w : World}
theorem iwrap_eq (k : IntKind) (n : Int) : iwrap k n = k.wrap n := by
  unfold iwrap
  split
  · rename_i m
    cases hb : Nat.blt m 9223372036854775808 with
    | false => rfl
    | true =>
      have h := blt_iff.1 hb
      exact (IntWalk.i64_in (m : Int) ⟨by omega, by omega⟩).symm
  · rw [IntKind.wrap_u32]; rfl
  · rw [IntKind.wrap_u8]; rfl
  · unfold IntKind.wrap; simp [IntKind.signed, IntKind.bits]; rfl
  · unfold IntKind.wrap; simp [IntKind.signed, IntKind.bits]; rfl
  · rfl
theorem gbits_run {op : BinOp} {k : IntKind} {a b : Int} {x : XV} (h : gbits op k a b = some x) : ∃ v, (Op.intBits op k a b).run P w = .ok v w ∧ VR s x v := by
  cases op <;> simp only [gbits] at h <;> cases h <;> exact ⟨_, rfl, rfl⟩
theorem wrap_small {k : IntKind} {m : Nat} (h : m < qb k) : k.wrap (m : Int) = m := by
  cases k <;> simp only [qb] at h <;> first
    | exact IntWalk.i8_in _ (by omega)
    | exact IntWalk.i16_in _ (by omega)
    | exact IntWalk.i32_in _ (by omega)
    | exact IntWalk.i64_in _ (by omega)
    | exact IntWalk.u8_in _ (by omega)
    | exact IntWalk.u16_in _ (by omega)
    | exact IntWalk.u32_in _ (by omega)
    | exact IntWalk.u64_in _ (by omega)
theorem qb_pow (k : IntKind) : ∃ n, qb k = 2 ^ n ∧ n < k.bits := by
  cases k <;> first | exact ⟨7, rfl, by decide⟩ | exact ⟨31, rfl, by decide⟩
theorem ofInt_small {k : IntKind} {m : Nat} (h : m < qb k) : (BitVec.ofInt k.bits (m : Int)).toNat = m := by
  obtain ⟨n, h1, h2⟩ := qb_pow k
  have h3 : m < 2 ^ k.bits := Nat.lt_of_lt_of_le (h1 ▸ h) (Nat.pow_le_pow_right (by decide) (Nat.le_of_lt h2))
  rw [BitVec.toNat_ofInt]
  have : ((m : Int) % ((2 ^ k.bits : Nat) : Int)) = m := Int.emod_eq_of_lt (by omega) (by exact_mod_cast h3)
  rw [this]
  rfl
theorem ibits_run {op : BinOp} {k : IntKind} {a b : Int} {x : XV} (h : ibits op k a b = some x) : ∃ v, (Op.intBits op k a b).run P w = .ok v w ∧ VR s x v := by
  unfold ibits at h
  split at h
  · rename_i x1 y1
    cases hq : (Nat.blt x1 (qb k) && Nat.blt y1 (qb k)) with
    | false => rw [hq] at h; exact gbits_run h
    | true =>
      rw [hq] at h
      rw [Bool.and_eq_true] at hq
      have hx := blt_iff.1 hq.1
      have hy := blt_iff.1 hq.2
      obtain ⟨n, h1, h2⟩ := qb_pow k
      dsimp only at h
      split at h
      · cases h
        refine ⟨_, rfl, ?_⟩
        show Value.int k (k.wrap ((BitVec.ofInt k.bits (x1 : Int) &&& BitVec.ofInt k.bits (y1 : Int)).toNat : Int)) = .int k (.ofNat (x1 &&& y1))
        rw [BitVec.toNat_and, ofInt_small hx, ofInt_small hy, wrap_small (Nat.lt_of_le_of_lt Nat.and_le_left hx)]
        rfl
      · cases h
        refine ⟨_, rfl, ?_⟩
        show Value.int k (k.wrap ((BitVec.ofInt k.bits (x1 : Int) ||| BitVec.ofInt k.bits (y1 : Int)).toNat : Int)) = .int k (.ofNat (x1 ||| y1))
        rw [BitVec.toNat_or, ofInt_small hx, ofInt_small hy, wrap_small (h1 ▸ Nat.or_lt_two_pow (h1 ▸ hx) (h1 ▸ hy))]
        rfl
      · cases h
        refine ⟨_, rfl, ?_⟩
        show Value.int k (k.wrap ((BitVec.ofInt k.bits (x1 : Int) ^^^ BitVec.ofInt k.bits (y1 : Int)).toNat : Int)) = .int k (.ofNat (x1 ^^^ y1))
        rw [BitVec.toNat_xor, ofInt_small hx, ofInt_small hy, wrap_small (h1 ▸ Nat.xor_lt_two_pow (h1 ▸ hx) (h1 ▸ hy))]
        rfl
      · exact gbits_run h
  · exact gbits_run h
theorem ieq_eq (a b : Int) : ieq a b = (a == b) := by
  rw [Bool.eq_iff_iff, ieq_iff, beq_iff_eq]
theorem ilt_eq (a b : Int) : ilt a b = decide (a < b) := by
  rw [Bool.eq_iff_iff, ilt_iff, decide_eq_true_iff]
theorem nlt_eq (a b : Int) : (!(ilt b a)) = decide (a ≤ b) := by
  rw [ilt_eq, Bool.eq_iff_iff]; simp
theorem xint_run {op : BinOp} {k : IntKind} {a b : Int} {x : XV} {t : TypeId} (h : xint op k a b = some x) (h1 : op ≠ .shl) (h2 : op ≠ .shr) : ∃ v, (binOp op t (.int k a) (.int k b)).run P w = .ok v w ∧ VR s x v := by
  cases op with
  | add => cases h; exact ⟨_, by simp [binOp, Op.intArith]; rfl, by rw [VR, iwrap_eq]⟩
  | sub => cases h; exact ⟨_, by simp [binOp, Op.intArith]; rfl, by rw [VR, iwrap_eq]⟩
  | mul => cases h; exact ⟨_, by simp [binOp, Op.intArith]; rfl, by rw [VR, iwrap_eq]⟩
  | eql => cases h; exact ⟨_, by simp [binOp, Op.intCmp]; rfl, by rw [VR, ieq_eq]⟩
  | neq => cases h; exact ⟨_, by simp [binOp, Op.intCmp]; rfl, by rw [VR, ieq_eq]; rfl⟩
  | lss => cases h; exact ⟨_, by simp [binOp, Op.intCmp]; rfl, by rw [VR, ilt_eq]⟩
  | leq => cases h; exact ⟨_, by simp [binOp, Op.intCmp]; rfl, by rw [VR, nlt_eq]⟩
  | gtr => cases h; exact ⟨_, by simp [binOp, Op.intCmp]; rfl, by rw [VR, ilt_eq]⟩
  | geq => cases h; exact ⟨_, by simp [binOp, Op.intCmp]; rfl, by rw [VR, nlt_eq]⟩
  | shl => exact absurd rfl h1
  | shr => exact absurd rfl h2
  | quo =>
    simp only [xint] at h
    cases hb : ieq b 0 with
    | true => rw [hb] at h; cases h
    | false =>
      rw [hb] at h; cases h
      have hb0 : ¬ b = 0 := fun e => by rw [ieq_iff.2 e] at hb; cases hb
      exact ⟨_, by simp [binOp, Op.intDiv, hb0], rfl⟩
  | rem =>
    simp only [xint] at h
    cases hb : ieq b 0 with
    | true => rw [hb] at h; cases h
    | false =>
      rw [hb] at h; cases h
      have hb0 : ¬ b = 0 := fun e => by rw [ieq_iff.2 e] at hb; cases hb
      exact ⟨_, by simp [binOp, Op.intDiv, hb0], rfl⟩
  | and => simp only [xint] at h; obtain ⟨v, h3, h4⟩ := ibits_run (P := P) (s := s) (w := w) h; exact ⟨v, by simpa [binOp] using h3, h4⟩
  | or => simp only [xint] at h; obtain ⟨v, h3, h4⟩ := ibits_run (P := P) (s := s) (w := w) h; exact ⟨v, by simpa [binOp] using h3, h4⟩
  | xor => simp only [xint] at h; obtain ⟨v, h3, h4⟩ := ibits_run (P := P) (s := s) (w := w) h; exact ⟨v, by simpa [binOp] using h3, h4⟩
  | andNot => simp only [xint] at h; obtain ⟨v, h3, h4⟩ := ibits_run (P := P) (s := s) (w := w) h; exact ⟨v, by simpa [binOp] using h3, h4⟩
theorem xshift_run {op : BinOp} {k j : IntKind} {a b : Int} {x : XV} {t : TypeId} (h : xshift op k a b = some x) (hop : op = .shl ∨ op = .shr) : ∃ v, (binOp op t (.int k a) (.int j b)).run P w = .ok v w ∧ VR s x v := by
  unfold xshift at h
  split at h
  · cases h
  · rename_i y
    have h0 : ¬ ((y : Int) < 0) := by omega
    rcases hop with rfl | rfl
    · cases h
      exact ⟨_, by simp [binOp, Op.shift, h0], rfl⟩
    · cases h
      exact ⟨_, by simp [binOp, Op.shift, h0], rfl⟩
theorem slt_eq : ∀ (a b : List UInt8), slt a b = Op.bytesLess a b
  | _, [] => by unfold slt Op.bytesLess; cases ‹List UInt8› <;> rfl
  | [], _ :: _ => rfl
  | a :: x, b :: y => by
    have e1 : Nat.blt a.toNat b.toNat = decide (a < b) := by rw [Bool.eq_iff_iff, blt_iff, decide_eq_true_iff, UInt8.lt_iff_toNat_lt]
    have e2 : Nat.beq a.toNat b.toNat = (a == b) := by rw [Bool.eq_iff_iff, bnot_eq, beq_iff_eq, UInt8.toNat_inj]
    simp only [slt, Op.bytesLess, slt_eq x y, e1, e2]
theorem seq_eq (a b : List UInt8) : seq a b = (a == b) := by rw [Bool.eq_iff_iff, seq_iff, beq_iff_eq]
theorem bl (l : List UInt8) : (ByteArray.mk ⟨l⟩).toList = l := ByteArray.toList_mk l
theorem xstr_run {op : BinOp} {a b : List UInt8} {x : XV} {t : TypeId} (h : xstr op a b = some x) : ∃ v, (binOp op t (.string ⟨⟨a⟩⟩) (.string ⟨⟨b⟩⟩)).run P w = .ok v w ∧ VR s x v := by
  cases op with
  | add =>
    simp only [xstr] at h
    cases hb : Nat.blt (a.length + b.length) 1000000 with
    | false => rw [hb] at h; cases h
    | true =>
      rw [hb] at h; cases h
      have hl := blt_iff.1 hb
      have e1 : (ByteArray.mk ⟨a⟩).size = a.length := rfl
      have e2 : (ByteArray.mk ⟨b⟩).size = b.length := rfl
      have h63 : ¬ (((a.length + b.length : Nat) : Int) > IntKind.i64.max) := by
        show ¬ (((a.length + b.length : Nat) : Int) > 2 ^ 63 - 1)
        omega
      refine ⟨.string (⟨⟨a⟩⟩ ++ ⟨⟨b⟩⟩), ?_, ?_⟩
      · simp only [binOp, Op.stringOp, e1, e2]
        rw [if_neg h63]
        rfl
      · rw [VR]; rfl
  | eql => cases h; exact ⟨_, by simp only [binOp, Op.stringOp, bl]; rfl, by rw [VR, seq_eq]⟩
  | neq => cases h; exact ⟨_, by simp only [binOp, Op.stringOp, bl]; rfl, by rw [VR, seq_eq]⟩
  | lss => cases h; exact ⟨_, by simp only [binOp, Op.stringOp, bl]; rfl, by rw [VR, slt_eq]⟩
  | leq => cases h; exact ⟨_, by simp only [binOp, Op.stringOp, bl]; rfl, by rw [VR, slt_eq, seq_eq]⟩
  | gtr => cases h; exact ⟨_, by simp only [binOp, Op.stringOp, bl]; rfl, by rw [VR, slt_eq, seq_eq]⟩
  | geq => cases h; exact ⟨_, by simp only [binOp, Op.stringOp, bl]; rfl, by rw [VR, slt_eq]⟩
  | _ => cases h
theorem xun_run {op : UnOp} {a x : XV} {u : Value} (h : xun op a = some x) (hu : VR s a u) : ∃ v, (Op.unary op u).run P w = .ok v w ∧ VR s x v := by
  cases op with
  | neg => cases a with
    | int k n => cases h; rw [VR] at hu; subst hu; exact ⟨_, rfl, by rw [VR, iwrap_eq]⟩
    | _ => cases h
  | not => cases a with
    | bool b => cases h; rw [VR] at hu; subst hu; exact ⟨_, rfl, rfl⟩
    | _ => cases h
  | xor => cases a with
    | int k n => cases h; rw [VR] at hu; subst hu; exact ⟨_, rfl, rfl⟩
    | _ => cases h
  | _ => cases h
end
end Go.Proofs.YtlibeobmdjeilaaGreatDoor.Ex
namespace Go.Proofs.YtlibeobmdjeilaaGreatDoor.Ex
open Go Go.RowKit
/-- What the executor is told is so. -/
structure CtxOk (P : Program) (C : Ctx) : Prop where
  ty : ∀ t i, C.ty t = some i → P.underlying t = some i.und ∧ ∃ ti z, P.info? t = some ti ∧ ti.size = i.size ∧ ti.bytes = i.bytes ∧ ti.zero = some z ∧ xvs1 z.cells.toList = some i.zero ∧ i.zero.length = i.size ∧ (isAg i.und = true → ∃ cs, z = .agg cs) ∧ (isAg i.und = false → i.size = 1 ∧ z.cells = #[z])
  flds : ∀ t i fs, C.ty t = some i → i.und = .struct fs → ∀ f ∈ fs.toList, ∃ ti, P.info? f.type = some ti
  fn : ∀ f fn, C.fn f = some fn → P.funcs[f]? = some fn
  eqt : ∀ t l, C.eqt t l = true → ∀ (s : Env) (m : List XV) (vs ws : List Value) (r : Bool), VRs s l vs → VRs s m ws → xeqs l m = some r → ∀ (w : World) (x y : Operand),
    ((do eqGuard .eql t x y (.agg ⟨vs⟩) (.agg ⟨ws⟩); binOp .eql t (.agg ⟨vs⟩) (.agg ⟨ws⟩)) : Sem Value).run P w = .ok (.bool r) w ∧
    ((do eqGuard .neq t x y (.agg ⟨vs⟩) (.agg ⟨ws⟩); binOp .neq t (.agg ⟨vs⟩) (.agg ⟨ws⟩)) : Sem Value).run P w = .ok (.bool (!r)) w
/-- How a frame's slots lie. -/
structure FrR (s : Env) (fr : Fr) (tmps : Array Value) : Prop where
  size : tmps.size = fr.n
  tm : TR s fr.tm tmps
section
variable {P : Program} {C : Ctx} {g : Gh} {s : Env} {S : St} {w : World} {fr : Fr} {a : Act}
theorem CtxOk.und (hC : CtxOk P C) {t : Nat} {i : TI} (h : C.ty t = some i) : (underlying t).run P w = .ok i.und w := run_underlying (hC.ty t i h).1 w
theorem CtxOk.sizeOf (hC : CtxOk P C) {t : Nat} {i : TI} (h : C.ty t = some i) : (Go.sizeOf t).run P w = .ok i.size w := by
  obtain ⟨_, ti, z, h1, h2, _⟩ := hC.ty t i h
  simp [Go.sizeOf, typeInfo, h1, h2]
theorem CtxOk.ag (hC : CtxOk P C) {t : Nat} {i : TI} (h : C.ty t = some i) : (Go.isAgg t).run P w = .ok (isAg i.und) w := by
  unfold Go.isAgg
  rw [Sem.run_bind, hC.und h, Result.andThen_ok]
  cases i.und <;> rfl
theorem ev_ok (h : Rel g s S w) (hf : FrR s fr a.tmps) {x : Operand} {v : XV} (hv : fr.ev g.fl x = some v) : VR s v (a.eval x) := by
  cases x with
  | tmp t =>
    obtain ⟨u, h1, h2⟩ := hf.tm t v hv
    simpa [Act.eval, h1] using h2
  | const c => exact VR.xvOf hv
  | global k =>
    simp only [Fr.ev] at hv
    cases hb : Nat.beq k 0 with
    | false => rw [hb] at hv; cases hv
    | true =>
      rw [hb] at hv; cases hv
      obtain ⟨tot, h1⟩ := h.zero
      have hk := bnot_eq.1 hb; subst hk
      exact ⟨_, h1, rfl⟩
  | func f => cases hv; exact ⟨[], [], rfl, rfl, rfl⟩
theorem evs_ok (h : Rel g s S w) (hf : FrR s fr a.tmps) : ∀ {xs : List Operand} {vs : List XV}, fr.evs g.fl xs = some vs → VRs s vs (xs.map a.eval)
  | [], vs, hv => by simp only [Fr.evs] at hv; cases hv; rfl
  | x :: xs, vs, hv => by
    simp only [Fr.evs] at hv
    cases e1 : fr.ev g.fl x with
    | none => rw [e1] at hv; cases hv
    | some v => cases e2 : fr.evs g.fl xs with
      | none => rw [e1, e2] at hv; cases hv
      | some vs' => rw [e1, e2] at hv; cases hv; exact ⟨_, _, rfl, ev_ok h hf e1, evs_ok h hf e2⟩
/-- Parts of a literal. -/
def VRp (s : Env) : List (Nat × XV) → List (Nat × Value) → Prop
  | [], vs => vs = []
  | x :: l, vs => ∃ v ws, vs = (x.1, v) :: ws ∧ VR s x.2 v ∧ VRp s l ws
theorem evp_ok (h : Rel g s S w) (hf : FrR s fr a.tmps) : ∀ {xs : List (Nat × Operand)} {vs : List (Nat × XV)}, fr.evp g.fl xs = some vs → VRp s vs (xs.map fun x => (x.1, a.eval x.2))
  | [], vs, hv => by simp only [Fr.evp] at hv; cases hv; rfl
  | (i, x) :: xs, vs, hv => by
    simp only [Fr.evp] at hv
    cases e1 : fr.ev g.fl x with
    | none => rw [e1] at hv; cases hv
    | some v => cases e2 : fr.evp g.fl xs with
      | none => rw [e1, e2] at hv; cases hv
      | some vs' => rw [e1, e2] at hv; cases hv; exact ⟨_, _, rfl, ev_ok h hf e1, evp_ok h hf e2⟩
theorem evo_ok (h : Rel g s S w) (hf : FrR s fr a.tmps) {x : Option Operand} {v : Option XV} (hv : fr.evo g.fl x = some v) : (x = none ∧ v = none) ∨ ∃ y u, x = some y ∧ v = some u ∧ VR s u (a.eval y) := by
  cases x with
  | none => simp only [Fr.evo] at hv; cases hv; exact .inl ⟨rfl, rfl⟩
  | some y =>
    simp only [Fr.evo] at hv
    cases e : fr.ev g.fl y with
    | none => rw [e] at hv; cases hv
    | some u => rw [e] at hv; cases hv; exact .inr ⟨y, u, rfl, rfl, ev_ok h hf e⟩
theorem eqGuard_ok {op : BinOp} {t : TypeId} {x y : Operand} {u v : Value} (h1 : ∀ cs, u ≠ .agg cs) (h2 : u ≠ .nilIface) : (eqGuard op t x y u v).run P w = .ok () w := by
  cases u <;> first | exact absurd rfl h2 | exact absurd rfl (h1 _) | (cases op <;> rfl)
theorem loadT_ok (hC : CtxOk P C) (h : Rel g s S w) {t : Nat} {i : TI} (ht : C.ty t = some i) {b o : Nat} {x : XV} (hl : loadT i S b o = some x) : ∃ e v, s b = some e ∧ (loadVar t (e.ad o)).run P w = .ok v w ∧ VR s x v := by
  unfold loadT at hl
  unfold loadVar
  cases hi : isAg i.und with
  | true =>
    rw [hi] at hl
    dsimp only at hl
    cases e1 : S.load b o i.size with
    | none => rw [e1] at hl; cases hl
    | some cs =>
      rw [e1] at hl; cases hl
      obtain ⟨e, us, h1, h2, h3, h4, h5⟩ := h.loads e1
      refine ⟨e, .agg ⟨us⟩, h1, ?_, us, rfl, h2, h3⟩
      have := run_loadCells_list (P := P) w (e.ad o) us h5
      rw [h4] at this
      simp [hC.ag ht, hi, hC.sizeOf ht, this]
  | false =>
    rw [hi] at hl
    dsimp only at hl
    cases e1 : S.load b o 1 with
    | none => rw [e1] at hl; cases hl
    | some cs =>
      rw [e1] at hl
      cases cs with
      | nil => cases hl
      | cons c cs => cases cs with
        | cons _ _ => cases hl
        | nil =>
          cases hl
          obtain ⟨e, us, h1, ⟨v, ws, rfl, h2, hw⟩, h3, h4, h5⟩ := h.loads e1
          refine ⟨e, v, h1, ?_, h2⟩
          have h6 := h5 0 v rfl
          simp only [E.add, Nat.add_zero] at h6
          simp [hC.ag ht, hi, h6]
theorem partV_ok (hC : CtxOk P C) {t : Nat} {i : TI} (ht : C.ty t = some i) {cs : List XV} {us : List Value} (hcs : VRs s cs us) (h1 : cs.all XV.one = true) {off : Nat} {x : XV} (hp : partV i cs off = some x) : ∃ v, (Go.part t ⟨us⟩ off).run P w = .ok v w ∧ VR s x v := by
  unfold partV at hp
  unfold Go.part
  cases hi : isAg i.und with
  | true =>
    rw [hi] at hp
    dsimp only at hp
    cases e1 : takeL (cs.drop off) i.size with
    | none => rw [e1] at hp; cases hp
    | some l =>
      rw [e1] at hp; cases hp
      obtain ⟨rfl, h2⟩ := takeL_length e1
      refine ⟨.agg ⟨(us.drop off).take i.size⟩, ?_, _, rfl, (hcs.drop off).take _, ?_⟩
      · have : ((⟨us⟩ : Array Value).extract off (off + i.size)) = ⟨(us.drop off).take i.size⟩ := by
          apply Array.ext'
          simp [Array.toList_extract, List.extract]
        simp [hC.ag ht, hi, hC.sizeOf ht, this]
      · rw [List.all_eq_true]
        intro y hy
        exact List.all_eq_true.1 h1 y (List.mem_of_mem_drop (List.mem_of_mem_take hy))
  | false =>
    rw [hi] at hp
    dsimp only at hp
    obtain ⟨v, h2, h3⟩ := hcs.get hp
    refine ⟨v, ?_, h3⟩
    have : (⟨us⟩ : Array Value)[off]? = some v := by simpa using h2
    simp [hC.ag ht, hi, this]
end
end Go.Proofs.YtlibeobmdjeilaaGreatDoor.Ex
namespace Go.Proofs.YtlibeobmdjeilaaGreatDoor.Ex
open Go Go.RowKit
section
variable {P : Program} {C : Ctx} {g : Gh} {s : Env} {S : St} {w : World} {fr : Fr} {a : Act}
theorem equal_un {t : TypeId} {d : TypeDesc} (ht : P.underlying t = some d) {u v : Value} {b : Bool} (h : ∀ w : World, (Op.equalIn (9999 + 1) t u v).run P w = .ok b w) : (Op.equal t u v).run P w = .ok b w := h w
theorem xeq1_ok (hC : CtxOk P C) {t : Nat} {i : TI} (ht : C.ty t = some i) {a b : XV} {r : Bool} {u v : Value} (hu : VR s a u) (hv : VR s b v) (h : xeq1 a b = some r)
    (hd : (i.und = .bool ∧ ∃ x, a = .bool x) ∨ (∃ e, i.und = .pointer e ∧ (a = .nilp ∨ ∃ b o, a = .ptr b o)) ∨ (∃ e, i.und = .slice e ∧ (a = .nsl ∨ ∃ b o n c, a = .sl b o n c)) ∨ (∃ k e, i.und = .map k e ∧ (a = .nmap ∨ ∃ b, a = .map b)) ∨ (∃ p q c, i.und = .func p q c ∧ (a = .nfn ∨ (∃ f x y, a = .fn f x y) ∨ ∃ l, a = .yld l))) :
    (Op.equal t u v).run P w = .ok r w := by
  have hun := fun w => hC.und (w := w) ht
  refine equal_un (hC.ty t i ht).1 fun w => ?_
  unfold Op.equalIn
  rw [Sem.run_bind, hun, Result.andThen_ok]
  rcases hd with ⟨hi, x, rfl⟩ | ⟨e, hi, rfl | ⟨b1, o1, rfl⟩⟩ | ⟨e, hi, rfl | ⟨b1, o1, n1, c1, rfl⟩⟩ | ⟨k, e, hi, rfl | ⟨b1, rfl⟩⟩ | ⟨p, q, c, hi, rfl | ⟨f, x, y, rfl⟩ | ⟨l, rfl⟩⟩ <;> rw [hi]
  · cases b <;> simp only [xeq1] at h <;> cases h
    rw [VR] at hu hv; subst hu hv; rfl
  · cases b <;> simp only [xeq1] at h <;> cases h
    · rw [VR] at hu hv; subst hu hv; rfl
    · rw [VR] at hu; subst hu; obtain ⟨e, _, rfl⟩ := hv; rfl
  · cases b <;> simp only [xeq1] at h <;> cases h
    rw [VR] at hv; subst hv; obtain ⟨e, _, rfl⟩ := hu; rfl
  · cases b <;> simp only [xeq1] at h <;> cases h
    · rw [VR] at hu hv; subst hu hv; rfl
    · rename_i c; rw [VR] at hu; subst hu; cases c <;> (obtain ⟨e, _, rfl⟩ := hv; rfl)
  · cases b <;> simp only [xeq1] at h <;> cases h
    rw [VR] at hv; subst hv; cases c1 <;> (obtain ⟨e, _, rfl⟩ := hu; rfl)
  · cases b <;> simp only [xeq1] at h <;> cases h
    · rw [VR] at hu hv; subst hu hv; rfl
    · rw [VR] at hu; subst hu; obtain ⟨e, _, rfl⟩ := hv; rfl
  · cases b <;> simp only [xeq1] at h <;> cases h
    rw [VR] at hv; subst hv; obtain ⟨e, _, rfl⟩ := hu; rfl
  · cases b <;> simp only [xeq1] at h <;> cases h
    · rw [VR] at hu hv; subst hu hv; rfl
    · rw [VR] at hu; subst hu; obtain ⟨va, vc, rfl, _⟩ := hv; rfl
    · rw [VR] at hu; subst hu; obtain ⟨e, _, rfl⟩ := hv; rfl
  · cases b <;> simp only [xeq1] at h <;> cases h
    rw [VR] at hv; subst hv; obtain ⟨va, vc, rfl, _⟩ := hu; rfl
  · cases b <;> simp only [xeq1] at h <;> cases h
    rw [VR] at hv; subst hv; obtain ⟨e, _, rfl⟩ := hu; rfl
theorem xeq_ok (hC : CtxOk P C) {t : Nat} {x y : Operand} {a b : XV} {r : Bool} {u v : Value} (hu : VR s a u) (hv : VR s b v) (h : xeq C t a b = some r) :
    ((do eqGuard .eql t x y u v; binOp .eql t u v) : Sem Value).run P w = .ok (.bool r) w ∧ ((do eqGuard .neq t x y u v; binOp .neq t u v) : Sem Value).run P w = .ok (.bool (!r)) w := by
  have plain : ∀ (i : TI), C.ty t = some i → xeq1 a b = some r → ((i.und = .bool ∧ ∃ x, a = .bool x) ∨ (∃ e, i.und = .pointer e ∧ (a = .nilp ∨ ∃ b o, a = .ptr b o)) ∨ (∃ e, i.und = .slice e ∧ (a = .nsl ∨ ∃ b o n c, a = .sl b o n c)) ∨ (∃ k e, i.und = .map k e ∧ (a = .nmap ∨ ∃ b, a = .map b)) ∨ (∃ p q c, i.und = .func p q c ∧ (a = .nfn ∨ (∃ f x y, a = .fn f x y) ∨ ∃ l, a = .yld l))) →
      ((do eqGuard .eql t x y u v; binOp .eql t u v) : Sem Value).run P w = .ok (.bool r) w ∧ ((do eqGuard .neq t x y u v; binOp .neq t u v) : Sem Value).run P w = .ok (.bool (!r)) w := by
    intro i hi h1 hd
    have heq := xeq1_ok (w := w) hC hi hu hv h1 hd
    have hs : (∀ cs, u ≠ .agg cs) ∧ u ≠ .nilIface ∧ (∀ k n, u ≠ .int k n) ∧ (∀ z, u ≠ .string z) ∧ (∀ k n, u ≠ .float k n) ∧ (∀ k n m, u ≠ .complex k n m) := by
      rcases hd with ⟨_, x, rfl⟩ | ⟨e, _, rfl | ⟨b1, o1, rfl⟩⟩ | ⟨e, _, rfl | ⟨b1, o1, n1, c1, rfl⟩⟩ | ⟨k, e, _, rfl | ⟨b1, rfl⟩⟩ | ⟨p, q, c, _, rfl | ⟨f, x, y, rfl⟩ | ⟨l, rfl⟩⟩ <;>
        first
        | (rw [VR] at hu; subst hu; simp; done)
        | (obtain ⟨e, _, rfl⟩ := hu; simp; done)
        | (cases c1 <;> (obtain ⟨e, _, rfl⟩ := hu; simp; done))
        | (obtain ⟨va, vc, rfl, _⟩ := hu; simp; done)
    have e1 : binOp .eql t u v = (do pure (.bool (← Op.equal t u v)) : Sem Value) := by
      cases u <;> first | rfl | exact absurd rfl (hs.2.2.1 _ _) | exact absurd rfl (hs.2.2.2.1 _) | exact absurd rfl (hs.2.2.2.2.1 _ _) | exact absurd rfl (hs.2.2.2.2.2 _ _ _)
    have e2 : binOp .neq t u v = (do pure (.bool (!(← Op.equal t u v))) : Sem Value) := by
      cases u <;> first | rfl | exact absurd rfl (hs.2.2.1 _ _) | exact absurd rfl (hs.2.2.2.1 _) | exact absurd rfl (hs.2.2.2.2.1 _ _) | exact absurd rfl (hs.2.2.2.2.2 _ _ _)
    constructor
    · rw [Sem.run_bind, eqGuard_ok hs.1 hs.2.1, Result.andThen_ok, e1, Sem.run_bind, heq]; rfl
    · rw [Sem.run_bind, eqGuard_ok hs.1 hs.2.1, Result.andThen_ok, e2, Sem.run_bind, heq]; rfl
  unfold xeq at h
  split at h
  · rename_i l m
    obtain ⟨vs, rfl, h1, _⟩ := hu
    obtain ⟨ws, rfl, h2, _⟩ := hv
    cases hq : C.eqt t l with
    | false => rw [hq] at h; cases h
    | true => rw [hq] at h; exact hC.eqt t l hq s m vs ws r h1 h2 h w x y
  · cases hi : C.ty t with
    | none => rw [hi] at h; cases h
    | some i =>
      rw [hi] at h
      dsimp only at h
      split at h
      · rename_i h0 _; exact plain i hi h (.inl ⟨by assumption, _, rfl⟩)
      · exact plain i hi h (.inr (.inl ⟨_, by assumption, .inl rfl⟩))
      · exact plain i hi h (.inr (.inl ⟨_, by assumption, .inr ⟨_, _, rfl⟩⟩))
      · exact plain i hi h (.inr (.inr (.inl ⟨_, by assumption, .inl rfl⟩)))
      · exact plain i hi h (.inr (.inr (.inl ⟨_, by assumption, .inr ⟨_, _, _, _, rfl⟩⟩)))
      · exact plain i hi h (.inr (.inr (.inr (.inl ⟨_, _, by assumption, .inl rfl⟩))))
      · exact plain i hi h (.inr (.inr (.inr (.inl ⟨_, _, by assumption, .inr ⟨_, rfl⟩⟩))))
      · exact plain i hi h (.inr (.inr (.inr (.inr ⟨_, _, _, by assumption, .inl rfl⟩))))
      · exact plain i hi h (.inr (.inr (.inr (.inr ⟨_, _, _, by assumption, .inr (.inl ⟨_, _, _, rfl⟩)⟩))))
      · exact plain i hi h (.inr (.inr (.inr (.inr ⟨_, _, _, by assumption, .inr (.inr ⟨_, rfl⟩)⟩))))
      · cases h
theorem xbin_ok (hC : CtxOk P C) {op : BinOp} {t : Nat} {x y : Operand} {a b r : XV} {u v : Value} (hu : VR s a u) (hv : VR s b v) (h : xbin C t op a b = some r) :
    ∃ z, ((do eqGuard op t x y u v; binOp op t u v) : Sem Value).run P w = .ok z w ∧ VR s r z := by
  have fin : (∀ cs, u ≠ .agg cs) → u ≠ .nilIface → ∀ z, (binOp op t u v).run P w = .ok z w → ((do eqGuard op t x y u v; binOp op t u v) : Sem Value).run P w = .ok z w := fun h1 h2 z hz => by
    rw [Sem.run_bind, eqGuard_ok h1 h2, Result.andThen_ok, hz]
  unfold xbin at h
  split at h
  · rw [VR] at hu hv; subst hu hv
    obtain ⟨z, h1, h2⟩ := xshift_run (P := P) (s := s) (w := w) (t := t) h (.inl rfl)
    exact ⟨z, fin (by simp) (by simp) z h1, h2⟩
  · rw [VR] at hu hv; subst hu hv
    obtain ⟨z, h1, h2⟩ := xshift_run (P := P) (s := s) (w := w) (t := t) h (.inr rfl)
    exact ⟨z, fin (by simp) (by simp) z h1, h2⟩
  · rename_i op k a j b hn1 hn2
    cases hk : keq k j with
    | false => rw [hk] at h; cases h
    | true =>
      rw [hk] at h
      have := keq_eq hk; subst this
      rw [VR] at hu hv; subst hu hv
      obtain ⟨z, h1, h2⟩ := xint_run (P := P) (s := s) (w := w) (t := t) h (fun e => hn1 e) (fun e => hn2 e)
      exact ⟨z, fin (by simp) (by simp) z h1, h2⟩
  · rw [VR] at hu hv; subst hu hv
    obtain ⟨z, h1, h2⟩ := xstr_run (P := P) (s := s) (w := w) (t := t) h
    exact ⟨z, fin (by simp) (by simp) z h1, h2⟩
  · cases hr : xeq C t _ _ with
    | none => rw [hr] at h; cases h
    | some b => rw [hr] at h; cases h; exact ⟨_, (xeq_ok hC hu hv hr).1, rfl⟩
  · cases hr : xeq C t _ _ with
    | none => rw [hr] at h; cases h
    | some b => rw [hr] at h; cases h; exact ⟨_, (xeq_ok hC hu hv hr).2, rfl⟩
  · cases h
end
end Go.Proofs.YtlibeobmdjeilaaGreatDoor.Ex
namespace Go.Proofs.YtlibeobmdjeilaaGreatDoor.Ex
open Go Go.RowKit
section
variable {P : Program} {C : Ctx} {g : Gh} {s : Env} {S : St} {w : World} {fr : Fr} {a : Act}
theorem foldl_set (vs : List Value) : ∀ (off j : Nat) (cs : Array Value), off + j + vs.length ≤ cs.size → ((vs.zipIdx j).foldl (fun cs (x : Value × Nat) => cs.setIfInBounds (off + x.2) x.1) cs) = wr cs (off + j) vs := by
  induction vs with
  | nil => intro off j cs h; apply Array.ext'; simp [wr]
  | cons v vs ih =>
    intro off j cs h
    simp only [List.zipIdx_cons, List.foldl_cons, List.length_cons] at h ⊢
    have hsz : (cs.setIfInBounds (off + j) v).size = cs.size := by simp
    rw [ih off (j + 1) _ (by rw [hsz]; omega)]
    apply Array.ext_getElem?
    intro i
    rw [wr_get (by rw [hsz]; omega), wr_get (by simp only [List.length_cons]; omega)]
    simp only [List.length_cons]
    by_cases h1 : off + j ≤ i ∧ i < off + j + (vs.length + 1)
    · rw [if_pos h1]
      by_cases h2 : i = off + j
      · subst h2
        rw [if_neg (by omega), Nat.sub_self, List.getElem?_cons_zero, Array.getElem?_setIfInBounds_self_of_lt (by omega)]
      · rw [if_pos (by omega)]
        have : i - (off + j) = (i - (off + (j + 1))) + 1 := by omega
        rw [this, List.getElem?_cons_succ]
    · rw [if_neg h1, if_neg (by omega)]
      rw [Array.getElem?_setIfInBounds_ne (by omega)]
theorem wr_list {us : List Value} {p : Nat} {vs : List Value} : wr ⟨us⟩ p vs = ⟨us.take p ++ vs ++ us.drop (p + vs.length)⟩ := rfl
theorem fill_ok {pl pl' : Nat → Option (Nat × Nat)} (hpl' : ∀ i x, pl i = some x → pl' i = some x) : ∀ {ps : List (Nat × XV)} {qs : List (Nat × Value)} {cs r : List XV} {us : List Value}, VRp s ps qs → VRs s cs us → cs.all XV.one = true → fillL pl cs ps = some r →
    ∃ ws, Instr.fill pl' ⟨us⟩ qs = some ⟨ws⟩ ∧ VRs s r ws ∧ r.all XV.one = true
  | [], qs, cs, r, us, hp, hc, h1, h => by
    rw [VRp] at hp; subst hp
    simp only [fillL] at h; cases h
    exact ⟨us, rfl, hc, h1⟩
  | (i, v) :: ps, qs, cs, r, us, hp, hc, h1, h => by
    obtain ⟨u, ws, rfl, hv, hp'⟩ := hp
    simp only [fillL] at h
    cases hpl : pl i with
    | none => rw [hpl] at h; cases h
    | some os =>
      obtain ⟨off, size⟩ := os
      rw [hpl] at h
      dsimp only at h
      cases hcs : v.cells with
      | none => rw [hcs] at h; cases h
      | some vs =>
        rw [hcs] at h
        dsimp only at h
        cases hb : (Nat.beq vs.length size && !(Nat.beq size 0)) with
        | false => rw [hb] at h; cases h
        | true =>
          rw [hb] at h
          dsimp only at h
          rw [Bool.and_eq_true, Bool.not_eq_true'] at hb
          have hlen := bnot_eq.1 hb.1
          have hne := bnot_ne.1 hb.2
          cases hset : setL cs off vs with
          | none => rw [hset] at h; cases h
          | some cs' =>
            rw [hset] at h
            dsimp only at h
            obtain ⟨hvs, hv1⟩ := hv.cells hcs
            obtain ⟨h5, h6, h7⟩ := setL_some hset
            have hul := hc.length
            have hvl := hvs.length
            have hvl' : u.cells.size = vs.length := by rw [← hvl, Array.length_toList]
            have hvne : vs ≠ [] := fun e => hne (by rw [← hlen, e]; rfl)
            have hbig := h6 hvne
            have hrow : RowR s ⟨cs, 0, 0, false, 0⟩ ⟨0, 0, 0⟩ ⟨us⟩ := ⟨fun i x hx => by
              obtain ⟨v, h8, h9⟩ := hc.get hx
              exact ⟨v, by simpa using h8, h9⟩, h1, fun e => (by cases e), Nat.zero_le _⟩
            obtain ⟨hw1, hw2⟩ := hrow.write hset hvne hvs hv1
            simp only [Nat.zero_add] at hw1 hw2
            have hws : (wr ⟨us⟩ off u.cells.toList).size = us.length := wr_size hw1
            have hcs' : VRs s cs' (wr ⟨us⟩ off u.cells.toList).toList := VRs.of_get (by rw [Array.length_toList, hws, hul, h5]) fun i x v hx hv => by
              obtain ⟨v', h8, h9⟩ := hw2.cs i x hx
              simp only [Nat.zero_add] at h8
              rw [Array.getElem?_toList, h8] at hv
              cases hv
              exact h9
            obtain ⟨ws', h8, h9, h10⟩ := fill_ok hpl' hp' hcs' hw2.one h
            refine ⟨ws', ?_, h9, h10⟩
            have hf : Array.foldl (fun (cs : Array Value) (x : Value × Nat) => cs.setIfInBounds (off + x.2) x.1) ⟨us⟩ u.cells.zipIdx = wr ⟨us⟩ off u.cells.toList := by
              rw [← Array.foldl_toList, Array.toList_zipIdx]
              exact foldl_set u.cells.toList off 0 ⟨us⟩ (by rw [Array.length_toList]; show off + 0 + u.cells.size ≤ us.length; omega)
            simp only [Instr.fill, hpl' _ _ hpl]
            have hc1 : (u.cells.size ≠ size || off + u.cells.size > (⟨us⟩ : Array Value).size) = false := by
              simp only [Bool.or_eq_false_iff, decide_eq_false_iff_not]
              constructor
              · omega
              · show ¬ (off + u.cells.size > us.length); omega
            rw [if_neg (by simpa using hc1)]
            rw [hf]
            exact h8
theorem mapM_places {fs : List Field} (h : ∀ f ∈ fs, ∃ ti, P.info? f.type = some ti) : ∃ places, fs.mapM (fun f => (P.info? f.type).map fun i => (f.offset, i.size)) = some places ∧ ∀ (j : Nat) (f : Field) (ti : TypeInfo), fs[j]? = some f → P.info? f.type = some ti → places[j]? = some (f.offset, ti.size) := by
  induction fs with
  | nil => exact ⟨[], rfl, fun j f ti hj _ => by simp at hj⟩
  | cons f fs ih =>
    obtain ⟨places, h1, h2⟩ := ih fun f hf => h f (List.mem_cons_of_mem _ hf)
    obtain ⟨ti, h3⟩ := h f (List.mem_cons_self ..)
    refine ⟨(f.offset, ti.size) :: places, by simp [h3, h1], fun j f' ti' hj hi => ?_⟩
    cases j with
    | zero => simp at hj; subst hj; rw [h3] at hi; cases hi; rfl
    | succ j => simp at hj; simpa using h2 j f' ti' hj hi
theorem zeros_ok (hC : CtxOk P C) {t : Nat} {i : TI} (ht : C.ty t = some i) : ∃ ti z, P.info? t = some ti ∧ ti.size = i.size ∧ ti.zero = some z ∧ VRs s i.zero z.cells.toList ∧ i.zero.all XV.one = true ∧ z.cells.size = i.size := by
  obtain ⟨_, ti, z, h1, h2, _, h4, h5, h6, _⟩ := hC.ty t i ht
  obtain ⟨h7, h8⟩ := VRs.xvs1 (s := s) h5
  exact ⟨ti, z, h1, h2, h4, h7, h8, by rw [← Array.length_toList, h7.length, h6]⟩
theorem build_ok (hC : CtxOk P C) {t : Nat} {ps : List (Nat × XV)} {qs : List (Nat × Value)} (hp : VRp s ps qs) {x : XV} (h : xbuild C t ps = some x) : ∃ v, (Instr.build t ⟨qs⟩).run P w = .ok v w ∧ VR s x v := by
  unfold xbuild at h
  cases ht : C.ty t with
  | none => rw [ht] at h; cases h
  | some i =>
    rw [ht] at h
    dsimp only at h
    obtain ⟨ti, z, h1, h2, h3, h4, h5, _⟩ := zeros_ok (s := s) hC ht
    have hu := (hC.ty t i ht).1
    split at h
    · rename_i fs hund
      obtain ⟨places, h6, h7⟩ := mapM_places (hC.flds t i fs ht hund)
      split at h
      · rename_i cs hcs
        cases h
        obtain ⟨ws, h8, h9, h10⟩ := fill_ok (pl' := (places.toArray[·]?)) (fun j x hx => by
          cases hf : fs[j]? with
          | none => rw [hf] at hx; cases hx
          | some f =>
            rw [hf] at hx
            dsimp only at hx
            cases hft : C.ty f.type with
            | none => rw [hft] at hx; cases hx
            | some fi =>
              rw [hft] at hx; cases hx
              obtain ⟨ti', _, h11, h12, _⟩ := zeros_ok (s := s) hC hft
              have := h7 j f ti' (by simpa using hf) h11
              rw [h12] at this
              simpa using this) hp h4 h5 hcs
        refine ⟨_, run_build w t ⟨qs⟩ ⟨ws⟩ ?_, ws, rfl, h9, h10⟩
        unfold Program.built
        rw [h1, hu, hund]
        simp only [h3, h6]
        exact h8
      · cases h
    · rename_i len e hund
      cases he : C.ty e with
      | none => rw [he] at h; cases h
      | some ei =>
        rw [he] at h
        dsimp only at h
        split at h
        · rename_i cs hcs
          cases h
          obtain ⟨tie, _, h11, h12, _⟩ := zeros_ok (s := s) hC he
          obtain ⟨ws, h8, h9, h10⟩ := fill_ok (pl' := fun i => some (i * tie.size, tie.size)) (fun j x hx => by rw [h12]; exact hx) hp h4 h5 hcs
          refine ⟨_, run_build w t ⟨qs⟩ ⟨ws⟩ ?_, ws, rfl, h9, h10⟩
          unfold Program.built
          rw [h1, hu, hund]
          simp only [h3, h11]
          exact h8
        · cases h
    · cases h
end
end Go.Proofs.YtlibeobmdjeilaaGreatDoor.Ex
