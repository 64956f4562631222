import Derived.Test.YtepacjkacjabbaaGreatDoorKAA
import Derived.RangeFuncRecord
import Derived.Laws.OwnMore
import Derived.RangeFuncNested
import Derived.RangeFuncLeaves
import Derived.Shelf.Abstract
import Derived.WalkKit
import Derived.OwnWalkIn
import Derived.TacticsInMore
import Derived.LoopNIn
import Derived.LoopIn
namespace Go.Proofs.YtepacjkacjabbaaGreatDoor
open Go Go.RowKit
def mask (q : Nat) (W : World) : World := W.putObj q (.cells #[] 0)
section
variable {q : Nat} {W W' : World}
theorem mask_size : (mask q W).heap.size = W.heap.size := by simp [mask, World.putObj]
theorem mask_heap {k : Nat} (h : k ≠ q) : (mask q W).heap[k]? = W.heap[k]? := by
 simp only [mask, World.putObj]
 rw [Array.getElem?_setIfInBounds, if_neg (fun e => h e.symm)]
theorem mask_at : (mask q W).heap[q]? = if q < W.heap.size then some (.cells #[] 0) else none := by
 simp only [mask, World.putObj]
 rw [Array.getElem?_setIfInBounds, if_pos rfl]
theorem heap_ext {A B : World} (h1 : A.os = B.os) (h2 : A.tape = B.tape) (h3 : A.output = B.output) (h4 : A.drawn = B.drawn) (h5 : ∀ k : Nat, A.heap[k]? = B.heap[k]?) : A = B := by
 obtain ⟨h, _, _, _, _⟩ := A
 obtain ⟨h', _, _, _, _⟩ := B
 simp only at h1 h2 h3 h4 h5
 have : h = h' := by
   apply Array.ext_getElem?
   exact h5
 subst this h1 h2 h3 h4
 rfl
theorem mask_setCell (i : Nat) (v : Value) : mask q (W.setCell ⟨q, i, none⟩ v) = mask q W := by
 refine heap_ext rfl rfl rfl rfl fun k => ?_
 by_cases h : k = q
 · subst h
   rw [mask_at, mask_at]; simp
 · rw [mask_heap h, mask_heap h]
   exact Below.heap_setCell _ _ _ _ h
theorem mask_cell {a : Addr} {u : Value} (h : (mask q W).cell? a = some u) : W.cell? a = some u := by
 by_cases e : a.block = q
 · simp only [World.cell?, e, mask_at] at h
   split at h
   · next hh =>
     split at hh
     · cases hh
       split at h
       · cases h
       · simp at h
     · cases hh
   · cases h
 · rw [World.cell?_of_block (w := mask q W) (mask_heap e).symm]; exact h
theorem below_mask {B : Nat} (hq : q < W.heap.size) (h : Below B W W') : Below B (mask q W) (mask q W') := by
 refine ⟨h.os, h.tape, h.output, by rw [mask_size, mask_size]; exact h.size, fun k hk => ?_⟩
 by_cases e : k = q
 · subst e
   rw [mask_at, mask_at, if_pos hq, if_pos (Nat.lt_of_lt_of_le hq h.size)]
 · rw [mask_heap e, mask_heap e]; exact h.block k hk
theorem unmask_below {B : Nat} (hB : B ≤ q) (h : Below B (mask q W) (mask q W')) : Below B W W' := by
 refine ⟨h.os, h.tape, h.output, by have := h.size; rw [mask_size, mask_size] at this; exact this, fun k hk => ?_⟩
 have := h.block k hk
 rw [mask_heap (by omega), mask_heap (by omega)] at this
 exact this
theorem RowOf.unmask {α : Type} {n k : Nat} {s : Sp} {enc : α → List Value} {l : List α} (h : RowOf n (mask q W) s k enc l) : RowOf n W s k enc l :=
 ⟨h.cap, h.big, h.few, fun h0 => by
   obtain ⟨b, off, e, hlt, hc⟩ := h.row h0
   exact ⟨b, off, e, hlt, fun j hj r u hu => mask_cell (hc j hj r u hu)⟩⟩
theorem RdX.unmask {n : Nat} {e : ExprV} (h : RdX n (mask q W) e) : RdX n W e := by
 induction h with
 | mk e k o v w n row _ ih => exact .mk e k o v w n row.unmask ih
theorem RdT.unmask {n : Nat} {s : StmtV} (h : RdT n (mask q W) s) : RdT n W s := by
 induction h with
 | mk s k b n er ex tr _ or _ ih1 ih2 => exact .mk s k b n er.unmask (fun e he => (ex e he).unmask) tr.unmask ih1 or.unmask ih2
theorem RdDs.unmask {n : Nat} {s : Sp} {l : List DeclV} (h : RdDs n (mask q W) s l) : RdDs n W s l := ⟨h.row.unmask, h.ok⟩
theorem RdTs.unmask {n : Nat} {s : Sp} {l : List StmtV} (h : RdTs n (mask q W) s l) : RdTs n W s l := ⟨h.row.unmask, fun t ht => (h.ok t ht).unmask⟩
theorem RdP.unmask {n : Nat} {p : ProgV} (h : RdP n (mask q W) p) : RdP n W p :=
 ⟨h.blocks, h.width, h.inputs.unmask, h.ghosts.unmask, h.vars.unmask, h.arrays.unmask, h.require.unmask, h.irow.unmask, fun i hi => ⟨(h.inits i hi).block, (h.inits i hi).value.unmask⟩, h.prow.unmask, fun x hx => ⟨(h.procs x hx).name, (h.procs x hx).params.unmask, (h.procs x hx).body.unmask⟩, h.work.unmask, h.recover.unmask, h.invariant.unmask⟩
theorem RowOf.mask {α : Type} {n k b off : Nat} {c : Nat} {enc : α → List Value} {l : List α} (h : RowOf n W ⟨some ⟨b, off, none⟩, c⟩ k enc l) (hb : b ≠ q) : RowOf n (mask q W) ⟨some ⟨b, off, none⟩, c⟩ k enc l :=
 ⟨h.cap, h.big, h.few, fun h0 => by
   obtain ⟨b', off', e, hlt, hc⟩ := h.row h0
   have e2 : b = b' := by have := Option.some.inj e; exact (Addr.mk.inj this).1
   exact ⟨b', off', e, hlt, fun j hj r u hu => (World.cell?_of_block (w := W) (a := ⟨b', off' + j * k + r, none⟩) (mask_heap (by rw [← e2]; exact hb))).trans (hc j hj r u hu)⟩⟩
end
end Go.Proofs.YtepacjkacjabbaaGreatDoor
namespace Go.Proofs.YtepacjkacjabbaaGreatDoor
open Go Go.RowKit
section
variable {α : Type} {k : Nat} {enc : α → List Value}
theorem flat_len' (hk : ∀ x, (enc x).length = k) : ∀ l : List α, (l.flatMap enc).length = l.length * k
 | [] => by simp
 | x :: l => by rw [List.flatMap_cons, List.length_append, flat_len' hk l, hk, List.length_cons, Nat.add_mul]; omega
theorem flat_split (hk : ∀ x, (enc x).length = k) : ∀ (l : List α) (j : Nat) (u : Value), (l.flatMap enc)[j]? = some u → ∃ i r, ∃ hi : i < l.length, j = i * k + r ∧ (enc (l[i]))[r]? = some u
 | [], j, u, h => by simp at h
 | x :: l, j, u, h => by
   rw [List.flatMap_cons] at h
   by_cases hj : j < k
   · rw [List.getElem?_append_left (by rw [hk]; exact hj)] at h
     exact ⟨0, j, by simp, by omega, h⟩
   · rw [List.getElem?_append_right (by rw [hk]; omega), hk] at h
     obtain ⟨i, r, hi, e, h2⟩ := flat_split hk l (j - k) u h
     refine ⟨i + 1, r, by simp; omega, ?_, by simpa using h2⟩
     rw [Nat.add_mul]; omega
theorem flat_at (hk : ∀ x, (enc x).length = k) : ∀ (l : List α) (i r : Nat) (u : Value) (hi : i < l.length), (enc (l[i]))[r]? = some u → (l.flatMap enc)[i * k + r]? = some u
 | [], i, r, u, hi, _ => by simp at hi
 | x :: l, 0, r, u, hi, h => by
   have hr := (List.getElem?_eq_some_iff.1 h).1
   rw [List.flatMap_cons, Nat.zero_mul, Nat.zero_add, List.getElem?_append_left (by simpa using hr)]
   exact h
 | x :: l, i + 1, r, u, hi, h => by
   rw [List.flatMap_cons, List.getElem?_append_right (by rw [hk, Nat.add_mul]; omega), hk]
   have := flat_at hk l i r u (by simpa using hi) (by simpa using h)
   rw [← this]
   congr 1
   rw [Nat.add_mul]; omega
def OwnL (B : Nat) (W : World) (t : TypeId) (k : Nat) (enc : α → List Value) (v : Value) (l : List α) : Prop := W.ownsRow B t k v l.length (l.flatMap enc)
variable {B n : Nat} {W W' : World} {t : TypeId} {v : Value} {l : List α}
theorem OwnL.kept (h : OwnL B W t k enc v l) (hk : ∀ g cs fr, B ≤ g → W.heap[g]? = some (.cells cs t fr) → W'.heap[g]? = W.heap[g]?) : OwnL B W' t k enc v l := by
 obtain ⟨hlen, ho⟩ := h
 refine ⟨hlen, ?_⟩
 rcases ho with h0 | ⟨g, cap, cur, rfl, h1, h2, h3⟩
 · exact .inl h0
 · exact .inr ⟨g, cap, cur, rfl, h1, (hk g _ _ h1 h2).trans h2, h3⟩
theorem OwnL.on (h : OwnL B W t k enc v l) (hb : Below W.heap.size W W') : OwnL B W' t k enc v l := h.kept fun g _ _ _ hg => hb.block g (Array.getElem?_eq_some_iff.1 hg).1
theorem OwnL.less {C : Nat} (h : OwnL C W t k enc v l) (hB : B ≤ C) : OwnL B W t k enc v l := by
 obtain ⟨hlen, ho⟩ := h
 refine ⟨hlen, ?_⟩
 rcases ho with h0 | ⟨g, cap, cur, rfl, h1, h2⟩
 · exact .inl h0
 · exact .inr ⟨g, cap, cur, rfl, Nat.le_trans hB h1, h2⟩
theorem OwnL.nil : OwnL B W t k enc (.slice none 0 0) ([] : List α) := ⟨by simp, .inl ⟨rfl, rfl⟩⟩
theorem OwnL.slice (h : OwnL B W t k enc v l) : ∃ sp : Sp, v = sp.val l.length := by
 rcases h.2 with ⟨rfl, h0⟩ | ⟨g, cap, cur, rfl, _⟩
 · exact ⟨Sp.none, by simp [Sp.val, Sp.none, h0]⟩
 · exact ⟨⟨some ⟨g, 0, none⟩, cap⟩, rfl⟩
theorem OwnL.row (h : OwnL B W t k enc v l) (hk : ∀ x, (enc x).length = k) (hfew : l.length ≤ 2199023255552) : ∃ sp : Sp, v = sp.val l.length ∧ RowOf W.heap.size W sp k enc l ∧ (∀ a, sp.at_ = some a → B ≤ a.block ∧ a.off = 0 ∧ a.spot = none) := by
 rcases h.2 with ⟨rfl, h0⟩ | ⟨g, cap, cur, rfl, h1, h2, h3, h4, h5, h6⟩
 · have : l = [] := List.eq_nil_of_length_eq_zero h0
   subst this
   exact ⟨Sp.none, rfl, RowOf.nil, fun a ha => by cases ha⟩
 · refine ⟨⟨some ⟨g, 0, none⟩, cap⟩, rfl, ⟨h3, h4, hfew, fun _ => ⟨g, 0, rfl, (Array.getElem?_eq_some_iff.1 h2).1, fun j hj r u hu => ?_⟩⟩, fun a ha => by cases ha; exact ⟨h1, rfl, rfl⟩⟩
   have e := flat_at hk l j r u hj hu
   have hlt := (List.getElem?_eq_some_iff.1 e).1
   have e2 : (cur.toList.take (l.length * k))[j * k + r]? = some u := by rw [h6]; exact e
   have hlt2 : j * k + r < l.length * k := by rw [← flat_len' hk l]; exact hlt
   rw [List.getElem?_take_of_lt hlt2, Array.getElem?_toList] at e2
   simp only [World.cell?, h2, Nat.zero_add]
   exact e2
theorem RowOf.news {sp : Sp} (h : RowOf n W sp k enc l) (hk : ∀ x, (enc x).length = k) (h0 : 0 < l.length) : ∃ b off, sp.at_ = some ⟨b, off, none⟩ ∧ b < n ∧ ∀ j u, (l.flatMap enc)[j]? = some u → W.cell? ((⟨b, off, none⟩ : Addr).add j) = some u := by
 obtain ⟨b, off, e, hb, hc⟩ := h.row h0
 refine ⟨b, off, e, hb, fun j u hj => ?_⟩
 obtain ⟨i, r, hi, rfl, hu⟩ := flat_split hk l j u hj
 rw [Addr.add_lit, show off + (i * k + r) = off + i * k + r by omega]
 exact hc i hi r u hu
theorem OwnL.mask {q : Nat} (h : OwnL B W t k enc v l) (hq : q < B) : OwnL B (mask q W) t k enc v l := by
 obtain ⟨hlen, ho⟩ := h
 refine ⟨hlen, ?_⟩
 rcases ho with h0 | ⟨g, cap, cur, rfl, h1, h2, h3⟩
 · exact .inl h0
 · exact .inr ⟨g, cap, cur, rfl, h1, (mask_heap (by omega)).trans h2, h3⟩
end
theorem one_decl : ∀ x : DeclV, ∀ u ∈ x.cells, u.oneCell' = true := by
 intro x u hu
 simp [DeclV.cells] at hu
 rcases hu with rfl | rfl | rfl <;> rfl
theorem one_stmt : ∀ x : StmtV, ∀ u ∈ x.cells, u.oneCell' = true := by
 intro x u hu
 simp [StmtV.cells, Sp.val] at hu
 rcases hu with rfl | rfl | rfl | rfl | rfl | rfl <;> rfl
theorem one_expr : ∀ x : ExprV, ∀ u ∈ x.cells, u.oneCell' = true := by
 intro x u hu
 simp [ExprV.cells, Sp.val] at hu
 rcases hu with rfl | rfl | rfl | rfl | rfl | rfl <;> rfl
theorem one_proc : ∀ x : ProcV, ∀ u ∈ x.cells, u.oneCell' = true := by
 intro x u hu
 simp [ProcV.cells, Sp.val] at hu
 rcases hu with rfl | rfl | rfl <;> rfl
theorem one_init : ∀ x : InitV, ∀ u ∈ x.cells, u.oneCell' = true := by
 intro x u hu
 simp only [InitV.cells, List.mem_cons] at hu
 rcases hu with rfl | hu
 · rfl
 · exact one_expr _ u hu
theorem one_flat {α : Type} {enc : α → List Value} (h : ∀ x : α, ∀ u ∈ enc x, u.oneCell' = true) (l : List α) : ∀ u ∈ l.flatMap enc, u.oneCell' = true := by
 intro u hu
 obtain ⟨x, _, hx⟩ := List.mem_flatMap.1 hu
 exact h x u hx
end Go.Proofs.YtepacjkacjabbaaGreatDoor
namespace Go.Proofs.YtepacjkacjabbaaGreatDoor
open Go Go.RowKit
structure KeepsT (T : TypeId → Bool) (B : Nat) (W W' : World) : Prop where
 size : W.heap.size ≤ W'.heap.size
 same : ∀ (k : Nat) (o : Obj), B ≤ k → W.heap[k]? = some o → o.isCells = false → W'.heap[k]? = some o
 cells : ∀ (k : Nat) (cs : Array Value) (t : TypeId) (fr : Nat × Nat), W.heap[k]? = some (.cells cs t fr) → T t = true → W'.heap[k]? = some (.cells cs t fr)
section
variable {T : TypeId → Bool} {B C : Nat} {X Y Z : World}
theorem KeepsT.refl (T : TypeId → Bool) (B : Nat) (W : World) : KeepsT T B W W := ⟨Nat.le_refl _, fun _ _ _ h _ => h, fun _ _ _ _ h _ => h⟩
theorem KeepsT.trans (h : KeepsT T B X Y) (k : KeepsT T B Y Z) : KeepsT T B X Z :=
 ⟨Nat.le_trans h.size k.size, fun i o hB hi ho => k.same i o hB (h.same i o hB hi ho) ho, fun i cs t fr hi ht => k.cells i cs t fr (h.cells i cs t fr hi ht) ht⟩
theorem KeepsT.up (h : KeepsT T B X Y) (hBC : B ≤ C) : KeepsT T C X Y := ⟨h.size, fun k o hk => h.same k o (by omega), h.cells⟩
theorem KeepsT.put {l : Nat} {W : World} {o1 : Obj} (o : Obj) (h : l < B) (hl : W.heap[l]? = some o1) (hc : o1.isCells = false) : KeepsT T B W (W.putObj l o) :=
 ⟨by simp, fun k o' hk h1 _ => (World.putObj_heap_other (by omega)).trans h1, fun k cs t fr h1 _ => (World.putObj_heap_other (fun e => by
   subst e
   rw [hl] at h1
   cases h1
   cases hc)).trans h1⟩
theorem KeepsT.of_below (h : Below X.heap.size X Y) : KeepsT T B X Y :=
 ⟨h.size, fun k _ _ hk _ => (h.block k (Array.getElem?_eq_some_iff.1 hk).1).trans hk, fun k _ _ _ hk _ => (h.block k (Array.getElem?_eq_some_iff.1 hk).1).trans hk⟩
theorem KeepsT.alloc (W : World) (o : Obj) : KeepsT T B W (W.alloc o) := .of_below ((Below.refl _ W).alloc (Nat.le_refl _) o)
theorem KeepsT.set {a : Addr} {cs : Array Value} {t : TypeId} {fr : Nat × Nat} {W : World} (hb : W.heap[a.block]? = some (.cells cs t fr)) (ht : T t = false) (v : Value) : KeepsT T B W (W.setCell a v) :=
 ⟨by simp, fun k o _ hk ho => (Below.heap_setCell _ _ _ k (fun e => by subst e; rw [hb] at hk; cases hk; cases ho)).trans hk,
   fun k cs' t' fr' hk h2 => (Below.heap_setCell _ _ _ k (fun e => by subst e; rw [hb] at hk; cases hk; rw [ht] at h2; cases h2)).trans hk⟩
end
def SeqN {α : Type} (F : Fence) (n : Nat) (P : Program) (g : Nat) (lb : Array Value) (encs : α → Array Value) (T : TypeId → Bool) (n₀ : Nat) (S Sp : List α → Prop) (N : Nat) (w : World) : Prop :=
 ∀ (l : Nat) (J Jx : List α → World → Prop) (W : World), Below w.heap.size w W → OwnFrom W.heap.size J → OwnFrom W.heap.size Jx →
   (∀ pre x W1, J pre W1 → pre.length < N → Sp (pre ++ [x]) → YieldAt F (n - 1) P l (encs x) W1 fun e W' =>
     (e = .returned (.bool true) ∧ J (pre ++ [x]) W' ∧ KeepsT T W.heap.size W1 W' ∧ Below n₀ W1 W') ∨ (e = .returned (.bool false) ∧ Jx (pre ++ [x]) W' ∧ KeepsT T W.heap.size W1 W')) →
   J [] W →
   CallsIn F n P g (#[.func (.yield l) #[] #[]] ++ lb) W fun e W' => (∃ v, e = .returned v) ∧ ((∃ xs, S xs ∧ J xs W') ∨ (∃ pre, Sp pre ∧ Jx pre W'))
def netPost {α : Type} (T : TypeId → Bool) (B n₀ : Nat) (I : List α → World → Prop) (Ix : Code → List α → World → Prop) (xs : List α) (W : World) : Exit → Act → World → Prop
 | .normal, _, W' => KeepsT T B W W' ∧ Below n₀ W W' ∧ I xs W'
 | .ret, _, W' => KeepsT T B W W' ∧ Ix .ret xs W'
 | .exit id, _, W' => KeepsT T B W W' ∧ Ix (.exit id) xs W'
 | .goto t, _, W' => KeepsT T B W W' ∧ Ix (.goto t) xs W'
 | _, _, _ => False
theorem below_put {n₀ l : Nat} (W : World) (o : Obj) (h : n₀ ≤ l) : Below n₀ W (W.putObj l o) :=
 ⟨rfl, rfl, rfl, by simp, fun k hk => World.putObj_heap_other (by omega)⟩
variable {F : Fence} {n : Nat} {P : Program} {w : World}
theorem wpIn_rangeFunc_net {α : Type} {g : Operand} {ps : Array Tmp} {assign body : Code} {Q : Exit → Act → World → Prop} {a : Act} {w : World}
   (hro : F.round = none) (h1 : F.depth.isSome = true → 1 ≤ n) {gf : Nat} {lb : Array Value} (hg : a.eval g = .func (.func gf) #[] lb) (hFg : F.fn gf) (eg : ∀ args w, (callFunc gf args).run P w = .ok (.enter gf args) w)
   {encs : α → Array Value} {T : TypeId → Bool} {n₀ : Nat} {S Sp : List α → Prop} {N : Nat} {w0 : World} (hseq : SeqN F (n - 1) P gf lb encs T n₀ S Sp N w0) (hn₀ : n₀ ≤ w.heap.size) (hb0 : Below w0.heap.size w0 w) (hps : ∀ x, (encs x).size = ps.size)
   (I : List α → World → Prop) (Ix : Code → List α → World → Prop) (hI : OwnFrom w.heap.size I) (hIx : ∀ c, OwnFrom w.heap.size (Ix c)) (h0 : I [] w) (Ax : α → Act → World → Prop) (hAx : ∀ x a', OwnFrom w.heap.size (fun (_ : Unit) W => Ax x a' W))
   (hassign : ∀ (l : Nat) (pre : List α) (x : α) (W : World) (K : Act → World → Prop), I pre W → (∀ a' W', KeepsT T w.heap.size W W' → Below n₀ W W' → I pre W' → Ax x a' W' → K a' W') →
     assign.wpIn (F.inRound l) (n - 1 - 1) P (Exit.then K (fun _ _ _ => False)) { tmps := (ps.zip (encs x)).foldl (fun t (p, v) => t.setIfInBounds p v) a.tmps, defers := [] } W)
   (hbody : ∀ (l : Nat) (pre : List α) (x : α) (a' : Act) (W : World), w.heap.size ≤ l → I pre W → Ax x a' W → pre.length < N → Sp (pre ++ [x]) → body.wpIn (F.inRound l) (n - 1 - 1) P (netPost T w.heap.size n₀ I Ix (pre ++ [x]) W) a' W)
   (hdone : ∀ (D : Nat) (xs : List α) (W : World), w.heap.size ≤ D → S xs → I xs W → W.heap[D]? = some (.deferred (some [])) → Q .normal { a with defers := { target := .collected D, args := #[] } :: a.defers } W)
   (hstop : ∀ (D : Nat) (c : Code) (pre : List α) (W : World), w.heap.size ≤ D → Sp pre → Ix c pre W → W.heap[D]? = some (.deferred (some [])) → c.wpIn F n P Q { a with defers := { target := .collected D, args := #[] } :: a.defers } W) :
   (Code.rangeFunc g ps assign body).wpIn F n P Q a w := by
 refine wpIn_rangeFunc ?_
 intro fn hfn
 rw [hro]
 obtain ⟨rec, hrec⟩ : ∃ rec : LoopState → Option Code → Loop, rec = fun st pe => { state := st, pending := pe, fn, tmps := a.tmps, params := ps, assign, body, defers := w.heap.size } := ⟨_, rfl⟩
 obtain ⟨W1, hW1⟩ : ∃ W1, (w.alloc (.deferred (some []))).alloc (.loop (rec .ready none)) = W1 := ⟨_, rfl⟩
 have hL1 : W1.heap[w.heap.size + 1]? = some (.loop (rec .ready none)) := by
   rw [← hW1]; have := World.alloc_heap_new (w.alloc (.deferred (some []))) (.loop (rec .ready none)); rwa [World.size_alloc] at this
 have hK1 : W1.heap[w.heap.size]? = some (.deferred (some [])) := by
   rw [← hW1]; exact (Below.heap_alloc _ _ _ (by simp)).trans (World.alloc_heap_new w _)
 have hI1 : I [] W1 := by rw [← hW1]; exact hI.alloc _ (hI.alloc _ h0)
 have hsz1 : W1.heap.size = w.heap.size + 2 := by rw [← hW1]; simp
 have hbw : Below w.heap.size w W1 := by rw [← hW1]; exact ((Below.refl _ w).alloc (Nat.le_refl _) _).alloc (by simp) _
 have hb1 : Below w0.heap.size w0 W1 := hb0.trans (hbw.mono hb0.size)
 refine ⟨w.heap.size + 1, [{ target := .collected w.heap.size, args := #[] }], W1, { target := .fn (.func gf) lb, args := #[.func (.yield (w.heap.size + 1)) #[] #[]] }, W1, gf,
   #[.func (.yield (w.heap.size + 1)) #[] #[]] ++ lb, W1, ?_, ?_, ?_, ?_, h1, ?_⟩
 · rw [← hW1, hrec]; exact run_enterLoop_outer _ _ _ _ _
 · simp only [resolve, hg]
   simp [go_sem]
 · intro f' hf'; simp [Target.leads] at hf'; subst hf'; exact hFg
 · simp [invoke, go_sem, eg]
 · have hrow : ∀ {A : World} {row : Option Nat}, (∀ r, row = some r → W1.heap.size ≤ r ∧ ∃ o : Obj, A.heap[r]? = some o ∧ o.isCells = false) → (∀ r, row = some r → w.heap.size ≤ r ∧ ∃ o : Obj, A.heap[r]? = some o ∧ o.isCells = false) :=
     fun hr r e => ⟨by have := (hr r e).1; omega, (hr r e).2⟩
   have hstay : ∀ {A B : World} {row : Option Nat} {k : Nat} {o : Obj}, k < W1.heap.size → A.heap[k]? = some o → A.grownBy B row → (∀ r, row = some r → W1.heap.size ≤ r ∧ ∃ o : Obj, A.heap[r]? = some o ∧ o.isCells = false) → B.heap[k]? = some o :=
     fun {A B row k o} hk h hg' hr => (hg'.block k (Array.getElem?_eq_some_iff.1 h).1 (fun e => by have := (hr k e.symm).1; omega)).trans h
   refine (hseq (w.heap.size + 1)
     (fun pre W => I pre W ∧ W.heap[w.heap.size + 1]? = some (.loop (rec .ready none)) ∧ W.heap[w.heap.size]? = some (.deferred (some [])))
     (fun pre W => ∃ c, Ix c pre W ∧ W.heap[w.heap.size + 1]? = some (.loop (rec .done (some c))) ∧ W.heap[w.heap.size]? = some (.deferred (some [])))
     W1 hb1
     (fun s A B row hs hg' hr => ⟨hI s A B row hs.1 hg' (hrow hr), hstay (by omega) hs.2.1 hg' hr, hstay (by omega) hs.2.2 hg' hr⟩)
     (fun s A B row hs hg' hr => by
       obtain ⟨c, hc, hl, hk⟩ := hs
       exact ⟨c, hIx c s A B row hc hg' (hrow hr), hstay (by omega) hl hg' hr, hstay (by omega) hk hg' hr⟩)
     ?_ ⟨hI1, hL1, hK1⟩).mono ?_
   · rintro pre x W ⟨hi, hl, hk⟩ hlen hsp
     have hlt : w.heap.size + 1 < W.heap.size := (Array.getElem?_eq_some_iff.1 hl).1
     have hy := run_yield (P := P) (args := encs x) hl (by rw [hrec]; exact hps x)
     rw [hrec] at hy
     refine ⟨fn, _, assign, body, hy, roundIn_of_wpIn hfn (hassign _ pre x W _ hi ?_)⟩
     clear hy
     intro a' Wa hka hba hia hax
     replace hl := hka.same _ _ (by omega) hl rfl
     replace hk := hka.same _ _ (Nat.le_refl _) hk rfl
     replace hlt : w.heap.size + 1 < Wa.heap.size := (Array.getElem?_eq_some_iff.1 hl).1
     clear hi
     refine ⟨_, run_beginRound hl (by rw [hrec]), ?_⟩
     have hl2 : (Wa.putObj (w.heap.size + 1) (.loop { rec .ready none with state := .busy })).heap[w.heap.size + 1]? = some (.loop { rec .ready none with state := .busy }) := World.putObj_heap_same hlt
     have hk2 : (Wa.putObj (w.heap.size + 1) (.loop { rec .ready none with state := .busy })).heap[w.heap.size]? = some (.deferred (some [])) := (World.putObj_heap_other (by omega)).trans hk
     refine wpIn_mono (hbody _ pre x a' _ (by omega) (hI.putObj _ hia (by omega) hl rfl) ((hAx x a').putObj (s := ()) _ hax (by omega) hl rfl) hlen hsp) ?_
     have fin : ∀ (jump : Option Code) (W3 : World), KeepsT T w.heap.size (Wa.putObj (w.heap.size + 1) (.loop { rec .ready none with state := .busy })) W3 →
         ∃ W4, (Instr.endRound (w.heap.size + 1) jump).run P W3 = .ok (.bool jump.isNone) W4 ∧ W4 = W3.putObj (w.heap.size + 1) (.loop (rec (if jump.isNone then .ready else .done) jump)) ∧
         W3.heap[w.heap.size + 1]? = some (.loop { rec .ready none with state := .busy }) ∧
         W4.heap[w.heap.size + 1]? = some (.loop (rec (if jump.isNone then .ready else .done) jump)) ∧ W4.heap[w.heap.size]? = some (.deferred (some [])) ∧ KeepsT T W1.heap.size W W4 := fun jump W3 hk3 => by
       have hl3 := hk3.same _ _ (by omega) hl2 rfl
       have hr := run_endRound (P := P) jump hl3
       rw [hrec] at hr
       refine ⟨_, hr, by rw [hrec], by rw [hrec] at hl3; rw [hrec]; exact hl3, ?_, (World.putObj_heap_other (by omega)).trans (hk3.same _ _ (Nat.le_refl _) hk2 rfl), ?_⟩
       · rw [hrec]; exact World.putObj_heap_same (Array.getElem?_eq_some_iff.1 hl3).1
       · exact ((hka.up (by omega)).trans (KeepsT.put _ (by omega) hl rfl)).trans ((hk3.up (by omega)).trans (KeepsT.put _ (by omega) hl3 rfl))
     rintro e a3 W3 hp
     cases e with
     | normal =>
       obtain ⟨hk3, hb3, hi3⟩ := hp
       obtain ⟨W4, hr, rfl, hl3, hl4, hk4, hkf⟩ := fin none W3 hk3
       exact ⟨_, _, hr, .inl ⟨rfl, ⟨hI.putObj _ hi3 (by omega) hl3 rfl, hl4, hk4⟩, hkf, (hba.trans ((below_put Wa _ (by omega)).trans hb3)).trans (below_put W3 _ (by omega))⟩⟩
     | ret =>
       obtain ⟨hk3, hi3⟩ := hp
       obtain ⟨W4, hr, rfl, hl3, hl4, hk4, hkf⟩ := fin (some .ret) W3 hk3
       exact ⟨_, _, hr, .inr ⟨rfl, ⟨.ret, (hIx _).putObj _ hi3 (by omega) hl3 rfl, hl4, hk4⟩, hkf⟩⟩
     | exit id =>
       obtain ⟨hk3, hi3⟩ := hp
       obtain ⟨W4, hr, rfl, hl3, hl4, hk4, hkf⟩ := fin (some (.exit id)) W3 hk3
       exact ⟨_, _, hr, .inr ⟨rfl, ⟨.exit id, (hIx _).putObj _ hi3 (by omega) hl3 rfl, hl4, hk4⟩, hkf⟩⟩
     | goto t =>
       obtain ⟨hk3, hi3⟩ := hp
       obtain ⟨W4, hr, rfl, hl3, hl4, hk4, hkf⟩ := fin (some (.goto t)) W3 hk3
       exact ⟨_, _, hr, .inr ⟨rfl, ⟨.goto t, (hIx _).putObj _ hi3 (by omega) hl3 rfl, hl4, hk4⟩, hkf⟩⟩
     | panic ch => exact hp.elim
     | outgrown => exact hp.elim
   · rintro e W2 ⟨⟨v, rfl⟩, (⟨xs, hS, hi, hl, hk⟩ | ⟨pre, hSp, c, hi, hl, hk⟩)⟩
     · exact ⟨none, _, by have := run_endLoop (P := P) hl (by rw [hrec]; simp); rw [hrec] at this; exact this,
         hdone w.heap.size xs _ (Nat.le_refl _) hS (hI.putObj _ hi (by omega) hl rfl) ((World.putObj_heap_other (by omega)).trans hk)⟩
     · exact ⟨some c, _, by have := run_endLoop (P := P) hl (by rw [hrec]; simp); rw [hrec] at this; exact this,
         hstop w.heap.size c pre _ (Nat.le_refl _) hSp ((hIx c).putObj _ hi (by omega) hl rfl) ((World.putObj_heap_other (by omega)).trans hk)⟩
def MarksAt (B : Nat) : List Deferred → World → Prop
 | [], _ => True
 | d :: ds, W => ∃ D, d = { target := .collected D, args := #[] } ∧ B ≤ D ∧ W.heap[D]? = some (.deferred (some [])) ∧ (∀ d' ∈ ds, d'.target ≠ .collected D) ∧ MarksAt B ds W
theorem MarksAt.keeps {B : Nat} {W W' : World} (h : ∀ D, B ≤ D → W.heap[D]? = some (.deferred (some [])) → W'.heap[D]? = some (.deferred (some []))) : ∀ {ds : List Deferred}, MarksAt B ds W → MarksAt B ds W'
 | [], _ => trivial
 | _ :: _, ⟨D, e, hB, hD, hn, hr⟩ => ⟨D, e, hB, h D hB hD, hn, MarksAt.keeps h hr⟩
theorem MarksAt.keepsIn {B : Nat} {W W' : World} : ∀ {ds : List Deferred}, (∀ d ∈ ds, ∀ D, d.target = .collected D → B ≤ D → W.heap[D]? = some (.deferred (some [])) → W'.heap[D]? = some (.deferred (some []))) → MarksAt B ds W → MarksAt B ds W'
 | [], _, _ => trivial
 | d :: _, h, ⟨D, e, hB, hD, hn, hr⟩ => ⟨D, e, hB, h d (by simp) D (by rw [e]) hB hD, hn, MarksAt.keepsIn (fun d' hd' => h d' (by simp [hd'])) hr⟩
theorem MarksAt.lt {B : Nat} {W : World} : ∀ {ds : List Deferred}, MarksAt B ds W → ∀ d' ∈ ds, ∃ D, d'.target = .collected D ∧ D < W.heap.size
 | _ :: _, ⟨D, e, _, hD, _, hr⟩, d', hd' => by
   rcases List.mem_cons.1 hd' with rfl | hd'
   · exact ⟨D, by rw [e], (Array.getElem?_eq_some_iff.1 hD).1⟩
   · exact MarksAt.lt hr d' hd'
theorem MarksAt.put {B l : Nat} {W : World} (o : Obj) : ∀ {ds : List Deferred}, MarksAt B ds W → (∀ d' ∈ ds, d'.target ≠ .collected l) → MarksAt B ds (W.putObj l o)
 | [], _, _ => trivial
 | _ :: _, ⟨D, e, hB, hD, hn, hr⟩, hl => ⟨D, e, hB, (World.putObj_heap_other (fun e' => hl { target := .collected D, args := #[] } (by simp [e]) (by rw [e']))).trans hD, hn, MarksAt.put o hr (fun d' hd' => hl d' (by simp [hd']))⟩
theorem leaves_marks {F : Fence} {n : Nat} {P : Program} {fn : Func} {tmps : Array Value} {R : Ending → World → Prop} {B : Nat} (K : World → Prop)
   (hK : ∀ W l o o', K W → B ≤ l → W.heap[l]? = some o → o.isCells = false → K (W.putObj l o')) (fin : ∀ W, K W → LeavesInM F n P fn tmps R [] .returning W) :
   ∀ (ds : List Deferred) (W : World), MarksAt B ds W → K W → LeavesInM F n P fn tmps R ds .returning W
 | [], W, _, h => fin W h
 | d :: ds, W, ⟨D, e, hB, hD, hn, hr⟩, h => by
   subst e
   exact ⟨by simp, .inl ⟨D, W.putObj D (.deferred none), rfl, run_takeDeferred hD, leaves_marks K hK fin ds _ (hr.put _ hn) (hK W D _ _ h hB hD rfl)⟩⟩
end Go.Proofs.YtepacjkacjabbaaGreatDoor
