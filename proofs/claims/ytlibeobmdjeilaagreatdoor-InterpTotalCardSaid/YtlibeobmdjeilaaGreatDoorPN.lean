/- The executor and what it leans on (PN): told in wip/x. -/
import Derived.RangeFuncNested
import Derived.RangeFuncLeaves
import Derived.Shelf.Abstract
import Derived.WalkKit
import Derived.OwnWalkIn
import Derived.TacticsInMore
import Derived.LoopNIn
import Derived.LoopIn
import Derived.Test.YtlibeobmdjeilaaGreatDoorCheckP
import Derived.Lib.IndexMore
import Derived.Lib.SlTrimSet
import Derived.Maps.OwnSet
import Derived.Maps.RangeWalk
import Derived.Below
import Derived.Lib.Hide
import Derived.Test.YtlibeobmdjeilaaGreatDoorShelf
import Derived.Handy
import Derived.StringKeys
import Derived.Deep.DeepCutAuto
import Derived.Deep.CutBlock
import Derived.Deep.CutRange
set_option linter.all false
namespace Go.Proofs.YtlibeobmdjeilaaGreatDoor
open Go Go.RowKit
/-- Every object from B on that is no cells is as it was, and, wherever they lie, all cells of a type of T. -/
structure KeepsT (T : TypeId → Bool) (B : Nat) (W W' : World) : Prop where
  size : W.heap.size ≤ W'.heap.size
  same : ∀ (k : Nat) (o : Obj), B ≤ k → W.heap[k]? = some o → o.isCells = false → W'.heap[k]? = some o
  cells : ∀ (k : Nat) (cs : Array Value) (t : TypeId) (fr : Nat × Nat), W.heap[k]? = some (.cells cs t fr) → T t = true → W'.heap[k]? = some (.cells cs t fr)
section
variable {T : TypeId → Bool} {B C : Nat} {X Y Z : World}
theorem KeepsT.refl (T : TypeId → Bool) (B : Nat) (W : World) : KeepsT T B W W := ⟨Nat.le_refl _, fun _ _ _ h _ => h, fun _ _ _ _ h _ => h⟩
theorem KeepsT.trans (h : KeepsT T B X Y) (k : KeepsT T B Y Z) : KeepsT T B X Z :=
  ⟨Nat.le_trans h.size k.size, fun i o hB hi ho => k.same i o hB (h.same i o hB hi ho) ho, fun i cs t fr hi ht => k.cells i cs t fr (h.cells i cs t fr hi ht) ht⟩
theorem KeepsT.up (h : KeepsT T B X Y) (hBC : B ≤ C) : KeepsT T C X Y := ⟨h.size, fun k o hk => h.same k o (by omega), h.cells⟩
theorem KeepsT.put {l : Nat} {W : World} {o1 : Obj} (o : Obj) (h : l < B) (hl : W.heap[l]? = some o1) (hc : o1.isCells = false) : KeepsT T B W (W.putObj l o) :=
  ⟨by simp, fun k o' hk h1 _ => (World.putObj_heap_other (by omega)).trans h1, fun k cs t fr h1 _ => (World.putObj_heap_other (fun e => by
    subst e
    rw [hl] at h1
    cases h1
    cases hc)).trans h1⟩
/-- What lies below the world's own end stays: that is more than enough. -/
theorem KeepsT.of_below (h : Below X.heap.size X Y) : KeepsT T B X Y :=
  ⟨h.size, fun k _ _ hk _ => (h.block k (Array.getElem?_eq_some_iff.1 hk).1).trans hk, fun k _ _ _ hk _ => (h.block k (Array.getElem?_eq_some_iff.1 hk).1).trans hk⟩
theorem KeepsT.alloc (W : World) (o : Obj) : KeepsT T B W (W.alloc o) := .of_below ((Below.refl _ W).alloc (Nat.le_refl _) o)
/-- A store into cells of another type. -/
theorem KeepsT.set {a : Addr} {cs : Array Value} {t : TypeId} {fr : Nat × Nat} {W : World} (hb : W.heap[a.block]? = some (.cells cs t fr)) (ht : T t = false) (v : Value) : KeepsT T B W (W.setCell a v) :=
  ⟨by simp, fun k o _ hk ho => (Below.heap_setCell _ _ _ k (fun e => by subst e; rw [hb] at hk; cases hk; cases ho)).trans hk,
    fun k cs' t' fr' hk h2 => (Below.heap_setCell _ _ _ k (fun e => by subst e; rw [hb] at hk; cases hk; rw [ht] at h2; cases h2)).trans hk⟩
end
/-- An iterator that yields what S says, or, where a round has said no more, what Sp says. -/
def SeqN {α : Type} (F : Fence) (n : Nat) (P : Program) (g : Nat) (lb : Array Value) (encs : α → Array Value) (T : TypeId → Bool) (n₀ : Nat) (S Sp : List α → Prop) (N : Nat) (w : World) : Prop :=
  ∀ (l : Nat) (J Jx : List α → World → Prop) (W : World), Below w.heap.size w W → OwnFrom W.heap.size J → OwnFrom W.heap.size Jx →
    (∀ pre x W1, J pre W1 → pre.length < N → Sp (pre ++ [x]) → YieldAt F (n - 1) P l (encs x) W1 fun e W' =>
      (e = .returned (.bool true) ∧ J (pre ++ [x]) W' ∧ KeepsT T W.heap.size W1 W' ∧ Below n₀ W1 W') ∨ (e = .returned (.bool false) ∧ Jx (pre ++ [x]) W' ∧ KeepsT T W.heap.size W1 W')) →
    J [] W →
    CallsIn F n P g (#[.func (.yield l) #[] #[]] ++ lb) W fun e W' => (∃ v, e = .returned v) ∧ ((∃ xs, S xs ∧ J xs W') ∨ (∃ pre, Sp pre ∧ Jx pre W'))
/-- How a round's body may be left. -/
def netPost {α : Type} (T : TypeId → Bool) (B n₀ : Nat) (I : List α → World → Prop) (Ix : Code → List α → World → Prop) (xs : List α) (W : World) : Exit → Act → World → Prop
  | .normal, _, W' => KeepsT T B W W' ∧ Below n₀ W W' ∧ I xs W'
  | .ret, _, W' => KeepsT T B W W' ∧ Ix .ret xs W'
  | .exit id, _, W' => KeepsT T B W W' ∧ Ix (.exit id) xs W'
  | .goto t, _, W' => KeepsT T B W W' ∧ Ix (.goto t) xs W'
  | _, _, _ => False
theorem below_put {n₀ l : Nat} (W : World) (o : Obj) (h : n₀ ≤ l) : Below n₀ W (W.putObj l o) :=
  ⟨rfl, rfl, rfl, by simp, fun k hk => World.putObj_heap_other (by omega)⟩
variable {F : Fence} {n : Nat} {P : Program} {w : World}
theorem wpIn_rangeFunc_net {α : Type} {g : Operand} {ps : Array Tmp} {assign body : Code} {Q : Exit → Act → World → Prop} {a : Act} {w : World}
    (hro : F.round = none) (h1 : F.depth.isSome = true → 1 ≤ n) {gf : Nat} {lb : Array Value} (hg : a.eval g = .func (.func gf) #[] lb) (hFg : F.fn gf) (eg : ∀ args w, (callFunc gf args).run P w = .ok (.enter gf args) w)
    {encs : α → Array Value} {T : TypeId → Bool} {n₀ : Nat} {S Sp : List α → Prop} {N : Nat} {w0 : World} (hseq : SeqN F (n - 1) P gf lb encs T n₀ S Sp N w0) (hn₀ : n₀ ≤ w.heap.size) (hb0 : Below w0.heap.size w0 w) (hps : ∀ x, (encs x).size = ps.size)
    (I : List α → World → Prop) (Ix : Code → List α → World → Prop) (hI : OwnFrom w.heap.size I) (hIx : ∀ c, OwnFrom w.heap.size (Ix c)) (h0 : I [] w) (Ax : α → Act → World → Prop) (hAx : ∀ x a', OwnFrom w.heap.size (fun (_ : Unit) W => Ax x a' W))
    (hassign : ∀ (l : Nat) (pre : List α) (x : α) (W : World) (K : Act → World → Prop), I pre W → (∀ a' W', KeepsT T w.heap.size W W' → Below n₀ W W' → I pre W' → Ax x a' W' → K a' W') →
      assign.wpIn (F.inRound l) (n - 1 - 1) P (Exit.then K (fun _ _ _ => False)) { tmps := (ps.zip (encs x)).foldl (fun t (p, v) => t.setIfInBounds p v) a.tmps, defers := [] } W)
    (hbody : ∀ (l : Nat) (pre : List α) (x : α) (a' : Act) (W : World), w.heap.size ≤ l → I pre W → Ax x a' W → pre.length < N → Sp (pre ++ [x]) → body.wpIn (F.inRound l) (n - 1 - 1) P (netPost T w.heap.size n₀ I Ix (pre ++ [x]) W) a' W)
    (hdone : ∀ (D : Nat) (xs : List α) (W : World), w.heap.size ≤ D → S xs → I xs W → W.heap[D]? = some (.deferred (some [])) → Q .normal { a with defers := { target := .collected D, args := #[] } :: a.defers } W)
    (hstop : ∀ (D : Nat) (c : Code) (pre : List α) (W : World), w.heap.size ≤ D → Sp pre → Ix c pre W → W.heap[D]? = some (.deferred (some [])) → c.wpIn F n P Q { a with defers := { target := .collected D, args := #[] } :: a.defers } W) :
    (Code.rangeFunc g ps assign body).wpIn F n P Q a w := by
  refine wpIn_rangeFunc ?_
  intro fn hfn
  rw [hro]
  obtain ⟨rec, hrec⟩ : ∃ rec : LoopState → Option Code → Loop, rec = fun st pe => { state := st, pending := pe, fn, tmps := a.tmps, params := ps, assign, body, defers := w.heap.size } := ⟨_, rfl⟩
  obtain ⟨W1, hW1⟩ : ∃ W1, (w.alloc (.deferred (some []))).alloc (.loop (rec .ready none)) = W1 := ⟨_, rfl⟩
  have hL1 : W1.heap[w.heap.size + 1]? = some (.loop (rec .ready none)) := by
    rw [← hW1]; have := World.alloc_heap_new (w.alloc (.deferred (some []))) (.loop (rec .ready none)); rwa [World.size_alloc] at this
  have hK1 : W1.heap[w.heap.size]? = some (.deferred (some [])) := by
    rw [← hW1]; exact (Below.heap_alloc _ _ _ (by simp)).trans (World.alloc_heap_new w _)
  have hI1 : I [] W1 := by rw [← hW1]; exact hI.alloc _ (hI.alloc _ h0)
  have hsz1 : W1.heap.size = w.heap.size + 2 := by rw [← hW1]; simp
  have hbw : Below w.heap.size w W1 := by rw [← hW1]; exact ((Below.refl _ w).alloc (Nat.le_refl _) _).alloc (by simp) _
  have hb1 : Below w0.heap.size w0 W1 := hb0.trans (hbw.mono hb0.size)
  refine ⟨w.heap.size + 1, [{ target := .collected w.heap.size, args := #[] }], W1, { target := .fn (.func gf) lb, args := #[.func (.yield (w.heap.size + 1)) #[] #[]] }, W1, gf,
    #[.func (.yield (w.heap.size + 1)) #[] #[]] ++ lb, W1, ?_, ?_, ?_, ?_, h1, ?_⟩
  · rw [← hW1, hrec]; exact run_enterLoop_outer _ _ _ _ _
  · simp only [resolve, hg]
    simp [go_sem]
  · intro f' hf'; simp [Target.leads] at hf'; subst hf'; exact hFg
  · simp [invoke, go_sem, eg]
  · have hrow : ∀ {A : World} {row : Option Nat}, (∀ r, row = some r → W1.heap.size ≤ r ∧ ∃ o : Obj, A.heap[r]? = some o ∧ o.isCells = false) → (∀ r, row = some r → w.heap.size ≤ r ∧ ∃ o : Obj, A.heap[r]? = some o ∧ o.isCells = false) :=
      fun hr r e => ⟨by have := (hr r e).1; omega, (hr r e).2⟩
    have hstay : ∀ {A B : World} {row : Option Nat} {k : Nat} {o : Obj}, k < W1.heap.size → A.heap[k]? = some o → A.grownBy B row → (∀ r, row = some r → W1.heap.size ≤ r ∧ ∃ o : Obj, A.heap[r]? = some o ∧ o.isCells = false) → B.heap[k]? = some o :=
      fun {A B row k o} hk h hg' hr => (hg'.block k (Array.getElem?_eq_some_iff.1 h).1 (fun e => by have := (hr k e.symm).1; omega)).trans h
    refine (hseq (w.heap.size + 1)
      (fun pre W => I pre W ∧ W.heap[w.heap.size + 1]? = some (.loop (rec .ready none)) ∧ W.heap[w.heap.size]? = some (.deferred (some [])))
      (fun pre W => ∃ c, Ix c pre W ∧ W.heap[w.heap.size + 1]? = some (.loop (rec .done (some c))) ∧ W.heap[w.heap.size]? = some (.deferred (some [])))
      W1 hb1
      (fun s A B row hs hg' hr => ⟨hI s A B row hs.1 hg' (hrow hr), hstay (by omega) hs.2.1 hg' hr, hstay (by omega) hs.2.2 hg' hr⟩)
      (fun s A B row hs hg' hr => by
        obtain ⟨c, hc, hl, hk⟩ := hs
        exact ⟨c, hIx c s A B row hc hg' (hrow hr), hstay (by omega) hl hg' hr, hstay (by omega) hk hg' hr⟩)
      ?_ ⟨hI1, hL1, hK1⟩).mono ?_
    · rintro pre x W ⟨hi, hl, hk⟩ hlen hsp
      have hlt : w.heap.size + 1 < W.heap.size := (Array.getElem?_eq_some_iff.1 hl).1
      have hy := run_yield (P := P) (args := encs x) hl (by rw [hrec]; exact hps x)
      rw [hrec] at hy
      refine ⟨fn, _, assign, body, hy, roundIn_of_wpIn hfn (hassign _ pre x W _ hi ?_)⟩
      clear hy
      intro a' Wa hka hba hia hax
      replace hl := hka.same _ _ (by omega) hl rfl
      replace hk := hka.same _ _ (Nat.le_refl _) hk rfl
      replace hlt : w.heap.size + 1 < Wa.heap.size := (Array.getElem?_eq_some_iff.1 hl).1
      clear hi
      refine ⟨_, run_beginRound hl (by rw [hrec]), ?_⟩
      have hl2 : (Wa.putObj (w.heap.size + 1) (.loop { rec .ready none with state := .busy })).heap[w.heap.size + 1]? = some (.loop { rec .ready none with state := .busy }) := World.putObj_heap_same hlt
      have hk2 : (Wa.putObj (w.heap.size + 1) (.loop { rec .ready none with state := .busy })).heap[w.heap.size]? = some (.deferred (some [])) := (World.putObj_heap_other (by omega)).trans hk
      refine wpIn_mono (hbody _ pre x a' _ (by omega) (hI.putObj _ hia (by omega) hl rfl) ((hAx x a').putObj (s := ()) _ hax (by omega) hl rfl) hlen hsp) ?_
      have fin : ∀ (jump : Option Code) (W3 : World), KeepsT T w.heap.size (Wa.putObj (w.heap.size + 1) (.loop { rec .ready none with state := .busy })) W3 →
          ∃ W4, (Instr.endRound (w.heap.size + 1) jump).run P W3 = .ok (.bool jump.isNone) W4 ∧ W4 = W3.putObj (w.heap.size + 1) (.loop (rec (if jump.isNone then .ready else .done) jump)) ∧
          W3.heap[w.heap.size + 1]? = some (.loop { rec .ready none with state := .busy }) ∧
          W4.heap[w.heap.size + 1]? = some (.loop (rec (if jump.isNone then .ready else .done) jump)) ∧ W4.heap[w.heap.size]? = some (.deferred (some [])) ∧ KeepsT T W1.heap.size W W4 := fun jump W3 hk3 => by
        have hl3 := hk3.same _ _ (by omega) hl2 rfl
        have hr := run_endRound (P := P) jump hl3
        rw [hrec] at hr
        refine ⟨_, hr, by rw [hrec], by rw [hrec] at hl3; rw [hrec]; exact hl3, ?_, (World.putObj_heap_other (by omega)).trans (hk3.same _ _ (Nat.le_refl _) hk2 rfl), ?_⟩
        · rw [hrec]; exact World.putObj_heap_same (Array.getElem?_eq_some_iff.1 hl3).1
        · exact ((hka.up (by omega)).trans (KeepsT.put _ (by omega) hl rfl)).trans ((hk3.up (by omega)).trans (KeepsT.put _ (by omega) hl3 rfl))
      rintro e a3 W3 hp
      cases e with
      | normal =>
        obtain ⟨hk3, hb3, hi3⟩ := hp
        obtain ⟨W4, hr, rfl, hl3, hl4, hk4, hkf⟩ := fin none W3 hk3
        exact ⟨_, _, hr, .inl ⟨rfl, ⟨hI.putObj _ hi3 (by omega) hl3 rfl, hl4, hk4⟩, hkf, (hba.trans ((below_put Wa _ (by omega)).trans hb3)).trans (below_put W3 _ (by omega))⟩⟩
      | ret =>
        obtain ⟨hk3, hi3⟩ := hp
        obtain ⟨W4, hr, rfl, hl3, hl4, hk4, hkf⟩ := fin (some .ret) W3 hk3
        exact ⟨_, _, hr, .inr ⟨rfl, ⟨.ret, (hIx _).putObj _ hi3 (by omega) hl3 rfl, hl4, hk4⟩, hkf⟩⟩
      | exit id =>
        obtain ⟨hk3, hi3⟩ := hp
        obtain ⟨W4, hr, rfl, hl3, hl4, hk4, hkf⟩ := fin (some (.exit id)) W3 hk3
        exact ⟨_, _, hr, .inr ⟨rfl, ⟨.exit id, (hIx _).putObj _ hi3 (by omega) hl3 rfl, hl4, hk4⟩, hkf⟩⟩
      | goto t =>
        obtain ⟨hk3, hi3⟩ := hp
        obtain ⟨W4, hr, rfl, hl3, hl4, hk4, hkf⟩ := fin (some (.goto t)) W3 hk3
        exact ⟨_, _, hr, .inr ⟨rfl, ⟨.goto t, (hIx _).putObj _ hi3 (by omega) hl3 rfl, hl4, hk4⟩, hkf⟩⟩
      | panic ch => exact hp.elim
      | outgrown => exact hp.elim
    · rintro e W2 ⟨⟨v, rfl⟩, (⟨xs, hS, hi, hl, hk⟩ | ⟨pre, hSp, c, hi, hl, hk⟩)⟩
      · exact ⟨none, _, by have := run_endLoop (P := P) hl (by rw [hrec]; simp); rw [hrec] at this; exact this,
          hdone w.heap.size xs _ (Nat.le_refl _) hS (hI.putObj _ hi (by omega) hl rfl) ((World.putObj_heap_other (by omega)).trans hk)⟩
      · exact ⟨some c, _, by have := run_endLoop (P := P) hl (by rw [hrec]; simp); rw [hrec] at this; exact this,
          hstop w.heap.size c pre _ (Nat.le_refl _) hSp ((hIx c).putObj _ hi (by omega) hl rfl) ((World.putObj_heap_other (by omega)).trans hk)⟩
/-- The marks that loops over iterators have left on a call: blocks of their own, from B on. -/
def MarksAt (B : Nat) : List Deferred → World → Prop
  | [], _ => True
  | d :: ds, W => ∃ D, d = { target := .collected D, args := #[] } ∧ B ≤ D ∧ W.heap[D]? = some (.deferred (some [])) ∧ (∀ d' ∈ ds, d'.target ≠ .collected D) ∧ MarksAt B ds W
theorem MarksAt.keeps {B : Nat} {W W' : World} (h : ∀ D, B ≤ D → W.heap[D]? = some (.deferred (some [])) → W'.heap[D]? = some (.deferred (some []))) : ∀ {ds : List Deferred}, MarksAt B ds W → MarksAt B ds W'
  | [], _ => trivial
  | _ :: _, ⟨D, e, hB, hD, hn, hr⟩ => ⟨D, e, hB, h D hB hD, hn, MarksAt.keeps h hr⟩
theorem MarksAt.keepsIn {B : Nat} {W W' : World} : ∀ {ds : List Deferred}, (∀ d ∈ ds, ∀ D, d.target = .collected D → B ≤ D → W.heap[D]? = some (.deferred (some [])) → W'.heap[D]? = some (.deferred (some []))) → MarksAt B ds W → MarksAt B ds W'
  | [], _, _ => trivial
  | d :: _, h, ⟨D, e, hB, hD, hn, hr⟩ => ⟨D, e, hB, h d (by simp) D (by rw [e]) hB hD, hn, MarksAt.keepsIn (fun d' hd' => h d' (by simp [hd'])) hr⟩
theorem MarksAt.lt {B : Nat} {W : World} : ∀ {ds : List Deferred}, MarksAt B ds W → ∀ d' ∈ ds, ∃ D, d'.target = .collected D ∧ D < W.heap.size
  | _ :: _, ⟨D, e, _, hD, _, hr⟩, d', hd' => by
    rcases List.mem_cons.1 hd' with rfl | hd'
    · exact ⟨D, by rw [e], (Array.getElem?_eq_some_iff.1 hD).1⟩
    · exact MarksAt.lt hr d' hd'
theorem MarksAt.put {B l : Nat} {W : World} (o : Obj) : ∀ {ds : List Deferred}, MarksAt B ds W → (∀ d' ∈ ds, d'.target ≠ .collected l) → MarksAt B ds (W.putObj l o)
  | [], _, _ => trivial
  | _ :: _, ⟨D, e, hB, hD, hn, hr⟩, hl => ⟨D, e, hB, (World.putObj_heap_other (fun e' => hl { target := .collected D, args := #[] } (by simp [e]) (by rw [e']))).trans hD, hn, MarksAt.put o hr (fun d' hd' => hl d' (by simp [hd']))⟩
theorem leaves_marks {F : Fence} {n : Nat} {P : Program} {fn : Func} {tmps : Array Value} {R : Ending → World → Prop} {B : Nat} (K : World → Prop)
    (hK : ∀ W l o o', K W → B ≤ l → W.heap[l]? = some o → o.isCells = false → K (W.putObj l o')) (fin : ∀ W, K W → LeavesInM F n P fn tmps R [] .returning W) :
    ∀ (ds : List Deferred) (W : World), MarksAt B ds W → K W → LeavesInM F n P fn tmps R ds .returning W
  | [], W, _, h => fin W h
  | d :: ds, W, ⟨D, e, hB, hD, hn, hr⟩, h => by
    subst e
    exact ⟨by simp, .inl ⟨D, W.putObj D (.deferred none), rfl, run_takeDeferred hD, leaves_marks K hK fin ds _ (hr.put _ hn) (hK W D _ _ h hB hD rfl)⟩⟩
end Go.Proofs.YtlibeobmdjeilaaGreatDoor
namespace Go.Proofs.YtlibeobmdjeilaaGreatDoor
open Go
theorem contains_cons (b : UInt8) (l sub : List UInt8) : Lib.contains (b :: l) sub = (sub.isPrefixOf (b :: l) || Lib.contains l sub) := by
  unfold Lib.contains
  rw [Lib.index]
  have := Lib.index_ge l sub
  by_cases h : sub.isPrefixOf (b :: l) = true
  · rw [if_pos h, h]; simp
  · rw [if_neg h, Bool.eq_false_iff.2 h, Bool.false_or]
    by_cases h2 : Lib.index l sub = -1
    · rw [h2]; rfl
    · have : ((Lib.index l sub == -1) = true) = False := by simp [h2]
      simp only [this, if_false]
      apply decide_eq_decide.2
      omega
theorem contains_nil (b : UInt8) (t : List UInt8) : Lib.contains [] (b :: t) = false := rfl
theorem contains_skip (w r t : List UInt8) (c : UInt8) (hw : c ∉ w) : Lib.contains (w ++ r) (c :: t) = Lib.contains r (c :: t) := by
  induction w with
  | nil => rfl
  | cons x w ih =>
    have h1 : c ≠ x := fun e => hw (by rw [e]; exact List.mem_cons_self ..)
    rw [List.cons_append, contains_cons, ih (fun h => hw (List.mem_cons_of_mem _ h))]
    have : (c :: t).isPrefixOf (x :: (w ++ r)) = false := by rw [List.isPrefixOf]; simp [h1]
    rw [this, Bool.false_or]
theorem prefix_word (r : List UInt8) : ∀ (s w : List UInt8), 32 ∉ s → 32 ∉ w → (s ++ [32]).isPrefixOf (w ++ 32 :: r) = decide (w = s)
  | [], [], _, _ => rfl
  | [], x :: w, _, hw => by
    have h1 : (32 : UInt8) ≠ x := fun e => hw (by rw [e]; exact List.mem_cons_self ..)
    simp [List.isPrefixOf, h1]
  | y :: s, [], hs, _ => by
    have h1 : y ≠ 32 := fun e => hs (by rw [e]; exact List.mem_cons_self ..)
    simp [List.isPrefixOf, h1]
  | y :: s, x :: w, hs, hw => by
    have ih := prefix_word r s w (fun h => hs (List.mem_cons_of_mem _ h)) (fun h => hw (List.mem_cons_of_mem _ h))
    rw [List.cons_append, List.cons_append, List.isPrefixOf, ih]
    by_cases h : y = x
    · subst h; simp
    · have h2 : x ≠ y := fun e => h e.symm
      simp [h, h2]
def joinW : List (List UInt8) → List UInt8
  | [] => [32]
  | w :: ws => 32 :: (w ++ joinW ws)
theorem joinW_head : ∀ ws : List (List UInt8), ∃ r, joinW ws = 32 :: r
  | [] => ⟨[], rfl⟩
  | w :: ws => ⟨w ++ joinW ws, rfl⟩
theorem contains_join (s : List UInt8) (hs : 32 ∉ s) : ∀ ws : List (List UInt8), (∀ w ∈ ws, (32 : UInt8) ∉ w) → Lib.contains (joinW ws) (32 :: (s ++ [32])) = ws.any fun w => decide (w = s)
  | [], _ => by
    rw [joinW, contains_cons, contains_nil]
    cases s <;> rfl
  | w :: ws, hw => by
    rw [joinW, contains_cons, contains_skip _ _ _ _ (hw w (List.mem_cons_self ..)), contains_join s hs ws (fun x hx => hw x (List.mem_cons_of_mem _ hx)), List.any_cons]
    obtain ⟨r, hr⟩ := joinW_head ws
    rw [hr, List.isPrefixOf, prefix_word r s w hs (hw w (List.mem_cons_self ..))]
    simp
def wordsB : List (List UInt8) := words.map fun w => w.toUTF8.data.toList
theorem words_clean : ∀ w ∈ wordsB, (32 : UInt8) ∉ w := by decide
theorem dropWhile_nil (f : UInt8 → Bool) : ∀ l : List UInt8, l.dropWhile f = [] ↔ ∀ c ∈ l, f c = true
  | [] => by simp
  | c :: l => by
    rw [List.dropWhile_cons]
    by_cases h : f c = true
    · rw [if_pos h, dropWhile_nil f l]; simp [h]
    · rw [if_neg h]; simp [h]
theorem all_ne (f : String → List UInt8) (s : List UInt8) : ∀ l : List String, (l.all fun w => decide (f w ≠ s)) = !((l.map f).any fun w => decide (w = s))
  | [] => rfl
  | w :: l => by rw [List.all_cons, all_ne f s l, List.map_cons, List.any_cons]; by_cases h : f w = s <;> simp [h]
theorem trimS_nil (l cs : List UInt8) : (Lib.trimS l cs = []) ↔ ∀ c ∈ l, cs.contains c = true := by
  unfold Lib.trimS Lib.trimLeftS Lib.trimRightS
  rw [dropWhile_nil]
  constructor
  · intro h c hc
    cases hd : l.reverse.dropWhile (cs.contains ·) with
    | nil => exact (dropWhile_nil _ _).1 hd c (List.mem_reverse.2 hc)
    | cons x t =>
      have h1 := List.head?_dropWhile_not (cs.contains ·) l.reverse
      rw [hd] at h1
      have h2 := h x (by rw [hd]; simp)
      simp at h1
      rw [List.contains_iff_mem] at h2
      exact absurd h2 h1
  · intro h c hc
    have h1 : l.reverse.dropWhile (cs.contains ·) = [] := (dropWhile_nil _ _).2 fun x hx => h x (List.mem_reverse.1 hx)
    rw [h1] at hc
    cases hc
/-- The signs of names, as the program has them. -/
def signsB : List UInt8 := "abcdefghijklmnopqrstuvwxyz0123456789_".toUTF8.data.toList
set_option maxRecDepth 100000 in
theorem signs_all : ∀ n : Nat, n < 256 → signsB.contains (UInt8.ofNat n) = nameSign (UInt8.ofNat n) := by decide
theorem signs_eq (c : UInt8) : signsB.contains c = nameSign c := by
  have := signs_all c.toNat c.toNat_lt
  rwa [UInt8.ofNat_toNat] at this
/-- IsName, in the library's words. -/
def isNameG (s : List UInt8) : Bool :=
  decide (s.length ≤ 16) && (match s with | c :: _ => lower c | [] => false) && !Lib.contains (joinW wordsB) (32 :: (s ++ [32])) && decide (Lib.trimS s signsB = [])
theorem isNameG_eq (s : List UInt8) : isNameG s = isName s := by
  unfold isNameG isName
  have ht : decide (Lib.trimS s signsB = []) = s.all nameSign := by
    rw [Bool.eq_iff_iff, decide_eq_true_iff, trimS_nil, List.all_eq_true]
    constructor <;> intro h c hc <;> have := h c hc <;> rw [signs_eq] at * <;> exact this
  rw [ht]
  by_cases ha : s.all nameSign = true
  · have h32 : (32 : UInt8) ∉ s := fun h => absurd (List.all_eq_true.1 ha 32 h) (by decide)
    rw [contains_join s h32 wordsB words_clean, ha]
    rw [all_ne (fun w => w.toUTF8.data.toList) s words, Bool.and_true, Bool.and_true]
    rfl
  · rw [Bool.eq_false_iff.2 ha]
    simp
theorem cutDot_eq : ∀ s : List UInt8, cutDot s = if (Lib.cut s [46]).2.2 = true then some ((Lib.cut s [46]).1, (Lib.cut s [46]).2.1) else none
  | [] => rfl
  | c :: l => by
    have ih := cutDot_eq l
    have hg := Lib.index_ge l [46]
    rw [cutDot, ih]
    by_cases h : c.toNat = 46
    · have hc : c = 46 := UInt8.toNat.inj h
      subst hc
      have h1 : Lib.index (46 :: l) [46] = 0 := by rw [Lib.index]; rfl
      unfold Lib.cut
      rw [h1]
      simp
    · have hc : c ≠ 46 := fun e => h (by rw [e]; rfl)
      have hp : [46].isPrefixOf (c :: l) = false := by
        have : (46 : UInt8) ≠ c := fun e => hc e.symm
        simp [List.isPrefixOf, this]
      rw [if_neg h]
      unfold Lib.cut
      rw [Lib.index, hp]
      by_cases h2 : Lib.index l [46] = -1
      · simp [h2]
      · obtain ⟨k, hk⟩ : ∃ k : Nat, Lib.index l [46] = k := ⟨(Lib.index l [46]).toNat, by omega⟩
        have h3 : ((k : Int) == -1) = false := by rw [beq_eq_false_iff_ne]; omega
        have h4 : (0 : Int) ≤ (k : Int) + 1 := by omega
        have h5 : ((k : Int) + 1).toNat = k + 1 := by omega
        simp [hk, h3, h4, h5]
end Go.Proofs.YtlibeobmdjeilaaGreatDoor
namespace Go.Proofs.YtlibeobmdjeilaaGreatDoor
open Go Go.RowKit Go.Maps
/-- How the elements of a map are encoded. -/
structure Codec (P : Program) (e : TypeId) (α : Type) where
  val : α → Value
  dat : α → DataW Unit
  read : Value → Option (DataW Unit × List MemPlace)
  put : ∀ x, read (val x) = some (dat x, [])
  inv : ∀ v z, read v = some z → ∃ x, v = val x ∧ z = (dat x, [])
  inj : ∀ x y, dat x = dat y → x = y
  zero : α
  zrun : ∀ w, (zeroValue e).run P w = .ok (val zero) w
/-- Block b of W is a map of at most n entries which answers as f says. -/
structure MapF {P : Program} {e : TypeId} {α : Type} (C : Codec P e α) (k : TypeId) (W : World) (b n : Nat) (f : Lit → Option α) : Prop where
  ex : ∃ D : DataW Unit, W.ownsMap P k C.read b n D ∧ ∀ l, WideAt.IsKeyLit l → Maps.has D l = (f l).isSome ∧ ∀ x, f l = some x → ∀ z, D.atKey l z = C.dat x
section
variable {P : Program} {e k t : TypeId} {α : Type} {C : Codec P e α} {W W' : World} {b n : Nat} {f g : Lit → Option α}
theorem MapF.lt (h : MapF C k W b n f) : b < W.heap.size := let ⟨_, ho, _⟩ := h.ex; ho.lt
theorem MapF.of_block (h : MapF C k W b n f) (hb : W'.heap[b]? = W.heap[b]?) : MapF C k W' b n f := by
  obtain ⟨D, ⟨es, clock, h1, F, h2, h3⟩, hD⟩ := h.ex
  exact ⟨D, ⟨es, clock, hb.trans h1, F, h2, h3⟩, hD⟩
theorem MapF.below (h : MapF C k W b n f) {B : Nat} (hb : Below B W W') (hB : b < B) : MapF C k W' b n f := h.of_block (hb.block b hB)
theorem MapF.mono (h : MapF C k W b n f) {n' : Nat} (hn : n ≤ n') : MapF C k W b n' f := by
  obtain ⟨D, ho, hD⟩ := h.ex
  exact ⟨D, ho.mono hn, hD⟩
theorem MapF.congr (h : MapF C k W b n f) (hfg : ∀ l, WideAt.IsKeyLit l → f l = g l) : MapF C k W b n g := by
  obtain ⟨D, ho, hD⟩ := h.ex
  exact ⟨D, ho, fun l hl => by rw [← hfg l hl]; exact hD l hl⟩
theorem MapF.made (C : Codec P e α) (k : TypeId) (W : World) : MapF C k (W.alloc (.map #[] 0)) W.heap.size 0 (fun _ => none) :=
  ⟨_, World.ownsMap_made W P k C.read, fun l _ => ⟨rfl, fun x hx => by cases hx⟩⟩
/-- The object that a map is. -/
theorem MapF.obj (h : MapF C k W b n f) : ∃ es clock, W.heap[b]? = some (.map es clock) := by
  obtain ⟨D, ⟨es, clock, h1, _⟩, _⟩ := h.ex
  exact ⟨es, clock, h1⟩
theorem MapF.look_ok (h : MapF C k W b n f) (K : Keyed P k) (ht : P.underlying t = some (.map k e)) {key : Value} {kl : Lit} (hkey : keyOf P k key = some kl) :
    (Instr.lookup t (.map (some b)) key true).run P W = .ok (.tuple #[C.val ((f kl).getD C.zero), .bool (f kl).isSome]) W := by
  obtain ⟨D, ho, hD⟩ := h.ex
  obtain ⟨h1, h2⟩ := hD kl (K.key hkey)
  obtain ⟨v, ps, hrun, hv⟩ := ho.look_ok K ht (C.zrun W) (C.put C.zero) hkey
  rw [h1] at hrun
  rw [hrun]
  obtain ⟨x, rfl, hx⟩ := C.inv _ _ hv
  have hx1 := (Prod.mk.injEq _ _ _ _ ▸ hx).1
  suffices x = (f kl).getD C.zero by rw [this]
  cases hf : f kl with
  | none =>
    rw [hf] at h1
    rw [Maps.atKey_of_not_has h1] at hx1
    exact (C.inj _ _ hx1).symm
  | some y =>
    rw [h2 y hf] at hx1
    exact (C.inj _ _ hx1).symm
theorem MapF.look (h : MapF C k W b n f) (K : Keyed P k) (ht : P.underlying t = some (.map k e)) {key : Value} {kl : Lit} (hkey : keyOf P k key = some kl) :
    (Instr.lookup t (.map (some b)) key false).run P W = .ok (C.val ((f kl).getD C.zero)) W := by
  obtain ⟨D, ho, hD⟩ := h.ex
  obtain ⟨h1, h2⟩ := hD kl (K.key hkey)
  obtain ⟨v, ps, hrun, hv⟩ := ho.lookup K ht (C.zrun W) (C.put C.zero) hkey
  rw [hrun]
  obtain ⟨x, rfl, hx⟩ := C.inv _ _ hv
  have hx1 := (Prod.mk.injEq _ _ _ _ ▸ hx).1
  suffices x = (f kl).getD C.zero by rw [this]
  cases hf : f kl with
  | none =>
    rw [hf] at h1
    rw [Maps.atKey_of_not_has h1] at hx1
    exact (C.inj _ _ hx1).symm
  | some y =>
    rw [h2 y hf] at hx1
    exact (C.inj _ _ hx1).symm
theorem MapF.look_nil (C : Codec P e α) (W : World) (K : Keyed P k) (ht : P.underlying t = some (.map k e)) {key : Value} {kl : Lit} (hkey : keyOf P k key = some kl) :
    (Instr.lookup t (.map none) key true).run P W = .ok (.tuple #[C.val C.zero, .bool false]) W := by
  have := Maps.look_nil (w := W) true K ht (C.zrun W) hkey
  simpa using this
def putF (f : Lit → Option α) (kl : Lit) (x : α) (l : Lit) : Option α := if l.sameKey kl = true then some x else f l
theorem MapF.store (h : MapF C k W b n f) (K : Keyed P k) (ht : P.underlying t = some (.map k e)) (hn : n < maxLen) {key : Value} {kl : Lit} (hkey : keyOf P k key = some kl) (x : α) :
    ∃ w', (Instr.mapUpdate t (.map (some b)) key (C.val x)).run P W = .ok () w' ∧ MapF C k w' b (n + 1) (putF f kl x) ∧ W.mapTurned w' b := by
  obtain ⟨D, ho, hD⟩ := h.ex
  have him := ho.isMap
  have hk := K.key hkey
  obtain ⟨w', hrun, hown, hturn⟩ := ho.store K ht hn hkey (C.put x)
  refine ⟨w', hrun, ⟨_, hown, fun l hl => ?_⟩, hturn⟩
  unfold putF
  by_cases hlk : l = kl
  · subst hlk
    rw [if_pos (WideAt.sameKey_self hk)]
    exact ⟨Maps.has_put_same him hk _, fun y hy z => by cases hy; exact Maps.atKey_put_same him hk _ z⟩
  · rw [if_neg (fun h => hlk (WideAt.sameKey_eq h))]
    obtain ⟨h1, h2⟩ := hD l hl
    exact ⟨by rw [Maps.has_put_other hlk, h1], fun y hy z => by rw [Maps.atKey_put_other hlk]; exact h2 y hy z⟩
end
/-- What a key of a string type reads as. -/
def skey (s : ByteArray) : Lit := .string s.data.toList
def onStr {α : Type} (g : ByteArray → Option α) : Lit → Option α
  | .string cs => g ⟨cs.toArray⟩
  | _ => none
theorem onStr_skey {α : Type} (g : ByteArray → Option α) (s : ByteArray) : onStr g (skey s) = g s := by
  show g ⟨s.data.toList.toArray⟩ = g s
  rw [Array.toArray_toList]
theorem skey_inj {s t : ByteArray} (h : skey s = skey t) : s = t := by
  unfold skey at h
  have h1 : s.data.toList = t.data.toList := by injection h
  have h2 : s.data = t.data := Array.toList_inj.1 h1
  cases s; cases t; simp at h2; rw [h2]
theorem putF_onStr {α : Type} (g : ByteArray → Option α) (s : ByteArray) (x : α) : putF (onStr g) (skey s) x = onStr (fun t => if t = s then some x else g t) := by
  funext l
  unfold putF
  by_cases h : l = skey s
  · subst h; rw [if_pos (WideAt.sameKey_self (by trivial)), onStr_skey, if_pos rfl]
  · rw [if_neg (fun e => h (WideAt.sameKey_eq e))]
    cases l with
    | string cs =>
      show g ⟨cs.toArray⟩ = if (⟨cs.toArray⟩ : ByteArray) = s then some x else g ⟨cs.toArray⟩
      rw [if_neg]
      rintro rfl
      exact h (by simp [skey])
    | _ => rfl
def onInt {α : Type} (g : Int → Option α) : Lit → Option α
  | .int .i64 n => g n
  | _ => none
theorem putF_onInt {α : Type} (g : Int → Option α) (n : Int) (x : α) : putF (onInt g) (.int .i64 n) x = onInt (fun m => if m = n then some x else g m) := by
  funext l
  unfold putF
  by_cases h : l = .int .i64 n
  · subst h; rw [if_pos (WideAt.sameKey_self (by trivial))]; simp [onInt]
  · rw [if_neg (fun e => h (WideAt.sameKey_eq e))]
    unfold onInt
    split
    · rename_i m
      show g m = if m = n then some x else g m
      rw [if_neg]
      rintro rfl
      exact h rfl
    · rfl
end Go.Proofs.YtlibeobmdjeilaaGreatDoor
namespace Go.Proofs.YtlibeobmdjeilaaGreatDoor
open Go Go.RowKit
/-- I stays while new blocks come, and objects from B on that are no cells, or are cells of type Tc, are written. -/
def OwnC (Tc : TypeId) {β : Type} (B : Nat) (I : β → World → Prop) : Prop :=
  ∀ s W W' row, I s W → W.grownBy W' row → (∀ r, row = some r → B ≤ r ∧ ∃ o : Obj, W.heap[r]? = some o ∧ (o.isCells = false ∨ ∃ cs fr, o = .cells cs Tc fr)) → I s W'
section
variable {Tc : TypeId} {β : Type} {B : Nat} {I : β → World → Prop}
theorem OwnC.putObj (h : OwnC Tc B I) {s : β} {W : World} {l : Nat} {o : Obj} (o' : Obj) (hs : I s W) (hB : B ≤ l) (hl : W.heap[l]? = some o) (ho : o.isCells = false) : I s (W.putObj l o') :=
  h s W _ (some l) hs (grownBy_putObj' W l o') (fun r e => by cases e; exact ⟨hB, o, hl, .inl ho⟩)
theorem OwnC.alloc (h : OwnC Tc B I) {s : β} {W : World} (o : Obj) (hs : I s W) : I s (W.alloc o) :=
  h s W _ none hs (World.grownBy_alloc W o none) (fun r e => by cases e)
theorem OwnC.new (h : OwnC Tc B I) {s : β} {W W' : World} (hs : I s W) (hb : Below W.heap.size W W') : I s W' :=
  h s W _ none hs ⟨hb.os, hb.tape, hb.output, hb.size, fun k hk _ => hb.block k hk⟩ (fun r e => by cases e)
theorem OwnC.up (h : OwnC Tc B I) {C : Nat} (hBC : B ≤ C) : OwnC Tc C I := fun s W W' row hs hg hr => h s W W' row hs hg (fun r e => ⟨by have := (hr r e).1; omega, (hr r e).2⟩)
theorem OwnC.cell (h : OwnC Tc B I) {s : β} {W : World} {a : Addr} {cs : Array Value} {fr : Nat × Nat} (v : Value) (hs : I s W) (hB : B ≤ a.block) (hl : W.heap[a.block]? = some (.cells cs Tc fr)) : I s (W.setCell a v) :=
  h s W _ (some a.block) hs ⟨rfl, rfl, rfl, by simp, fun k _ hk => Below.heap_setCell _ _ _ k (fun e => hk (by rw [e]))⟩ (fun r e => by cases e; exact ⟨hB, _, hl, .inr ⟨cs, fr, rfl⟩⟩)
theorem OwnC.turned (h : OwnC Tc B I) {s : β} {W W' : World} {b : Nat} (hs : I s W) (hB : B ≤ b) (ht : W.mapTurned W' b) : I s W' := by
  obtain ⟨es, cl, es', cl', hb, e⟩ := id ht
  exact h s W _ (some b) hs ht.grown (fun r e => by cases e; exact ⟨hB, _, hb, .inl rfl⟩)
end
/-- An iterator that yields what S says, or, where a round has said no more, what Sp says. -/
def SeqC {α : Type} (F : Fence) (n : Nat) (P : Program) (g : Nat) (lb : Array Value) (encs : α → Array Value) (T : TypeId → Bool) (Tc : TypeId) (n₀ : Nat) (S Sp : List α → Prop) (N : Nat) (w : World) : Prop :=
  ∀ (l : Nat) (J Jx : List α → World → Prop) (W : World), Below w.heap.size w W → OwnC Tc W.heap.size J → OwnC Tc W.heap.size Jx →
    (∀ pre x W1, J pre W1 → pre.length < N → Sp (pre ++ [x]) → YieldAt F (n - 1) P l (encs x) W1 fun e W' =>
      (e = .returned (.bool true) ∧ J (pre ++ [x]) W' ∧ KeepsT T W.heap.size W1 W' ∧ Below n₀ W1 W') ∨ (e = .returned (.bool false) ∧ Jx (pre ++ [x]) W' ∧ KeepsT T W.heap.size W1 W' ∧ Below n₀ W1 W')) →
    J [] W →
    CallsIn F n P g (#[.func (.yield l) #[] #[]] ++ lb) W fun e W' => (∃ v, e = .returned v) ∧ ((∃ xs, S xs ∧ J xs W') ∨ (∃ pre, Sp pre ∧ Jx pre W'))
/-- How a round's body may be left. -/
def netCPost {α : Type} (T : TypeId → Bool) (B n₀ : Nat) (I : List α → World → Prop) (Ix : Code → List α → World → Prop) (xs : List α) (W : World) : Exit → Act → World → Prop
  | .normal, _, W' => KeepsT T B W W' ∧ Below n₀ W W' ∧ I xs W'
  | .ret, _, W' => KeepsT T B W W' ∧ Below n₀ W W' ∧ Ix .ret xs W'
  | .exit id, _, W' => KeepsT T B W W' ∧ Below n₀ W W' ∧ Ix (.exit id) xs W'
  | .goto t, _, W' => KeepsT T B W W' ∧ Below n₀ W W' ∧ Ix (.goto t) xs W'
  | _, _, _ => False
variable {F : Fence} {n : Nat} {P : Program} {w : World}
theorem wpIn_rangeFunc_netC {α : Type} {g : Operand} {ps : Array Tmp} {assign body : Code} {Q : Exit → Act → World → Prop} {a : Act} {w : World}
    (hro : F.round = none) (h1 : F.depth.isSome = true → 1 ≤ n) {gf : Nat} {lb : Array Value} (hg : a.eval g = .func (.func gf) #[] lb) (hFg : F.fn gf) (eg : ∀ args w, (callFunc gf args).run P w = .ok (.enter gf args) w)
    {encs : α → Array Value} {T : TypeId → Bool} {n₀ : Nat} {S Sp : List α → Prop} {N : Nat} {w0 : World} {Tc : TypeId} (hseq : SeqC F (n - 1) P gf lb encs T Tc n₀ S Sp N w0) (hn₀ : n₀ ≤ w.heap.size) (hb0 : Below w0.heap.size w0 w) (hps : ∀ x, (encs x).size = ps.size)
    (I : List α → World → Prop) (Ix : Code → List α → World → Prop) (hI : OwnC Tc w.heap.size I) (hIx : ∀ c, OwnC Tc w.heap.size (Ix c)) (h0 : I [] w) (Ax : α → Act → World → Prop) (hAx : ∀ x a', OwnC Tc w.heap.size (fun (_ : Unit) W => Ax x a' W))
    (hassign : ∀ (l : Nat) (pre : List α) (x : α) (W : World) (K : Act → World → Prop), I pre W → (∀ a' W', KeepsT T w.heap.size W W' → Below n₀ W W' → I pre W' → Ax x a' W' → K a' W') →
      assign.wpIn (F.inRound l) (n - 1 - 1) P (Exit.then K (fun _ _ _ => False)) { tmps := (ps.zip (encs x)).foldl (fun t (p, v) => t.setIfInBounds p v) a.tmps, defers := [] } W)
    (hbody : ∀ (l : Nat) (pre : List α) (x : α) (a' : Act) (W : World), w.heap.size ≤ l → I pre W → Ax x a' W → pre.length < N → Sp (pre ++ [x]) → body.wpIn (F.inRound l) (n - 1 - 1) P (netCPost T w.heap.size n₀ I Ix (pre ++ [x]) W) a' W)
    (hdone : ∀ (D : Nat) (xs : List α) (W : World), w.heap.size ≤ D → S xs → I xs W → W.heap[D]? = some (.deferred (some [])) → Q .normal { a with defers := { target := .collected D, args := #[] } :: a.defers } W)
    (hstop : ∀ (D : Nat) (c : Code) (pre : List α) (W : World), w.heap.size ≤ D → Sp pre → Ix c pre W → W.heap[D]? = some (.deferred (some [])) → c.wpIn F n P Q { a with defers := { target := .collected D, args := #[] } :: a.defers } W) :
    (Code.rangeFunc g ps assign body).wpIn F n P Q a w := by
  refine wpIn_rangeFunc ?_
  intro fn hfn
  rw [hro]
  obtain ⟨rec, hrec⟩ : ∃ rec : LoopState → Option Code → Loop, rec = fun st pe => { state := st, pending := pe, fn, tmps := a.tmps, params := ps, assign, body, defers := w.heap.size } := ⟨_, rfl⟩
  obtain ⟨W1, hW1⟩ : ∃ W1, (w.alloc (.deferred (some []))).alloc (.loop (rec .ready none)) = W1 := ⟨_, rfl⟩
  have hL1 : W1.heap[w.heap.size + 1]? = some (.loop (rec .ready none)) := by
    rw [← hW1]; have := World.alloc_heap_new (w.alloc (.deferred (some []))) (.loop (rec .ready none)); rwa [World.size_alloc] at this
  have hK1 : W1.heap[w.heap.size]? = some (.deferred (some [])) := by
    rw [← hW1]; exact (Below.heap_alloc _ _ _ (by simp)).trans (World.alloc_heap_new w _)
  have hI1 : I [] W1 := by rw [← hW1]; exact hI.alloc _ (hI.alloc _ h0)
  have hsz1 : W1.heap.size = w.heap.size + 2 := by rw [← hW1]; simp
  have hbw : Below w.heap.size w W1 := by rw [← hW1]; exact ((Below.refl _ w).alloc (Nat.le_refl _) _).alloc (by simp) _
  have hb1 : Below w0.heap.size w0 W1 := hb0.trans (hbw.mono hb0.size)
  refine ⟨w.heap.size + 1, [{ target := .collected w.heap.size, args := #[] }], W1, { target := .fn (.func gf) lb, args := #[.func (.yield (w.heap.size + 1)) #[] #[]] }, W1, gf,
    #[.func (.yield (w.heap.size + 1)) #[] #[]] ++ lb, W1, ?_, ?_, ?_, ?_, h1, ?_⟩
  · rw [← hW1, hrec]; exact run_enterLoop_outer _ _ _ _ _
  · simp only [resolve, hg]
    simp [go_sem]
  · intro f' hf'; simp [Target.leads] at hf'; subst hf'; exact hFg
  · simp [invoke, go_sem, eg]
  · have hrow : ∀ {A : World} {row : Option Nat}, (∀ r, row = some r → W1.heap.size ≤ r ∧ ∃ o : Obj, A.heap[r]? = some o ∧ (o.isCells = false ∨ ∃ cs fr, o = .cells cs Tc fr)) → (∀ r, row = some r → w.heap.size ≤ r ∧ ∃ o : Obj, A.heap[r]? = some o ∧ (o.isCells = false ∨ ∃ cs fr, o = .cells cs Tc fr)) :=
      fun hr r e => ⟨by have := (hr r e).1; omega, (hr r e).2⟩
    have hstay : ∀ {A B : World} {row : Option Nat} {k : Nat} {o : Obj}, k < W1.heap.size → A.heap[k]? = some o → A.grownBy B row → (∀ r, row = some r → W1.heap.size ≤ r ∧ ∃ o : Obj, A.heap[r]? = some o ∧ (o.isCells = false ∨ ∃ cs fr, o = .cells cs Tc fr)) → B.heap[k]? = some o :=
      fun {A B row k o} hk h hg' hr => (hg'.block k (Array.getElem?_eq_some_iff.1 h).1 (fun e => by have := (hr k e.symm).1; omega)).trans h
    refine (hseq (w.heap.size + 1)
      (fun pre W => I pre W ∧ W.heap[w.heap.size + 1]? = some (.loop (rec .ready none)) ∧ W.heap[w.heap.size]? = some (.deferred (some [])))
      (fun pre W => ∃ c, Ix c pre W ∧ W.heap[w.heap.size + 1]? = some (.loop (rec .done (some c))) ∧ W.heap[w.heap.size]? = some (.deferred (some [])))
      W1 hb1
      (fun s A B row hs hg' hr => ⟨hI s A B row hs.1 hg' (hrow hr), hstay (by omega) hs.2.1 hg' hr, hstay (by omega) hs.2.2 hg' hr⟩)
      (fun s A B row hs hg' hr => by
        obtain ⟨c, hc, hl, hk⟩ := hs
        exact ⟨c, hIx c s A B row hc hg' (hrow hr), hstay (by omega) hl hg' hr, hstay (by omega) hk hg' hr⟩)
      ?_ ⟨hI1, hL1, hK1⟩).mono ?_
    · rintro pre x W ⟨hi, hl, hk⟩ hlen hsp
      have hlt : w.heap.size + 1 < W.heap.size := (Array.getElem?_eq_some_iff.1 hl).1
      have hy := run_yield (P := P) (args := encs x) hl (by rw [hrec]; exact hps x)
      rw [hrec] at hy
      refine ⟨fn, _, assign, body, hy, roundIn_of_wpIn hfn (hassign _ pre x W _ hi ?_)⟩
      clear hy
      intro a' Wa hka hba hia hax
      replace hl := hka.same _ _ (by omega) hl rfl
      replace hk := hka.same _ _ (Nat.le_refl _) hk rfl
      replace hlt : w.heap.size + 1 < Wa.heap.size := (Array.getElem?_eq_some_iff.1 hl).1
      clear hi
      refine ⟨_, run_beginRound hl (by rw [hrec]), ?_⟩
      have hl2 : (Wa.putObj (w.heap.size + 1) (.loop { rec .ready none with state := .busy })).heap[w.heap.size + 1]? = some (.loop { rec .ready none with state := .busy }) := World.putObj_heap_same hlt
      have hk2 : (Wa.putObj (w.heap.size + 1) (.loop { rec .ready none with state := .busy })).heap[w.heap.size]? = some (.deferred (some [])) := (World.putObj_heap_other (by omega)).trans hk
      refine wpIn_mono (hbody _ pre x a' _ (by omega) (hI.putObj _ hia (by omega) hl rfl) ((hAx x a').putObj (s := ()) _ hax (by omega) hl rfl) hlen hsp) ?_
      have fin : ∀ (jump : Option Code) (W3 : World), KeepsT T w.heap.size (Wa.putObj (w.heap.size + 1) (.loop { rec .ready none with state := .busy })) W3 →
          ∃ W4, (Instr.endRound (w.heap.size + 1) jump).run P W3 = .ok (.bool jump.isNone) W4 ∧ W4 = W3.putObj (w.heap.size + 1) (.loop (rec (if jump.isNone then .ready else .done) jump)) ∧
          W3.heap[w.heap.size + 1]? = some (.loop { rec .ready none with state := .busy }) ∧
          W4.heap[w.heap.size + 1]? = some (.loop (rec (if jump.isNone then .ready else .done) jump)) ∧ W4.heap[w.heap.size]? = some (.deferred (some [])) ∧ KeepsT T W1.heap.size W W4 := fun jump W3 hk3 => by
        have hl3 := hk3.same _ _ (by omega) hl2 rfl
        have hr := run_endRound (P := P) jump hl3
        rw [hrec] at hr
        refine ⟨_, hr, by rw [hrec], by rw [hrec] at hl3; rw [hrec]; exact hl3, ?_, (World.putObj_heap_other (by omega)).trans (hk3.same _ _ (Nat.le_refl _) hk2 rfl), ?_⟩
        · rw [hrec]; exact World.putObj_heap_same (Array.getElem?_eq_some_iff.1 hl3).1
        · exact ((hka.up (by omega)).trans (KeepsT.put _ (by omega) hl rfl)).trans ((hk3.up (by omega)).trans (KeepsT.put _ (by omega) hl3 rfl))
      rintro e a3 W3 hp
      cases e with
      | normal =>
        obtain ⟨hk3, hb3, hi3⟩ := hp
        obtain ⟨W4, hr, rfl, hl3, hl4, hk4, hkf⟩ := fin none W3 hk3
        exact ⟨_, _, hr, .inl ⟨rfl, ⟨hI.putObj _ hi3 (by omega) hl3 rfl, hl4, hk4⟩, hkf, (hba.trans ((below_put Wa _ (by omega)).trans hb3)).trans (below_put W3 _ (by omega))⟩⟩
      | ret =>
        obtain ⟨hk3, hb3, hi3⟩ := hp
        obtain ⟨W4, hr, rfl, hl3, hl4, hk4, hkf⟩ := fin (some .ret) W3 hk3
        exact ⟨_, _, hr, .inr ⟨rfl, ⟨.ret, (hIx _).putObj _ hi3 (by omega) hl3 rfl, hl4, hk4⟩, hkf, (hba.trans ((below_put Wa _ (by omega)).trans hb3)).trans (below_put W3 _ (by omega))⟩⟩
      | exit id =>
        obtain ⟨hk3, hb3, hi3⟩ := hp
        obtain ⟨W4, hr, rfl, hl3, hl4, hk4, hkf⟩ := fin (some (.exit id)) W3 hk3
        exact ⟨_, _, hr, .inr ⟨rfl, ⟨.exit id, (hIx _).putObj _ hi3 (by omega) hl3 rfl, hl4, hk4⟩, hkf, (hba.trans ((below_put Wa _ (by omega)).trans hb3)).trans (below_put W3 _ (by omega))⟩⟩
      | goto t =>
        obtain ⟨hk3, hb3, hi3⟩ := hp
        obtain ⟨W4, hr, rfl, hl3, hl4, hk4, hkf⟩ := fin (some (.goto t)) W3 hk3
        exact ⟨_, _, hr, .inr ⟨rfl, ⟨.goto t, (hIx _).putObj _ hi3 (by omega) hl3 rfl, hl4, hk4⟩, hkf, (hba.trans ((below_put Wa _ (by omega)).trans hb3)).trans (below_put W3 _ (by omega))⟩⟩
      | panic ch => exact hp.elim
      | outgrown => exact hp.elim
    · rintro e W2 ⟨⟨v, rfl⟩, (⟨xs, hS, hi, hl, hk⟩ | ⟨pre, hSp, c, hi, hl, hk⟩)⟩
      · exact ⟨none, _, by have := run_endLoop (P := P) hl (by rw [hrec]; simp); rw [hrec] at this; exact this,
          hdone w.heap.size xs _ (Nat.le_refl _) hS (hI.putObj _ hi (by omega) hl rfl) ((World.putObj_heap_other (by omega)).trans hk)⟩
      · exact ⟨some c, _, by have := run_endLoop (P := P) hl (by rw [hrec]; simp); rw [hrec] at this; exact this,
          hstop w.heap.size c pre _ (Nat.le_refl _) hSp ((hIx c).putObj _ hi (by omega) hl rfl) ((World.putObj_heap_other (by omega)).trans hk)⟩
end Go.Proofs.YtlibeobmdjeilaaGreatDoor
namespace Go.Proofs.YtlibeobmdjeilaaGreatDoor
open Go Go.RowKit Go.Maps Go.Lib
/-- internal/bytealg.MaxLen holds some number. -/
def MxAt (W : World) : Prop := ∃ m, W.cell? ⟨0, 0, none⟩ = some (.int .i64 m)
theorem MxAt.below {B : Nat} {W W' : World} (h : MxAt W) (hb : Below B W W') (hB : 0 < B) : MxAt W' := by
  obtain ⟨m, hm⟩ := h
  exact ⟨m, (hb.cell (p := ⟨0, 0, none⟩) hB).trans hm⟩
def signsV : ByteArray := ⟨#[97, 98, 99, 100, 101, 102, 103, 104, 105, 106, 107, 108, 109, 110, 111, 112, 113, 114, 115, 116, 117, 118, 119, 120, 121, 122, 48, 49, 50, 51, 52, 53, 54, 55, 56, 57, 95]⟩
theorem signsV_eq : signsV.data.toList = signsB := by decide
def reservedV : ByteArray := ⟨#[32, 100, 101, 118, 105, 99, 101, 32, 119, 105, 100, 116, 104, 32, 105, 110, 112, 117, 116, 32, 103, 104, 111, 115, 116, 32, 118, 97, 114, 32, 97, 114, 114, 97, 121, 32, 114, 101, 113, 117, 105, 114, 101, 32, 105, 110, 105, 116, 32, 112, 114, 111, 99, 32, 119, 111, 114, 107, 32, 114, 101, 99, 111, 118, 101, 114, 32, 105, 110, 118, 97, 114, 105, 97, 110, 116, 32, 102, 108, 117, 115, 104, 32, 98, 97, 114, 114, 105, 101, 114, 32, 119, 114, 105, 116, 101, 32, 105, 102, 32, 101, 108, 115, 101, 32, 119, 104, 105, 108, 101, 32, 98, 111, 117, 110, 100, 32, 99, 97, 108, 108, 32, 100, 105, 115, 107, 32]⟩
theorem reservedV_eq : reservedV.data.toList = joinW wordsB := by decide
theorem isEmpty_data (t : ByteArray) : t.toList.isEmpty = t.data.toList.isEmpty := by rw [ByteArray.toList_eq]
theorem spaced (s : ByteArray) : (({ data := #[32] } : ByteArray) ++ s ++ { data := #[32] }).data.toList = 32 :: (s.data.toList ++ [32]) := by simp
set_option maxRecDepth 100000 in
set_option maxHeartbeats 2000000 in
theorem isName_any (w : World) (s : ByteArray) (hs : s.size ≤ 4294967200) (hmx : MxAt w) :
    Calls Tryz.prog 405 #[.string s] w fun o w' => o = .returned (.bool (isName s.data.toList)) ∧ Below w.heap.size w w' := by
  obtain ⟨m, hm⟩ := hmx
  have hT := Any.strings_Trim_laid Tryz.lays160 (by kernel_rfl) s signsV w (by omega) (by decide) (ascii_of_all (by decide))
  have hC := Tryz.strings_Contains reservedV ({ data := #[32] } ++ s ++ { data := #[32] }) m w (by decide) hm
  rw [reservedV_eq, spaced] at hC
  rw [signsV_eq] at hT
  have hem := isEmpty_data s
  have hsz : s.size = s.data.toList.length := by simp
  have hG := isNameG_eq s.data.toList
  unfold isNameG at hG
  rw [← hG]
  clear hG hm
  obtain ⟨tr, htr⟩ : ∃ tr, Lib.trimS s.data.toList signsB = tr := ⟨_, rfl⟩
  rw [htr] at hT ⊢
  obtain ⟨ct, hct⟩ : ∃ ct, Lib.contains (joinW wordsB) (32 :: (s.data.toList ++ [32])) = ct := ⟨_, rfl⟩
  rw [hct] at hC ⊢
  have HC := Lib.hid hC
  have HT := Lib.hid hT
  unfold reservedV at HC
  unfold signsV at HT
  clear hC hT htr hct
  cases hL : s.data.toList with
  | nil =>
    rw [hL] at hem hsz
    have hem2 : s.toList.isEmpty = true := hem
    clear hem HC HT hL
    go_enter Tryz.func405, Tryz.ntmps405
    go_wp2_with fail
    go_ret
    exact ⟨by simp, Below.refl _ _⟩
  | cons c r =>
    rw [hL] at hem hsz
    have hem2 : s.toList.isEmpty = false := hem
    have h0 : 0 < s.size := by rw [hsz]; simp
    have hc0 : s[0]'h0 = c := by
      show s.data[0] = c
      rw [← Array.getElem_toList]
      simp only [hL, List.getElem_cons_zero]
    have HSZ := Lib.hid hsz
    clear hem hsz hL
    by_cases h16 : s.size ≤ 16
    · have hd16 : decide ((16 : Int) < (s.size : Int)) = false := decide_eq_false (by omega)
      have hr16 : decide ((c :: r).length ≤ 16) = true := decide_eq_true (by rw [← HSZ.out]; exact h16)
      rw [hr16]
      have hca : (s[0]'h0).toNat = c.toNat := by rw [hc0]
      obtain ⟨k, hk⟩ : ∃ k, c.toNat = k := ⟨_, rfl⟩
      have hlw : lower c = decide (97 ≤ k ∧ k ≤ 122) := by unfold lower; rw [hk]
      rw [hk] at hca
      dsimp only
      rw [hlw]
      clear hlw hk hc0
      by_cases h97 : k < 97
      · have hd97 : decide ((k : Int) < 97) = true := decide_eq_true (by omega)
        have hres : decide (97 ≤ k ∧ k ≤ 122) = false := decide_eq_false (by omega)
        rw [hres]
        clear hres HC HT
        go_enter Tryz.func405, Tryz.ntmps405
        go_wp2_with fail
        go_ret
        exact ⟨by simp, Below.refl _ _⟩
      · have hd97 : decide ((k : Int) < 97) = false := decide_eq_false (by omega)
        by_cases h122 : 122 < k
        · have hd122 : decide ((122 : Int) < (k : Int)) = true := decide_eq_true (by omega)
          have hres : decide (97 ≤ k ∧ k ≤ 122) = false := decide_eq_false (by omega)
          rw [hres]
          clear hres HC HT
          go_enter Tryz.func405, Tryz.ntmps405
          go_wp2_with fail
          go_ret
          exact ⟨by simp, Below.refl _ _⟩
        · have hd122 : decide ((122 : Int) < (k : Int)) = false := decide_eq_false (by omega)
          have hres : decide (97 ≤ k ∧ k ≤ 122) = true := decide_eq_true (by omega)
          rw [hres]
          clear hres
          cases ct with
          | true =>
            clear HT
            go_enter Tryz.func405, Tryz.ntmps405
            go_wp2_with (first | (go_at_call 410; refine HC.out.mono ?_; rintro o2 w2 ⟨rfl, rfl⟩) | fail)
            go_ret
            exact ⟨by simp, Below.refl _ _⟩
          | false =>
            have hte := isEmpty_data ⟨tr.toArray⟩
            cases htt : tr.isEmpty
            all_goals
              have hte2 : (ByteArray.mk tr.toArray).toList.isEmpty = _ := hte.trans htt
              have HTT := Lib.hid htt
              clear hte htt
              go_enter Tryz.func405, Tryz.ntmps405
              go_wp2_with (first | (go_at_call 410; refine HC.out.mono ?_; rintro o2 w2 ⟨rfl, rfl⟩) | (go_at_call 133; refine HT.out.mono ?_; rintro o3 w3 ⟨rfl, hb3⟩) | fail)
              go_ret
              exact ⟨by have h := HTT.out; cases tr <;> simp at h ⊢, hb3⟩
    · have hd16 : decide ((16 : Int) < (s.size : Int)) = true := decide_eq_true (by omega)
      have hr16 : decide ((c :: r).length ≤ 16) = false := decide_eq_false (by rw [← HSZ.out]; exact h16)
      rw [hr16]
      clear HC HT
      go_enter Tryz.func405, Tryz.ntmps405
      go_wp2_with fail
      go_ret
      exact ⟨by simp, Below.refl _ _⟩
theorem cut_size (s sep : List UInt8) : (Lib.cut s sep).1.length ≤ s.length ∧ (Lib.cut s sep).2.1.length ≤ s.length := by
  unfold Lib.cut
  split
  · simp; omega
  · simp
end Go.Proofs.YtlibeobmdjeilaaGreatDoor
