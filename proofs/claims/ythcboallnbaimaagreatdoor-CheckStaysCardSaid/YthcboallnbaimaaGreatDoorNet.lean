/- A range over an iterator that itself ranges over iterators and hands on to the loop's body: a contract for iterators ('SeqN'), and the law of the loop that goes with it. A round gives back every record but cells that lay when the iterator began; what lay below n₀ is as it was. -/
import Derived.RangeFuncNested
import Derived.RangeFuncLeaves
import Derived.Shelf.Abstract
import Derived.WalkKit
import Derived.OwnWalkIn
import Derived.TacticsInMore
import Derived.LoopNIn
import Derived.LoopIn
namespace Go.Proofs.YthcboallnbaimaaGreatDoor
open Go Go.RowKit
/-- Every object from B on that is no cells is as it was, and, wherever they lie, all cells of a type of T. -/
structure KeepsT (T : TypeId → Bool) (B : Nat) (W W' : World) : Prop where
  size : W.heap.size ≤ W'.heap.size
  same : ∀ (k : Nat) (o : Obj), B ≤ k → W.heap[k]? = some o → o.isCells = false → W'.heap[k]? = some o
  cells : ∀ (k : Nat) (cs : Array Value) (t : TypeId) (fr : Nat × Nat), W.heap[k]? = some (.cells cs t fr) → T t = true → W'.heap[k]? = some (.cells cs t fr)
section
variable {T : TypeId → Bool} {B C : Nat} {X Y Z : World}
theorem KeepsT.refl (T : TypeId → Bool) (B : Nat) (W : World) : KeepsT T B W W := ⟨Nat.le_refl _, fun _ _ _ h _ => h, fun _ _ _ _ h _ => h⟩
theorem KeepsT.trans (h : KeepsT T B X Y) (k : KeepsT T B Y Z) : KeepsT T B X Z :=
  ⟨Nat.le_trans h.size k.size, fun i o hB hi ho => k.same i o hB (h.same i o hB hi ho) ho, fun i cs t fr hi ht => k.cells i cs t fr (h.cells i cs t fr hi ht) ht⟩
theorem KeepsT.up (h : KeepsT T B X Y) (hBC : B ≤ C) : KeepsT T C X Y := ⟨h.size, fun k o hk => h.same k o (by omega), h.cells⟩
theorem KeepsT.put {l : Nat} {W : World} {o1 : Obj} (o : Obj) (h : l < B) (hl : W.heap[l]? = some o1) (hc : o1.isCells = false) : KeepsT T B W (W.putObj l o) :=
  ⟨by simp, fun k o' hk h1 _ => (World.putObj_heap_other (by omega)).trans h1, fun k cs t fr h1 _ => (World.putObj_heap_other (fun e => by
    subst e
    rw [hl] at h1
    cases h1
    cases hc)).trans h1⟩
/-- What lies below the world's own end stays: that is more than enough. -/
theorem KeepsT.of_below (h : Below X.heap.size X Y) : KeepsT T B X Y :=
  ⟨h.size, fun k _ _ hk _ => (h.block k (Array.getElem?_eq_some_iff.1 hk).1).trans hk, fun k _ _ _ hk _ => (h.block k (Array.getElem?_eq_some_iff.1 hk).1).trans hk⟩
theorem KeepsT.alloc (W : World) (o : Obj) : KeepsT T B W (W.alloc o) := .of_below ((Below.refl _ W).alloc (Nat.le_refl _) o)
/-- A store into cells of another type. -/
theorem KeepsT.set {a : Addr} {cs : Array Value} {t : TypeId} {fr : Nat × Nat} {W : World} (hb : W.heap[a.block]? = some (.cells cs t fr)) (ht : T t = false) (v : Value) : KeepsT T B W (W.setCell a v) :=
  ⟨by simp, fun k o _ hk ho => (Below.heap_setCell _ _ _ k (fun e => by subst e; rw [hb] at hk; cases hk; cases ho)).trans hk,
    fun k cs' t' fr' hk h2 => (Below.heap_setCell _ _ _ k (fun e => by subst e; rw [hb] at hk; cases hk; rw [ht] at h2; cases h2)).trans hk⟩
end
/-- An iterator that yields what S says, or, where a round has said no more, what Sp says. -/
def SeqN {α : Type} (F : Fence) (n : Nat) (P : Program) (g : Nat) (lb : Array Value) (encs : α → Array Value) (T : TypeId → Bool) (n₀ : Nat) (S Sp : List α → Prop) (N : Nat) (w : World) : Prop :=
  ∀ (l : Nat) (J Jx : List α → World → Prop) (W : World), Below w.heap.size w W → OwnFrom W.heap.size J → OwnFrom W.heap.size Jx →
    (∀ pre x W1, J pre W1 → pre.length < N → Sp (pre ++ [x]) → YieldAt F (n - 1) P l (encs x) W1 fun e W' =>
      (e = .returned (.bool true) ∧ J (pre ++ [x]) W' ∧ KeepsT T W.heap.size W1 W' ∧ Below n₀ W1 W') ∨ (e = .returned (.bool false) ∧ Jx (pre ++ [x]) W' ∧ KeepsT T W.heap.size W1 W')) →
    J [] W →
    CallsIn F n P g (#[.func (.yield l) #[] #[]] ++ lb) W fun e W' => (∃ v, e = .returned v) ∧ ((∃ xs, S xs ∧ J xs W') ∨ (∃ pre, Sp pre ∧ Jx pre W'))
/-- How a round's body may be left. -/
def netPost {α : Type} (T : TypeId → Bool) (B n₀ : Nat) (I : List α → World → Prop) (Ix : Code → List α → World → Prop) (xs : List α) (W : World) : Exit → Act → World → Prop
  | .normal, _, W' => KeepsT T B W W' ∧ Below n₀ W W' ∧ I xs W'
  | .ret, _, W' => KeepsT T B W W' ∧ Ix .ret xs W'
  | .exit id, _, W' => KeepsT T B W W' ∧ Ix (.exit id) xs W'
  | .goto t, _, W' => KeepsT T B W W' ∧ Ix (.goto t) xs W'
  | _, _, _ => False
theorem below_put {n₀ l : Nat} (W : World) (o : Obj) (h : n₀ ≤ l) : Below n₀ W (W.putObj l o) :=
  ⟨rfl, rfl, rfl, by simp, fun k hk => World.putObj_heap_other (by omega)⟩
variable {F : Fence} {n : Nat} {P : Program} {w : World}
theorem wpIn_rangeFunc_net {α : Type} {g : Operand} {ps : Array Tmp} {assign body : Code} {Q : Exit → Act → World → Prop} {a : Act} {w : World}
    (hro : F.round = none) (h1 : F.depth.isSome = true → 1 ≤ n) {gf : Nat} {lb : Array Value} (hg : a.eval g = .func (.func gf) #[] lb) (hFg : F.fn gf) (eg : ∀ args w, (callFunc gf args).run P w = .ok (.enter gf args) w)
    {encs : α → Array Value} {T : TypeId → Bool} {n₀ : Nat} {S Sp : List α → Prop} {N : Nat} {w0 : World} (hseq : SeqN F (n - 1) P gf lb encs T n₀ S Sp N w0) (hn₀ : n₀ ≤ w.heap.size) (hb0 : Below w0.heap.size w0 w) (hps : ∀ x, (encs x).size = ps.size)
    (I : List α → World → Prop) (Ix : Code → List α → World → Prop) (hI : OwnFrom w.heap.size I) (hIx : ∀ c, OwnFrom w.heap.size (Ix c)) (h0 : I [] w) (Ax : α → Act → World → Prop) (hAx : ∀ x a', OwnFrom w.heap.size (fun (_ : Unit) W => Ax x a' W))
    (hassign : ∀ (l : Nat) (pre : List α) (x : α) (W : World) (K : Act → World → Prop), I pre W → (∀ a' W', KeepsT T w.heap.size W W' → Below n₀ W W' → I pre W' → Ax x a' W' → K a' W') →
      assign.wpIn (F.inRound l) (n - 1 - 1) P (Exit.then K (fun _ _ _ => False)) { tmps := (ps.zip (encs x)).foldl (fun t (p, v) => t.setIfInBounds p v) a.tmps, defers := [] } W)
    (hbody : ∀ (l : Nat) (pre : List α) (x : α) (a' : Act) (W : World), w.heap.size ≤ l → I pre W → Ax x a' W → pre.length < N → Sp (pre ++ [x]) → body.wpIn (F.inRound l) (n - 1 - 1) P (netPost T w.heap.size n₀ I Ix (pre ++ [x]) W) a' W)
    (hdone : ∀ (D : Nat) (xs : List α) (W : World), w.heap.size ≤ D → S xs → I xs W → W.heap[D]? = some (.deferred (some [])) → Q .normal { a with defers := { target := .collected D, args := #[] } :: a.defers } W)
    (hstop : ∀ (D : Nat) (c : Code) (pre : List α) (W : World), w.heap.size ≤ D → Sp pre → Ix c pre W → W.heap[D]? = some (.deferred (some [])) → c.wpIn F n P Q { a with defers := { target := .collected D, args := #[] } :: a.defers } W) :
    (Code.rangeFunc g ps assign body).wpIn F n P Q a w := by
  refine wpIn_rangeFunc ?_
  intro fn hfn
  rw [hro]
  obtain ⟨rec, hrec⟩ : ∃ rec : LoopState → Option Code → Loop, rec = fun st pe => { state := st, pending := pe, fn, tmps := a.tmps, params := ps, assign, body, defers := w.heap.size } := ⟨_, rfl⟩
  obtain ⟨W1, hW1⟩ : ∃ W1, (w.alloc (.deferred (some []))).alloc (.loop (rec .ready none)) = W1 := ⟨_, rfl⟩
  have hL1 : W1.heap[w.heap.size + 1]? = some (.loop (rec .ready none)) := by
    rw [← hW1]; have := World.alloc_heap_new (w.alloc (.deferred (some []))) (.loop (rec .ready none)); rwa [World.size_alloc] at this
  have hK1 : W1.heap[w.heap.size]? = some (.deferred (some [])) := by
    rw [← hW1]; exact (Below.heap_alloc _ _ _ (by simp)).trans (World.alloc_heap_new w _)
  have hI1 : I [] W1 := by rw [← hW1]; exact hI.alloc _ (hI.alloc _ h0)
  have hsz1 : W1.heap.size = w.heap.size + 2 := by rw [← hW1]; simp
  have hbw : Below w.heap.size w W1 := by rw [← hW1]; exact ((Below.refl _ w).alloc (Nat.le_refl _) _).alloc (by simp) _
  have hb1 : Below w0.heap.size w0 W1 := hb0.trans (hbw.mono hb0.size)
  refine ⟨w.heap.size + 1, [{ target := .collected w.heap.size, args := #[] }], W1, { target := .fn (.func gf) lb, args := #[.func (.yield (w.heap.size + 1)) #[] #[]] }, W1, gf,
    #[.func (.yield (w.heap.size + 1)) #[] #[]] ++ lb, W1, ?_, ?_, ?_, ?_, h1, ?_⟩
  · rw [← hW1, hrec]; exact run_enterLoop_outer _ _ _ _ _
  · simp only [resolve, hg]
    simp [go_sem]
  · intro f' hf'; simp [Target.leads] at hf'; subst hf'; exact hFg
  · simp [invoke, go_sem, eg]
  · have hrow : ∀ {A : World} {row : Option Nat}, (∀ r, row = some r → W1.heap.size ≤ r ∧ ∃ o : Obj, A.heap[r]? = some o ∧ o.isCells = false) → (∀ r, row = some r → w.heap.size ≤ r ∧ ∃ o : Obj, A.heap[r]? = some o ∧ o.isCells = false) :=
      fun hr r e => ⟨by have := (hr r e).1; omega, (hr r e).2⟩
    have hstay : ∀ {A B : World} {row : Option Nat} {k : Nat} {o : Obj}, k < W1.heap.size → A.heap[k]? = some o → A.grownBy B row → (∀ r, row = some r → W1.heap.size ≤ r ∧ ∃ o : Obj, A.heap[r]? = some o ∧ o.isCells = false) → B.heap[k]? = some o :=
      fun {A B row k o} hk h hg' hr => (hg'.block k (Array.getElem?_eq_some_iff.1 h).1 (fun e => by have := (hr k e.symm).1; omega)).trans h
    refine (hseq (w.heap.size + 1)
      (fun pre W => I pre W ∧ W.heap[w.heap.size + 1]? = some (.loop (rec .ready none)) ∧ W.heap[w.heap.size]? = some (.deferred (some [])))
      (fun pre W => ∃ c, Ix c pre W ∧ W.heap[w.heap.size + 1]? = some (.loop (rec .done (some c))) ∧ W.heap[w.heap.size]? = some (.deferred (some [])))
      W1 hb1
      (fun s A B row hs hg' hr => ⟨hI s A B row hs.1 hg' (hrow hr), hstay (by omega) hs.2.1 hg' hr, hstay (by omega) hs.2.2 hg' hr⟩)
      (fun s A B row hs hg' hr => by
        obtain ⟨c, hc, hl, hk⟩ := hs
        exact ⟨c, hIx c s A B row hc hg' (hrow hr), hstay (by omega) hl hg' hr, hstay (by omega) hk hg' hr⟩)
      ?_ ⟨hI1, hL1, hK1⟩).mono ?_
    · rintro pre x W ⟨hi, hl, hk⟩ hlen hsp
      have hlt : w.heap.size + 1 < W.heap.size := (Array.getElem?_eq_some_iff.1 hl).1
      have hy := run_yield (P := P) (args := encs x) hl (by rw [hrec]; exact hps x)
      rw [hrec] at hy
      refine ⟨fn, _, assign, body, hy, roundIn_of_wpIn hfn (hassign _ pre x W _ hi ?_)⟩
      clear hy
      intro a' Wa hka hba hia hax
      replace hl := hka.same _ _ (by omega) hl rfl
      replace hk := hka.same _ _ (Nat.le_refl _) hk rfl
      replace hlt : w.heap.size + 1 < Wa.heap.size := (Array.getElem?_eq_some_iff.1 hl).1
      clear hi
      refine ⟨_, run_beginRound hl (by rw [hrec]), ?_⟩
      have hl2 : (Wa.putObj (w.heap.size + 1) (.loop { rec .ready none with state := .busy })).heap[w.heap.size + 1]? = some (.loop { rec .ready none with state := .busy }) := World.putObj_heap_same hlt
      have hk2 : (Wa.putObj (w.heap.size + 1) (.loop { rec .ready none with state := .busy })).heap[w.heap.size]? = some (.deferred (some [])) := (World.putObj_heap_other (by omega)).trans hk
      refine wpIn_mono (hbody _ pre x a' _ (by omega) (hI.putObj _ hia (by omega) hl rfl) ((hAx x a').putObj (s := ()) _ hax (by omega) hl rfl) hlen hsp) ?_
      have fin : ∀ (jump : Option Code) (W3 : World), KeepsT T w.heap.size (Wa.putObj (w.heap.size + 1) (.loop { rec .ready none with state := .busy })) W3 →
          ∃ W4, (Instr.endRound (w.heap.size + 1) jump).run P W3 = .ok (.bool jump.isNone) W4 ∧ W4 = W3.putObj (w.heap.size + 1) (.loop (rec (if jump.isNone then .ready else .done) jump)) ∧
          W3.heap[w.heap.size + 1]? = some (.loop { rec .ready none with state := .busy }) ∧
          W4.heap[w.heap.size + 1]? = some (.loop (rec (if jump.isNone then .ready else .done) jump)) ∧ W4.heap[w.heap.size]? = some (.deferred (some [])) ∧ KeepsT T W1.heap.size W W4 := fun jump W3 hk3 => by
        have hl3 := hk3.same _ _ (by omega) hl2 rfl
        have hr := run_endRound (P := P) jump hl3
        rw [hrec] at hr
        refine ⟨_, hr, by rw [hrec], by rw [hrec] at hl3; rw [hrec]; exact hl3, ?_, (World.putObj_heap_other (by omega)).trans (hk3.same _ _ (Nat.le_refl _) hk2 rfl), ?_⟩
        · rw [hrec]; exact World.putObj_heap_same (Array.getElem?_eq_some_iff.1 hl3).1
        · exact ((hka.up (by omega)).trans (KeepsT.put _ (by omega) hl rfl)).trans ((hk3.up (by omega)).trans (KeepsT.put _ (by omega) hl3 rfl))
      rintro e a3 W3 hp
      cases e with
      | normal =>
        obtain ⟨hk3, hb3, hi3⟩ := hp
        obtain ⟨W4, hr, rfl, hl3, hl4, hk4, hkf⟩ := fin none W3 hk3
        exact ⟨_, _, hr, .inl ⟨rfl, ⟨hI.putObj _ hi3 (by omega) hl3 rfl, hl4, hk4⟩, hkf, (hba.trans ((below_put Wa _ (by omega)).trans hb3)).trans (below_put W3 _ (by omega))⟩⟩
      | ret =>
        obtain ⟨hk3, hi3⟩ := hp
        obtain ⟨W4, hr, rfl, hl3, hl4, hk4, hkf⟩ := fin (some .ret) W3 hk3
        exact ⟨_, _, hr, .inr ⟨rfl, ⟨.ret, (hIx _).putObj _ hi3 (by omega) hl3 rfl, hl4, hk4⟩, hkf⟩⟩
      | exit id =>
        obtain ⟨hk3, hi3⟩ := hp
        obtain ⟨W4, hr, rfl, hl3, hl4, hk4, hkf⟩ := fin (some (.exit id)) W3 hk3
        exact ⟨_, _, hr, .inr ⟨rfl, ⟨.exit id, (hIx _).putObj _ hi3 (by omega) hl3 rfl, hl4, hk4⟩, hkf⟩⟩
      | goto t =>
        obtain ⟨hk3, hi3⟩ := hp
        obtain ⟨W4, hr, rfl, hl3, hl4, hk4, hkf⟩ := fin (some (.goto t)) W3 hk3
        exact ⟨_, _, hr, .inr ⟨rfl, ⟨.goto t, (hIx _).putObj _ hi3 (by omega) hl3 rfl, hl4, hk4⟩, hkf⟩⟩
      | panic ch => exact hp.elim
      | outgrown => exact hp.elim
    · rintro e W2 ⟨⟨v, rfl⟩, (⟨xs, hS, hi, hl, hk⟩ | ⟨pre, hSp, c, hi, hl, hk⟩)⟩
      · exact ⟨none, _, by have := run_endLoop (P := P) hl (by rw [hrec]; simp); rw [hrec] at this; exact this,
          hdone w.heap.size xs _ (Nat.le_refl _) hS (hI.putObj _ hi (by omega) hl rfl) ((World.putObj_heap_other (by omega)).trans hk)⟩
      · exact ⟨some c, _, by have := run_endLoop (P := P) hl (by rw [hrec]; simp); rw [hrec] at this; exact this,
          hstop w.heap.size c pre _ (Nat.le_refl _) hSp ((hIx c).putObj _ hi (by omega) hl rfl) ((World.putObj_heap_other (by omega)).trans hk)⟩
/-- The marks that loops over iterators have left on a call: blocks of their own, from B on. -/
def MarksAt (B : Nat) : List Deferred → World → Prop
  | [], _ => True
  | d :: ds, W => ∃ D, d = { target := .collected D, args := #[] } ∧ B ≤ D ∧ W.heap[D]? = some (.deferred (some [])) ∧ (∀ d' ∈ ds, d'.target ≠ .collected D) ∧ MarksAt B ds W
theorem MarksAt.keeps {B : Nat} {W W' : World} (h : ∀ D, B ≤ D → W.heap[D]? = some (.deferred (some [])) → W'.heap[D]? = some (.deferred (some []))) : ∀ {ds : List Deferred}, MarksAt B ds W → MarksAt B ds W'
  | [], _ => trivial
  | _ :: _, ⟨D, e, hB, hD, hn, hr⟩ => ⟨D, e, hB, h D hB hD, hn, MarksAt.keeps h hr⟩
theorem MarksAt.keepsIn {B : Nat} {W W' : World} : ∀ {ds : List Deferred}, (∀ d ∈ ds, ∀ D, d.target = .collected D → B ≤ D → W.heap[D]? = some (.deferred (some [])) → W'.heap[D]? = some (.deferred (some []))) → MarksAt B ds W → MarksAt B ds W'
  | [], _, _ => trivial
  | d :: _, h, ⟨D, e, hB, hD, hn, hr⟩ => ⟨D, e, hB, h d (by simp) D (by rw [e]) hB hD, hn, MarksAt.keepsIn (fun d' hd' => h d' (by simp [hd'])) hr⟩
theorem MarksAt.lt {B : Nat} {W : World} : ∀ {ds : List Deferred}, MarksAt B ds W → ∀ d' ∈ ds, ∃ D, d'.target = .collected D ∧ D < W.heap.size
  | _ :: _, ⟨D, e, _, hD, _, hr⟩, d', hd' => by
    rcases List.mem_cons.1 hd' with rfl | hd'
    · exact ⟨D, by rw [e], (Array.getElem?_eq_some_iff.1 hD).1⟩
    · exact MarksAt.lt hr d' hd'
theorem MarksAt.put {B l : Nat} {W : World} (o : Obj) : ∀ {ds : List Deferred}, MarksAt B ds W → (∀ d' ∈ ds, d'.target ≠ .collected l) → MarksAt B ds (W.putObj l o)
  | [], _, _ => trivial
  | _ :: _, ⟨D, e, hB, hD, hn, hr⟩, hl => ⟨D, e, hB, (World.putObj_heap_other (fun e' => hl { target := .collected D, args := #[] } (by simp [e]) (by rw [e']))).trans hD, hn, MarksAt.put o hr (fun d' hd' => hl d' (by simp [hd']))⟩
theorem leaves_marks {F : Fence} {n : Nat} {P : Program} {fn : Func} {tmps : Array Value} {R : Ending → World → Prop} {B : Nat} (K : World → Prop)
    (hK : ∀ W l o o', K W → B ≤ l → W.heap[l]? = some o → o.isCells = false → K (W.putObj l o')) (fin : ∀ W, K W → LeavesInM F n P fn tmps R [] .returning W) :
    ∀ (ds : List Deferred) (W : World), MarksAt B ds W → K W → LeavesInM F n P fn tmps R ds .returning W
  | [], W, _, h => fin W h
  | d :: ds, W, ⟨D, e, hB, hD, hn, hr⟩, h => by
    subst e
    exact ⟨by simp, .inl ⟨D, W.putObj D (.deferred none), rfl, run_takeDeferred hD, leaves_marks K hK fin ds _ (hr.put _ hn) (hK W D _ _ h hB hD rfl)⟩⟩
end Go.Proofs.YthcboallnbaimaaGreatDoor
