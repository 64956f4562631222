/- A drawn region told operation by operation: no order is walked, and what each slot bears is found on the way. No program in sight. -/
import Derived.Test.YtlibeobmdjeilaaGreatDoorInvH
import Derived.Laws.Rows
namespace Go.Proofs.YtlibeobmdjeilaaGreatDoor
open Go Go.RowKit
abbrev PV := (Nat → Bool) → Value → World → Prop
/-- What the operations told so far bear, the last one first. -/
abbrev PVs := List (Nat × Option Nat × PV)
def lkP : PVs → Nat → Option Nat × PV
  | [], _ => (none, fun _ _ _ => True)
  | (i, d, p) :: l, j => match Nat.beq i j with
    | true => (d, p)
    | false => lkP l j
theorem lkP_same {i : Nat} {d : Option Nat} {p : PV} {l : PVs} : lkP ((i, d, p) :: l) i = (d, p) := by
  unfold lkP
  rw [Nat.beq_refl]
theorem lkP_other {i j : Nat} {d : Option Nat} {p : PV} {l : PVs} (h : i ≠ j) : lkP ((i, d, p) :: l) j = lkP l j := by
  have : Nat.beq i j = false := by
    cases hb : Nat.beq i j with
    | false => rfl
    | true => exact absurd (Nat.eq_of_beq_eq_true hb) h
  conv => lhs; unfold lkP
  rw [this]
/-- A slot that bears c, whatever the order. -/
def exactP (c : Value) : PV := fun _ v _ => v = c
section
variable (P : Program) (Q : Exit → Act → World → Prop) (ops : Array Oper) (keep : Nat → Bool) (a0 : Act) (S : (Nat → Bool) → World → Prop) (R : Nat → World → World → Prop)
/-- What is known of the operations that come before. -/
def aftF (Ps : PVs) (L : Nat → Bool) (a : Act) (w : World) : List Edge → Prop
  | [] => True
  | e :: l => (Region.binds .any e = true → L e.on = true ∧ (lkP Ps e.on).2 L (slotv a (lkP Ps e.on).1) w) ∧ aftF Ps L a w l
def LeavesS (k : Nat) (d : Option Nat) (Pk : PV) (L : Nat → Bool) (a : Act) (w : World) (a' : Act) (w' : World) : Prop :=
  ∃ v, a' = a.put d v ∧ (d = none → v = undef) ∧ Pk (onL L k) v w' ∧ S (onL L k) w' ∧ R k w w'
/-- What is known when operation k comes up. -/
structure NowS (Ps : PVs) (k : Nat) (o : Oper) (L : Nat → Bool) (a : Act) (w : World) : Prop where
  new : L k = false
  world : S L w
  behind : ∀ j, (ops[j]?.any fun o' => befB o' k) = true → L j = false
  same : ∀ t : Nat, keep t = true → a.tmps[t]?.getD undef = a0.tmps[t]?.getD undef
  aft : aftF Ps L a w o.after.toList
def StepS (Ps : PVs) (k : Nat) (o : Oper) (Pk : PV) : Prop := ∀ (L : Nat → Bool) (a : Act) (w : World), NowS ops keep a0 S Ps k o L a w →
    match o.guard with
    | none => o.wp P a w (LeavesS S R k o.dst Pk L a w) Q
    | some (g, b) => ∃ b', slotv a (lkP Ps g).1 = .bool b' ∧ (b' = b → o.wp P a w (LeavesS S R k o.dst Pk L a w) Q) ∧ (b' ≠ b → LeavesS S R k o.dst Pk L a w (a.put o.dst undef) w)
/-- What operation k's slot bears outlives all others. -/
def StabS (k : Nat) (Pk : PV) : Prop := ∀ (i : Nat) (L : Nat → Bool) (v : Value) (w w' : World), i ≠ k → R i w w' → Pk L v w → Pk (onL L i) v w'
def SameS (a : Act) : Prop := a.tmps.size = a0.tmps.size ∧ a.defers = a0.defers ∧ ∀ t : Nat, keep t = true → a.tmps[t]?.getD undef = a0.tmps[t]?.getD undef
/-- What is known when all are done. -/
structure DoneS (Ps : PVs) (L : Nat → Bool) (a : Act) (w : World) : Prop where
  world : S L w
  same : SameS keep a0 a
  val : ∀ j, (lkP Ps j).2 L (slotv a (lkP Ps j).1) w
def StepsS : Nat → PVs → List Oper → Prop
  | k, Ps, [] => ∀ (L : Nat → Bool) (a : Act) (w : World), (∀ i, i < k → L i = true) → DoneS keep a0 S Ps L a w → Q .normal a w
  | k, Ps, o :: rest => ∃ Pk, StabS R k Pk ∧ StepS P Q ops keep a0 S R Ps k o Pk ∧ StepsS (k + 1) ((k, o.dst, Pk) :: Ps) rest
end
def dstOf (ops : Array Oper) (i : Nat) : Option Nat := (ops[i]?).bind Oper.dst
def stepsB (ops : Array Oper) (n sz : Nat) (keep : Nat → Bool) : Bool :=
  valsH ops n sz (dstOf ops) && ops.toList.all (fun o => match o.dst with | some d => !keep d | none => true)
section
variable {P : Program} {Q : Exit → Act → World → Prop} {ops : Array Oper} {keep : Nat → Bool} {a0 : Act} {S : (Nat → Bool) → World → Prop} {R : Nat → World → World → Prop}
theorem lkP_app {Ex Ps : PVs} {k j : Nat} (h : ∀ x, x ∈ Ex → k ≤ x.1) (hj : j < k) : lkP (Ex ++ Ps) j = lkP Ps j := by
  induction Ex with
  | nil => rfl
  | cons x Ex ih =>
    obtain ⟨i, d, p⟩ := x
    have h1 := h _ (List.mem_cons_self ..)
    show lkP ((i, d, p) :: (Ex ++ Ps)) j = _
    rw [lkP_other (by have : k ≤ i := h1; omega)]
    exact ih fun y hy => h y (List.mem_cons_of_mem _ hy)
theorem lkP_none {l : PVs} {j : Nat} (h : ∀ x, x ∈ l → x.1 ≠ j) : lkP l j = (none, fun _ _ _ => True) := by
  induction l with
  | nil => rfl
  | cons y l ih =>
    obtain ⟨i', d', p'⟩ := y
    rw [lkP_other (h _ (List.mem_cons_self ..))]
    exact ih fun x hx => h x (List.mem_cons_of_mem _ hx)
theorem lkP_mem {Ps : PVs} {j : Nat} {d : Nat} (h : (lkP Ps j).1 = some d) : ∃ x, x ∈ Ps ∧ x.2.1 = some d := by
  induction Ps with
  | nil => cases h
  | cons x Ps ih =>
    obtain ⟨i, d', p⟩ := x
    by_cases hi : i = j
    · have : lkP ((i, d', p) :: Ps) j = (d', p) := by rw [hi]; exact lkP_same
      rw [this] at h
      exact ⟨_, List.mem_cons_self .., h⟩
    · have : lkP ((i, d', p) :: Ps) j = lkP Ps j := lkP_other hi
      rw [this] at h
      obtain ⟨x, h1, h2⟩ := ih h
      exact ⟨x, List.mem_cons_of_mem _ h1, h2⟩
theorem StepsS.all : ∀ (rest : List Oper) (k : Nat) (Ps : PVs), StepsS P Q ops keep a0 S R k Ps rest →
    ∃ Ex : PVs, (∀ x, x ∈ Ex → k ≤ x.1 ∧ x.1 < k + rest.length ∧ lkP (Ex ++ Ps) x.1 = x.2) ∧ (∀ (L : Nat → Bool) (a : Act) (w : World), (∀ i, i < k + rest.length → L i = true) → DoneS keep a0 S (Ex ++ Ps) L a w → Q .normal a w) ∧
      ∀ (i : Nat) (o : Oper), rest[i]? = some o → ∃ (Pk : PV) (Pi : PVs), lkP (Ex ++ Ps) (k + i) = (o.dst, Pk) ∧ StabS R (k + i) Pk ∧ StepS P Q ops keep a0 S R Pi (k + i) o Pk ∧ ∀ j, j < k + i → lkP Pi j = lkP (Ex ++ Ps) j
  | [], k, Ps, h => ⟨[], by simp, h, by simp⟩
  | o :: rest, k, Ps, h => by
    obtain ⟨Pk, h1, h2, h3⟩ := h
    obtain ⟨Ex, g1, g2, g3⟩ := StepsS.all rest (k + 1) _ h3
    have e : Ex ++ (k, o.dst, Pk) :: Ps = (Ex ++ [(k, o.dst, Pk)]) ++ Ps := by simp
    have hk : lkP (Ex ++ (k, o.dst, Pk) :: Ps) k = (o.dst, Pk) := by
      rw [lkP_app (k := k + 1) (fun x hx => (g1 x hx).1) (Nat.lt_succ_self k)]
      exact lkP_same
    rw [e] at g1 g2 g3 hk
    have e2 : k + 1 + rest.length = k + (o :: rest).length := by simp; omega
    rw [e2] at g2
    refine ⟨Ex ++ [(k, o.dst, Pk)], fun x hx => ?_, g2, fun i o' ho => ?_⟩
    · rcases List.mem_append.1 hx with hx | hx
      · have := g1 x hx
        simp only [List.length_cons]
        exact ⟨by omega, by omega, this.2.2⟩
      · obtain rfl := List.mem_singleton.1 hx
        simp only [List.length_cons]
        exact ⟨Nat.le_refl _, by omega, hk⟩
    · match i with
      | 0 =>
        simp only [List.getElem?_cons_zero, Option.some.injEq] at ho
        subst ho
        refine ⟨Pk, Ps, hk, h1, h2, fun j hj => ?_⟩
        refine (lkP_app (k := k) (fun x hx => ?_) hj).symm
        rcases List.mem_append.1 hx with hx | hx
        · have := (g1 x hx).1; omega
        · obtain rfl := List.mem_singleton.1 hx; exact Nat.le_refl _
      | i + 1 =>
        obtain ⟨Pk', Pi, t1, t2, t3, t4⟩ := g3 i o' (by simpa using ho)
        rw [show k + 1 + i = k + (i + 1) by omega] at t1 t2 t3 t4
        exact ⟨Pk', Pi, t1, t2, t3, t4⟩
theorem aftF_of {Ps Pi : PVs} {L : Nat → Bool} {a : Act} {w : World} {k : Nat} (hj : ∀ j, j < k → lkP Pi j = lkP Ps j) : ∀ (l : List Edge), (∀ e, e ∈ l → Region.binds .any e = true → e.on < k ∧ L e.on = true ∧ (lkP Ps e.on).2 L (slotv a (lkP Ps e.on).1) w) → aftF Pi L a w l
  | [], _ => trivial
  | e :: l, h => ⟨fun hb => by
      obtain ⟨h1, h2, h3⟩ := h e (List.mem_cons_self ..) hb
      rw [hj _ h1]
      exact ⟨h2, h3⟩, aftF_of hj l fun e he => h e (List.mem_cons_of_mem _ he)⟩
/-- THE LAW. -/
theorem wp_region_steps {id n sz : Nat} {w0 : World} (hm : P.follows .mixedOrders = true) (hB : stepsB ops n sz keep = true) (ha : a0.tmps.size = sz)
    (S : (Nat → Bool) → World → Prop) (R : Nat → World → World → Prop) (hs : S (fun _ => false) w0.drew) (h : StepsS P Q ops keep a0 S R 0 [] ops.toList) : (Code.region id ops true).wp P Q a0 w0 := by
  unfold stepsB at hB
  rw [Bool.and_eq_true, List.all_eq_true] at hB
  obtain ⟨hB, hkp⟩ := hB
  obtain ⟨Ex, h1, h2, h3⟩ := StepsS.all _ _ _ h
  rw [List.append_nil] at h1 h2 h3
  simp only [Nat.zero_add] at h1 h2 h3
  have hdst : ∀ i o, ops[i]? = some o → dstOf ops i = o.dst := fun i o ho => by unfold dstOf; rw [ho]; rfl
  have hn : ops.size = n := by unfold valsH at hB; rw [Bool.and_eq_true] at hB; simpa using hB.1
  have hlk : ∀ i o, ops[i]? = some o → (lkP Ex i).1 = o.dst := fun i o ho => by
    obtain ⟨Pk, Pi, t1, _⟩ := h3 i o (by simpa using ho)
    rw [t1]
  refine wp_region_valsH hm hB ha S (fun L i v w => (lkP Ex i).2 L v w) ?_ hs ?_
  · refine AllL.of fun i o ho => ?_
    intro L a w hL hS hbeh hsm haft
    obtain ⟨Pk, Pi, t1, t2, t3, t4⟩ := h3 i o (by simpa using ho)
    have hdi := hdst i o ho
    have hnow : NowS ops keep a0 S Pi i o L a w := ⟨hL, hS, hbeh, fun t ht => by
        have := hsm t fun j hj he => by
          have hj2 : j < ops.size := by rw [hn]; exact hj
          have hd := hdst j ops[j] (Array.getElem?_eq_getElem hj2)
          rw [hd] at he
          have := hkp ops[j] (by simp)
          rw [he] at this
          simp only [ht] at this
          cases this
        simpa [Act.eval] using this, aftF_of t4 _ fun e he hb => ?_⟩
    · have hstep := t3 L a w hnow
      have hl : ∀ a' w', LeavesS S R i o.dst Pk L a w a' w' → LeavesH (dstOf ops) S (fun L i v w => (lkP Ex i).2 L v w) i L a w a' w' := by
        rintro a' w' ⟨v, e1, e2, e3, e4, e5⟩
        rw [← hdi] at e1 e2
        refine ⟨v, e1, e2, by show (lkP Ex i).2 _ _ _; rw [t1]; exact e3, e4, fun j u hji hj hu => ?_⟩
        by_cases hjn : j < ops.size
        · obtain ⟨Pj, _, u1, u2, _⟩ := h3 j ops[j] (by simp [hjn])
          show (lkP Ex j).2 _ _ _
          replace hu : (lkP Ex j).2 _ _ _ := hu
          rw [u1] at hu ⊢
          exact u2 i L u w w' (Ne.symm hji) e5 hu
        · have : (lkP Ex j) = (none, fun _ _ _ => True) := lkP_none fun x hx e => hjn (by have := (h1 x hx).2.1; rw [e] at this; simpa using this)
          show (lkP Ex j).2 _ _ _
          rw [this]
          trivial
      cases hg : o.guard with
      | none =>
        rw [hg] at hstep
        exact Oper.wp_mono hl hstep
      | some gb =>
        obtain ⟨g, b⟩ := gb
        rw [hg] at hstep
        obtain ⟨b', s1, s2, s3⟩ := hstep
        have hgi : g < i := by
          unfold valsH at hB
          simp only [Bool.and_eq_true, List.all_eq_true, List.mem_range] at hB
          have hi : i < n := by rw [← hn]; exact (Array.getElem?_eq_some_iff.1 ho).1
          have := hB.2 i hi
          rw [ho] at this
          simp only [hg, Bool.and_eq_true, decide_eq_true_eq] at this
          exact this.1.1.1.1.1
        have hgs : g < ops.size := Nat.lt_trans hgi (Array.getElem?_eq_some_iff.1 ho).1
        refine ⟨b', ?_, fun e => Oper.wp_mono hl (s2 e), fun e => ?_⟩
        · rw [t4 g hgi, hlk g ops[g] (Array.getElem?_eq_getElem hgs), ← hdst g ops[g] (Array.getElem?_eq_getElem hgs)] at s1
          exact s1
        · rw [hdi]
          exact hl _ _ (s3 e)
    · have hbf : befB o e.on = true := by
        unfold befB
        rw [List.any_eq_true]
        exact ⟨e, he, by rw [hb, Bool.true_and]; exact Nat.beq_refl _⟩
      obtain ⟨g1, g2⟩ := haft e.on hbf
      have hlt : e.on < i := by
        unfold valsH at hB
        simp only [Bool.and_eq_true, List.all_eq_true, List.mem_range] at hB
        have hi : i < n := by rw [← hn]; exact (Array.getElem?_eq_some_iff.1 ho).1
        have := hB.2 i hi
        rw [ho] at this
        simp only [Bool.and_eq_true, List.all_eq_true] at this
        have := this.1.2 e (by simpa using he)
        simpa [hb] using this
      have hes : e.on < ops.size := Nat.lt_trans hlt (Array.getElem?_eq_some_iff.1 ho).1
      refine ⟨hlt, g1, ?_⟩
      rw [hlk e.on ops[e.on] (Array.getElem?_eq_getElem hes), ← hdst e.on ops[e.on] (Array.getElem?_eq_getElem hes)]
      exact g2
  · intro L a w hS hsz hde hsm hv
    refine h2 L a w (fun i hi => (hv i (by rw [← hn]; simpa using hi)).1) ⟨hS, ⟨hsz, hde, fun t ht => ?_⟩, fun j => ?_⟩
    · have := hsm t fun j hj he => by
        have hj2 : j < ops.size := by rw [hn]; exact hj
        have hd := hdst j ops[j] (Array.getElem?_eq_getElem hj2)
        rw [hd] at he
        have := hkp ops[j] (by simp)
        rw [he] at this
        simp only [ht] at this
        cases this
      simpa [Act.eval] using this
    · by_cases hj : j < n
      · have hjs : j < ops.size := by rw [hn]; exact hj
        have := (hv j hj).2
        rw [hdst _ _ (Array.getElem?_eq_getElem hjs), ← hlk _ _ (Array.getElem?_eq_getElem hjs)] at this
        exact this
      · have hx : ∀ x, x ∈ Ex → x.1 ≠ j := fun x hx e => hj (by have := (h1 x hx).2.1; rw [e] at this; rw [← hn]; simpa using this)
        rw [lkP_none hx]
        trivial
section
variable {k : Nat} {Ps : PVs} {o : Oper} {rest : List Oper}
/-- A slot that is reckoned out of others, or read. -/
theorem StepsS.exact {c : Value} {d : Nat} (hg : o.guard = none) (hd : o.dst = some d) (hS : ∀ L w, S L w → S (onL L k) w) (hR : ∀ w, R k w w)
    (h : ∀ (L : Nat → Bool) (a : Act) (w : World), NowS ops keep a0 S Ps k o L a w → (execOp a.eval o).run P w = .ok (.value c) w)
    (t : StepsS P Q ops keep a0 S R (k + 1) ((k, o.dst, exactP c) :: Ps) rest) : StepsS P Q ops keep a0 S R k Ps (o :: rest) := by
  refine ⟨exactP c, fun _ _ _ _ _ _ _ h => h, fun L a w hn => ?_, t⟩
  rw [hg]
  exact Oper.wp_value (h L a w hn) ⟨c, rfl, fun e => by rw [hd] at e; (cases e), rfl, hS L w hn.world, hR w⟩
/-- Any other one. -/
theorem StepsS.any (Pk : PV) (hg : o.guard = none) (hst : StabS R k Pk)
    (h : ∀ (L : Nat → Bool) (a : Act) (w : World), NowS ops keep a0 S Ps k o L a w → o.wp P a w (LeavesS S R k o.dst Pk L a w) Q)
    (t : StepsS P Q ops keep a0 S R (k + 1) ((k, o.dst, Pk) :: Ps) rest) : StepsS P Q ops keep a0 S R k Ps (o :: rest) := by
  refine ⟨Pk, hst, fun L a w hn => ?_, t⟩
  rw [hg]
  exact h L a w hn
/-- A guarded one, whose guard is told. -/
theorem StepsS.guarded (Pk : PV) {g : Nat} {b : Bool} (hg : o.guard = some (g, b)) (hst : StabS R k Pk)
    (h : ∀ (L : Nat → Bool) (a : Act) (w : World), NowS ops keep a0 S Ps k o L a w → ∃ b', slotv a (lkP Ps g).1 = .bool b' ∧ (b' = b → o.wp P a w (LeavesS S R k o.dst Pk L a w) Q) ∧ (b' ≠ b → LeavesS S R k o.dst Pk L a w (a.put o.dst undef) w))
    (t : StepsS P Q ops keep a0 S R (k + 1) ((k, o.dst, Pk) :: Ps) rest) : StepsS P Q ops keep a0 S R k Ps (o :: rest) := by
  refine ⟨Pk, hst, fun L a w hn => ?_, t⟩
  rw [hg]
  exact h L a w hn
/-- A call that returns a value that is known, and may make memory. -/
theorem StepsS.call {c : Value} {d : Nat} {f : FuncId} {args : Array Value} (hg : o.guard = none) (hd : o.dst = some d) (hS : ∀ L w w', S L w → Below w.heap.size w w' → S (onL L k) w') (hR : ∀ w w', Below w.heap.size w w' → R k w w')
    (h : ∀ (L : Nat → Bool) (a : Act) (w : World), NowS ops keep a0 S Ps k o L a w → (execOp a.eval o).run P w = .ok (.enter f args) w ∧ Calls P f args w fun e w' => e = .returned c ∧ Below w.heap.size w w')
    (t : StepsS P Q ops keep a0 S R (k + 1) ((k, o.dst, exactP c) :: Ps) rest) : StepsS P Q ops keep a0 S R k Ps (o :: rest) := by
  refine ⟨exactP c, fun _ _ _ _ _ _ _ h => h, fun L a w hn => ?_, t⟩
  rw [hg]
  obtain ⟨h1, h2⟩ := h L a w hn
  refine Oper.wp_enter h1 (h2.mono ?_)
  rintro e w' ⟨rfl, hb⟩
  exact ⟨c, rfl, c, rfl, fun e => by rw [hd] at e; (cases e), rfl, hS L w w' hn.world hb, hR w w' hb⟩
/-- The same, guarded by what is told to be as the guard wants it. -/
theorem StepsS.exactG {c : Value} {d g : Nat} {b : Bool} (hg : o.guard = some (g, b)) (hd : o.dst = some d) (hS : ∀ L w, S L w → S (onL L k) w) (hR : ∀ w, R k w w)
    (hb : ∀ (L : Nat → Bool) (a : Act) (w : World), NowS ops keep a0 S Ps k o L a w → slotv a (lkP Ps g).1 = .bool b)
    (h : ∀ (L : Nat → Bool) (a : Act) (w : World), NowS ops keep a0 S Ps k o L a w → (execOp a.eval o).run P w = .ok (.value c) w)
    (t : StepsS P Q ops keep a0 S R (k + 1) ((k, o.dst, exactP c) :: Ps) rest) : StepsS P Q ops keep a0 S R k Ps (o :: rest) := by
  refine ⟨exactP c, fun _ _ _ _ _ _ _ h => h, fun L a w hn => ?_, t⟩
  rw [hg]
  exact ⟨b, hb L a w hn, fun _ => Oper.wp_value (h L a w hn) ⟨c, rfl, fun e => by rw [hd] at e; (cases e), rfl, hS L w hn.world, hR w⟩, fun e => absurd rfl e⟩
theorem StepsS.callG {c : Value} {d g : Nat} {b : Bool} {f : FuncId} {args : Array Value} (hg : o.guard = some (g, b)) (hd : o.dst = some d) (hS : ∀ L w w', S L w → Below w.heap.size w w' → S (onL L k) w') (hR : ∀ w w', Below w.heap.size w w' → R k w w')
    (hb : ∀ (L : Nat → Bool) (a : Act) (w : World), NowS ops keep a0 S Ps k o L a w → slotv a (lkP Ps g).1 = .bool b)
    (h : ∀ (L : Nat → Bool) (a : Act) (w : World), NowS ops keep a0 S Ps k o L a w → (execOp a.eval o).run P w = .ok (.enter f args) w ∧ Calls P f args w fun e w' => e = .returned c ∧ Below w.heap.size w w')
    (t : StepsS P Q ops keep a0 S R (k + 1) ((k, o.dst, exactP c) :: Ps) rest) : StepsS P Q ops keep a0 S R k Ps (o :: rest) := by
  refine ⟨exactP c, fun _ _ _ _ _ _ _ h => h, fun L a w hn => ?_, t⟩
  rw [hg]
  refine ⟨b, hb L a w hn, fun _ => ?_, fun e => absurd rfl e⟩
  obtain ⟨h1, h2⟩ := h L a w hn
  refine Oper.wp_enter h1 (h2.mono ?_)
  rintro e w' ⟨rfl, hb⟩
  exact ⟨c, rfl, c, rfl, fun e => by rw [hd] at e; (cases e), rfl, hS L w w' hn.world hb, hR w w' hb⟩
theorem eval_of {a : Act} {n : Nat} {v : Value} (h : a.tmps[n]?.getD undef = v) : a.eval (.tmp n) = v := by rw [← h]; simp [Act.eval]
/-- A big struct read. -/
theorem exec_row {a : Act} {w : World} {ty : TypeId} {x : Operand} (ho : o.op = .load ty x) (b : Nat) (hx : a.eval x = .pointer (some ⟨b, 0, none⟩)) (t : TypeId) (cs : Array Value) (fr : Nat × Nat) (d : TypeDesc) (hb : w.heap[b]? = some (.cells cs t fr))
    (hu : P.underlying ty = some d) (hd : (match d with | .struct _ | .array _ _ => true | _ => false) = true) (hi : (P.info? ty).map (·.size) = some cs.size) : (execOp a.eval o).run P w = .ok (.value (.agg cs)) w := by
  have hl : (loadCells ⟨b, 0, none⟩ cs.toList.length).run P w = .ok cs.toList.toArray w :=
    run_loadCells_list (P := P) w ⟨b, 0, none⟩ cs.toList (fun j v hv => by
      have hadd : (⟨b, 0, none⟩ : Addr).add j = ⟨b, 0 + j, none⟩ := Addr.add_lit _ _ _
      rw [hadd, Nat.zero_add]
      have hj : cs[j]? = some v := by simpa using hv
      simp [World.cell?, hb, hj])
  have hrun : (loadVar ty ⟨b, 0, none⟩).run P w = .ok (.agg cs) w := by
    cases hq : P.info? ty with
    | none => simp [hq] at hi
    | some i =>
      have hs : i.size = cs.size := by simpa [hq] using hi
      have hagg : (isAgg ty).run P w = .ok true w := by
        unfold isAgg
        rw [Sem.run_bind, run_underlying hu w]
        cases d <;> simp_all
      simp only [Array.length_toList, Array.toArray_toList] at hl
      simp [loadVar, Sem.run_bind, hagg, sizeOf, typeInfo, hq, hs, hl]
  unfold execOp
  simp only [ho, hx, Instr.loadAt, Instr.sureAddr, Sem.run_bind, Sem.run_pure, Result.andThen_ok, hrun]
end
end
end Go.Proofs.YtlibeobmdjeilaaGreatDoor
