/- The law of steps, where what the world keeps is told with the slots (as Steps). No program in sight. -/
import Derived.Test.YtlibeobmdjeilaaGreatDoorSteps
import Derived.Test.YtlibeobmdjeilaaGreatDoorInvHT
namespace Go.Proofs.YtlibeobmdjeilaaGreatDoor
open Go Go.RowKit
section
variable (P : Program) (Q : Exit → Act → World → Prop) (ops : Array Oper) (keep : Nat → Bool) (a0 : Act) (S : (Nat → Bool) → Act → World → Prop) (R : Nat → World → World → Prop)
def LeavesV (k : Nat) (d : Option Nat) (Pk : PV) (L : Nat → Bool) (a : Act) (w : World) (a' : Act) (w' : World) : Prop :=
  ∃ v, a' = a.put d v ∧ (d = none → v = undef) ∧ Pk (onL L k) v w' ∧ S (onL L k) a' w' ∧ R k w w'
/-- What is known when operation k comes up. -/
structure NowV (Ps : PVs) (k : Nat) (o : Oper) (L : Nat → Bool) (a : Act) (w : World) : Prop where
  new : L k = false
  world : S L a w
  behind : ∀ j, (ops[j]?.any fun o' => befB o' k) = true → L j = false
  same : ∀ t : Nat, keep t = true → a.tmps[t]?.getD undef = a0.tmps[t]?.getD undef
  aft : aftF Ps L a w o.after.toList
def StepV (Ps : PVs) (k : Nat) (o : Oper) (Pk : PV) : Prop := ∀ (L : Nat → Bool) (a : Act) (w : World), NowV ops keep a0 S Ps k o L a w →
    match o.guard with
    | none => o.wp P a w (LeavesV S R k o.dst Pk L a w) Q
    | some (g, b) => ∃ b', slotv a (lkP Ps g).1 = .bool b' ∧ (b' = b → o.wp P a w (LeavesV S R k o.dst Pk L a w) Q) ∧ (b' ≠ b → LeavesV S R k o.dst Pk L a w (a.put o.dst undef) w)
/-- What is known when all are done. -/
structure DoneV (Ps : PVs) (L : Nat → Bool) (a : Act) (w : World) : Prop where
  world : S L a w
  same : SameS keep a0 a
  val : ∀ j, (lkP Ps j).2 L (slotv a (lkP Ps j).1) w
def StepsV : Nat → PVs → List Oper → Prop
  | k, Ps, [] => ∀ (L : Nat → Bool) (a : Act) (w : World), (∀ i, i < k → L i = true) → DoneV keep a0 S Ps L a w → Q .normal a w
  | k, Ps, o :: rest => ∃ Pk, StabS R k Pk ∧ StepV P Q ops keep a0 S R Ps k o Pk ∧ StepsV (k + 1) ((k, o.dst, Pk) :: Ps) rest
end
section
variable {P : Program} {Q : Exit → Act → World → Prop} {ops : Array Oper} {keep : Nat → Bool} {a0 : Act} {S : (Nat → Bool) → Act → World → Prop} {R : Nat → World → World → Prop}
theorem StepsV.all : ∀ (rest : List Oper) (k : Nat) (Ps : PVs), StepsV P Q ops keep a0 S R k Ps rest →
    ∃ Ex : PVs, (∀ x, x ∈ Ex → k ≤ x.1 ∧ x.1 < k + rest.length ∧ lkP (Ex ++ Ps) x.1 = x.2) ∧ (∀ (L : Nat → Bool) (a : Act) (w : World), (∀ i, i < k + rest.length → L i = true) → DoneV keep a0 S (Ex ++ Ps) L a w → Q .normal a w) ∧
      ∀ (i : Nat) (o : Oper), rest[i]? = some o → ∃ (Pk : PV) (Pi : PVs), lkP (Ex ++ Ps) (k + i) = (o.dst, Pk) ∧ StabS R (k + i) Pk ∧ StepV P Q ops keep a0 S R Pi (k + i) o Pk ∧ ∀ j, j < k + i → lkP Pi j = lkP (Ex ++ Ps) j
  | [], k, Ps, h => ⟨[], by simp, h, by simp⟩
  | o :: rest, k, Ps, h => by
    obtain ⟨Pk, h1, h2, h3⟩ := h
    obtain ⟨Ex, g1, g2, g3⟩ := StepsV.all rest (k + 1) _ h3
    have e : Ex ++ (k, o.dst, Pk) :: Ps = (Ex ++ [(k, o.dst, Pk)]) ++ Ps := by simp
    have hk : lkP (Ex ++ (k, o.dst, Pk) :: Ps) k = (o.dst, Pk) := by
      rw [lkP_app (k := k + 1) (fun x hx => (g1 x hx).1) (Nat.lt_succ_self k)]
      exact lkP_same
    rw [e] at g1 g2 g3 hk
    have e2 : k + 1 + rest.length = k + (o :: rest).length := by simp; omega
    rw [e2] at g2
    refine ⟨Ex ++ [(k, o.dst, Pk)], fun x hx => ?_, g2, fun i o' ho => ?_⟩
    · rcases List.mem_append.1 hx with hx | hx
      · have := g1 x hx
        simp only [List.length_cons]
        exact ⟨by omega, by omega, this.2.2⟩
      · obtain rfl := List.mem_singleton.1 hx
        simp only [List.length_cons]
        exact ⟨Nat.le_refl _, by omega, hk⟩
    · match i with
      | 0 =>
        simp only [List.getElem?_cons_zero, Option.some.injEq] at ho
        subst ho
        refine ⟨Pk, Ps, hk, h1, h2, fun j hj => ?_⟩
        refine (lkP_app (k := k) (fun x hx => ?_) hj).symm
        rcases List.mem_append.1 hx with hx | hx
        · have := (g1 x hx).1; omega
        · obtain rfl := List.mem_singleton.1 hx; exact Nat.le_refl _
      | i + 1 =>
        obtain ⟨Pk', Pi, t1, t2, t3, t4⟩ := g3 i o' (by simpa using ho)
        rw [show k + 1 + i = k + (i + 1) by omega] at t1 t2 t3 t4
        exact ⟨Pk', Pi, t1, t2, t3, t4⟩
/-- THE LAW. -/
theorem wp_region_stepsV {id n sz : Nat} {w0 : World} (hm : P.follows .mixedOrders = true) (hB : stepsB ops n sz keep = true) (ha : a0.tmps.size = sz)
    (S : (Nat → Bool) → Act → World → Prop) (R : Nat → World → World → Prop) (hs : S (fun _ => false) a0 w0.drew) (h : StepsV P Q ops keep a0 S R 0 [] ops.toList) : (Code.region id ops true).wp P Q a0 w0 := by
  unfold stepsB at hB
  rw [Bool.and_eq_true, List.all_eq_true] at hB
  obtain ⟨hB, hkp⟩ := hB
  obtain ⟨Ex, h1, h2, h3⟩ := StepsV.all _ _ _ h
  rw [List.append_nil] at h1 h2 h3
  simp only [Nat.zero_add] at h1 h2 h3
  have hdst : ∀ i o, ops[i]? = some o → dstOf ops i = o.dst := fun i o ho => by unfold dstOf; rw [ho]; rfl
  have hn : ops.size = n := by unfold valsH at hB; rw [Bool.and_eq_true] at hB; simpa using hB.1
  have hlk : ∀ i o, ops[i]? = some o → (lkP Ex i).1 = o.dst := fun i o ho => by
    obtain ⟨Pk, Pi, t1, _⟩ := h3 i o (by simpa using ho)
    rw [t1]
  refine wp_region_valsT hm hB ha S (fun L i v w => (lkP Ex i).2 L v w) ?_ hs ?_
  · refine AllL.of fun i o ho => ?_
    intro L a w hL hS hbeh hsm haft
    obtain ⟨Pk, Pi, t1, t2, t3, t4⟩ := h3 i o (by simpa using ho)
    have hdi := hdst i o ho
    have hnow : NowV ops keep a0 S Pi i o L a w := ⟨hL, hS, hbeh, fun t ht => by
        have := hsm t fun j hj he => by
          have hj2 : j < ops.size := by rw [hn]; exact hj
          have hd := hdst j ops[j] (Array.getElem?_eq_getElem hj2)
          rw [hd] at he
          have := hkp ops[j] (by simp)
          rw [he] at this
          simp only [ht] at this
          cases this
        simpa [Act.eval] using this, aftF_of t4 _ fun e he hb => ?_⟩
    · have hstep := t3 L a w hnow
      have hl : ∀ a' w', LeavesV S R i o.dst Pk L a w a' w' → LeavesT (dstOf ops) S (fun L i v w => (lkP Ex i).2 L v w) i L a w a' w' := by
        rintro a' w' ⟨v, e1, e2, e3, e4, e5⟩
        rw [← hdi] at e1 e2
        refine ⟨v, e1, e2, by show (lkP Ex i).2 _ _ _; rw [t1]; exact e3, e4, fun j u hji hj hu => ?_⟩
        by_cases hjn : j < ops.size
        · obtain ⟨Pj, _, u1, u2, _⟩ := h3 j ops[j] (by simp [hjn])
          show (lkP Ex j).2 _ _ _
          replace hu : (lkP Ex j).2 _ _ _ := hu
          rw [u1] at hu ⊢
          exact u2 i L u w w' (Ne.symm hji) e5 hu
        · have : (lkP Ex j) = (none, fun _ _ _ => True) := lkP_none fun x hx e => hjn (by have := (h1 x hx).2.1; rw [e] at this; simpa using this)
          show (lkP Ex j).2 _ _ _
          rw [this]
          trivial
      cases hg : o.guard with
      | none =>
        rw [hg] at hstep
        exact Oper.wp_mono hl hstep
      | some gb =>
        obtain ⟨g, b⟩ := gb
        rw [hg] at hstep
        obtain ⟨b', s1, s2, s3⟩ := hstep
        have hgi : g < i := by
          unfold valsH at hB
          simp only [Bool.and_eq_true, List.all_eq_true, List.mem_range] at hB
          have hi : i < n := by rw [← hn]; exact (Array.getElem?_eq_some_iff.1 ho).1
          have := hB.2 i hi
          rw [ho] at this
          simp only [hg, Bool.and_eq_true, decide_eq_true_eq] at this
          exact this.1.1.1.1.1
        have hgs : g < ops.size := Nat.lt_trans hgi (Array.getElem?_eq_some_iff.1 ho).1
        refine ⟨b', ?_, fun e => Oper.wp_mono hl (s2 e), fun e => ?_⟩
        · rw [t4 g hgi, hlk g ops[g] (Array.getElem?_eq_getElem hgs), ← hdst g ops[g] (Array.getElem?_eq_getElem hgs)] at s1
          exact s1
        · rw [hdi]
          exact hl _ _ (s3 e)
    · have hbf : befB o e.on = true := by
        unfold befB
        rw [List.any_eq_true]
        exact ⟨e, he, by rw [hb, Bool.true_and]; exact Nat.beq_refl _⟩
      obtain ⟨g1, g2⟩ := haft e.on hbf
      have hlt : e.on < i := by
        unfold valsH at hB
        simp only [Bool.and_eq_true, List.all_eq_true, List.mem_range] at hB
        have hi : i < n := by rw [← hn]; exact (Array.getElem?_eq_some_iff.1 ho).1
        have := hB.2 i hi
        rw [ho] at this
        simp only [Bool.and_eq_true, List.all_eq_true] at this
        have := this.1.2 e (by simpa using he)
        simpa [hb] using this
      have hes : e.on < ops.size := Nat.lt_trans hlt (Array.getElem?_eq_some_iff.1 ho).1
      refine ⟨hlt, g1, ?_⟩
      rw [hlk e.on ops[e.on] (Array.getElem?_eq_getElem hes), ← hdst e.on ops[e.on] (Array.getElem?_eq_getElem hes)]
      exact g2
  · intro L a w hS hsz hde hsm hv
    refine h2 L a w (fun i hi => (hv i (by rw [← hn]; simpa using hi)).1) ⟨hS, ⟨hsz, hde, fun t ht => ?_⟩, fun j => ?_⟩
    · have := hsm t fun j hj he => by
        have hj2 : j < ops.size := by rw [hn]; exact hj
        have hd := hdst j ops[j] (Array.getElem?_eq_getElem hj2)
        rw [hd] at he
        have := hkp ops[j] (by simp)
        rw [he] at this
        simp only [ht] at this
        cases this
      simpa [Act.eval] using this
    · by_cases hj : j < n
      · have hjs : j < ops.size := by rw [hn]; exact hj
        have := (hv j hj).2
        rw [hdst _ _ (Array.getElem?_eq_getElem hjs), ← hlk _ _ (Array.getElem?_eq_getElem hjs)] at this
        exact this
      · have hx : ∀ x, x ∈ Ex → x.1 ≠ j := fun x hx e => hj (by have := (h1 x hx).2.1; rw [e] at this; rw [← hn]; simpa using this)
        rw [lkP_none hx]
        trivial
section
variable {k : Nat} {Ps : PVs} {o : Oper} {rest : List Oper}
/-- A slot that is reckoned out of others, or read. -/
theorem StepsV.exact {c : Value} {d : Nat} (hg : o.guard = none) (hd : o.dst = some d) (hS : ∀ L a w, S L a w → S (onL L k) (a.put o.dst c) w) (hR : ∀ w, R k w w)
    (h : ∀ (L : Nat → Bool) (a : Act) (w : World), NowV ops keep a0 S Ps k o L a w → (execOp a.eval o).run P w = .ok (.value c) w)
    (t : StepsV P Q ops keep a0 S R (k + 1) ((k, o.dst, exactP c) :: Ps) rest) : StepsV P Q ops keep a0 S R k Ps (o :: rest) := by
  refine ⟨exactP c, fun _ _ _ _ _ _ _ h => h, fun L a w hn => ?_, t⟩
  rw [hg]
  exact Oper.wp_value (h L a w hn) ⟨c, rfl, fun e => by rw [hd] at e; (cases e), rfl, hS L a w hn.world, hR w⟩
/-- Any other one. -/
theorem StepsV.any (Pk : PV) (hg : o.guard = none) (hst : StabS R k Pk)
    (h : ∀ (L : Nat → Bool) (a : Act) (w : World), NowV ops keep a0 S Ps k o L a w → o.wp P a w (LeavesV S R k o.dst Pk L a w) Q)
    (t : StepsV P Q ops keep a0 S R (k + 1) ((k, o.dst, Pk) :: Ps) rest) : StepsV P Q ops keep a0 S R k Ps (o :: rest) := by
  refine ⟨Pk, hst, fun L a w hn => ?_, t⟩
  rw [hg]
  exact h L a w hn
/-- A call that returns a value that is known, and may make memory. -/
theorem StepsV.call {c : Value} {d : Nat} {f : FuncId} {args : Array Value} (hg : o.guard = none) (hd : o.dst = some d) (hS : ∀ L a w w', S L a w → Below w.heap.size w w' → S (onL L k) (a.put o.dst c) w') (hR : ∀ w w', Below w.heap.size w w' → R k w w')
    (h : ∀ (L : Nat → Bool) (a : Act) (w : World), NowV ops keep a0 S Ps k o L a w → (execOp a.eval o).run P w = .ok (.enter f args) w ∧ Calls P f args w fun e w' => e = .returned c ∧ Below w.heap.size w w')
    (t : StepsV P Q ops keep a0 S R (k + 1) ((k, o.dst, exactP c) :: Ps) rest) : StepsV P Q ops keep a0 S R k Ps (o :: rest) := by
  refine ⟨exactP c, fun _ _ _ _ _ _ _ h => h, fun L a w hn => ?_, t⟩
  rw [hg]
  obtain ⟨h1, h2⟩ := h L a w hn
  refine Oper.wp_enter h1 (h2.mono ?_)
  rintro e w' ⟨rfl, hb⟩
  exact ⟨c, rfl, c, rfl, fun e => by rw [hd] at e; (cases e), rfl, hS L a w w' hn.world hb, hR w w' hb⟩
end
end
end Go.Proofs.YtlibeobmdjeilaaGreatDoor
