/- As InvH: what the world keeps is told with the slots. No program in sight. -/
import Derived.Test.YtlibeobmdjeilaaGreatDoorInvH
namespace Go.Proofs.YtlibeobmdjeilaaGreatDoor
open Go Go.RowKit
section
variable {P : Program} {ops : Array Oper} {Q : Exit → Act → World → Prop}
/-- What an operation leaves. -/
def LeavesT (dst : Nat → Option Nat) (S : (Nat → Bool) → Act → World → Prop) (Pv : (Nat → Bool) → Nat → Value → World → Prop) (i : Nat) (L : Nat → Bool) (a : Act) (w : World) (a' : Act) (w' : World) : Prop :=
  ∃ v, a' = a.put (dst i) v ∧ (dst i = none → v = undef) ∧ Pv (onL L i) i v w' ∧ S (onL L i) a' w' ∧ ∀ j u, j ≠ i → L j = true → Pv L j u w → Pv (onL L i) j u w'
/-- What operation i has to do; where it is guarded: what its guard's slot says. -/
def StepHT (P : Program) (Q : Exit → Act → World → Prop) (ops : Array Oper) (n : Nat) (dst : Nat → Option Nat) (S : (Nat → Bool) → Act → World → Prop) (Pv : (Nat → Bool) → Nat → Value → World → Prop) (a0 : Act) (i : Nat) (o : Oper) : Prop :=
  ∀ (L : Nat → Bool) (a : Act) (w : World), L i = false → S L a w → (∀ j, (ops[j]?.any fun o' => befB o' i) = true → L j = false) → (∀ t : Nat, (∀ i, i < n → dst i ≠ some t) → a.eval (.tmp t) = a0.eval (.tmp t)) → (∀ j, befB o j = true → L j = true ∧ Pv L j (slotv a (dst j)) w) →
    match o.guard with
    | none => o.wp P a w (LeavesT dst S Pv i L a w) Q
    | some (g, b) => ∃ b', slotv a (dst g) = .bool b' ∧ (b' = b → o.wp P a w (LeavesT dst S Pv i L a w) Q) ∧ (b' ≠ b → LeavesT dst S Pv i L a w (a.put (dst i) undef) w)
/-- THE LAW. -/
theorem wp_region_valsT {id n sz : Nat} {dst : Nat → Option Nat} {a0 : Act} {w0 : World} (hm : P.follows .mixedOrders = true) (hB : valsH ops n sz dst = true) (ha : a0.tmps.size = sz)
    (S : (Nat → Bool) → Act → World → Prop) (Pv : (Nat → Bool) → Nat → Value → World → Prop)
    (hall : AllL (fun i o => StepHT P Q ops n dst S Pv a0 i o) 0 ops.toList)
    (hs : S (fun _ => false) a0 w0.drew)
    (hdone : ∀ (L : Nat → Bool) (a : Act) (w : World), S L a w → a.tmps.size = a0.tmps.size → a.defers = a0.defers → (∀ t : Nat, (∀ i, i < n → dst i ≠ some t) → a.eval (.tmp t) = a0.eval (.tmp t)) → (∀ i, i < n → L i = true ∧ Pv L i (slotv a (dst i)) w) → Q .normal a w) : (Code.region id ops true).wp P Q a0 w0 := by
  unfold valsH at hB
  simp only [Bool.and_eq_true, List.all_eq_true, List.mem_range, decide_eq_true_eq] at hB
  obtain ⟨hsz, hB⟩ := hB
  have hop : ∀ i o, ops[i]? = some o → i < n ∧ (∀ g b, o.guard = some (g, b) → g < i ∧ befB o g = true) ∧ o.dst = dst i ∧ (∀ d, dst i = some d → d < sz) ∧ (∀ e ∈ o.after, Region.binds .any e = true → e.on < i) ∧ ∀ j, j < n → dst i ≠ none → dst i = dst j → j = i := by
    intro i o ho
    have hi : i < n := by rw [← hsz]; exact (Array.getElem?_eq_some_iff.1 ho).1
    have h1 := hB i hi
    rw [ho] at h1
    simp only [Bool.and_eq_true, List.all_eq_true, List.mem_range, Bool.or_eq_true, beq_iff_eq, Bool.not_eq_true', decide_eq_true_eq] at h1
    obtain ⟨⟨⟨⟨h2, h3⟩, h3'⟩, h4⟩, h5⟩ := h1
    refine ⟨hi, fun g b hg => ?_, optEq_eq h3, fun d hd => ?_, fun e he hb => ?_, fun j hj hne he => ?_⟩
    · simp only [hg, Bool.and_eq_true, decide_eq_true_eq] at h2
      exact h2
    · simpa [hd] using h3'
    · have := h4 e (by simpa using he)
      simpa [hb] using this
    · rcases h5 j hj with (h | h) | h
      · exact h
      · exact absurd (by simpa using h) hne
      · rw [← he] at h
        cases hd : dst i with
        | none => exact absurd hd hne
        | some d => rw [hd] at h; simp [optEq] at h
  refine wp_region_inv hm (fun listed a w => listed.size = ops.size ∧ (∀ (j : Nat) (o' : Oper), ops[j]? = some o' → fnL listed j = true → ∀ e ∈ o'.after, Region.binds .any e = true → fnL listed e.on = true) ∧ S (fnL listed) a w ∧ a.tmps.size = a0.tmps.size ∧ a.defers = a0.defers ∧ (∀ t : Nat, (∀ i, i < n → dst i ≠ some t) → a.eval (.tmp t) = a0.eval (.tmp t)) ∧ ∀ i, i < n → fnL listed i = true → Pv (fnL listed) i (slotv a (dst i)) w) ?_ ?_ ⟨by simp, fun j o' _ h => ?_, ?_, rfl, rfl, fun _ _ => rfl, fun i _ h => ?_⟩
  · rintro listed a w i ⟨hls, hcl, hS, hsa, hde, hsm, hv⟩ hr
    obtain ⟨h0, o, ho, haft⟩ := mem_ready.1 hr
    obtain ⟨hi, hg, hd, hlt, hbk, hinj⟩ := hop i o ho
    have hi2 : i < listed.size := by rw [hls, hsz]; exact hi
    have hfi : fnL listed i = false := by
      unfold fnL
      simp [Array.getD, hi2] at h0 ⊢
      exact h0
    have hbeh : ∀ j, (ops[j]?.any fun o' => befB o' i) = true → fnL listed j = false := fun j hj => by
      cases hoj : ops[j]? with
      | none => rw [hoj] at hj; cases hj
      | some oj =>
        rw [hoj] at hj
        simp only [Option.any_some] at hj
        unfold befB at hj
        simp only [List.any_eq_true, Bool.and_eq_true] at hj
        obtain ⟨e, he, hbb, hej⟩ := hj
        obtain rfl := Nat.eq_of_beq_eq_true hej
        cases hlj : fnL listed j with
        | false => rfl
        | true =>
          have := hcl j oj hoj hlj e (by simpa using he) hbb
          rw [hfi] at this
          cases this
    have hstep := hall.all i o ho (fnL listed) a w hfi hS hbeh hsm fun j hj => by
      unfold befB at hj
      simp only [List.any_eq_true, Bool.and_eq_true] at hj
      obtain ⟨e, he, hbb, hej⟩ := hj
      obtain rfl := Nat.eq_of_beq_eq_true hej
      have h2 := haft e (by simpa using he) hbb
      exact ⟨h2, hv e.on (Nat.lt_trans (hbk e (by simpa using he) hbb) hi) h2⟩
    have hfin : ∀ a' w', LeavesT dst S Pv i (fnL listed) a w a' w' → (listed.setIfInBounds i true).size = ops.size ∧ (∀ (j : Nat) (o' : Oper), ops[j]? = some o' → fnL (listed.setIfInBounds i true) j = true → ∀ e ∈ o'.after, Region.binds .any e = true → fnL (listed.setIfInBounds i true) e.on = true) ∧ S (fnL (listed.setIfInBounds i true)) a' w' ∧ a'.tmps.size = a0.tmps.size ∧ a'.defers = a0.defers ∧ (∀ t : Nat, (∀ i, i < n → dst i ≠ some t) → a'.eval (.tmp t) = a0.eval (.tmp t)) ∧ ∀ j, j < n → fnL (listed.setIfInBounds i true) j = true → Pv (fnL (listed.setIfInBounds i true)) j (slotv a' (dst j)) w' := by
      rintro a' w' ⟨v, rfl, hun, hp, hs', hk⟩
      rw [fnL_set hi2] at *
      refine ⟨by simpa using hls, fun j oj hoj hl e he hb => ?_, hs', by rw [size_put]; exact hsa, by cases dst i <;> exact hde, fun t ht => ?_, fun j hj hl => ?_⟩
      · by_cases hei : e.on = i
        · rw [hei]; exact onL_same
        · rw [onL_other hei]
          by_cases hji : j = i
          · subst hji
            rw [ho] at hoj
            cases hoj
            exact haft e he hb
          · rw [onL_other hji] at hl
            exact hcl j oj hoj hl e he hb
      · rw [← hsm t ht]
        cases hdi : dst i with
        | none => rfl
        | some d => exact eval_put_other fun hne => ht i hi (by rw [hdi, hne])
      · by_cases hij : j = i
        · subst hij
          cases hdi : dst j with
          | none => rw [hdi] at hun; rw [hun rfl] at hp; exact hp
          | some d =>
            show Pv _ j ((a.put (some d) v).eval (.tmp d)) _
            rw [eval_put_same (by rw [hsa, ha]; exact hlt d hdi)]
            exact hp
        · rw [onL_other hij] at hl
          have h2 := hk j _ hij hl (hv j hj hl)
          cases hdj : dst j with
          | none => rw [hdj] at h2; exact h2
          | some d =>
            rw [hdj] at h2
            cases hdi : dst i with
            | none => exact h2
            | some d2 =>
              show Pv _ j ((a.put (some d2) v).eval (.tmp d)) _
              rw [eval_put_other (fun hne => hij (hinj j hj (by rw [hdi]; simp) (by rw [hdi, hdj, hne])))]
              exact h2
    unfold wpOp
    simp only [ho]
    cases hgd : o.guard with
    | none =>
      rw [hgd] at hstep
      rw [if_pos (by simp [Region.wanted, hgd])]
      exact .inl (Oper.wp_mono hfin hstep)
    | some gb =>
      obtain ⟨g, b⟩ := gb
      rw [hgd] at hstep
      obtain ⟨b', hev, hy, hn⟩ := hstep
      have hgi := (hg g b hgd).1
      have hgo : g < ops.size := by rw [hsz]; omega
      have hgd2 := (hop g ops[g] (Array.getElem?_eq_getElem hgo)).2.2.1
      have hyi : yielded ops a.tmps g = some b' := by
        unfold yielded
        rw [Array.getElem?_eq_getElem hgo]
        cases hdg : dst g with
        | none => rw [hdg] at hev; cases hev
        | some d =>
          rw [hdg] at hev
          simp only [Option.bind_some, hgd2, hdg, tmp_bool (show a.eval (.tmp d) = .bool b' from hev)]
      by_cases hbb : b' = b
      · rw [if_pos (by simp [Region.wanted, hgd, hyi, hbb])]
        exact .inl (Oper.wp_mono hfin (hy hbb))
      · rw [if_neg (by simp [Region.wanted, hgd, hyi, hbb])]
        rw [hd]
        exact hfin _ _ (hn hbb)
  · rintro listed a w ⟨hls, hcl, hS, hsa, hde, hsm, hv⟩ hr
    have hall2 := ready_all hls (fun i o ho e he hb => (hop i o ho).2.2.2.2.1 e he hb) hr
    exact hdone (fnL listed) a w hS hsa hde hsm fun i hi => ⟨hall2 i (by rw [hsz]; exact hi), hv i hi (hall2 i (by rw [hsz]; exact hi))⟩
  · simp [fnL, Array.getD] at h
  · have : fnL (Array.replicate ops.size false) = fun _ => false := by funext j; simp [fnL, Array.getD]
    rw [this]
    exact hs
  · simp [fnL, Array.getD] at h
end
end Go.Proofs.YtlibeobmdjeilaaGreatDoor
