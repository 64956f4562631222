/- The executor and what it leans on (PF): told in wip/x. -/
import Derived.Test.YtlibeobmdjeilaaGreatDoorPE
import Derived.Test.YtlibeobmdjeilaaGreatDoorPB
set_option linter.all false
namespace Go.Proofs.YtlibeobmdjeilaaGreatDoor.Ex
open Go Go.RowKit
def loudB (o : Oper) : Bool := !(isQ o.op) && !(isFresh o.op)
theorem countB_congr {p p' : Nat → Bool} : ∀ {l : List Oper} {i : Nat}, (∀ j o, l[j]? = some o → loudB o = true → p (i + j) = p' (i + j)) → countB p l i = countB p' l i
  | [], _, _ => rfl
  | o :: l, i, h => by
    have ih := countB_congr (p := p) (p' := p') (l := l) (i := i + 1) fun j o' h1 h2 => by
      have := h (j + 1) o' (by simpa using h1) h2
      rwa [show i + (j + 1) = i + 1 + j from by omega] at this
    have h0 := h 0 o rfl
    simp only [countB, ih]
    cases hl : loudB o with
    | false =>
      have : (!(isQ o.op) && !(isFresh o.op)) = false := hl
      simp only [this, Bool.false_and]
    | true =>
      have := h0 hl
      rw [Nat.add_zero] at this
      rw [this]
theorem countB_le {p p' : Nat → Bool} : ∀ {l : List Oper} {i : Nat}, (∀ j o, l[j]? = some o → loudB o = true → p (i + j) = true → p' (i + j) = true) → countB p l i ≤ countB p' l i
  | [], _, _ => Nat.le_refl _
  | o :: l, i, h => by
    have ih := countB_le (p := p) (p' := p') (l := l) (i := i + 1) fun j o' h1 h2 => by
      have := h (j + 1) o' (by simpa using h1) h2
      rwa [show i + (j + 1) = i + 1 + j from by omega] at this
    have h0 := h 0 o rfl
    rw [Nat.add_zero] at h0
    simp only [countB]
    cases hl : loudB o with
    | false =>
      have : (!(isQ o.op) && !(isFresh o.op)) = false := hl
      simpa only [this, Bool.false_and] using ih
    | true =>
      have h1 : (!(isQ o.op) && !(isFresh o.op)) = true := hl
      have h2 := h0 hl
      simp only [h1, Bool.true_and]
      cases hp : p i with
      | false => cases p' i <;> dsimp only <;> omega
      | true => rw [h2 hp]; dsimp only; omega
theorem countB_succ {p p' : Nat → Bool} : ∀ {l : List Oper} {i m : Nat} {o : Oper}, l[m]? = some o → loudB o = true → p (i + m) = false → p' (i + m) = true → (∀ j, j ≠ m → p' (i + j) = p (i + j)) → countB p' l i = countB p l i + 1
  | [], _, _, _, h, _, _, _, _ => by simp at h
  | o :: l, i, 0, o', h, hl, h1, h2, h3 => by
    simp at h; subst h
    have ih := countB_congr (p := p') (p' := p) (l := l) (i := i + 1) fun j o' _ _ => by
      have := h3 (j + 1) (by omega)
      rwa [show i + (j + 1) = i + 1 + j from by omega] at this
    have hl' : (!(isQ o.op) && !(isFresh o.op)) = true := hl
    rw [Nat.add_zero] at h1 h2
    simp only [countB, ih, hl', Bool.true_and, h1, h2]
  | o :: l, i, m + 1, o', h, hl, h1, h2, h3 => by
    have ih := countB_succ (p := p) (p' := p') (l := l) (i := i + 1) (m := m) (by simpa using h) hl (by rwa [show i + 1 + m = i + (m + 1) from by omega]) (by rwa [show i + 1 + m = i + (m + 1) from by omega]) fun j hj => by
      have := h3 (j + 1) (by omega)
      rwa [show i + (j + 1) = i + 1 + j from by omega] at this
    have h0 := h3 0 (by omega)
    rw [Nat.add_zero] at h0
    simp only [countB, ih, h0]
    cases (!(isQ o.op) && !(isFresh o.op) && p i) <;> rfl
theorem absorbP_nx {p : Nat → Bool} {nx : Nat} : ∀ (ds : List (Option XO)) (j : Nat) (S : St), (absorbP p nx ds j S).nx = S.nx
  | [], _, _ => rfl
  | d :: ds, j, S => by
    simp only [absorbP]
    split <;> rw [absorbP_nx ds]
theorem absorbP_get {p : Nat → Bool} {nx : Nat} : ∀ (ds : List (Option XO)) (j : Nat) (S : St) (b : Nat), (absorbP p nx ds j S).hp.get b = match S.hp.get b with
    | some o => some o
    | none => if nx + j ≤ b ∧ p (b - nx) = true then (ds[b - nx - j]?).join else none
  | [], j, S, b => by
    simp only [absorbP]
    cases S.hp.get b <;> simp
  | d :: ds, j, S, b => by
    have skip : ∀ (_ : b = nx + j → S.hp.get b = none → ¬ (p j = true ∧ d ≠ none)), (match S.hp.get b with
        | some o => some o
        | none => if nx + (j + 1) ≤ b ∧ p (b - nx) = true then (ds[b - nx - (j + 1)]?).join else none) = match S.hp.get b with
        | some o => some o
        | none => if nx + j ≤ b ∧ p (b - nx) = true then ((d :: ds)[b - nx - j]?).join else none := by
      intro h
      cases hg : S.hp.get b with
      | some o => rfl
      | none =>
        dsimp only
        rcases Nat.lt_trichotomy b (nx + j) with h1 | h1 | h1
        · rw [if_neg (by omega), if_neg (by omega)]
        · have h2 := h h1 hg
          subst h1
          rw [if_neg (by omega)]
          have e1 : nx + j - nx = j := by omega
          rw [e1, Nat.sub_self]
          by_cases hp : p j = true
          · have : d = none := by
              cases d with
              | none => rfl
              | some o => exact absurd ⟨hp, by simp⟩ h2
            subst this
            simp
          · rw [if_neg (fun q => hp q.2)]
        · have e1 : b - nx - j = (b - nx - (j + 1)) + 1 := by omega
          rw [e1, List.getElem?_cons_succ]
          by_cases hp : p (b - nx) = true
          · rw [if_pos ⟨by omega, hp⟩, if_pos ⟨by omega, hp⟩]
          · rw [if_neg (fun q => hp q.2), if_neg (fun q => hp q.2)]
    cases d with
    | none =>
      simp only [absorbP]
      rw [absorbP_get ds]
      exact skip fun _ _ q => q.2 rfl
    | some o =>
      cases hp : p j with
      | false =>
        simp only [absorbP, hp]
        rw [absorbP_get ds]
        exact skip fun _ _ q => (by rw [hp] at q; cases q.1)
      | true =>
        cases hg : S.hp.get (nx + j) with
        | some o' =>
          simp only [absorbP, hp, hg]
          rw [absorbP_get ds]
          exact skip fun q hn => (by subst q; rw [hg] at hn; cases hn)
        | none =>
          simp only [absorbP, hp, hg]
          rw [absorbP_get ds]
          simp only [T.get_set]
          by_cases h1 : b = nx + j
          · subst h1
            have e4 : nx + j - nx = j := by omega
            rw [if_pos rfl, hg, e4, Nat.sub_self]
            dsimp only
            rw [if_pos ⟨Nat.le_refl _, hp⟩]
            rfl
          · rw [if_neg h1]
            exact skip fun q => absurd q h1
theorem absorbP_ext {p : Nat → Bool} {nx : Nat} (es : List (Option XO)) : ∀ (ds : List (Option XO)) (j : Nat) (S : St), (∀ i, j + ds.length ≤ i → p i = false) → absorbP p nx (ds ++ es) j S = absorbP p nx ds j S
  | [], j, S, h => by
    simp only [absorbP, List.nil_append]
    induction es generalizing j with
    | nil => rfl
    | cons e es ih =>
      have := h j (by simp)
      simp only [absorbP, this]
      have h2 := ih (j + 1) fun i hi => h i (by simp at hi ⊢; omega)
      cases e <;> exact h2
  | d :: ds, j, S, h => by
    simp only [List.cons_append, absorbP]
    have ih := fun (S : St) => absorbP_ext (nx := nx) es ds (j + 1) S fun i hi => h i (by simp at hi ⊢; omega)
    split <;> exact ih _
theorem fillS_congr {ms : List Nat} {i : Nat} {all : List Oper} {xs ys : List XV} {fr : Fr} (h : ∀ t, valS ms i all xs fr t = valS ms i all ys fr t) : ∀ l : List Nat, fillS ms i all xs fr l = fillS ms i all ys fr l
  | [] => rfl
  | t :: l => by simp only [fillS, h t, fillS_congr h l]
theorem mkFr_ext {ms : List Nat} {i : Nat} (l : List Oper) (xs ys : List XV) (j : Nat) (fr : Fr) (h : ∀ k, xs.length ≤ k → befM ms i k = false) : mkFr ms i l (xs ++ ys) j fr = mkFr ms i l xs j fr := by
  unfold mkFr
  rw [fillS_congr (xs := xs ++ ys) (ys := xs) fun t => ?_]
  unfold valS
  cases prodOf t l 0 with
  | none => rfl
  | some k =>
    dsimp only
    cases hb : befM ms i k with
    | false => rfl
    | true =>
      have hk : k < xs.length := Nat.lt_of_not_le fun q => by rw [h k q] at hb; cases hb
      dsimp only
      rw [List.getElem?_append_left hk]
theorem mkFr_n {ms : List Nat} {i : Nat} (l : List Oper) (xs : List XV) (j : Nat) (fr : Fr) : (mkFr ms i l xs j fr).n = fr.n := rfl
theorem prodOf_some {t : Nat} : ∀ {l : List Oper} {j k : Nat}, prodOf t l j = some k → ∃ (m : Nat) (o : Oper), k = j + m ∧ l[m]? = some o ∧ o.dst = some t
  | [], _, _, h => by simp only [prodOf] at h; cases h
  | o :: l, j, k, h => by
    have next : prodOf t l (j + 1) = some k → ∃ (m : Nat) (o' : Oper), k = j + m ∧ (o :: l)[m]? = some o' ∧ o'.dst = some t := fun h => by
      obtain ⟨m, o', h1, h2, h3⟩ := prodOf_some h
      exact ⟨m + 1, o', by omega, by simpa using h2, h3⟩
    simp only [prodOf] at h
    cases hd : o.dst with
    | none => rw [hd] at h; exact next h
    | some u =>
      rw [hd] at h; dsimp only at h
      cases hb : Nat.beq u t with
      | true =>
        rw [hb] at h; cases h
        have := bnot_eq.1 hb; subst this
        exact ⟨0, o, rfl, rfl, hd⟩
      | false => rw [hb] at h; exact next h
theorem prodOf_none {t : Nat} : ∀ {l : List Oper} {j : Nat}, prodOf t l j = none → ∀ (m : Nat) (o : Oper), l[m]? = some o → o.dst ≠ some t
  | [], _, _, m, o, hm => by simp at hm
  | o :: l, j, h, m, o', hm => by
    have next : prodOf t l (j + 1) = none → ∀ m', m = m' + 1 → o'.dst ≠ some t := fun h m' e => by
      subst e
      exact prodOf_none h m' o' (by simpa using hm)
    simp only [prodOf] at h
    cases hd : o.dst with
    | none =>
      rw [hd] at h
      cases m with
      | zero => simp at hm; subst hm; rw [hd]; simp
      | succ m => exact next h m rfl
    | some u =>
      rw [hd] at h; dsimp only at h
      cases hb : Nat.beq u t with
      | true => rw [hb] at h; cases h
      | false =>
        rw [hb] at h
        cases m with
        | zero => simp at hm; subst hm; rw [hd]; intro q; cases q; exact bnot_ne.1 hb rfl
        | succ m => exact next h m rfl
theorem maskOf_bit {ms : List Nat} : ∀ {es : List Edge} {j : Nat}, (maskOf ms es).testBit j = true → ∃ e ∈ es, Region.binds .any e = true ∧ (e.on = j ∨ (ms.getD e.on 0).testBit j = true)
  | [], j, h => by simp [maskOf] at h
  | e :: es, j, h => by
    simp only [maskOf] at h
    cases hb : Region.binds .any e with
    | false =>
      rw [hb] at h
      obtain ⟨e', h1, h2⟩ := maskOf_bit h
      exact ⟨e', List.mem_cons_of_mem _ h1, h2⟩
    | true =>
      rw [hb] at h
      dsimp only at h
      rw [Nat.testBit_or, Nat.testBit_or, Bool.or_eq_true, Bool.or_eq_true] at h
      rcases h with (h | h) | h
      · rw [Nat.testBit_two_pow] at h
        exact ⟨e, List.mem_cons_self .., hb, .inl (by simpa using h)⟩
      · exact ⟨e, List.mem_cons_self .., hb, .inr h⟩
      · obtain ⟨e', h1, h2⟩ := maskOf_bit h
        exact ⟨e', List.mem_cons_of_mem _ h1, h2⟩
theorem masks_spec : ∀ (l : List Oper) (ms : List Nat), ms <+: masks l ms ∧ (masks l ms).length = ms.length + l.length ∧ ∀ j o, l[j]? = some o → (masks l ms)[ms.length + j]? = some (maskOf ((masks l ms).take (ms.length + j)) o.after.toList)
  | [], ms => ⟨List.prefix_refl _, rfl, fun j o h => by simp at h⟩
  | o :: l, ms => by
    obtain ⟨h1, h2, h3⟩ := masks_spec l (ms ++ [maskOf ms o.after.toList])
    simp only [masks]
    refine ⟨(List.prefix_append _ _).trans h1, by rw [h2]; simp; omega, fun j o' hj => ?_⟩
    cases j with
    | zero =>
      simp at hj; subst hj
      have h4 : (masks l (ms ++ [maskOf ms o.after.toList])).take ms.length = ms := by
        obtain ⟨r, hr⟩ := h1
        rw [← hr, List.append_assoc, List.take_left']
        rfl
      rw [Nat.add_zero, h4]
      obtain ⟨r, hr⟩ := h1
      rw [← hr]
      simp
    | succ j =>
      have := h3 j o' (by simpa using hj)
      rw [List.length_append, List.length_singleton] at this
      rw [show ms.length + (j + 1) = ms.length + 1 + j from by omega]
      exact this
theorem edges_spec : ∀ {l : List Oper} {i : Nat}, edgesOk l i = true → ∀ j o, l[j]? = some o → ∀ e ∈ o.after.toList, Region.binds .any e = true → e.on < i + j
  | [], _, _, j, o, h => by simp at h
  | o :: l, i, h, j, o', hj => by
    simp only [edgesOk, Bool.and_eq_true] at h
    cases j with
    | zero =>
      simp at hj; subst hj
      intro e he hb
      have := List.all_eq_true.1 h.1 e he
      rw [hb] at this
      simp at this
      omega
    | succ j =>
      intro e he hb
      have := edges_spec h.2 j o' (by simpa using hj) e he hb
      omega
/-- What comes before i comes before it by an edge. -/
theorem bef_cases {all : List Oper} {i j : Nat} (h : befM (masks all []) i j = true) : ∃ o, all[i]? = some o ∧ ∃ e ∈ o.after.toList, Region.binds .any e = true ∧ (e.on = j ∨ (e.on < i ∧ befM (masks all []) e.on j = true)) := by
  obtain ⟨_, h2, h3⟩ := masks_spec all []
  simp only [List.length_nil, Nat.zero_add] at h2 h3
  unfold befM at h
  cases ho : all[i]? with
  | none =>
    have hn : (masks all []).length ≤ i := by rw [h2]; exact List.getElem?_eq_none_iff.1 ho
    rw [List.getD_eq_getElem?_getD, List.getElem?_eq_none hn] at h
    simp at h
  | some o =>
    have h4 := h3 i o ho
    rw [List.getD_eq_getElem?_getD, h4, Option.getD_some] at h
    obtain ⟨e, h5, h6, h7⟩ := maskOf_bit h
    refine ⟨o, rfl, e, h5, h6, ?_⟩
    rcases h7 with h7 | h7
    · exact .inl h7
    · refine .inr ?_
      rw [List.getD_eq_getElem?_getD, List.getElem?_take] at h7
      by_cases hlt : e.on < i
      · rw [if_pos hlt] at h7
        exact ⟨hlt, by unfold befM; rw [List.getD_eq_getElem?_getD]; exact h7⟩
      · rw [if_neg hlt] at h7
        simp at h7
theorem bef_lt {all : List Oper} (he : edgesOk all 0 = true) : ∀ i j, befM (masks all []) i j = true → j < i := by
  intro i
  induction i using Nat.strongRecOn with
  | _ i ih =>
    intro j h
    obtain ⟨o, h1, e, h2, h3, h4⟩ := bef_cases h
    have h5 := edges_spec he i o h1 e h2 h3
    rw [Nat.zero_add] at h5
    rcases h4 with rfl | ⟨h6, h7⟩
    · exact h5
    · exact Nat.lt_trans (ih e.on h6 j h7) h6
theorem chain_spec {ms : List Nat} : ∀ {l : List Oper} {i : Nat} {js : List Nat}, chainOk ms l i js = true → ∀ m o, l[m]? = some o → loudB o = true → (∀ j ∈ js, befM ms (i + m) j = true) ∧ ∀ k o', k < m → l[k]? = some o' → loudB o' = true → befM ms (i + m) (i + k) = true
  | [], _, _, _, m, o, h, _ => by simp at h
  | o :: l, i, js, h, m, o', hm, hl => by
    simp only [chainOk] at h
    cases hq : loudB o with
    | false =>
      have : (isQ o.op || isFresh o.op) = true := by
        have h1 : (!(isQ o.op) && !(isFresh o.op)) = false := hq
        cases h2 : isQ o.op <;> cases h3 : isFresh o.op <;> rw [h2, h3] at h1 <;> first | rfl | cases h1
      rw [this] at h
      cases m with
      | zero => simp at hm; subst hm; rw [hl] at hq; cases hq
      | succ m =>
        obtain ⟨h1, h2⟩ := chain_spec h m o' (by simpa using hm) hl
        rw [show i + (m + 1) = i + 1 + m from by omega]
        refine ⟨h1, fun k o2 hk ho2 hl2 => ?_⟩
        cases k with
        | zero => simp at ho2; subst ho2; rw [hl2] at hq; cases hq
        | succ k => have := h2 k o2 (by omega) (by simpa using ho2) hl2; rwa [show i + (k + 1) = i + 1 + k from by omega]
    | true =>
      have : (isQ o.op || isFresh o.op) = false := by
        have h1 : (!(isQ o.op) && !(isFresh o.op)) = true := hq
        cases h2 : isQ o.op <;> cases h3 : isFresh o.op <;> rw [h2, h3] at h1 <;> first | rfl | cases h1
      rw [this] at h
      dsimp only at h
      rw [Bool.and_eq_true] at h
      cases m with
      | zero => exact ⟨fun j hj => List.all_eq_true.1 h.1 j hj, fun k o2 hk => by omega⟩
      | succ m =>
        obtain ⟨h1, h2⟩ := chain_spec h.2 m o' (by simpa using hm) hl
        rw [show i + (m + 1) = i + 1 + m from by omega]
        refine ⟨fun j hj => h1 j (List.mem_cons_of_mem _ hj), fun k o2 hk ho2 hl2 => ?_⟩
        cases k with
        | zero => exact h1 i (List.mem_cons_self ..)
        | succ k => have := h2 k o2 (by omega) (by simpa using ho2) hl2; rwa [show i + (k + 1) = i + 1 + k from by omega]
theorem dsts_spec {n : Nat} : ∀ {l : List Oper} {ts : List Nat}, dstsOk n l ts = true → ∀ (j : Nat) (o : Oper) (t : Nat), l[j]? = some o → o.dst = some t → t < n ∧ t ∉ ts ∧ ∀ (k : Nat) (o' : Oper), l[k]? = some o' → o'.dst = some t → k = j
  | [], _, _, j, o, t, h, _ => by simp at h
  | o :: l, ts, h, j, o', t, hj, ht => by
    simp only [dstsOk] at h
    cases hd : o.dst with
    | none =>
      rw [hd] at h
      cases j with
      | zero => simp at hj; subst hj; rw [hd] at ht; cases ht
      | succ j =>
        obtain ⟨h1, h2, h3⟩ := dsts_spec h j o' t (by simpa using hj) ht
        refine ⟨h1, h2, fun k o2 hk hk2 => ?_⟩
        cases k with
        | zero => simp at hk; subst hk; rw [hd] at hk2; cases hk2
        | succ k => rw [h3 k o2 (by simpa using hk) hk2]
    | some u =>
      rw [hd] at h
      simp only [Bool.and_eq_true] at h
      have hu : u ∉ ts := fun q => by
        have h4 := h.1.2
        rw [Bool.not_eq_true', List.any_eq_false] at h4
        exact h4 u q (bnot_eq.2 rfl)
      cases j with
      | zero =>
        simp at hj; subst hj
        rw [hd] at ht; cases ht
        refine ⟨blt_iff.1 h.1.1, hu, fun k o2 hk hk2 => ?_⟩
        cases k with
        | zero => rfl
        | succ k =>
          have := (dsts_spec h.2 k o2 _ (by simpa using hk) hk2).2.1
          exact absurd (List.mem_cons_self ..) this
      | succ j =>
        obtain ⟨h1, h2, h3⟩ := dsts_spec h.2 j o' t (by simpa using hj) ht
        refine ⟨h1, fun q => h2 (List.mem_cons_of_mem _ q), fun k o2 hk hk2 => ?_⟩
        cases k with
        | zero => simp at hk; subst hk; rw [hd] at hk2; cases hk2; exact absurd (List.mem_cons_self ..) h2
        | succ k => rw [h3 k o2 (by simpa using hk) hk2]
theorem names_spec {nx : Nat} {S S' : St} : ∀ {n : Nat}, namesOk nx S S' n = true → ∀ j, j < n → (S'.hp.get (nx + j) = none ↔ S.hp.get (nx + j) = none)
  | 0, _, j, h => by omega
  | n + 1, h, j, hj => by
    simp only [namesOk, Bool.and_eq_true] at h
    by_cases hjn : j = n
    · subst hjn
      have h1 := h.1
      cases h2 : S.hp.get (nx + j) <;> cases h3 : S'.hp.get (nx + j) <;> rw [h2, h3] at h1 <;> simp at h1 <;> simp
    · exact names_spec h.2 j (by omega)
end Go.Proofs.YtlibeobmdjeilaaGreatDoor.Ex
namespace Go.Proofs.YtlibeobmdjeilaaGreatDoor.Ex
open Go Go.RowKit
def kk (all : List Oper) (i : Nat) : Nat := countB (fun j => Nat.blt j i) all 0
section
variable {P : Program} {C : Ctx} {call yld : CallK} {fr0 : Fr} {nx : Nat} {all : List Oper} {ms : List Nat}
/-- What the trace tells of operation j. -/
def Tr (C : Ctx) (call yld : CallK) (fr0 : Fr) (nx : Nat) (all : List Oper) (ms : List Nat) (R : Run) (j : Nat) (o : Oper) : Prop :=
  (wantedB (mkFr ms j all R.xs 0 fr0) all o = some false ∧ R.xs[j]? = some (.tup []) ∧ R.ds[j]? = some none ∧ (loudB o = true → ∃ S, R.Ss[kk all j]? = some S ∧ R.Ss[kk all j + 1]? = some S)) ∨
  (wantedB (mkFr ms j all R.xs 0 fr0) all o = some true ∧ isQ o.op = true ∧ R.ds[j]? = some none ∧ ∃ x, R.xs[j]? = some x) ∨
  (wantedB (mkFr ms j all R.xs 0 fr0) all o = some true ∧ isQ o.op = false ∧ isFresh o.op = true ∧ ∃ v ob, freshV C (mkFr ms j all R.xs 0 fr0) (nx + j) o.op = some (v, ob) ∧ R.xs[j]? = some v ∧ R.ds[j]? = some (some ob)) ∨
  (wantedB (mkFr ms j all R.xs 0 fr0) all o = some true ∧ loudB o = true ∧ ∃ S v S', R.Ss[kk all j]? = some S ∧ xoper C call yld (mkFr ms j all R.xs 0 fr0) (absorb ms j nx R.ds S) o.op = some (v, S') ∧ namesOk nx (absorb ms j nx R.ds S) S' all.length = true ∧ R.xs[j]? = some v ∧ R.ds[j]? = some none ∧ R.Ss[kk all j + 1]? = some S')
theorem get_mid {α : Type} {l r : List α} {x : α} {i : Nat} (h : l.length = i) : (l ++ [x] ++ r)[i]? = some x := by
  subst h
  rw [List.append_assoc, List.getElem?_append_right (Nat.le_refl _), Nat.sub_self]
  rfl
theorem kk_loud {i : Nat} {o : Oper} (h : all[i]? = some o) (hl : loudB o = true) : kk all (i + 1) = kk all i + 1 := by
  unfold kk
  refine countB_succ (m := i) h hl ?_ ?_ fun j hj => ?_
  · rw [Nat.zero_add, ← Bool.not_eq_true, blt_iff]; omega
  · rw [Nat.zero_add, blt_iff]; omega
  · rw [Nat.zero_add, Bool.eq_iff_iff, blt_iff, blt_iff]; omega
theorem kk_not {i : Nat} {o : Oper} (h : all[i]? = some o) (hl : loudB o = false) : kk all (i + 1) = kk all i := by
  unfold kk
  refine countB_congr fun j o' h1 h2 => ?_
  rw [Nat.zero_add, Bool.eq_iff_iff, blt_iff, blt_iff]
  have : j ≠ i := fun q => by subst q; rw [h] at h1; cases h1; rw [hl] at h2; cases h2
  omega
theorem runD_ok (hb : ∀ i j, befM ms i j = true → j < i) : ∀ (l : List Oper) (i : Nat) (R : Run) (S : St) (R' : Run), all.drop i = l → i ≤ all.length → R.xs.length = i → R.ds.length = i → R.Ss.length = kk all i + 1 → R.Ss[kk all i]? = some S → runD C call yld fr0 nx all ms l i R S = some R' →
    (∃ xs ds Ss, R' = ⟨R.xs ++ xs, R.ds ++ ds, R.Ss ++ Ss⟩) ∧ R'.xs.length = all.length ∧ R'.ds.length = all.length ∧ R'.Ss.length = kk all all.length + 1 ∧ ∀ j o, i ≤ j → all[j]? = some o → Tr C call yld fr0 nx all ms R' j o
  | [], i, R, S, R', hl, hil, h1, h2, h3, h4, h => by
    simp only [runD] at h; cases h
    have hi : i = all.length := by
      have := congrArg List.length hl
      rw [List.length_drop, List.length_nil] at this
      omega
    subst hi
    refine ⟨⟨[], [], [], by simp⟩, h1, h2, h3, fun j o hj ho => ?_⟩
    have := (List.getElem?_eq_some_iff.1 ho).1
    omega
  | o :: l, i, R, S, R', hl, hil, h1, h2, h3, h4, h => by
    have hi : all[i]? = some o := by
      have h0 : (all.drop i)[0]? = some o := by rw [hl]; rfl
      rw [List.getElem?_drop] at h0
      simpa using h0
    have hlt : i < all.length := (List.getElem?_eq_some_iff.1 hi).1
    have hl' : all.drop (i + 1) = l := by rw [← List.drop_drop, hl]; rfl
    have hbf : ∀ k, i ≤ k → befM ms i k = false := fun k hk => by
      cases q : befM ms i k with
      | false => rfl
      | true => have := hb i k q; omega
    -- one step
    have stp : ∀ (v : XV) (d : Option XO) (Ss1 : List St) (S1 : St), (R.Ss ++ Ss1).length = kk all (i + 1) + 1 → (R.Ss ++ Ss1)[kk all (i + 1)]? = some S1 → runD C call yld fr0 nx all ms l (i + 1) ⟨R.xs ++ [v], R.ds ++ [d], R.Ss ++ Ss1⟩ S1 = some R' →
        (∀ R2 : Run, mkFr ms i all R2.xs 0 fr0 = mkFr ms i all R.xs 0 fr0 → (∀ T, absorb ms i nx R2.ds T = absorb ms i nx R.ds T) → R2.xs[i]? = some v → R2.ds[i]? = some d → R2.Ss[kk all i]? = some S → (∀ T, Ss1 = [T] → R2.Ss[kk all i + 1]? = some T) → Tr C call yld fr0 nx all ms R2 i o) →
        (∃ xs ds Ss, R' = ⟨R.xs ++ xs, R.ds ++ ds, R.Ss ++ Ss⟩) ∧ R'.xs.length = all.length ∧ R'.ds.length = all.length ∧ R'.Ss.length = kk all all.length + 1 ∧ ∀ j o, i ≤ j → all[j]? = some o → Tr C call yld fr0 nx all ms R' j o := by
      intro v d Ss1 S1 h5 h6 h7 h8
      obtain ⟨⟨xs, ds, Ss, rfl⟩, h9, h10, h11, h12⟩ := runD_ok hb l (i + 1) ⟨R.xs ++ [v], R.ds ++ [d], R.Ss ++ Ss1⟩ S1 R' hl' hlt (by simp [h1]) (by simp [h2]) h5 h6 h7
      refine ⟨⟨[v] ++ xs, [d] ++ ds, Ss1 ++ Ss, by simp⟩, h9, h10, h11, fun j o' hj ho => ?_⟩
      by_cases hji : j = i
      · subst hji
        rw [hi] at ho; cases ho
        refine h8 _ ?_ (fun T => ?_) (get_mid h1) (get_mid h2) ?_ fun T hT => ?_
        · show mkFr ms j all (R.xs ++ [v] ++ xs) 0 fr0 = _
          rw [List.append_assoc]
          exact mkFr_ext all R.xs ([v] ++ xs) 0 fr0 fun k hk => hbf k (by omega)
        · show absorbP (befM ms j) nx (R.ds ++ [d] ++ ds) 0 T = absorbP (befM ms j) nx R.ds 0 T
          rw [List.append_assoc]
          exact absorbP_ext ([d] ++ ds) R.ds 0 T fun k hk => hbf k (by omega)
        · show (R.Ss ++ Ss1 ++ Ss)[kk all j]? = some S
          rw [List.append_assoc, List.getElem?_append_left (by omega)]
          exact h4
        · subst hT
          exact get_mid h3
      · exact h12 j o' (by omega) ho
    simp only [runD] at h
    cases hw : wantedB (mkFr ms i all R.xs 0 fr0) all o with
    | none => rw [hw] at h; cases h
    | some b =>
      rw [hw] at h
      cases b with
      | false =>
        dsimp only at h
        cases hq : (isQ o.op || isFresh o.op) with
        | true =>
          rw [hq] at h
          have hn : loudB o = false := by
            show (!(isQ o.op) && !(isFresh o.op)) = false
            cases h5 : isQ o.op <;> cases h6 : isFresh o.op <;> rw [h5, h6] at hq <;> first | rfl | cases hq
          have e1 := kk_not hi hn
          refine stp (.tup []) none [] S (by rw [e1, List.append_nil]; exact h3) (by rw [e1, List.append_nil]; exact h4) (by rw [List.append_nil]; exact h) fun R2 g1 g2 g3 g4 g5 g6 => .inl ⟨by rw [g1]; exact hw, g3, g4, fun q => by rw [hn] at q; cases q⟩
        | false =>
          rw [hq] at h
          have hn : loudB o = true := by
            show (!(isQ o.op) && !(isFresh o.op)) = true
            cases h5 : isQ o.op <;> cases h6 : isFresh o.op <;> rw [h5, h6] at hq <;> first | rfl | cases hq
          have e1 := kk_loud hi hn
          refine stp (.tup []) none [S] S (by rw [e1]; simp [h3]) (by rw [e1, ← h3]; simp) h fun R2 g1 g2 g3 g4 g5 g6 => .inl ⟨by rw [g1]; exact hw, g3, g4, fun _ => ⟨S, g5, g6 S rfl⟩⟩
      | true =>
        dsimp only at h
        cases hq : isQ o.op with
        | true =>
          rw [hq] at h; dsimp only at h
          have hn : loudB o = false := by
            show (!(isQ o.op) && !(isFresh o.op)) = false
            rw [hq]; rfl
          have e1 := kk_not hi hn
          cases hx : xval C (mkFr ms i all R.xs 0 fr0) (absorb ms i nx R.ds S) o.op with
          | none => rw [hx] at h; cases h
          | some v =>
            rw [hx] at h
            refine stp v none [] S (by rw [e1, List.append_nil]; exact h3) (by rw [e1, List.append_nil]; exact h4) (by rw [List.append_nil]; exact h) fun R2 g1 g2 g3 g4 g5 g6 => .inr (.inl ⟨by rw [g1]; exact hw, hq, g4, v, g3⟩)
        | false =>
          rw [hq] at h
          cases hf : isFresh o.op with
          | true =>
            rw [hf] at h; dsimp only at h
            have hn : loudB o = false := by
              show (!(isQ o.op) && !(isFresh o.op)) = false
              rw [hq, hf]; rfl
            have e1 := kk_not hi hn
            cases hx : freshV C (mkFr ms i all R.xs 0 fr0) (nx + i) o.op with
            | none => rw [hx] at h; cases h
            | some y =>
              obtain ⟨v, ob⟩ := y
              rw [hx] at h
              refine stp v (some ob) [] S (by rw [e1, List.append_nil]; exact h3) (by rw [e1, List.append_nil]; exact h4) (by rw [List.append_nil]; exact h) fun R2 g1 g2 g3 g4 g5 g6 => .inr (.inr (.inl ⟨by rw [g1]; exact hw, hq, hf, v, ob, by rw [g1]; exact hx, g3, g4⟩))
          | false =>
            rw [hf] at h; dsimp only at h
            have hn : loudB o = true := by
              show (!(isQ o.op) && !(isFresh o.op)) = true
              rw [hq, hf]; rfl
            have e1 := kk_loud hi hn
            cases hx : xoper C call yld (mkFr ms i all R.xs 0 fr0) (absorb ms i nx R.ds S) o.op with
            | none => rw [hx] at h; cases h
            | some y =>
              obtain ⟨v, S'⟩ := y
              rw [hx] at h; dsimp only at h
              cases hk : namesOk nx (absorb ms i nx R.ds S) S' all.length with
              | false => rw [hk] at h; cases h
              | true =>
                rw [hk] at h
                refine stp v none [S'] S' (by rw [e1]; simp [h3]) (by rw [e1, ← h3]; simp) h fun R2 g1 g2 g3 g4 g5 g6 => .inr (.inr (.inr ⟨by rw [g1]; exact hw, hn, S, v, S', g5, by rw [g1, g2]; exact hx, by rw [g2]; exact hk, g3, g4, g6 S' rfl⟩))
theorem quiet_spec {R : Run} : ∀ {l : List Oper} {i : Nat}, quietOk C fr0 nx all ms R l i = true → ∀ m o, l[m]? = some o → isQ o.op = true → wantedB (mkFr ms (i + m) all R.xs 0 fr0) all o = some true →
    ∀ k S x, R.Ss[k]? = some S → countB (fun j => befM ms (i + m) j) all 0 ≤ k → k ≤ countB (fun j => !(befM ms j (i + m))) all 0 → R.xs[i + m]? = some x → xval C (mkFr ms (i + m) all R.xs 0 fr0) (absorb ms (i + m) nx R.ds S) o.op = some x
  | [], _, _, m, o, hm => by simp at hm
  | o :: l, i, h, m, o', hm => by
    simp only [quietOk, Bool.and_eq_true] at h
    cases m with
    | succ m =>
      rw [show i + (m + 1) = i + 1 + m from by omega]
      exact quiet_spec h.2 m o' (by simpa using hm)
    | zero =>
      simp at hm; subst hm
      intro hq hw k S x hS hk1 hk2 hx
      have h1 := h.1
      rw [Nat.add_zero] at hw hk1 hk2 hx ⊢
      rw [hq, hw] at h1
      dsimp only at h1
      have hmem : S ∈ (R.Ss.take (countB (fun j => !(befM ms j i)) all 0 + 1)).drop (countB (fun j => befM ms i j) all 0) := by
        refine List.mem_of_getElem? (i := k - countB (fun j => befM ms i j) all 0) ?_
        rw [List.getElem?_drop, List.getElem?_take, show countB (fun j => befM ms i j) all 0 + (k - countB (fun j => befM ms i j) all 0) = k from by omega, if_pos (by omega)]
        exact hS
      have h2 := List.all_eq_true.1 h1 S hmem
      cases hv : xval C (mkFr ms i all R.xs 0 fr0) (absorb ms i nx R.ds S) o.op with
      | none => rw [hv] at h2; cases h2
      | some v =>
        rw [hv, hx] at h2
        rw [xv_eq h2]
theorem set_get (fr : Fr) (d : Option Nat) (v : Option XV) (t : Nat) : (fr.set d v).tm.get t = if d = some t ∧ t < fr.n then v else fr.tm.get t := by
  cases d with
  | none => simp [Fr.set]
  | some u =>
    unfold Fr.set
    dsimp only
    cases hb : Nat.blt u fr.n with
    | false =>
      have hnb : ¬ u < fr.n := fun q => by rw [blt_iff.2 q] at hb; cases hb
      rw [if_neg (fun q => by cases q.1; exact hnb q.2)]
    | true =>
      have hlt := blt_iff.1 hb
      simp only [T.get_set]
      by_cases q : t = u
      · subst q; rw [if_pos rfl, if_pos ⟨rfl, hlt⟩]
      · rw [if_neg q, if_neg (fun q2 => q (by cases q2.1; rfl))]
theorem set_n (fr : Fr) (d : Option Nat) (v : Option XV) : (fr.set d v).n = fr.n := by
  cases d with
  | none => rfl
  | some t => unfold Fr.set; dsimp only; cases Nat.blt t fr.n <;> rfl
theorem mkFr_slots {i : Nat} {p : Nat → XV → Prop} {xs : List XV} (hset : ∀ (j : Nat) (o : Oper) (t : Nat) (x : XV), all[j]? = some o → o.dst = some t → befM ms i j = true → xs[j]? = some x → p t x) (hkeep : ∀ (j : Nat) (o : Oper) (t : Nat) (y : XV), all[j]? = some o → o.dst = some t → (befM ms j i = true ∨ j = i) → fr0.tm.get t = some y → p t y)
    (hfree : ∀ (t : Nat) (y : XV), (∀ (k : Nat) (o : Oper), all[k]? = some o → o.dst ≠ some t) → fr0.tm.get t = some y → p t y) (t : Nat) (y : XV) (h : (mkFr ms i all xs 0 fr0).tm.get t = some y) : p t y := by
  change (fillS ms i all xs fr0 (slotsOf all i)).get t = some y at h
  generalize slotsOf all i = l at h
  induction l with
  | nil => rw [show fillS ms i all xs fr0 [] = .leaf from rfl, T.get_leaf] at h; cases h
  | cons u l ih =>
    simp only [fillS, T.get_set] at h
    by_cases q : t = u
    · subst q
      rw [if_pos rfl] at h
      unfold valS at h
      cases hp : prodOf t all 0 with
      | none => rw [hp] at h; exact hfree t y (fun k o hk => prodOf_none hp k o hk) h
      | some j =>
        rw [hp] at h; dsimp only at h
        obtain ⟨m, o, h1, h2, h3⟩ := prodOf_some hp
        rw [Nat.zero_add] at h1; subst h1
        cases hb : befM ms i j with
        | true => rw [hb] at h; exact hset j o t y h2 h3 hb h
        | false =>
          rw [hb] at h; dsimp only at h
          cases hb2 : (befM ms j i || Nat.beq j i) with
          | true =>
            rw [hb2] at h
            rw [Bool.or_eq_true] at hb2
            exact hkeep j o t y h2 h3 (hb2.imp id bnot_eq.1) h
          | false => rw [hb2] at h; cases h
    · rw [if_neg q] at h
      exact ih h
theorem setAll_n : ∀ (l : List Oper) (xs : List XV) (fr : Fr), (setAll l xs fr).n = fr.n
  | [], _, _ => rfl
  | _ :: _, [], _ => rfl
  | o :: l, x :: xs, fr => by simp only [setAll]; rw [setAll_n l xs, set_n]
theorem setAll_slots {p : Nat → XV → Prop} {xs : List XV} (hds : dstsOk fr0.n all [] = true) (hxl : xs.length = all.length) (hset : ∀ (j : Nat) (o : Oper) (t : Nat) (x : XV), all[j]? = some o → o.dst = some t → xs[j]? = some x → p t x) :
    ∀ (l : List Oper) (j : Nat) (fr : Fr), all.drop j = l → fr.n = fr0.n → (∀ t y, fr.tm.get t = some y → p t y ∨ ∃ (k : Nat) (o : Oper), j ≤ k ∧ all[k]? = some o ∧ o.dst = some t) → ∀ t y, (setAll l (xs.drop j) fr).tm.get t = some y → p t y
  | [], j, fr, hl, hn, h, t, y, hy => by
    rcases h t y hy with h1 | ⟨k, o, h2, h3, h4⟩
    · exact h1
    · have := congrArg List.length hl
      rw [List.length_drop, List.length_nil] at this
      have := (List.getElem?_eq_some_iff.1 h3).1
      omega
  | o :: l, j, fr, hl, hn, h, t, y, hy => by
    have hj : all[j]? = some o := by
      have h0 : (all.drop j)[0]? = some o := by rw [hl]; rfl
      rw [List.getElem?_drop] at h0
      simpa using h0
    have hl' : all.drop (j + 1) = l := by rw [← List.drop_drop, hl]; rfl
    have hjl := (List.getElem?_eq_some_iff.1 hj).1
    obtain ⟨x, hx⟩ : ∃ x, xs[j]? = some x := ⟨xs[j], List.getElem?_eq_getElem (by omega)⟩
    have hxd : xs.drop j = x :: xs.drop (j + 1) := by
      rw [List.drop_eq_getElem_cons (by omega)]
      rw [List.getElem?_eq_getElem (by omega)] at hx
      cases hx; rfl
    rw [hxd] at hy
    simp only [setAll] at hy
    refine setAll_slots hds hxl hset l (j + 1) _ hl' (by rw [set_n]; exact hn) (fun u z hz => ?_) t y hy
    rw [set_get] at hz
    split at hz
    · rename_i hq
      cases hz
      exact .inl (hset j o u _ hj hq.1 hx)
    · rename_i hq
      rcases h u z hz with h5 | ⟨k, o', h6, h7, h8⟩
      · exact .inl h5
      · refine .inr ⟨k, o', ?_, h7, h8⟩
        have : k ≠ j := fun q => by
          subst q; rw [hj] at h7; cases h7
          exact hq ⟨h8, by rw [hn]; exact (dsts_spec hds k o u hj h8).1⟩
        omega
end
section
variable {s t : Env} {S : St} {w : World}
theorem Rel.sw {fl : Nat} {q : Gq} (h : Rel ⟨fl, q⟩ s S w) {pr : Nat → Prop} {wp : World} {rs : Nat → Prop} (h1 : ∀ k, pr k → k < w.heap.size ∧ w.heap[k]? = wp.heap[k]?) (h2 : ∀ b o e, S.hp.get b = some o → s b = some e → fl ≤ b → ¬ pr e.blk) (h3 : ∀ b, rs b → s b = none ∧ b < S.nx) :
    Rel ⟨fl, ⟨q.nf, q.wf, pr, wp, rs⟩⟩ s S w := ⟨h.dom, h.obj, h.new, h.blw, h.nf, h.glb, h.fl, h1, h2, h.ali, h3, h.zero⟩
theorem Rel.nxup {g : Gh} (h : Rel g s S w) (k : Nat) : Rel g s ⟨S.hp, S.nx + k⟩ w :=
  ⟨fun b e hb => Nat.lt_of_lt_of_le (h.dom b e hb) (Nat.le_add_right _ _), h.obj, h.new, h.blw, h.nf, h.glb, Nat.le_trans h.fl (Nat.le_add_right _ _), h.pr, h.npr, h.ali, fun b hb => let ⟨h1, h2⟩ := h.res b hb; ⟨h1, Nat.lt_of_lt_of_le h2 (Nat.le_add_right _ _)⟩, h.zero⟩
/-- Blocks that lie in the world get names. -/
theorem Rel.grown {g : Gh} (h : Rel g s S w) {S' : St} (hnx : S'.nx = S.nx) (hS : ∀ b o, S'.hp.get b = some o → S.hp.get b = some o ∨ (S.hp.get b = none ∧ ∃ e ob, s b = some e ∧ w.heap[e.blk]? = some ob ∧ OR s o e ob ∧ ¬ g.q.pr e.blk ∧ (∀ b' o' e', S.hp.get b' = some o' → s b' = some e' → e'.blk ≠ e.blk) ∧ ∀ b' o' e', b' ≠ b → S'.hp.get b' = some o' → S.hp.get b' = none → s b' = some e' → e'.blk ≠ e.blk)) : Rel g s S' w := by
  refine ⟨by rw [hnx]; exact h.dom, ?_, h.new, h.blw, h.nf, h.glb, by rw [hnx]; exact h.fl, h.pr, ?_, ?_, by rw [hnx]; exact h.res, h.zero⟩
  · intro b o hb
    rcases hS b o hb with h1 | ⟨_, e, ob, h2, h3, h4, _⟩
    · exact h.obj b o h1
    · exact ⟨e, ob, h2, h3, h4⟩
  · intro b o e hb he hf
    rcases hS b o hb with h1 | ⟨_, e', ob, h2, h3, h4, h5, _⟩
    · exact h.npr b o e h1 he hf
    · rw [he] at h2; cases h2; exact h5
  · intro b b' o o' e e' hne hb hb' he he' hq
    rcases hS b o hb with h1 | ⟨h1, e1, ob, h2, h3, h4, h5, h6, h7⟩
    · rcases hS b' o' hb' with h8 | ⟨h8, e2, ob2, h9, h10, h11, h12, h13, h14⟩
      · exact h.ali b b' o o' e e' hne h1 h8 he he' hq
      · rw [he'] at h9; cases h9
        exact absurd hq (h13 b o e h1 he)
    · rw [he] at h2; cases h2
      rcases hS b' o' hb' with h8 | ⟨h8, _⟩
      · exact absurd hq.symm (h6 b' o' e' h8 he')
      · exact absurd hq.symm (h7 b' o' e' (Ne.symm hne) hb' h8 he')
/-- A new block gets a name that was kept for it; what it is is not told yet. -/
theorem Rel.name {g : Gh} (h : Rel g s S w) {N : Nat} (hN : N < S.nx) (hn : s N = none) (hg : S.hp.get N = none) (hr : ¬ g.q.rs N) (ob : Obj) : ∃ t : Env, s.le t ∧ t N = some ⟨w.heap.size, 0, 0⟩ ∧ (∀ b, b ≠ N → t b = s b) ∧ Rel g t S (w.alloc ob) := by
  have hle := Env.upd_le hn ⟨w.heap.size, 0, 0⟩
  have hoth : ∀ b, b ≠ N → (fun b => if b = N then some (⟨w.heap.size, 0, 0⟩ : E) else s b) b = s b := fun b hb => if_neg hb
  have hne : ∀ b o, S.hp.get b = some o → b ≠ N := fun b o hb q => by rw [q, hg] at hb; cases hb
  refine ⟨_, hle, if_pos rfl, hoth, ?_, ?_, ?_, h.blw.alloc (Nat.le_trans h.nf h.blw.size) ob, h.nf, fun k hk => ?_, h.fl, fun k hk => ?_, ?_, ?_, fun b hb => ?_, let ⟨tot, h1⟩ := h.zero; ⟨tot, hle _ _ h1⟩⟩
  · intro b e hb
    by_cases q : b = N
    · omega
    · rw [if_neg q] at hb; exact h.dom b e hb
  · intro b o hb
    obtain ⟨e, ob', h1, h2, h3⟩ := h.obj b o hb
    have hlt := h.lt hb h1
    exact ⟨e, ob', hle _ _ h1, by rw [heap_alloc_old w ob hlt]; exact h2, h3.mono hle⟩
  · intro b e hb hf
    by_cases q : b = N
    · rw [if_pos q] at hb; cases hb; exact Nat.le_trans h.nf h.blw.size
    · rw [if_neg q] at hb; exact h.new b e hb hf
  · obtain ⟨e1, h1, h2⟩ := h.glb k hk
    exact ⟨e1, hle _ _ h1, h2⟩
  · obtain ⟨h1, h2⟩ := h.pr k hk
    exact ⟨by rw [World.size_alloc]; omega, by rw [heap_alloc_old w ob h1]; exact h2⟩
  · intro b o e hb he hf
    rw [if_neg (hne b o hb)] at he
    exact h.npr b o e hb he hf
  · intro b b' o o' e e' h1 hb hb' he he' hq
    rw [if_neg (hne b o hb)] at he
    rw [if_neg (hne b' o' hb')] at he'
    exact h.ali b b' o o' e e' h1 hb hb' he he' hq
  · obtain ⟨h1, h2⟩ := h.res b hb
    refine ⟨?_, h2⟩
    show (if b = N then _ else s b) = none
    rw [if_neg (fun q => hr (by rw [← q]; exact hb))]
    exact h1
end
end Go.Proofs.YtlibeobmdjeilaaGreatDoor.Ex
namespace Go.Proofs.YtlibeobmdjeilaaGreatDoor.Ex
open Go
section
variable {C : Ctx} {call yld : CallK} {f g : Fr} {S : St} {fl : Nat}
theorem memFree_xval {o : Op} (h : memFree o = true) (S S' : St) : xval C f S o = xval C f S' o := by
  cases o <;> first | rfl | (cases h; done) | skip
  rename_i fn as cs
  cases fn <;> rfl
def Ag (f g : Fr) (l : List Operand) : Prop := ∀ t ∈ tmpsOf l, f.tm.get t = g.tm.get t
theorem tmpsOf_mem {t : Nat} : ∀ {l : List Operand}, Operand.tmp t ∈ l → t ∈ tmpsOf l
  | [], h => by cases h
  | x :: l, h => by
    rcases List.mem_cons.1 h with rfl | h
    · exact List.mem_cons_self ..
    · have := tmpsOf_mem h
      cases x <;> simp only [tmpsOf] <;> first | exact List.mem_cons_of_mem _ this | exact this
theorem Ag.ev {l : List Operand} (h : Ag f g l) {x : Operand} (hx : x ∈ l) : f.ev fl x = g.ev fl x := by
  cases x with
  | tmp t => exact h t (tmpsOf_mem hx)
  | _ => rfl
theorem Ag.evs {l : List Operand} (h : Ag f g l) : ∀ {m : List Operand}, (∀ x ∈ m, x ∈ l) → f.evs fl m = g.evs fl m
  | [], _ => rfl
  | x :: m, hm => by
    simp only [Fr.evs, h.ev (fl := fl) (hm x (List.mem_cons_self ..)), h.evs (m := m) fun y hy => hm y (List.mem_cons_of_mem _ hy)]
theorem Ag.evp {l : List Operand} (h : Ag f g l) : ∀ {m : List (Nat × Operand)}, (∀ x ∈ m, x.2 ∈ l) → f.evp fl m = g.evp fl m
  | [], _ => rfl
  | (i, x) :: m, hm => by
    simp only [Fr.evp, h.ev (fl := fl) (x := x) (hm (i, x) (List.mem_cons_self ..)), h.evp (m := m) fun y hy => hm y (List.mem_cons_of_mem _ hy)]
theorem Ag.evo {l : List Operand} (h : Ag f g l) {x : Option Operand} (hx : ∀ y, x = some y → y ∈ l) : f.evo fl x = g.evo fl x := by
  cases x with
  | none => rfl
  | some x => simp only [Fr.evo, h.ev (fl := fl) (hx x rfl)]
theorem mem_parts {ps : Array (Nat × Operand)} {x : Nat × Operand} (hx : x ∈ ps.toList) : x.2 ∈ (ps.toList.map (·.2)).toArray.toList := by
  simpa using ⟨x.1, by simpa using hx⟩
theorem Ag.xval {o : Op} (h : Ag f g o.operands.toList) : xval C f S o = xval C g S o := by
  cases o with
  | move x => exact h.ev (fl := C.fl) (by simp [Op.operands])
  | assign x => exact h.ev (fl := C.fl) (by simp [Op.operands])
  | pick c a b => simp only [Ex.xval]; rw [h.ev (x := c) (by simp [Op.operands]), h.ev (x := a) (by simp [Op.operands]), h.ev (x := b) (by simp [Op.operands])]
  | build t ps => simp only [Ex.xval]; rw [h.evp (m := ps.toList) fun x hx => mem_parts hx]
  | load t a => simp only [Ex.xval]; rw [h.ev (x := a) (by simp [Op.operands])]
  | nilCheck x => simp only [Ex.xval]; rw [h.ev (x := x) (by simp [Op.operands])]
  | binOp op t x y u => simp only [Ex.xval]; rw [h.ev (x := x) (by simp [Op.operands]), h.ev (x := y) (by simp [Op.operands])]
  | unOp op t x => simp only [Ex.xval]; rw [h.ev (x := x) (by simp [Op.operands])]
  | convert s d x => simp only [Ex.xval]; rw [h.ev (x := x) (by simp [Op.operands])]
  | makeFunc fn as cs =>
    cases fn <;> first | rfl | skip
    simp only [Ex.xval]
    rw [h.evs (m := as.toList) (fun x hx => by simp [Op.operands]; exact .inl (by simpa using hx)), h.evs (m := cs.toList) (fun x hx => by simp [Op.operands]; exact .inr (by simpa using hx))]
  | slice t x lo hi mx =>
    simp only [Ex.xval]
    rw [h.ev (x := x) (by simp [Op.operands]), h.evo (x := lo) (fun y q => by simp [Op.operands, q]), h.evo (x := hi) (fun y q => by simp [Op.operands, q]), h.evo (x := mx) (fun y q => by simp [Op.operands, q])]
  | fieldAddr t x k => simp only [Ex.xval]; rw [h.ev (x := x) (by simp [Op.operands])]
  | field t x k => simp only [Ex.xval]; rw [h.ev (x := x) (by simp [Op.operands])]
  | indexAddr t x j => simp only [Ex.xval]; rw [h.ev (x := x) (by simp [Op.operands]), h.ev (x := j) (by simp [Op.operands])]
  | index t x j => simp only [Ex.xval]; rw [h.ev (x := x) (by simp [Op.operands]), h.ev (x := j) (by simp [Op.operands])]
  | lookup t x j ok => simp only [Ex.xval]; rw [h.ev (x := x) (by simp [Op.operands]), h.ev (x := j) (by simp [Op.operands])]
  | extract x j => simp only [Ex.xval]; rw [h.ev (x := x) (by simp [Op.operands])]
  | call c => simp only [Ex.xval]; rw [h.evs (m := c.args.toList) (fun x hx => by simp [Op.operands, Call.operands]; exact .inr (by simpa using hx))]
  | _ => rfl
theorem Ag.freshV {o : Op} {N : Nat} (h : Ag f g o.operands.toList) : freshV C f N o = freshV C g N o := by
  cases o with
  | box t x => simp only [Ex.freshV]; rw [h.ev (x := x) (by simp [Op.operands])]
  | buildSlice t n ps => simp only [Ex.freshV]; rw [h.evp (m := ps.toList) fun x hx => mem_parts hx]
  | makeMap t r =>
    cases r with
    | none => rfl
    | some x => simp only [Ex.freshV]; rw [h.ev (x := x) (by simp [Op.operands])]
  | makeSlice t l c => simp only [Ex.freshV]; rw [h.ev (x := l) (by simp [Op.operands]), h.ev (x := c) (by simp [Op.operands])]
  | range t x => simp only [Ex.freshV]; rw [h.ev (x := x) (by simp [Op.operands])]
  | _ => rfl
theorem Ag.xact {o : Op} (h : Ag f g o.operands.toList) : xact C f S o = xact C g S o := by
  cases o with
  | store t a x => simp only [Ex.xact]; rw [h.ev (x := a) (by simp [Op.operands]), h.ev (x := x) (by simp [Op.operands])]
  | mapUpdate t m k x => simp only [Ex.xact]; rw [h.ev (x := m) (by simp [Op.operands]), h.ev (x := k) (by simp [Op.operands]), h.ev (x := x) (by simp [Op.operands])]
  | insert t m k x => simp only [Ex.xact]; rw [h.ev (x := m) (by simp [Op.operands]), h.ev (x := k) (by simp [Op.operands]), h.ev (x := x) (by simp [Op.operands])]
  | next x b =>
    cases b with
    | true => simp only [Ex.xact]; rw [h.ev (x := x) (by simp [Op.operands])]
    | false => rfl
  | call c => simp only [Ex.xact]; rw [h.evs (m := c.args.toList) (fun x hx => by simp [Op.operands, Call.operands]; exact .inr (by simpa using hx))]
  | _ => rfl
theorem Ag.xoper {o : Op} (h : Ag f g o.operands.toList) : xoper C call yld f S o = xoper C call yld g S o := by
  unfold Ex.xoper
  rw [h.xval]
  cases hq : isQ o with
  | true => rfl
  | false =>
    dsimp only
    cases o with
    | call c =>
      dsimp only
      rw [h.evs (m := c.args.toList) (fun x hx => by simp [Op.operands, Call.operands]; exact .inr (by simpa using hx))]
      cases hc : c.callee with
      | value x =>
        cases Fr.evs C.fl g c.args.toList with
        | none => rfl
        | some args => dsimp only; rw [h.ev (x := x) (by simp [Op.operands, Call.operands, hc])]
      | _ => cases Fr.evs C.fl g c.args.toList <;> rfl
    | _ => have e1 := h.freshV (C := C) (N := S.nx); have e2 := h.xact (C := C) (S := S); simp only [e1, e2]
theorem wanted_agree {all : List Oper} {o : Oper} (h : ∀ t ∈ guardTmp all o, f.tm.get t = g.tm.get t) : wantedB f all o = wantedB g all o := by
  unfold wantedB
  unfold guardTmp at h
  cases hg : o.guard with
  | none => rfl
  | some p =>
    obtain ⟨j, want⟩ := p
    rw [hg] at h
    dsimp only at h ⊢
    cases hj : all[j]? with
    | none => rfl
    | some q =>
      rw [hj] at h
      dsimp only at h ⊢
      cases hd : q.dst with
      | none => rfl
      | some t =>
        rw [hd] at h
        dsimp only
        rw [h t (by simp)]
end
section
variable {C : Ctx} {call yld : CallK} {fr0 : Fr} {nx : Nat} {all : List Oper} {ms : List Nat}
theorem fillS_get {i : Nat} {xs : List XV} {t : Nat} : ∀ {l : List Nat}, t ∈ l → (fillS ms i all xs fr0 l).get t = valS ms i all xs fr0 t
  | [], h => by cases h
  | u :: l, h => by
    simp only [fillS, T.get_set]
    by_cases q : t = u
    · subst q; rw [if_pos rfl]
    · rw [if_neg q]
      rcases List.mem_cons.1 h with h | h
      · exact absurd h q
      · exact fillS_get h
theorem setAll_snoc (o : Oper) (x : XV) : ∀ (l : List Oper) (xs : List XV) (fr : Fr), xs.length = l.length → setAll (l ++ [o]) (xs ++ [x]) fr = (setAll l xs fr).set o.dst (some x)
  | [], [], fr, _ => rfl
  | p :: l, y :: xs, fr, h => by
    simp only [List.cons_append, setAll]
    exact setAll_snoc o x l xs _ (by simpa using h)
  | [], _ :: _, _, h => by simp at h
  | _ :: _, [], _, h => by simp at h
theorem take_snoc {i : Nat} {o : Oper} (hi : all[i]? = some o) : all.take (i + 1) = all.take i ++ [o] := by
  rw [List.take_add_one, hi]; rfl
theorem setAll_at (hds : dstsOk fr0.n all [] = true) (t : Nat) : ∀ (i : Nat) (xs : List XV), xs.length = i → i ≤ all.length → (setAll (all.take i) xs fr0).tm.get t = match prodOf t all 0 with
    | some j => if j < i then xs[j]? else fr0.tm.get t
    | none => fr0.tm.get t
  | 0, xs, h, _ => by
    have : xs = [] := List.eq_nil_of_length_eq_zero h
    subst this
    rw [List.take_zero, show setAll [] [] fr0 = fr0 from rfl]
    cases prodOf t all 0 <;> simp
  | i + 1, xs, h, hi => by
    obtain ⟨ys, x, rfl⟩ : ∃ ys x, xs = ys ++ [x] := by
      have hne : xs ≠ [] := fun q => by subst q; simp at h
      exact ⟨xs.dropLast, xs.getLast hne, (List.dropLast_concat_getLast hne).symm⟩
    have hys : ys.length = i := by simpa using h
    have hlt : i < all.length := hi
    have ho : all[i]? = some all[i] := List.getElem?_eq_getElem hlt
    rw [take_snoc ho, setAll_snoc _ _ _ _ _ (by rw [hys, List.length_take]; omega), set_get, setAll_at hds t i ys hys (by omega), setAll_n]
    by_cases hd : all[i].dst = some t
    · have hn := (dsts_spec hds i _ t ho hd).1
      rw [if_pos ⟨hd, hn⟩]
      cases hp : prodOf t all 0 with
      | none => exact absurd hd (prodOf_none hp i _ ho)
      | some j =>
        obtain ⟨m, o', h1, h2, h3⟩ := prodOf_some hp
        rw [Nat.zero_add] at h1; subst h1
        have : j = i := (dsts_spec hds i _ t ho hd).2.2 j o' h2 h3
        subst this
        dsimp only
        rw [if_pos (by omega), List.getElem?_append_right (by omega), hys]
        simp
    · rw [if_neg (fun q => hd q.1)]
      cases hp : prodOf t all 0 with
      | none => rfl
      | some j =>
        obtain ⟨m, o', h1, h2, h3⟩ := prodOf_some hp
        rw [Nat.zero_add] at h1; subst h1
        have hne : j ≠ i := fun q => by subst q; rw [ho] at h2; cases h2; exact hd h3
        dsimp only
        by_cases hj : j < i
        · rw [if_pos hj, if_pos (by omega), List.getElem?_append_left (by omega)]
        · rw [if_neg hj, if_neg (by omega)]
theorem mk_agree (hb : ∀ i j, befM ms i j = true → j < i) (hds : dstsOk fr0.n all [] = true) {i : Nat} {xs : List XV} (hx : xs.length = i) (hil : i ≤ all.length) (hok : (slotsOf all i).all (slotOk ms i all) = true) (t : Nat) (ht : t ∈ slotsOf all i) :
    (mkFr ms i all xs 0 fr0).tm.get t = (setAll (all.take i) xs fr0).tm.get t := by
  rw [setAll_at hds t i xs hx hil]
  show (fillS ms i all xs fr0 (slotsOf all i)).get t = _
  rw [fillS_get ht]
  have h1 := List.all_eq_true.1 hok t ht
  unfold slotOk at h1
  unfold valS
  cases hp : prodOf t all 0 with
  | none => rfl
  | some j =>
    rw [hp] at h1
    dsimp only at h1 ⊢
    cases hbf : befM ms i j with
    | true => dsimp only; rw [if_pos (hb i j hbf)]
    | false =>
      rw [hbf, Bool.false_or] at h1
      rw [h1]
      dsimp only
      rw [if_neg]
      rw [Bool.or_eq_true] at h1
      rcases h1 with h1 | h1
      · have := hb j i h1; omega
      · have := bnot_eq.1 h1; omega
theorem absorbP_append {p : Nat → Bool} (es : List (Option XO)) : ∀ (ds : List (Option XO)) (j : Nat) (S : St), absorbP p nx (ds ++ es) j S = absorbP p nx es (j + ds.length) (absorbP p nx ds j S)
  | [], j, S => by simp [absorbP]
  | d :: ds, j, S => by
    simp only [List.cons_append, absorbP, List.length_cons]
    rw [show j + (ds.length + 1) = j + 1 + ds.length from by omega]
    split <;> exact absorbP_append es ds (j + 1) _
theorem absorbP_congr {p p' : Nat → Bool} : ∀ (ds : List (Option XO)) (j : Nat) (S : St), (∀ k ob, ds[k]? = some (some ob) → p (j + k) = p' (j + k)) → absorbP p nx ds j S = absorbP p' nx ds j S
  | [], _, _, _ => rfl
  | d :: ds, j, S, h => by
    have ih := fun S => absorbP_congr (p := p) (p' := p') ds (j + 1) S fun k ob hk => by
      have := h (k + 1) ob (by simpa using hk)
      rwa [show j + (k + 1) = j + 1 + k from by omega] at this
    cases d with
    | none => simp only [absorbP]; exact ih S
    | some o =>
      have h0 := h 0 o rfl
      rw [Nat.add_zero] at h0
      simp only [absorbP, h0]
      split <;> exact ih _
theorem absorbP_id {p : Nat → Bool} {S : St} : ∀ (ds : List (Option XO)) (j : Nat), (∀ k ob, ds[k]? = some (some ob) → S.hp.get (nx + (j + k)) ≠ none) → absorbP p nx ds j S = S
  | [], _, _ => rfl
  | d :: ds, j, h => by
    have ih := absorbP_id (p := p) (S := S) ds (j + 1) fun k ob hk => by
      have := h (k + 1) ob (by simpa using hk)
      rwa [show j + (k + 1) = j + 1 + k from by omega] at this
    cases d with
    | none => simp only [absorbP]; exact ih
    | some o =>
      have h0 := h 0 o rfl
      rw [Nat.add_zero] at h0
      simp only [absorbP]
      split
      · rename_i hg; exact absurd hg h0
      · exact ih
theorem freshBef_spec {i : Nat} : ∀ {l : List Oper} {j : Nat}, freshBef ms i l j = true → ∀ k o, l[k]? = some o → j + k < i → isFresh o.op = true → befM ms i (j + k) = true
  | [], _, _, k, o, hk, _, _ => by simp at hk
  | o :: l, j, h, k, o', hk, hlt, hf => by
    simp only [freshBef, Bool.and_eq_true] at h
    cases k with
    | zero =>
      simp at hk; subst hk
      have h1 := h.1
      rw [Nat.add_zero] at hlt ⊢
      rw [blt_iff.2 hlt, hf] at h1
      exact h1
    | succ k =>
      have := freshBef_spec h.2 k o' (by simpa using hk) (by omega) hf
      rwa [show j + 1 + k = j + (k + 1) from by omega] at this
theorem actCmp_spec {i : Nat} : ∀ {l : List Oper} {j : Nat}, actCmp ms i l j = true → ∀ k o, l[k]? = some o → loudB o = true → befM ms i (j + k) = true ∨ befM ms (j + k) i = true
  | [], _, _, k, o, hk, _ => by simp at hk
  | o :: l, j, h, k, o', hk, hl => by
    simp only [actCmp, Bool.and_eq_true] at h
    cases k with
    | zero =>
      simp at hk; subst hk
      have h1 := h.1
      have h2 : (isQ o.op || isFresh o.op) = false := by
        unfold loudB at hl
        cases h3 : isQ o.op <;> cases h4 : isFresh o.op <;> rw [h3, h4] at hl <;> first | rfl | cases hl
      rw [h2] at h1
      rw [Nat.add_zero]
      exact Bool.or_eq_true _ _ ▸ h1
    | succ k =>
      have := actCmp_spec h.2 k o' (by simpa using hk) hl
      rwa [show j + 1 + k = j + (k + 1) from by omega] at this
theorem benL_spec : ∀ {l : List Oper} {i : Nat}, benL ms all l i = true → ∀ k o, l[k]? = some o → benO ms all o (i + k) = true
  | [], _, _, k, o, hk => by simp at hk
  | o :: l, i, h, k, o', hk => by
    simp only [benL, Bool.and_eq_true] at h
    cases k with
    | zero => simp at hk; subst hk; exact h.1
    | succ k =>
      have := benL_spec h.2 k o' (by simpa using hk)
      rwa [show i + 1 + k = i + (k + 1) from by omega] at this
/-- What the trace tells of a quiet operation. -/
def QT (C : Ctx) (fr0 : Fr) (nx : Nat) (all : List Oper) (ms : List Nat) (R : Run) (j : Nat) (o : Oper) : Prop := isQ o.op = true → wantedB (mkFr ms j all R.xs 0 fr0) all o = some true → ∃ T v, R.Ss[kk all j]? = some T ∧ xval C (mkFr ms j all R.xs 0 fr0) (absorb ms j nx R.ds T) o.op = some v ∧ R.xs[j]? = some v
theorem runF_ok (hed : edgesOk all 0 = true) (hms : ms = masks all []) (hds : dstsOk fr0.n all [] = true) (hbn : benL ms all all 0 = true) {fr' : Fr} {S' : St} : ∀ (l : List Oper) (i : Nat) (R : Run) (S Sx : St), all.drop i = l → i ≤ all.length → R.xs.length = i → R.ds.length = i → R.Ss.length = kk all i + 1 → R.Ss[kk all i]? = some Sx →
    (∀ (j : Nat) (ob : XO), R.ds[j]? = some (some ob) → ∃ o : Oper, all[j]? = some o ∧ isFresh o.op = true) → absorbAll nx R.ds Sx = S → runF C call yld nx all l i (setAll (all.take i) R.xs fr0) S = some (fr', S') →
    ∃ R' Sx', runD C call yld fr0 nx all ms l i R Sx = some R' ∧ R'.xs.length = all.length ∧ fr' = setAll all R'.xs fr0 ∧ R'.Ss[kk all all.length]? = some Sx' ∧ absorbAll nx R'.ds Sx' = S' ∧ ∀ (j : Nat) (o : Oper), i ≤ j → all[j]? = some o → QT C fr0 nx all ms R' j o
  | [], i, R, S, Sx, hl, hil, h1, h2, h3, h4, h5, h6, h => by
    have hi : i = all.length := by
      have := congrArg List.length hl
      rw [List.length_drop, List.length_nil] at this
      omega
    subst hi
    simp only [runF] at h; cases h
    refine ⟨R, Sx, by simp only [runD], h1, by rw [List.take_length], h4, h6, fun j o hj ho => ?_⟩
    have := (List.getElem?_eq_some_iff.1 ho).1
    omega
  | o :: l, i, R, S, Sx, hl, hil, h1, h2, h3, h4, h5, h6, h => by
    have hb : ∀ i j, befM ms i j = true → j < i := hms ▸ bef_lt hed
    have hi : all[i]? = some o := by
      have h0 : (all.drop i)[0]? = some o := by rw [hl]; rfl
      rw [List.getElem?_drop] at h0
      simpa using h0
    have hlt : i < all.length := (List.getElem?_eq_some_iff.1 hi).1
    have hl' : all.drop (i + 1) = l := by rw [← List.drop_drop, hl]; rfl
    have hbo : benO ms all o i = true := by have := benL_spec hbn i o hi; rwa [Nat.zero_add] at this
    unfold benO at hbo
    rw [Bool.and_eq_true] at hbo
    have hag := mk_agree hb hds h1 hil hbo.1
    have hso : slotsOf all i = guardTmp all o ++ tmpsOf o.op.operands.toList := by unfold slotsOf; rw [hi]
    rw [hso] at hag
    have hwa : wantedB (mkFr ms i all R.xs 0 fr0) all o = wantedB (setAll (all.take i) R.xs fr0) all o := wanted_agree fun t ht => hag t (List.mem_append_left _ ht)
    have hAg : Ag (mkFr ms i all R.xs 0 fr0) (setAll (all.take i) R.xs fr0) o.op.operands.toList := fun t ht => hag t (List.mem_append_right _ ht)
    -- memory, where it is looked at
    have hab : freshBef ms i all 0 = true → absorb ms i nx R.ds Sx = S := fun hfb => by
      rw [← h6]
      refine absorbP_congr _ _ _ fun k ob hk => ?_
      obtain ⟨o', ho', hf⟩ := h5 k ob hk
      have hk' : k < i := by rw [← h2]; exact (List.getElem?_eq_some_iff.1 hk).1
      have := freshBef_spec hfb k o' ho' (by omega) hf
      exact this
    -- the next step
    have stp : ∀ (v : XV) (d : Option XO) (Ss1 : List St) (S1 S2 : St), (R.Ss ++ Ss1).length = kk all (i + 1) + 1 → (R.Ss ++ Ss1)[kk all (i + 1)]? = some S1 → (∀ ob, d = some ob → isFresh o.op = true) → absorbAll nx (R.ds ++ [d]) S1 = S2 →
        runF C call yld nx all l (i + 1) ((setAll (all.take i) R.xs fr0).set o.dst (some v)) S2 = some (fr', S') →
        runD C call yld fr0 nx all ms (o :: l) i R Sx = runD C call yld fr0 nx all ms l (i + 1) ⟨R.xs ++ [v], R.ds ++ [d], R.Ss ++ Ss1⟩ S1 →
        (isQ o.op = true → wantedB (mkFr ms i all R.xs 0 fr0) all o = some true → xval C (mkFr ms i all R.xs 0 fr0) (absorb ms i nx R.ds Sx) o.op = some v) →
        ∃ R' Sx', runD C call yld fr0 nx all ms (o :: l) i R Sx = some R' ∧ R'.xs.length = all.length ∧ fr' = setAll all R'.xs fr0 ∧ R'.Ss[kk all all.length]? = some Sx' ∧ absorbAll nx R'.ds Sx' = S' ∧ ∀ (j : Nat) (o : Oper), i ≤ j → all[j]? = some o → QT C fr0 nx all ms R' j o := by
      intro v d Ss1 S1 S2 e1 e2 e3 e4 e5 e6 e7
      rw [← setAll_snoc o v _ _ _ (by rw [h1, List.length_take]; omega), ← take_snoc hi] at e5
      obtain ⟨R', Sx', r1, r2, r3, r4, r5, r6⟩ := runF_ok hed hms hds hbn l (i + 1) ⟨R.xs ++ [v], R.ds ++ [d], R.Ss ++ Ss1⟩ S2 S1 hl' hlt (by simp [h1]) (by simp [h2]) e1 e2 (fun j ob hj => by
        by_cases hji : j < R.ds.length
        · exact h5 j ob (by rw [← hj]; exact (List.getElem?_append_left hji).symm)
        · have hj' : j = i := by
            have := (List.getElem?_eq_some_iff.1 hj).1
            simp at this; omega
          subst hj'
          refine ⟨o, hi, e3 ob ?_⟩
          have hj : (R.ds ++ [d])[j]? = some (some ob) := hj
          rw [List.getElem?_append_right (by omega), h2, Nat.sub_self] at hj
          simpa using hj) e4 e5
      obtain ⟨⟨xs, ds, Ss, rfl⟩, _⟩ := runD_ok hb l (i + 1) ⟨R.xs ++ [v], R.ds ++ [d], R.Ss ++ Ss1⟩ S1 R' hl' hlt (by simp [h1]) (by simp [h2]) e1 e2 r1
      refine ⟨_, Sx', e6.trans r1, r2, r3, r4, r5, fun j o' hj ho => ?_⟩
      by_cases hji : j = i
      · subst hji
        rw [hi] at ho; cases ho
        have hk : ∀ k, R.xs.length ≤ k → befM ms j k = false := fun k hk => by
          cases q : befM ms j k with
          | false => rfl
          | true => have := hb j k q; omega
        have m1 : mkFr ms j all (R.xs ++ [v] ++ xs) 0 fr0 = mkFr ms j all R.xs 0 fr0 := by
          rw [List.append_assoc]
          exact mkFr_ext _ _ _ _ _ hk
        have m2 : ∀ T, absorb ms j nx (R.ds ++ [d] ++ ds) T = absorb ms j nx R.ds T := fun T => by
          rw [List.append_assoc]
          exact absorbP_ext _ _ _ _ fun k hk' => hk k (by omega)
        intro hq hw
        change wantedB (mkFr ms j all (R.xs ++ [v] ++ xs) 0 fr0) all o = some true at hw
        rw [m1] at hw
        refine ⟨Sx, v, ?_, ?_, get_mid h1⟩
        · show (R.Ss ++ Ss1 ++ Ss)[kk all j]? = some Sx
          rw [List.append_assoc, List.getElem?_append_left (by omega)]
          exact h4
        · show xval C (mkFr ms j all (R.xs ++ [v] ++ xs) 0 fr0) (absorb ms j nx (R.ds ++ [d] ++ ds) Sx) o.op = some v
          rw [m1, m2]
          exact e7 hq hw
      · exact r6 j o' (by omega) ho
    simp only [runF] at h
    unfold runN at h
    have hnone : ∀ T, absorbAll nx (R.ds ++ [none]) T = absorbAll nx R.ds T := fun T => by
      show absorbP _ nx (R.ds ++ [none]) 0 T = _
      rw [absorbP_append]
      simp only [absorbP]
      rfl
    cases hw : wantedB (setAll (all.take i) R.xs fr0) all o with
    | none => rw [hw] at h; cases h
    | some b =>
      rw [hw] at h
      rw [hw] at hwa
      cases b with
      | false =>
        dsimp only at h
        cases hqf : isQ o.op || isFresh o.op with
        | true =>
          have hl0 : loudB o = false := by
            unfold loudB
            cases h7 : isQ o.op <;> cases h8 : isFresh o.op <;> rw [h7, h8] at hqf <;> first | rfl | cases hqf
          refine stp (.tup []) none [] Sx S (by rw [List.append_nil, kk_not hi hl0]; exact h3) (by rw [List.append_nil, kk_not hi hl0]; exact h4) (fun _ q => by cases q) ((hnone Sx).trans h6) h ?_ (fun _ q => by rw [hwa] at q; cases q)
          simp only [runD]
          rw [hwa]
          dsimp only
          rw [hqf, List.append_nil]
        | false =>
          have hl1 : loudB o = true := by
            unfold loudB
            cases h7 : isQ o.op <;> cases h8 : isFresh o.op <;> rw [h7, h8] at hqf <;> first | rfl | cases hqf
          refine stp (.tup []) none [Sx] Sx S (by rw [kk_loud hi hl1]; simp [h3]) (by rw [kk_loud hi hl1, List.getElem?_append_right (by omega), h3, Nat.sub_self]; rfl) (fun _ q => by cases q) ((hnone Sx).trans h6) h ?_ (fun _ q => by rw [hwa] at q; cases q)
          simp only [runD]
          rw [hwa]
          dsimp only
          rw [hqf]
      | true =>
        dsimp only at h
        cases hq : isQ o.op with
        | true =>
          rw [hq] at h
          dsimp only at h
          have hl0 : loudB o = false := by unfold loudB; rw [hq]; rfl
          have hxv : xval C (mkFr ms i all R.xs 0 fr0) (absorb ms i nx R.ds Sx) o.op = xval C (setAll (all.take i) R.xs fr0) S o.op := by
            rw [hAg.xval]
            have h9 := hbo.2
            rw [hq] at h9
            dsimp only at h9
            cases hm : memFree o.op with
            | true => exact memFree_xval hm _ _
            | false =>
              rw [hm] at h9
              dsimp only at h9
              rw [Bool.and_eq_true] at h9
              rw [hab h9.1]
          cases hx : xval C (setAll (all.take i) R.xs fr0) S o.op with
          | none => rw [hx] at h; cases h
          | some v =>
            rw [hx] at h hxv
            dsimp only at h
            refine stp v none [] Sx S (by rw [List.append_nil, kk_not hi hl0]; exact h3) (by rw [List.append_nil, kk_not hi hl0]; exact h4) (fun _ q => by cases q) ((hnone Sx).trans h6) h ?_ (fun _ _ => hxv)
            simp only [runD]
            rw [hwa]
            dsimp only
            rw [hq]
            dsimp only
            rw [hxv, List.append_nil]
        | false =>
          rw [hq] at h
          cases hf : isFresh o.op with
          | true =>
            rw [hf] at h
            dsimp only at h
            have hl0 : loudB o = false := by unfold loudB; rw [hq, hf]; rfl
            cases hx : freshV C (setAll (all.take i) R.xs fr0) (nx + i) o.op with
            | none => rw [hx] at h; cases h
            | some p =>
              obtain ⟨v, ob⟩ := p
              rw [hx] at h
              cases hg : S.hp.get (nx + i) with
              | some o' => rw [hg] at h; cases h
              | none =>
                rw [hg] at h
                dsimp only at h
                refine stp v (some ob) [] Sx _ (by rw [List.append_nil, kk_not hi hl0]; exact h3) (by rw [List.append_nil, kk_not hi hl0]; exact h4) (fun _ _ => hf) ?_ h ?_ (fun q => by rw [hq] at q; cases q)
                · show absorbP _ nx (R.ds ++ [some ob]) 0 Sx = _
                  rw [absorbP_append]
                  change absorbP _ nx [some ob] (0 + R.ds.length) (absorbAll nx R.ds Sx) = _
                  rw [h6, Nat.zero_add, h2]
                  simp only [absorbP, hg]
                · simp only [runD]
                  rw [hwa]
                  dsimp only
                  rw [hq, hf]
                  dsimp only
                  rw [hAg.freshV, hx, List.append_nil]
          | false =>
            rw [hf] at h
            dsimp only at h
            have hl1 : loudB o = true := by unfold loudB; rw [hq, hf]; rfl
            have h9 := hbo.2
            rw [hq, hf] at h9
            dsimp only at h9
            cases hx : xoper C call yld (setAll (all.take i) R.xs fr0) S o.op with
            | none => rw [hx] at h; cases h
            | some p =>
              obtain ⟨v, S1⟩ := p
              rw [hx] at h
              dsimp only at h
              cases hn : namesOk nx S S1 all.length with
              | false => rw [hn] at h; cases h
              | true =>
                rw [hn] at h
                dsimp only at h
                refine stp v none [S1] S1 S1 (by rw [kk_loud hi hl1]; simp [h3]) (by rw [kk_loud hi hl1, List.getElem?_append_right (by omega), h3, Nat.sub_self]; rfl) (fun _ q => by cases q) ?_ h ?_ (fun q => by rw [hq] at q; cases q)
                · refine (hnone S1).trans (absorbP_id _ _ fun k ob hk => ?_)
                  rw [Nat.zero_add]
                  have hk' : k < all.length := Nat.lt_of_lt_of_le (by rw [← h2]; exact (List.getElem?_eq_some_iff.1 hk).1) hil
                  intro q
                  have q2 := (names_spec hn k hk').1 q
                  rw [← h6] at q2
                  have q3 := absorbP_get (p := fun _ => true) (nx := nx) R.ds 0 Sx (nx + k)
                  rw [show (absorbP (fun _ => true) nx R.ds 0 Sx).hp.get (nx + k) = none from q2] at q3
                  cases q4 : Sx.hp.get (nx + k) with
                  | some o' => rw [q4] at q3; cases q3
                  | none =>
                    rw [q4] at q3
                    dsimp only at q3
                    rw [if_pos ⟨by omega, rfl⟩, show nx + k - nx - 0 = k from by omega, hk] at q3
                    cases q3
                · simp only [runD]
                  rw [hwa]
                  dsimp only
                  rw [hq, hf]
                  dsimp only
                  rw [hab h9, hAg.xoper, hx]
                  dsimp only
                  rw [hn]
mutual
theorem beq_refl : ∀ (x : XV), x.beq x = true := by
  intro x
  cases x <;> simp only [XV.beq, Bool.and_eq_true] <;> first
    | rfl
    | exact ⟨Nat.beq_refl _, ieq_iff.2 rfl⟩
    | exact seq_iff.2 rfl
    | exact ⟨⟨⟨Nat.beq_refl _, Nat.beq_refl _⟩, Nat.beq_refl _⟩, (by rename_i c; cases c <;> exact Nat.beq_refl _)⟩
    | exact ⟨⟨Nat.beq_refl _, beqs_refl _⟩, beqs_refl _⟩
    | exact ⟨Nat.beq_refl _, Nat.beq_refl _⟩
    | exact Nat.beq_refl _
    | exact beqs_refl _
    | simp
theorem beqs_refl : ∀ (l : List XV), XV.beqs l l = true := by
  intro l
  cases l with
  | nil => rfl
  | cons x l => simp only [XV.beqs, Bool.and_eq_true]; exact ⟨beq_refl x, beqs_refl l⟩
end
theorem quietOk_of {R : Run} : ∀ (l : List Oper) (i : Nat), (∀ m o, l[m]? = some o → isQ o.op = true → wantedB (mkFr ms (i + m) all R.xs 0 fr0) all o = some true → ∀ S ∈ (R.Ss.take (countB (fun j => !(befM ms j (i + m))) all 0 + 1)).drop (countB (fun j => befM ms (i + m) j) all 0), ∃ v, xval C (mkFr ms (i + m) all R.xs 0 fr0) (absorb ms (i + m) nx R.ds S) o.op = some v ∧ R.xs[i + m]? = some v) → quietOk C fr0 nx all ms R l i = true
  | [], _, _ => rfl
  | o :: l, i, h => by
    have ih := quietOk_of (R := R) l (i + 1) fun m o' hm => by
      have := h (m + 1) o' (by simpa using hm)
      rwa [show i + (m + 1) = i + 1 + m from by omega] at this
    simp only [quietOk, Bool.and_eq_true]
    refine ⟨?_, ih⟩
    have h0 := h 0 o rfl
    rw [Nat.add_zero] at h0
    cases hq : isQ o.op with
    | false => rfl
    | true =>
      cases hw : wantedB (mkFr ms i all R.xs 0 fr0) all o with
      | none => rfl
      | some b => cases b with
        | false => rfl
        | true =>
          dsimp only
          rw [List.all_eq_true]
          intro S hS
          obtain ⟨v, h1, h2⟩ := h0 hq hw S hS
          rw [h1, h2]
          exact beq_refl v
theorem xdraw_of {fr' : Fr} {S S' : St} (hb : ben fr0.n all = true) (h : runF C call yld S.nx all all 0 fr0 ⟨S.hp, S.nx + all.length⟩ = some (fr', S')) : xdraw C call yld all fr0 S = some (fr', S') := by
  unfold ben at hb
  rw [Bool.and_eq_true] at hb
  obtain ⟨h1, hbn⟩ := hb
  have h2 := h1
  rw [Bool.and_eq_true, Bool.and_eq_true] at h2
  obtain ⟨⟨hed, hds⟩, hch⟩ := h2
  obtain ⟨R', Sx', r1, r2, r3, r4, r5, r6⟩ := runF_ok (C := C) (call := call) (yld := yld) (nx := S.nx) (fr0 := fr0) hed rfl hds hbn all 0 ⟨[], [], [⟨S.hp, S.nx + all.length⟩]⟩ ⟨S.hp, S.nx + all.length⟩ ⟨S.hp, S.nx + all.length⟩ rfl (Nat.zero_le _) rfl rfl
    (by
      have : kk all 0 = 0 := by
        unfold kk
        rw [countB_congr (p' := fun _ => false) fun j o _ _ => by rw [← Bool.not_eq_true, blt_iff]; omega]
        have hz : ∀ (l : List Oper) (i : Nat), countB (fun _ => false) l i = 0 := fun l => by
          induction l with
          | nil => intro i; rfl
          | cons o l ih => intro i; simp only [countB, Bool.and_false]; exact ih _
        exact hz _ _
      rw [this]; rfl)
    (by
      have : kk all 0 = 0 := by
        unfold kk
        rw [countB_congr (p' := fun _ => false) fun j o _ _ => by rw [← Bool.not_eq_true, blt_iff]; omega]
        have hz : ∀ (l : List Oper) (i : Nat), countB (fun _ => false) l i = 0 := fun l => by
          induction l with
          | nil => intro i; rfl
          | cons o l ih => intro i; simp only [countB, Bool.and_false]; exact ih _
        exact hz _ _
      rw [this]; rfl)
    (fun j ob q => by simp at q) rfl (by rw [List.take_zero]; exact h)
  have hlt := bef_lt hed
  have k0 : kk all 0 = 0 := by
    unfold kk
    rw [countB_congr (p' := fun _ => false) fun j o _ _ => by rw [← Bool.not_eq_true, blt_iff]; omega]
    have hz : ∀ (l : List Oper) (i : Nat), countB (fun _ => false) l i = 0 := fun l => by
      induction l with
      | nil => intro i; rfl
      | cons o l ih => intro i; simp only [countB, Bool.and_false]; exact ih _
    exact hz _ _
  obtain ⟨_, h3, _, h4, _⟩ := runD_ok hlt all 0 ⟨[], [], [⟨S.hp, S.nx + all.length⟩]⟩ ⟨S.hp, S.nx + all.length⟩ R' rfl (Nat.zero_le _) rfl rfl (by rw [k0]; rfl) (by rw [k0]; rfl) r1
  have hqk : quietOk C fr0 S.nx all (masks all []) R' all 0 = true := by
    refine quietOk_of all 0 fun m o hm hq hw T hT => ?_
    rw [Nat.zero_add] at hw hT ⊢
    obtain ⟨T', v, t1, t2, t3⟩ := r6 m o (Nat.zero_le _) hm hq hw
    refine ⟨v, ?_, t3⟩
    have hbo : benO (masks all []) all o m = true := by have := benL_spec hbn m o hm; rwa [Nat.zero_add] at this
    unfold benO at hbo
    rw [Bool.and_eq_true] at hbo
    have h9 := hbo.2
    rw [hq] at h9
    dsimp only at h9
    cases hmf : memFree o.op with
    | true => exact (memFree_xval hmf _ _).trans t2
    | false =>
      rw [hmf] at h9
      dsimp only at h9
      rw [Bool.and_eq_true] at h9
      have hcmp := actCmp_spec h9.2
      have hnl : ∀ k o', all[k]? = some o' → loudB o' = true → k ≠ m := fun k o' hk hl q => by
        subst q; rw [hm] at hk; cases hk
        unfold loudB at hl; rw [hq] at hl; cases hl
      have ea : countB (fun j => befM (masks all []) m j) all 0 = kk all m := countB_congr fun j o' hj hl => by
        rw [Nat.zero_add, Bool.eq_iff_iff, blt_iff]
        refine ⟨fun q => hlt m j q, fun q => ?_⟩
        have := hcmp j o' hj hl
        rw [Nat.zero_add] at this
        rcases this with h | h
        · exact h
        · have := hlt j m h; omega
      have eb : countB (fun j => !(befM (masks all []) j m)) all 0 = kk all m := countB_congr fun j o' hj hl => by
        rw [Nat.zero_add, Bool.eq_iff_iff, blt_iff, Bool.not_eq_true']
        refine ⟨fun q => ?_, fun q => ?_⟩
        · have := hcmp j o' hj hl
          rw [Nat.zero_add] at this
          rcases this with h | h
          · exact hlt m j h
          · rw [h] at q; cases q
        · cases q2 : befM (masks all []) j m with
          | false => rfl
          | true => have := hlt j m q2; omega
      rw [ea, eb] at hT
      have hTT : T = T' := by
        have hlen : kk all m < R'.Ss.length := (List.getElem?_eq_some_iff.1 t1).1
        rw [List.drop_take, show kk all m + 1 - kk all m = 1 from by omega, List.drop_eq_getElem_cons hlen] at hT
        simp only [List.take_succ_cons, List.take_zero, List.mem_singleton] at hT
        rw [List.getElem?_eq_getElem hlen] at t1
        cases t1
        exact hT
      subst hTT
      exact t2
  unfold xdraw
  rw [h1]
  dsimp only
  rw [r1]
  dsimp only
  rw [hqk]
  have hlast : R'.Ss.getLast? = some Sx' := by
    rw [List.getLast?_eq_getElem?, h4]
    exact r4
  rw [hlast]
  dsimp only
  rw [r3, r5]
end
end Go.Proofs.YtlibeobmdjeilaaGreatDoor.Ex
namespace Go.Proofs.YtlibeobmdjeilaaGreatDoor.Ex
open Go
section
variable {C : Ctx} {call yld : CallK} {fr : Fr} {S : St}
theorem set_parts (fr : Fr) (d : Option Nat) (v : Option XV) : fr.set d v = ⟨fr.n, (fr.set d v).tm, fr.marks⟩ := by
  unfold Fr.set
  cases d with
  | none => rfl
  | some t => dsimp only; cases Nat.blt t fr.n <;> rfl
theorem st1_eq (fl b o : Nat) (v : XV) : st1 fl S b o v = S.store fl b o [v] := by
  unfold st1 St.store St.blk
  cases S.hp.get b with
  | none => rfl
  | some ob => cases ob with
    | cells B =>
      show Option.rec (motive := fun _ => Option St) none (put1 fl S b o B) (set1L B.cs v o) = _
      rw [set1L_eq]
      dsimp only
      cases setL B.cs o [v] with
      | none => rfl
      | some cs =>
        show put1 fl S b o B cs = _
        unfold put1
        cases B with | mk bcs bsz bfz bown blb =>
        dsimp only
        cases Nat.ble bfz o with
        | false => rfl
        | true =>
          unfold St.put
          cases Nat.ble fl b <;> rfl
    | _ => rfl
def SameR (n : Nat) (mk : List Nat) (y : YR) (r : Option (Fr × St)) : Prop := match r with
  | none => y = .no
  | some (fr', S') => y = .nrm fr'.tm mk S' ∧ fr'.n = n ∧ fr'.marks = mk
theorem oper_step {n : Nat} {mk : List Nat} {tm : T XV} {o : Oper} {ih : YK} {xih : Fr → St → Option (Fr × St)} (hih : ∀ tm S, SameR n mk (ih tm mk S) (xih ⟨n, tm, mk⟩ S)) (v : XV) (S : St) : SameR n mk (ih (Fr.set ⟨n, tm, mk⟩ o.dst (some v)).tm mk S) (xih (Fr.set ⟨n, tm, mk⟩ o.dst (some v)) S) := by
  rw [set_parts]
  exact hih _ S
theorem yslow_ok {n : Nat} {mk : List Nat} {all : List Oper} {o : Oper} {ih : YK} {xih : Fr → St → Option (Fr × St)} (hih : ∀ tm S, SameR n mk (ih tm mk S) (xih ⟨n, tm, mk⟩ S)) (tm : T XV) (S : St) : SameR n mk (yslow C call yld n all o ih tm mk S) (xplainN C call yld all o xih ⟨n, tm, mk⟩ S) := by
  unfold yslow xplainN
  cases wantedB ⟨n, tm, mk⟩ all o with
  | none => exact rfl
  | some b => cases b with
    | false => exact oper_step hih _ _
    | true =>
      dsimp only
      rw [operF_eq]
      cases xoper C call yld ⟨n, tm, mk⟩ S o.op with
      | none => exact rfl
      | some p => exact oper_step hih _ _
/-- What looking up beforehand finds. -/
def DecOk (C : Ctx) (n : Nat) (all : List Oper) (o : Oper) : DI → Prop
  | .q p d => o.guard = none ∧ ∃ t, o.dst = some t ∧ Nat.blt t n = true ∧ p = plW (pl t) ∧ isQ o.op = true ∧ d = decD C o.op
  | .g u w p d => ∃ j u' t, o.guard = some (j, w) ∧ gSlot all j = some u' ∧ u = plA (pl u') ∧ o.dst = some t ∧ Nat.blt t n = true ∧ p = plW (pl t) ∧ isQ o.op = true ∧ d = decD C o.op
  | .st a x => o.guard = none ∧ o.dst = none ∧ ∃ t b y i, o.op = .store t b y ∧ C.ty t = some i ∧ i.size = 1 ∧ a = decA C.fl b ∧ x = decA C.fl y
  | .cl p f l => o.guard = none ∧ ∃ t c g, o.dst = some t ∧ Nat.blt t n = true ∧ p = plW (pl t) ∧ o.op = .call c ∧ c.callee = .value g ∧ f = decA C.fl g ∧ l = decL C.fl c.args.toList
  | .al p z => o.guard = none ∧ ∃ t e i, o.dst = some t ∧ Nat.blt t n = true ∧ p = plW (pl t) ∧ o.op = .alloc e ∧ C.ty e = some i ∧ z = i.zero
  | .bx p x => o.guard = none ∧ ∃ t e y, o.dst = some t ∧ Nat.blt t n = true ∧ p = plW (pl t) ∧ o.op = .box e y ∧ x = decA C.fl y
  | .sl o' => o' = o
theorem dec_spec (C : Ctx) (n : Nat) (all : List Oper) (o : Oper) : DecOk C n all o (decI C n all o) := by
  unfold decI
  cases hg : o.guard with
  | some g =>
    obtain ⟨j, w⟩ := g
    dsimp only
    unfold decG
    cases hj : gSlot all j with
    | none => exact rfl
    | some u => cases hd : o.dst with
      | none => exact rfl
      | some t => cases hq : isQ o.op with
        | false => exact rfl
        | true =>
          dsimp only
          cases ht : Nat.blt t n with
          | false => exact rfl
          | true => exact ⟨j, u, t, hg, hj, rfl, hd, ht, rfl, hq, rfl⟩
  | none =>
    dsimp only
    cases hd : o.dst with
    | none =>
      dsimp only
      unfold decS
      cases ho : o.op <;> first | exact rfl | skip
      rename_i t a x
      dsimp only
      cases hi : C.ty t with
      | none => exact rfl
      | some i =>
        dsimp only
        cases hz : Nat.beq i.size 1 with
        | false => exact rfl
        | true => exact ⟨hg, hd, t, a, x, i, ho, hi, bnot_eq.1 hz, rfl, rfl⟩
    | some t =>
      dsimp only
      cases ht : Nat.blt t n with
      | false => exact rfl
      | true =>
        dsimp only
        unfold decQ
        cases hq : isQ o.op with
        | true => exact ⟨hg, t, hd, ht, rfl, hq, rfl⟩
        | false =>
          dsimp only
          cases ho : o.op <;> first | exact rfl | skip
          case alloc e =>
            dsimp only
            cases hi : C.ty e with
            | none => exact rfl
            | some i => exact ⟨hg, t, e, i, hd, ht, rfl, ho, hi, rfl⟩
          case box e x => exact ⟨hg, t, e, x, hd, ht, rfl, ho, rfl⟩
          case call c =>
            dsimp only
            cases hc : c.callee <;> first | exact rfl | skip
            exact ⟨hg, t, c, _, hd, ht, rfl, ho, hc, rfl, rfl⟩
theorem st_core {n : Nat} {mk : List Nat} {tm : T XV} {t : Nat} {i : TI} {a x : Operand} (hi : C.ty t = some i) (h1 : i.size = 1) : xoper C call yld ⟨n, tm, mk⟩ S (.store t a x) = match stY C.fl (decA C.fl a) (decA C.fl x) tm S with | some S' => some (.tup [], S') | none => none := by
  show xact C ⟨n, tm, mk⟩ S (.store t a x) = _
  have e1 : evA (decA C.fl a) tm = Fr.ev C.fl ⟨n, tm, mk⟩ a := ev_eq (fr := ⟨n, tm, mk⟩) C.fl a
  have e2 : evA (decA C.fl x) tm = Fr.ev C.fl ⟨n, tm, mk⟩ x := ev_eq (fr := ⟨n, tm, mk⟩) C.fl x
  unfold stY xact
  rw [e1, e2]
  dsimp only
  rw [hi]
  cases Fr.ev C.fl ⟨n, tm, mk⟩ a with
  | none => rfl
  | some v => cases Fr.ev C.fl ⟨n, tm, mk⟩ x with
    | none => cases v <;> rfl
    | some w =>
      cases v <;> first | rfl | skip
      rename_i b off
      show (match storeT C.fl i S b off w with | some S' => some (XV.tup [], S') | none => none) = match stV C.fl w S b off with | some S' => some (XV.tup [], S') | none => none
      congr 1
      unfold storeT stV
      rw [h1]
      cases h2 : isOne w with
      | true =>
        show _ = st1 C.fl S b off w
        rw [one_cells h2, st1_eq]
        rfl
      | false =>
        show _ = Option.rec (motive := fun _ => Option St) none (fun cs => Bool.rec (motive := fun _ => Option St) none (S.store C.fl b off cs) (Nat.beq cs.length 1)) w.cells
        cases w.cells with
        | none => rfl
        | some cs =>
          dsimp only
          cases Nat.beq cs.length 1 <;> rfl
theorem cl_core {n : Nat} {mk : List Nat} {tm : T XV} {c : Call} {g : Operand} (hc : c.callee = .value g) : xoper C call yld ⟨n, tm, mk⟩ S (.call c) = clY call yld (decA C.fl g) (decL C.fl c.args.toList) tm S := by
  have e1 : evA (decA C.fl g) tm = Fr.ev C.fl ⟨n, tm, mk⟩ g := ev_eq (fr := ⟨n, tm, mk⟩) C.fl g
  have e2 : evsA (decL C.fl c.args.toList) tm = Fr.evs C.fl ⟨n, tm, mk⟩ c.args.toList := evsA_eq (fr := ⟨n, tm, mk⟩) C.fl _
  unfold clY xoper
  rw [e1, e2]
  simp only [isQ, hc]
  cases Fr.evs C.fl ⟨n, tm, mk⟩ c.args.toList with
  | none => rfl
  | some args =>
    dsimp only
    cases Fr.ev C.fl ⟨n, tm, mk⟩ g with
    | none => rfl
    | some v => cases v <;> rfl
theorem updF_eq (d : D16) (k : ((NA → NA) → NB → NB) → W) : updF d k = k (upd d NA) := by cases d <;> rfl
theorem updG_eq (d : D16) (k : ((Option XV → Option XV) → NA → NA) → W) : updG d k = k (upd d (Option XV)) := by cases d <;> rfl
theorem plW_eq (p : P16) (v : XV) (tm : T XV) : setW (plW p) v tm = T.setP p XV (some v) tm := by
  cases p with
  | s a b =>
    show setW (updF a fun f => updG b fun g => .s f g) v tm = _
    rw [updF_eq, updG_eq]
    cases tm
    rfl
  | m a b c d => rfl
  | h n => rfl
theorem set_pl {n t : Nat} {tm : T XV} {mk : List Nat} (ht : Nat.blt t n = true) (v : XV) : Fr.set ⟨n, tm, mk⟩ (some t) (some v) = ⟨n, setW (plW (pl t)) v tm, mk⟩ := by
  rw [plW_eq]
  unfold Fr.set
  dsimp only
  rw [ht]
  rfl
theorem retY_ok {n t : Nat} {mk : List Nat} {tm : T XV} {ih : YK} {xih : Fr → St → Option (Fr × St)} (hih : ∀ tm S, SameR n mk (ih tm mk S) (xih ⟨n, tm, mk⟩ S)) (ht : Nat.blt t n = true) (r : Option (XV × St)) : SameR n mk (retY (plW (pl t)) ih tm mk r) (match r with | some (v, S') => xih (Fr.set ⟨n, tm, mk⟩ (some t) (some v)) S' | none => none) := by
  cases r with
  | none => exact rfl
  | some p =>
    obtain ⟨v, S'⟩ := p
    show SameR n mk (ih (setW (plW (pl t)) v tm) mk S') (xih (Fr.set ⟨n, tm, mk⟩ (some t) (some v)) S')
    rw [set_pl ht]
    exact hih _ S'
theorem beq_comm2 (a b : Bool) : (a == b) = (a == b) := rfl
theorem g_wanted {n : Nat} {mk : List Nat} {tm : T XV} {all : List Oper} {o : Oper} {j u : Nat} {w : Bool} (hg : o.guard = some (j, w)) (hu : gSlot all j = some u) : wantedB ⟨n, tm, mk⟩ all o = match tm.get u with | some v => some (gdB w v) | none => none := by
  unfold wantedB
  rw [hg]
  dsimp only
  unfold gSlot at hu
  cases hj : all[j]? with
  | none => rw [hj] at hu; cases hu
  | some q =>
    rw [hj] at hu
    dsimp only at hu ⊢
    rw [hu]
    dsimp only
    cases tm.get u with
    | none => rfl
    | some v => cases v <;> rfl
theorem g_core {n t u : Nat} {mk : List Nat} {tm : T XV} {w : Bool} {d : D} {o : Oper} {ih : YK} {xih : Fr → St → Option (Fr × St)} (hih : ∀ tm S, SameR n mk (ih tm mk S) (xih ⟨n, tm, mk⟩ S)) (ht : Nat.blt t n = true) (hd : d = decD C o.op) : SameR n mk (retQ (plW (pl t)) ih tm mk S (gdY C (plA (pl u)) w d tm S)) (match (match tm.get u with | some v => some (gdB w v) | none => none) with
    | some true => (match xval C ⟨n, tm, mk⟩ S o.op with | some v => xih (Fr.set ⟨n, tm, mk⟩ (some t) (some v)) S | none => none)
    | some false => xih (Fr.set ⟨n, tm, mk⟩ (some t) (some (.tup []))) S
    | none => none) := by
  subst hd
  unfold gdY
  show SameR n mk (retQ (plW (pl t)) ih tm mk S (Option.rec (motive := fun _ => Option XV) none (fun v => Bool.rec (motive := fun _ => Option XV) (some (.tup [])) (valD (decD C o.op) C tm S) (gdB w v)) (evA (plA (pl u)) tm))) _
  rw [show evA (plA (pl u)) tm = tm.get u from plA_eq (pl u) tm]
  cases tm.get u with
  | none => exact rfl
  | some v =>
    dsimp only
    cases gdB w v with
    | false => exact retY_ok hih ht (some (.tup [], S))
    | true =>
      dsimp only
      have e1 : valD (decD C o.op) C tm S = xval C ⟨n, tm, mk⟩ S o.op := valD_eq (fr := ⟨n, tm, mk⟩) o.op
      rw [e1]
      cases xval C ⟨n, tm, mk⟩ S o.op with
      | none => exact rfl
      | some v => exact retY_ok hih ht (some (v, S))
theorem yop_ok {lim : Nat} {ro : Option Nat} {n : Nat} {mk : List Nat} {all : List Oper} {o : Oper} {ih : YK} {xih : Fr → St → Option (Fr × St)} (hih : ∀ tm S, SameR n mk (ih tm mk S) (xih ⟨n, tm, mk⟩ S)) (tm : T XV) (S : St) : SameR n mk (yop (decI C n all o) ⟨C, call, yld, lim, ro, n⟩ all ih tm mk S) (xplainN C call yld all o xih ⟨n, tm, mk⟩ S) := by
  have hs := dec_spec C n all o
  have hw : o.guard = none → wantedB ⟨n, tm, mk⟩ all o = some true := fun hg => by unfold wantedB; rw [hg]
  cases hD : decI C n all o with
  | sl o' =>
    rw [hD] at hs
    have hs : o' = o := hs
    subst hs
    exact yslow_ok hih tm S
  | q p d =>
    rw [hD] at hs
    obtain ⟨hg, t, hd, ht, rfl, hq, rfl⟩ := hs
    unfold xplainN
    rw [hw hg]
    dsimp only
    rw [operF_eq, ← oRet_eq hq, hd]
    show SameR n mk (retQ (plW (pl t)) ih tm mk S (valD (decD C o.op) C tm S)) _
    have e1 : valD (decD C o.op) C tm S = xval C ⟨n, tm, mk⟩ S o.op := valD_eq (fr := ⟨n, tm, mk⟩) o.op
    rw [e1]
    cases xval C ⟨n, tm, mk⟩ S o.op with
    | none => exact rfl
    | some v => exact retY_ok hih ht (some (v, S))
  | g u w p d =>
    rw [hD] at hs
    obtain ⟨j, u', t, hg, hj, rfl, hd, ht, rfl, hq, hdd⟩ := hs
    unfold xplainN
    rw [g_wanted hg hj, operF_eq, ← oRet_eq hq, hd]
    refine (show SameR n mk (retQ (plW (pl t)) ih tm mk S (gdY C (plA (pl u')) w d tm S)) _ from ?_)
    have := g_core (C := C) (S := S) (tm := tm) (u := u') (w := w) (o := o) hih ht hdd
    cases hu : tm.get u' with
    | none => rw [hu] at this; exact this
    | some v =>
      rw [hu] at this
      dsimp only at this ⊢
      cases hgd : gdB w v with
      | false => rw [hgd] at this; exact this
      | true =>
        rw [hgd] at this
        dsimp only at this ⊢
        cases hx : xval C ⟨n, tm, mk⟩ S o.op with
        | none => rw [hx] at this; exact this
        | some x => rw [hx] at this; exact this
  | st a x =>
    rw [hD] at hs
    obtain ⟨hg, hd, t, b, y, i, ho, hi, h1, rfl, rfl⟩ := hs
    unfold xplainN
    rw [hw hg]
    dsimp only
    rw [operF_eq, ho, hd, st_core hi h1]
    show SameR n mk (retS ih tm mk (stY C.fl (decA C.fl b) (decA C.fl y) tm S)) _
    cases stY C.fl (decA C.fl b) (decA C.fl y) tm S with
    | none => exact rfl
    | some S' => exact hih tm S'
  | cl p f l =>
    rw [hD] at hs
    obtain ⟨hg, t, c, g, hd, ht, rfl, ho, hc, rfl, rfl⟩ := hs
    unfold xplainN
    rw [hw hg]
    dsimp only
    rw [operF_eq, ho, hd, cl_core hc]
    exact retY_ok hih ht _
  | al p z =>
    rw [hD] at hs
    obtain ⟨hg, t, e, i, hd, ht, rfl, ho, hi, rfl⟩ := hs
    unfold xplainN
    rw [hw hg]
    dsimp only
    rw [operF_eq, ho, hd]
    unfold xoper
    simp only [isQ, isFresh, freshV, hi]
    exact retY_ok hih ht (some (.ptr S.nx 0, newY S i.zero))
  | bx p x =>
    rw [hD] at hs
    obtain ⟨hg, t, e, y, hd, ht, rfl, ho, rfl⟩ := hs
    unfold xplainN
    rw [hw hg]
    dsimp only
    rw [operF_eq, ho, hd]
    unfold xoper
    simp only [isQ, isFresh, freshV]
    show SameR n mk (retY (plW (pl t)) ih tm mk (bxY (decA C.fl y) tm S)) _
    unfold bxY
    have e1 : evA (decA C.fl y) tm = Fr.ev C.fl ⟨n, tm, mk⟩ y := ev_eq (fr := ⟨n, tm, mk⟩) C.fl y
    rw [e1]
    cases Fr.ev C.fl ⟨n, tm, mk⟩ y with
    | none => exact rfl
    | some v =>
      dsimp only
      cases v.cells with
      | none => exact rfl
      | some cs => exact retY_ok hih ht (some (.ptr S.nx 0, newY S cs))
theorem names_same (nx : Nat) {S S' : St} : ∀ (n : Nat), (∀ b, (S'.hp.get b = none ↔ S.hp.get b = none)) → namesOk nx S S' n = true
  | 0, _ => rfl
  | j + 1, h => by
    simp only [namesOk, Bool.and_eq_true]
    refine ⟨?_, names_same nx j h⟩
    have := h (nx + j)
    cases h1 : S.hp.get (nx + j) <;> cases h2 : S'.hp.get (nx + j) <;> rw [h1, h2] at this <;> first | rfl | (simp at this)
theorem store_names {fl b o : Nat} {vs : List XV} {S' : St} (h : S.store fl b o vs = some S') (k : Nat) : S'.hp.get k = none ↔ S.hp.get k = none := by
  unfold St.store at h
  cases hb : S.blk b with
  | none => rw [hb] at h; cases h
  | some B =>
    rw [hb] at h
    dsimp only at h
    have hne : S.hp.get b ≠ none := fun q => by unfold St.blk at hb; rw [q] at hb; cases hb
    cases hs : setL B.cs o vs with
    | none => rw [hs] at h; cases h
    | some cs =>
      rw [hs] at h
      dsimp only at h
      cases hf : Nat.ble B.fz o with
      | false => rw [hf] at h; cases h
      | true =>
        rw [hf] at h
        dsimp only at h
        obtain ⟨_, rfl⟩ := put_some h
        simp only [T.get_set]
        by_cases q : k = b
        · subst q; rw [if_pos rfl]; simp [hne]
        · rw [if_neg q]
theorem stY_names {a x : A} {tm : T XV} {S' : St} (h : stY C.fl a x tm S = some S') (k : Nat) : S'.hp.get k = none ↔ S.hp.get k = none := by
  unfold stY at h
  cases h1 : evA a tm with
  | none => rw [h1] at h; cases h
  | some v => cases h2 : evA x tm with
    | none => rw [h1, h2] at h; cases h
    | some w =>
      rw [h1, h2] at h
      dsimp only at h
      cases v <;> first | (cases h; done) | skip
      rename_i b o
      change stV C.fl w S b o = some S' at h
      unfold stV at h
      cases h3 : isOne w with
      | true =>
        rw [h3] at h
        dsimp only at h
        rw [st1_eq] at h
        exact store_names h k
      | false =>
        rw [h3] at h
        dsimp only at h
        cases h4 : w.cells with
        | none => rw [h4] at h; cases h
        | some cs =>
          rw [h4] at h
          dsimp only at h
          cases h5 : Nat.beq cs.length 1 with
          | false => rw [h5] at h; cases h
          | true => rw [h5] at h; exact store_names h k
theorem fresh_tm {n : Nat} {mk : List Nat} {tm : T XV} {N : Nat} (o : Op) : freshV C ⟨0, tm, []⟩ N o = freshV C ⟨n, tm, mk⟩ N o := Ag.freshV fun _ _ => rfl
theorem yslowJ_ok {n nx : Nat} {mk : List Nat} {all : List Oper} {o : Oper} {i : Nat} {ih : YK} {xih : Fr → St → Option (Fr × St)} (hih : ∀ tm S, SameR n mk (ih tm mk S) (xih ⟨n, tm, mk⟩ S)) (tm : T XV) (S : St) : SameR n mk (yslowJ C call yld n nx all i o ih tm mk S) (runN C call yld nx all o i xih ⟨n, tm, mk⟩ S) := by
  unfold yslowJ runN
  cases wantedB ⟨n, tm, mk⟩ all o with
  | none => exact rfl
  | some b => cases b with
    | false => exact oper_step hih _ _
    | true =>
      dsimp only
      cases isQ o.op with
      | true =>
        dsimp only
        cases xval C ⟨n, tm, mk⟩ S o.op with
        | none => exact rfl
        | some v => exact oper_step hih _ _
      | false => cases isFresh o.op with
        | true =>
          dsimp only
          cases freshV C ⟨n, tm, mk⟩ (nx + i) o.op with
          | none => exact rfl
          | some p => cases S.hp.get (nx + i) with
            | some q => exact rfl
            | none => exact oper_step hih _ _
        | false =>
          dsimp only
          cases xoper C call yld ⟨n, tm, mk⟩ S o.op with
          | none => exact rfl
          | some p =>
            obtain ⟨v, S'⟩ := p
            dsimp only
            cases namesOk nx S S' all.length with
            | false => exact rfl
            | true => exact oper_step hih _ _
theorem yopJ_ok {lim : Nat} {ro : Option Nat} {n nx : Nat} {mk : List Nat} {all : List Oper} {o : Oper} {i : Nat} {ih : YK} {xih : Fr → St → Option (Fr × St)} (hih : ∀ tm S, SameR n mk (ih tm mk S) (xih ⟨n, tm, mk⟩ S)) (tm : T XV) (S : St) : SameR n mk (yopJ (decJ C n all i o) ⟨C, call, yld, lim, ro, n⟩ nx all ih tm mk S) (runN C call yld nx all o i xih ⟨n, tm, mk⟩ S) := by
  have hs := dec_spec C n all o
  have hw : o.guard = none → wantedB ⟨n, tm, mk⟩ all o = some true := fun hg => by unfold wantedB; rw [hg]
  have slow : SameR n mk (yopJ (.sl i o) ⟨C, call, yld, lim, ro, n⟩ nx all ih tm mk S) (runN C call yld nx all o i xih ⟨n, tm, mk⟩ S) := yslowJ_ok hih tm S
  have hF : SameR n mk (yopJ (decF n i o) ⟨C, call, yld, lim, ro, n⟩ nx all ih tm mk S) (runN C call yld nx all o i xih ⟨n, tm, mk⟩ S) := by
    unfold decF
    cases hg : o.guard with
    | some g => exact slow
    | none => cases hd : o.dst with
      | none => exact slow
      | some t => cases hq : isQ o.op with
        | true => exact slow
        | false => cases hf : isFresh o.op with
          | false => exact slow
          | true =>
            dsimp only
            cases ht : Nat.blt t n with
            | false => exact slow
            | true =>
              dsimp only
              unfold runN
              rw [hw hg]
              dsimp only
              rw [hq, hf, hd]
              dsimp only
              show SameR n mk (retY (plW (pl t)) ih tm mk (frY C (nx + i) o.op tm S)) _
              unfold frY
              rw [fresh_tm (n := n) (mk := mk)]
              cases freshV C ⟨n, tm, mk⟩ (nx + i) o.op with
              | none => exact rfl
              | some p =>
                obtain ⟨v, ob⟩ := p
                cases S.hp.get (nx + i) with
                | none => exact retY_ok hih ht (some (v, ⟨S.hp.set (some ob) (nx + i), S.nx⟩))
                | some q => exact rfl
  unfold decJ
  cases hD : decI C n all o with
  | sl o' => exact hF
  | al p z => exact hF
  | bx p x => exact hF
  | q p d =>
    rw [hD] at hs
    obtain ⟨hg, t, hd, ht, rfl, hq, rfl⟩ := hs
    unfold runN
    rw [hw hg]
    dsimp only
    rw [hq, hd]
    dsimp only
    show SameR n mk (retQ (plW (pl t)) ih tm mk S (valD (decD C o.op) C tm S)) _
    have e1 : valD (decD C o.op) C tm S = xval C ⟨n, tm, mk⟩ S o.op := valD_eq (fr := ⟨n, tm, mk⟩) o.op
    rw [e1]
    cases xval C ⟨n, tm, mk⟩ S o.op with
    | none => exact rfl
    | some v => exact retY_ok hih ht (some (v, S))
  | g u w p d =>
    rw [hD] at hs
    obtain ⟨j, u', t, hg, hj, rfl, hd, ht, rfl, hq, hdd⟩ := hs
    unfold runN
    rw [g_wanted hg hj, hq, hd]
    refine (show SameR n mk (retQ (plW (pl t)) ih tm mk S (gdY C (plA (pl u')) w d tm S)) _ from ?_)
    have := g_core (C := C) (S := S) (tm := tm) (u := u') (w := w) (o := o) hih ht hdd
    cases hu : tm.get u' with
    | none => rw [hu] at this; exact this
    | some v =>
      rw [hu] at this
      dsimp only at this ⊢
      cases hgd : gdB w v with
      | false => rw [hgd] at this; exact this
      | true =>
        rw [hgd] at this
        dsimp only at this ⊢
        cases hx : xval C ⟨n, tm, mk⟩ S o.op with
        | none => rw [hx] at this; exact this
        | some x => rw [hx] at this; exact this
  | st a x =>
    rw [hD] at hs
    obtain ⟨hg, hd, t, b, y, ti, ho, hi, h1, rfl, rfl⟩ := hs
    unfold runN
    rw [hw hg]
    dsimp only
    rw [ho, hd, st_core hi h1]
    show SameR n mk (retS ih tm mk (stY C.fl (decA C.fl b) (decA C.fl y) tm S)) (match (match stY C.fl (decA C.fl b) (decA C.fl y) tm S with | some S' => some (XV.tup [], S') | none => none) with | some (v, S') => (match namesOk nx S S' all.length with | true => xih ⟨n, tm, mk⟩ S' | false => none) | none => none)
    cases hst : stY C.fl (decA C.fl b) (decA C.fl y) tm S with
    | none => exact rfl
    | some S' =>
      dsimp only
      rw [names_same nx all.length (stY_names hst)]
      exact hih tm S'
  | cl p f l =>
    rw [hD] at hs
    obtain ⟨hg, t, c, g, hd, ht, rfl, ho, hc, rfl, rfl⟩ := hs
    unfold runN
    rw [hw hg]
    dsimp only
    have hq : isQ (.call c) = false := by simp only [isQ, hc]
    rw [ho, hd, hq, cl_core hc]
    show SameR n mk (retY (plW (pl t)) ih tm mk (keepY nx all.length S (clY call yld (decA C.fl g) (decL C.fl c.args.toList) tm S))) (match clY call yld (decA C.fl g) (decL C.fl c.args.toList) tm S with | some (v, S') => (match namesOk nx S S' all.length with | true => xih (Fr.set ⟨n, tm, mk⟩ (some t) (some v)) S' | false => none) | none => none)
    have e : (match clY call yld (decA C.fl g) (decL C.fl c.args.toList) tm S with | some (v, S') => (match namesOk nx S S' all.length with | true => xih (Fr.set ⟨n, tm, mk⟩ (some t) (some v)) S' | false => none) | none => none) = match keepY nx all.length S (clY call yld (decA C.fl g) (decL C.fl c.args.toList) tm S) with | some (v, S') => xih (Fr.set ⟨n, tm, mk⟩ (some t) (some v)) S' | none => none := by
      unfold keepY
      cases clY call yld (decA C.fl g) (decL C.fl c.args.toList) tm S with
      | none => rfl
      | some p =>
        obtain ⟨v, S'⟩ := p
        dsimp only
        cases namesOk nx S S' all.length <;> rfl
    rw [e]
    exact retY_ok hih ht _
theorem yops_ok {lim : Nat} {ro : Option Nat} {n : Nat} {mk : List Nat} {all : List Oper} : ∀ (l : List Oper) (tm : T XV) (S : St), SameR n mk (yops (decR C n all l) ⟨C, call, yld, lim, ro, n⟩ all tm mk S) (xplain C call yld all l ⟨n, tm, mk⟩ S)
  | [], _, _ => ⟨rfl, rfl, rfl⟩
  | _ :: l, tm, S => yop_ok (yops_ok l) tm S
theorem yopsJ_ok {lim : Nat} {ro : Option Nat} {n nx : Nat} {mk : List Nat} {all : List Oper} : ∀ (l : List Oper) (i : Nat) (tm : T XV) (S : St), SameR n mk (yopsJ (decJs C n all l i) ⟨C, call, yld, lim, ro, n⟩ nx all tm mk S) (runF C call yld nx all l i ⟨n, tm, mk⟩ S)
  | [], _, _, _ => by simp only [runF]; exact ⟨rfl, rfl, rfl⟩
  | _ :: l, i, tm, S => by
    simp only [runF]
    exact yopJ_ok (yopsJ_ok l (i + 1)) tm S
theorem setAll_parts : ∀ (l : List Oper) (xs : List XV) (fr : Fr), (setAll l xs fr).n = fr.n ∧ (setAll l xs fr).marks = fr.marks
  | [], _, _ => by unfold setAll; exact ⟨rfl, rfl⟩
  | _ :: _, [], _ => by unfold setAll; exact ⟨rfl, rfl⟩
  | o :: l, x :: xs, fr => by
    unfold setAll
    obtain ⟨h1, h2⟩ := setAll_parts l xs (fr.set o.dst (some x))
    rw [h1, h2, set_parts]
    exact ⟨rfl, rfl⟩
theorem xdraw_parts {ops : List Oper} {fr' : Fr} {S' : St} (h : xdraw C call yld ops fr S = some (fr', S')) : fr'.n = fr.n ∧ fr'.marks = fr.marks := by
  unfold xdraw at h
  split at h
  · split at h
    · split at h
      · cases h; exact setAll_parts _ _ _
      · cases h
    · cases h
  · cases h
def YR.res (n : Nat) : YR → Res
  | .no => none
  | .nrm tm mk S => some (.normal, ⟨n, tm, mk⟩, S)
  | .jmp j tm mk S => some (.jump j, ⟨n, tm, mk⟩, S)
theorem yregion_eq {lim : Nat} {ro : Option Nat} (n : Nat) (ops : List Oper) (d : Bool) (tm : T XV) (mk : List Nat) (S : St) : (yregion ops d ⟨C, call, yld, lim, ro, n⟩ tm mk S).res n = match xregion C call yld ops d ⟨n, tm, mk⟩ S with | some (fr, S) => some (.normal, fr, S) | none => none := by
  cases d with
  | false =>
    have h := yops_ok (C := C) (call := call) (yld := yld) (lim := lim) (ro := ro) (n := n) (mk := mk) (all := ops) ops tm S
    show (yops (decR C n ops ops) ⟨C, call, yld, lim, ro, n⟩ ops tm mk S).res n = match xplain C call yld ops ops ⟨n, tm, mk⟩ S with | some (fr, S) => some (.normal, fr, S) | none => none
    cases hx : xplain C call yld ops ops ⟨n, tm, mk⟩ S with
    | none =>
      rw [hx] at h
      have h : _ = YR.no := h
      rw [h]; rfl
    | some p =>
      obtain ⟨⟨n', tm', mk'⟩, S'⟩ := p
      rw [hx] at h
      obtain ⟨h1, h2, h3⟩ := h
      have h2 : n' = n := h2
      have h3 : mk' = mk := h3
      subst h2 h3
      rw [h1]; rfl
  | true =>
    have hs : (ydrawS ⟨C, call, yld, lim, ro, n⟩ ops tm mk S).res n = match xdraw C call yld ops ⟨n, tm, mk⟩ S with | some (fr, S) => some (.normal, fr, S) | none => none := by
      unfold ydrawS
      dsimp only
      cases hx : xdraw C call yld ops ⟨n, tm, mk⟩ S with
      | none => rfl
      | some p =>
        obtain ⟨⟨n', tm', mk'⟩, S'⟩ := p
        have h2 : n' = n := (xdraw_parts hx).1
        subst h2
        rfl
    show (YR.rec (motive := fun _ => YR) (ydrawS ⟨C, call, yld, lim, ro, n⟩ ops tm mk S) (fun tm mk S => .nrm tm mk S) (fun _ _ _ _ => ydrawS ⟨C, call, yld, lim, ro, n⟩ ops tm mk S) (ydrawF ⟨C, call, yld, lim, ro, n⟩ (decJs C n ops ops 0) (ben n ops) ops tm mk S)).res n = match xdraw C call yld ops ⟨n, tm, mk⟩ S with | some (fr, S) => some (.normal, fr, S) | none => none
    cases hF : ydrawF ⟨C, call, yld, lim, ro, n⟩ (decJs C n ops ops 0) (ben n ops) ops tm mk S with
    | no => exact hs
    | jmp j tm' mk' S' => exact hs
    | nrm tm' mk' S' =>
      unfold ydrawF at hF
      cases hb : ben n ops with
      | false => rw [hb] at hF; cases hF
      | true =>
        rw [hb] at hF
        dsimp only at hF
        have hk := yopsJ_ok (C := C) (call := call) (yld := yld) (lim := lim) (ro := ro) (n := n) (nx := S.nx) (mk := mk) (all := ops) ops 0 tm ⟨S.hp, Nat.add S.nx ops.length⟩
        rw [hF] at hk
        cases hr : runF C call yld S.nx ops ops 0 ⟨n, tm, mk⟩ ⟨S.hp, Nat.add S.nx ops.length⟩ with
        | none => rw [hr] at hk; cases hk
        | some p =>
          obtain ⟨⟨n1, tm1, mk1⟩, S1⟩ := p
          rw [hr] at hk
          obtain ⟨k1, k2, k3⟩ := hk
          cases k1
          have k2 : n1 = n := k2
          have k3 : mk1 = mk := k3
          subst k2 k3
          rw [xdraw_of (fr0 := ⟨n1, tm, mk1⟩) hb hr]
          rfl
theorem yloop_eq {n : Nat} {body : YK} {xb : Fr → St → Res} (h : ∀ tm mk S, (body tm mk S).res n = xb ⟨n, tm, mk⟩ S) : ∀ (k : Nat) tm mk S, (yloop body k tm mk S).res n = xloop xb k ⟨n, tm, mk⟩ S
  | 0, _, _, _ => rfl
  | k + 1, tm, mk, S => by
    show (thenY (body tm mk S) (yloop body k)).res n = _
    unfold xloop
    rw [← h]
    cases body tm mk S with
    | no => rfl
    | nrm tm mk S => exact yloop_eq h k tm mk S
    | jmp j tm mk S => rfl
theorem yrange_eq (lim : Nat) (ro : Option Nat) (n : Nat) (g : Operand) (ps : Array Tmp) (as body : Code) (tm : T XV) (mk : List Nat) (S : St) : (yrange C call ro n g ps as body tm mk S).res n = xcode C call yld lim ro (.rangeFunc g ps as body) ⟨n, tm, mk⟩ S := by
  unfold yrange xcode
  cases he : enterX ro ⟨n, tm, mk⟩ S with
  | none => rfl
  | some p =>
    obtain ⟨df, fr', S1⟩ := p
    have hfr : fr' = ⟨n, tm, fr'.marks⟩ := by
      unfold enterX at he
      cases ro with
      | none => cases he; rfl
      | some l =>
        dsimp only at he
        split at he
        · cases he; rfl
        · cases he
    dsimp only
    cases Fr.ev C.fl ⟨n, tm, mk⟩ g with
    | none => rfl
    | some v =>
      cases v <;> first | rfl | skip
      rename_i f first cap
      dsimp only
      cases call f (first ++ [.yld S1.nx] ++ cap) (S1.new (.loop ⟨.ready, none, n, tm, ps, as, body, df⟩)) with
      | none => rfl
      | some q =>
        obtain ⟨x, S2⟩ := q
        dsimp only
        cases S2.hp.get S1.nx with
        | none => rfl
        | some ob =>
          cases ob <;> first | rfl | skip
          rename_i L
          dsimp only
          cases hst : L.st <;> first | rfl | skip
          all_goals
            dsimp only
            cases S2.put C.fl S1.nx (.loop { L with st := .exhausted }) with
            | none => rfl
            | some S3 =>
              dsimp only
              cases L.pend with
              | none => show some (XE.normal, (⟨n, tm, fr'.marks⟩ : Fr), S3) = some (XE.normal, fr', S3); rw [← hfr]
              | some j => show some (XE.jump j, (⟨n, tm, fr'.marks⟩ : Fr), S3) = some (XE.jump j, fr', S3); rw [← hfr]
theorem ycode_eq (lim : Nat) (ro : Option Nat) (n : Nat) : ∀ (c : Code) (tm : T XV) (mk : List Nat) (S : St), (ycode c ⟨C, call, yld, lim, ro, n⟩ tm mk S).res n = xcode C call yld lim ro c ⟨n, tm, mk⟩ S
  | .skip, _, _, _ => by unfold xcode; rfl
  | .label _, _, _, _ => by unfold xcode; rfl
  | .region _ ops d, tm, mk, S => by unfold xcode; exact yregion_eq n ops.toList d tm mk S
  | .seq a b, tm, mk, S => by
    have h1 := ycode_eq lim ro n a tm mk S
    have h2 := ycode_eq lim ro n b
    show (thenY (ycode a ⟨C, call, yld, lim, ro, n⟩ tm mk S) (ycode b ⟨C, call, yld, lim, ro, n⟩)).res n = _
    unfold xcode
    rw [← h1]
    cases ycode a ⟨C, call, yld, lim, ro, n⟩ tm mk S with
    | no => rfl
    | nrm tm mk S => exact h2 tm mk S
    | jmp j tm mk S => rfl
  | .cond c a b, tm, mk, S => by
    have h1 := ycode_eq lim ro n a tm mk S
    have h2 := ycode_eq lim ro n b tm mk S
    show (condY (decA C.fl c) (ycode a ⟨C, call, yld, lim, ro, n⟩) (ycode b ⟨C, call, yld, lim, ro, n⟩) tm mk S).res n = _
    unfold xcode condY
    have e1 : evA (decA C.fl c) tm = Fr.ev C.fl ⟨n, tm, mk⟩ c := ev_eq (fr := ⟨n, tm, mk⟩) C.fl c
    rw [e1]
    cases Fr.ev C.fl ⟨n, tm, mk⟩ c with
    | none => rfl
    | some v => cases v with
      | bool x => cases x with
        | true => exact h1
        | false => exact h2
      | _ => rfl
  | .block id c, tm, mk, S => by
    have h1 := ycode_eq lim ro n c tm mk S
    show (blkY id (ycode c ⟨C, call, yld, lim, ro, n⟩ tm mk S)).res n = _
    unfold xcode
    rw [← h1]
    cases ycode c ⟨C, call, yld, lim, ro, n⟩ tm mk S with
    | no => rfl
    | nrm tm mk S => rfl
    | jmp j tm mk S => cases j with
      | exit e =>
        show (Bool.rec (motive := fun _ => YR) (.jmp (.exit e) tm mk S) (.nrm tm mk S) (Nat.beq e id)).res n = match Nat.beq e id with | true => some (.normal, (⟨n, tm, mk⟩ : Fr), S) | false => some (.jump (.exit e), (⟨n, tm, mk⟩ : Fr), S)
        cases Nat.beq e id <;> rfl
      | goto l => rfl
      | ret => rfl
  | .loop c, tm, mk, S => by
    have h1 := ycode_eq lim ro n c
    unfold xcode
    exact yloop_eq h1 lim tm mk S
  | .scope c, tm, mk, S => by
    have h1 := ycode_eq lim ro n c tm mk S
    show (scpY (ycode c ⟨C, call, yld, lim, ro, n⟩ tm mk S)).res n = _
    unfold xcode
    rw [← h1]
    cases ycode c ⟨C, call, yld, lim, ro, n⟩ tm mk S with
    | no => rfl
    | nrm tm mk S => rfl
    | jmp j tm mk S => cases j <;> rfl
  | .exit _, _, _, _ => by unfold xcode; rfl
  | .goto _, _, _, _ => by unfold xcode; rfl
  | .ret, _, _, _ => by unfold xcode; rfl
  | .rangeFunc g ps as body, tm, mk, S => yrange_eq lim ro n g ps as body tm mk S
  | .refuse _, _, _, _ => by unfold xcode; rfl
theorem ybody_eq (lim f : Nat) (args : List XV) (S : St) : ybody C call yld lim f args S = xbody C call yld lim f args S := by
  unfold ybody
  cases ho : C.orc f args S with
  | some v => unfold xbody; rw [ho]
  | none =>
    dsimp only
    cases hf : C.fn f with
    | none => unfold xbody; rw [ho, hf]
    | some fn =>
      dsimp only
      cases hb : fn.body with
      | none => unfold xbody; rw [ho, hf]; dsimp only; rw [hb]
      | some c =>
        dsimp only
        cases hl : Nat.ble args.length fn.ntmps with
        | false => rfl
        | true =>
          have hn : args.length + (fn.ntmps - args.length) = fn.ntmps := by have := ble_iff.1 hl; omega
          show yfin C fn fn.ntmps (ycode c ⟨C, call, yld, lim, none, fn.ntmps⟩ (T.ofL args 0 .leaf) [] S) = _
          unfold xbody
          rw [ho, hf]
          dsimp only
          rw [hb]
          dsimp only
          rw [hn, ← ycode_eq]
          cases ycode c ⟨C, call, yld, lim, none, fn.ntmps⟩ (T.ofL args 0 .leaf) [] S with
          | no => rfl
          | nrm tm mk S => rfl
          | jmp j tm mk S => cases j <;> rfl
theorem yround_eq (lim l : Nat) (args : List XV) (S : St) : yround C call yld lim l args S = xround C call yld lim l args S := by
  unfold yround xround
  cases S.hp.get l with
  | none => rfl
  | some ob =>
    cases ob <;> first | rfl | skip
    rename_i L
    dsimp only
    cases Nat.beq args.length L.params.size && L.params.toList.all (fun p => Nat.blt p L.n) with
    | false => rfl
    | true =>
      dsimp only
      rw [← ycode_eq]
      cases ycode L.assign ⟨C, call, yld, lim, some l, L.n⟩ (setPs L.params.toList args L.tm) [] S with
      | no => rfl
      | jmp j tm mk S => rfl
      | nrm tm mk S1 =>
        dsimp only [YR.res]
        cases S1.hp.get l with
        | none => rfl
        | some ob1 =>
          cases ob1 <;> first | rfl | skip
          rename_i L1
          dsimp only
          cases L1.st <;> first | rfl | skip
          dsimp only
          cases S1.put C.fl l (.loop { L1 with st := .busy }) with
          | none => rfl
          | some S2 =>
            dsimp only
            rw [← ycode_eq]
            cases ycode L.body ⟨C, call, yld, lim, some l, L.n⟩ tm mk S2 with
            | no => rfl
            | nrm tm3 mk3 S3 =>
              dsimp only [YR.res]
              cases S3.hp.get l with
              | none => rfl
              | some ob3 => cases ob3 <;> first | rfl | (cases mk3 <;> rfl)
            | jmp j tm3 mk3 S3 =>
              dsimp only [YR.res]
              cases S3.hp.get l with
              | none => rfl
              | some ob3 => cases ob3 <;> first | rfl | (cases mk3 <;> rfl)
theorem Y_eq (lim : Nat) : ∀ (k : Nat) (b : Bool), Y C lim k b = X C lim k b
  | 0, b => by funext f args S; cases b <;> (unfold X; rfl)
  | k + 1, b => by
    have h1 := Y_eq lim k true
    have h2 := Y_eq lim k false
    funext f args S
    cases b with
    | true =>
      show ybody C (Y C lim k true) (Y C lim k false) lim f args S = _
      rw [h1, h2, ybody_eq]
      unfold X
      rfl
    | false =>
      show yround C (Y C lim k true) (Y C lim k false) lim f args S = _
      rw [h1, h2, yround_eq]
      unfold X
      rfl
end
end Go.Proofs.YtlibeobmdjeilaaGreatDoor.Ex
namespace Go.Proofs.YtlibeobmdjeilaaGreatDoor.Ex
open Go Go.RowKit
section
variable {F : Fence} {n : Nat} {P : Program} {ops : Array Oper} {Q : Exit → Act → World → Prop} {md : Region.Mode}
def todoI (ops : Array Oper) (listed : Array Bool) : List Nat := (List.range ops.size).filter fun i => !listed.getD i true
theorem todoI_next {listed : Array Bool} {i : Nat} (h : i ∈ todoI ops listed) : (todoI ops (listed.setIfInBounds i true)).length < (todoI ops listed).length := by
  have e : todoI ops (listed.setIfInBounds i true) = (todoI ops listed).filter fun j => decide (j ≠ i) := by
    unfold todoI
    rw [List.filter_filter]
    refine List.filter_congr fun j _ => ?_
    by_cases hj : j = i
    · subst hj
      have hlt : j < listed.size := by
        have h2 := (List.mem_filter.1 h).2
        rcases Nat.lt_or_ge j listed.size with h3 | h3
        · exact h3
        · simp [Array.getD, Nat.not_lt.2 h3] at h2
      simp [Array.getD, hlt]
    · have : (listed.setIfInBounds i true).getD j true = listed.getD j true := by
        rw [Array.getD_eq_getD_getElem?, Array.getD_eq_getD_getElem?, Array.getElem?_setIfInBounds_ne (Ne.symm hj)]
      rw [this]
      simp [hj]
  rw [e]
  exact List.length_filter_lt_length_iff_exists.2 ⟨i, h, by simp⟩
theorem ready_todoI {listed : Array Bool} {i : Nat} (h : i ∈ Region.ready md ops listed) : i ∈ todoI ops listed := by
  unfold Region.ready at h
  obtain ⟨h1, h2⟩ := List.mem_filter.1 h
  rw [Bool.and_eq_true] at h2
  exact List.mem_filter.2 ⟨h1, h2.1⟩
/-- What holds at the beginning, and is kept by every operation that may come up, holds at the end. -/
theorem wpAnyIn_inv (I : Array Bool → Act → World → Prop) (hstep : ∀ listed a w i, I listed a w → i ∈ Region.ready md ops listed → wpOpIn F n P ops Q i (I (listed.setIfInBounds i true)) a w)
    (hdone : ∀ listed a w, I listed a w → Region.ready md ops listed = [] → Q .normal a w) :
    ∀ (fuel : Nat) (listed : Array Bool) (a : Act) (w : World), (todoI ops listed).length ≤ fuel → I listed a w → wpAnyIn F n P md ops Q fuel listed a w
  | 0, listed, a, w, hf, hI => by
    have hr : Region.ready md ops listed = [] := by
      refine List.eq_nil_iff_forall_not_mem.2 fun i hi => ?_
      have h1 := ready_todoI hi
      have h2 := List.eq_nil_of_length_eq_zero (Nat.le_zero.1 hf)
      rw [h2] at h1
      cases h1
    exact ⟨hr, hdone _ _ _ hI hr⟩
  | fuel + 1, listed, a, w, hf, hI => ⟨fun hr => hdone _ _ _ hI hr, fun i hi => wpOpIn_mono (fun a' w' h' => wpAnyIn_inv I hstep hdone fuel _ a' w' (by have := todoI_next (ready_todoI hi); omega) h') (hstep listed a w i hI hi)⟩
theorem wpIn_region_inv {id : Nat} {a : Act} {w : World} (hm : P.follows .mixedOrders = true) (I : Array Bool → Act → World → Prop)
    (hstep : ∀ listed a w i, I listed a w → i ∈ Region.ready .any ops listed → wpOpIn F n P ops Q i (I (listed.setIfInBounds i true)) a w)
    (hdone : ∀ listed a w, I listed a w → Region.ready .any ops listed = [] → Q .normal a w) (h0 : I (Array.replicate ops.size false) a w.drew) : (Code.region id ops true).wpIn F n P Q a w := by
  refine wpIn_region_any hm (wpAnyIn_inv I hstep hdone _ _ _ _ ?_ h0)
  refine Nat.le_trans (List.length_filter_le _ _) ?_
  simp
end
def dn (listed : Array Bool) (j : Nat) : Bool := listed.getD j false
theorem dn_set {listed : Array Bool} {i : Nat} (hi : i < listed.size) (j : Nat) : dn (listed.setIfInBounds i true) j = if j = i then true else dn listed j := by
  unfold dn
  rw [Array.getD_eq_getD_getElem?, Array.getD_eq_getD_getElem?]
  by_cases h : j = i
  · subst h; rw [if_pos rfl]; simp [hi]
  · rw [if_neg h, Array.getElem?_setIfInBounds_ne (Ne.symm h)]
/-- What is kept in a drawn region: t the names, H memory behind the operations that act. -/
structure Jn (C : Ctx) (q0 : Gq) (s0 : Env) (nx : Nat) (all : List Oper) (ms : List Nat) (R : Run) (a0 : Act) (listed : Array Bool) (a : Act) (w : World) (t : Env) (H : St) : Prop where
  le : s0.le t
  rel : Rel ⟨C.fl, q0⟩ t H w
  st : R.Ss[countB (dn listed) all 0]? = some H
  sz : listed.size = all.length
  cl : ∀ i j, dn listed i = true → befM ms i j = true → dn listed j = true
  und : ∀ i, i < all.length → dn listed i = false → t (nx + i) = none ∧ H.hp.get (nx + i) = none ∧ nx + i < H.nx
  pd : ∀ i o, dn listed i = true → R.ds[i]? = some (some o) → H.hp.get (nx + i) = none → ∃ e ob, t (nx + i) = some e ∧ w.heap[e.blk]? = some ob ∧ OR t o e ob ∧ q0.nf ≤ e.blk ∧ ¬ q0.pr e.blk ∧ ∀ b o' e', H.hp.get b = some o' → t b = some e' → e'.blk ≠ e.blk
  pp : ∀ i i' o o' e e', i ≠ i' → dn listed i = true → dn listed i' = true → R.ds[i]? = some (some o) → R.ds[i']? = some (some o') → H.hp.get (nx + i) = none → H.hp.get (nx + i') = none → t (nx + i) = some e → t (nx + i') = some e' → e.blk ≠ e'.blk
  sd : ∀ (j : Nat) (o : Oper) (u : Nat), all[j]? = some o → o.dst = some u → dn listed j = true → ∃ x v, R.xs[j]? = some x ∧ a.tmps[u]? = some v ∧ VR t x v
  sk : ∀ u, (∀ (j : Nat) (o : Oper), all[j]? = some o → dn listed j = true → o.dst ≠ some u) → a.tmps[u]? = a0.tmps[u]?
  tz : a.tmps.size = a0.tmps.size
  df : a.defers = a0.defers
section
variable {P : Program} {C : Ctx} {call yld : CallK} {q0 : Gq} {s0 : Env} {S : St} {fr0 : Fr} {nx : Nat} {all : List Oper} {ms : List Nat} {R : Run} {a0 a : Act} {listed : Array Bool} {w : World} {t : Env} {H : St}
/-- Slots behind one more operation. -/
theorem slots_put (hds : dstsOk fr0.n all [] = true) (hz0 : a0.tmps.size = fr0.n) {i : Nat} {o : Oper} {x : XV} {v : Value} {t' : Env} (hJ : Jn C q0 s0 nx all ms R a0 listed a w t H) (hi : all[i]? = some o) (hil : i < listed.size) (hle : t.le t') (hv : VR t' x v) (hx : R.xs[i]? = some x) :
    (∀ (j : Nat) (o' : Oper) (u : Nat), all[j]? = some o' → o'.dst = some u → dn (listed.setIfInBounds i true) j = true → ∃ x v', R.xs[j]? = some x ∧ (a.put o.dst v).tmps[u]? = some v' ∧ VR t' x v') ∧
    (∀ u, (∀ (j : Nat) (o : Oper), all[j]? = some o → dn (listed.setIfInBounds i true) j = true → o.dst ≠ some u) → (a.put o.dst v).tmps[u]? = a0.tmps[u]?) := by
  have hput : ∀ u, (a.put o.dst v).tmps[u]? = if o.dst = some u ∧ u < a.tmps.size then some v else a.tmps[u]? := by
    intro u
    cases hd : o.dst with
    | none => simp [Act.put]
    | some d =>
      simp only [Act.put]
      by_cases hu : d = u
      · subst hu
        by_cases hlt : d < a.tmps.size
        · rw [if_pos ⟨rfl, hlt⟩]; simp [hlt]
        · rw [if_neg (fun q => hlt q.2)]; simp [hlt]
      · rw [if_neg (fun q => hu (by cases q.1; rfl)), Array.getElem?_setIfInBounds_ne hu]
  have h2 : ∀ (j : Nat) (o' : Oper) (u : Nat), all[j]? = some o' → o'.dst = some u → dn (listed.setIfInBounds i true) j = true → ∃ x v', R.xs[j]? = some x ∧ (a.put o.dst v).tmps[u]? = some v' ∧ VR t' x v' := by
    intro j o' u hj hd hdn
    rw [dn_set hil] at hdn
    by_cases hji : j = i
    · subst hji
      rw [hi] at hj; cases hj
      refine ⟨x, v, hx, ?_, hv⟩
      rw [hput, if_pos ⟨hd, by rw [hJ.tz, hz0]; exact (dsts_spec hds j o u hi hd).1⟩]
    · rw [if_neg hji] at hdn
      obtain ⟨x', v', h3, h4, h5⟩ := hJ.sd j o' u hj hd hdn
      refine ⟨x', v', h3, ?_, h5.mono hle⟩
      rw [hput, if_neg (fun q => hji ((dsts_spec hds j o' u hj hd).2.2 i o hi q.1).symm)]
      exact h4
  refine ⟨h2, fun u hu => ?_⟩
  · have h3 := hu i o hi (by rw [dn_set hil, if_pos rfl])
    rw [hput, if_neg (fun q => h3 q.1)]
    refine hJ.sk u fun j o' hj hd => hu j o' hj ?_
    rw [dn_set hil]
    split
    · rfl
    · exact hd
/-- Memory with what is new laid into it. -/
theorem Jn.absorbed (hJ : Jn C q0 s0 nx all ms R a0 listed a w t H) {p : Nat → Bool} (hp : ∀ j o, R.ds[j]? = some (some o) → p j = true → dn listed j = true) : Rel ⟨C.fl, q0⟩ t (absorbP p nx R.ds 0 H) w := by
  have hget : ∀ b o, (absorbP p nx R.ds 0 H).hp.get b = some o → H.hp.get b = some o ∨ (H.hp.get b = none ∧ ∃ j, b = nx + j ∧ p j = true ∧ R.ds[j]? = some (some o)) := by
    intro b o hb
    rw [absorbP_get] at hb
    cases hg : H.hp.get b with
    | some o' => rw [hg] at hb; exact .inl hb
    | none =>
      rw [hg] at hb
      dsimp only at hb
      split at hb
      · rename_i hq
        refine .inr ⟨rfl, b - nx, by omega, hq.2, ?_⟩
        rw [Nat.sub_zero] at hb
        cases hd : R.ds[b - nx]? with
        | none => rw [hd] at hb; cases hb
        | some d => rw [hd] at hb; rw [show d = some o from hb]
      · cases hb
  refine hJ.rel.grown (absorbP_nx _ _ _) fun b o hb => ?_
  rcases hget b o hb with h1 | ⟨h1, j, rfl, h2, h3⟩
  · exact .inl h1
  · obtain ⟨e, ob, h4, h5, h6, h7, h8, h9⟩ := hJ.pd j o (hp j o h3 h2) h3 h1
    refine .inr ⟨h1, e, ob, h4, h5, h6, h8, h9, fun b' o' e' hne hb' hn he' => ?_⟩
    rcases hget b' o' hb' with h10 | ⟨_, j', rfl, h11, h12⟩
    · rw [hn] at h10; cases h10
    · exact hJ.pp j' j o' o e' e (fun q => hne (by rw [q])) (hp j' o' h12 h11) (hp j o h3 h2) h12 h3 hn h1 he' h4
/-- An operation that makes nothing and leaves memory alone. -/
theorem Jn.next (hds : dstsOk fr0.n all [] = true) (hz0 : a0.tmps.size = fr0.n) {i : Nat} {o : Oper} {x : XV} {v : Value} (hJ : Jn C q0 s0 nx all ms R a0 listed a w t H) (hi : all[i]? = some o) (hil : i < listed.size) (hbd : ∀ j, befM ms i j = true → dn listed j = true) (hv : VR t x v) (hx : R.xs[i]? = some x) (hd : R.ds[i]? = some none)
    (hst : R.Ss[countB (dn (listed.setIfInBounds i true)) all 0]? = some H) : Jn C q0 s0 nx all ms R a0 (listed.setIfInBounds i true) (a.put o.dst v) w t H := by
  obtain ⟨hs1, hs2⟩ := slots_put hds hz0 hJ hi hil (Env.le.rf t) hv hx
  have hold : ∀ {j o'}, dn (listed.setIfInBounds i true) j = true → R.ds[j]? = some (some o') → dn listed j = true := fun {j o'} h1 h2 => by
    rw [dn_set hil] at h1
    split at h1
    · rename_i q; subst q; rw [hd] at h2; cases h2
    · exact h1
  refine ⟨hJ.le, hJ.rel, hst, by simp [hJ.sz], ?_, ?_, fun j o' h1 h2 h3 => hJ.pd j o' (hold h1 h2) h2 h3, fun j j' o1 o2 e1 e2 hne h1 h2 h3 h4 => hJ.pp j j' o1 o2 e1 e2 hne (hold h1 h3) (hold h2 h4) h3 h4, hs1, hs2, by rw [put_size]; exact hJ.tz, by rw [put_defers]; exact hJ.df⟩
  · intro j k h1 h2
    rw [dn_set hil] at h1 ⊢
    split
    · rfl
    · split at h1
      · rename_i q; subst q; exact hbd k h2
      · exact hJ.cl j k h1 h2
  · intro j h1 h2
    rw [dn_set hil] at h2
    split at h2
    · cases h2
    · exact hJ.und j h1 h2
/-- An operation that makes a block and does nothing else. -/
theorem Jn.fresh (hds : dstsOk fr0.n all [] = true) (hz0 : a0.tmps.size = fr0.n) (hrs : ∀ b, q0.rs b → b < nx) {i : Nat} {o : Oper} {x : XV} {v : Value} {ob : XO} {obj : Obj} (hJ : Jn C q0 s0 nx all ms R a0 listed a w t H) (hi : all[i]? = some o) (hil : i < listed.size) (hin : dn listed i = false) (hbd : ∀ j, befM ms i j = true → dn listed j = true)
    (hv : ∀ t' : Env, t.le t' → t' (nx + i) = some ⟨w.heap.size, 0, 0⟩ → VR t' x v ∧ OR t' ob ⟨w.heap.size, 0, 0⟩ obj) (hx : R.xs[i]? = some x) (hd : R.ds[i]? = some (some ob)) (hst : R.Ss[countB (dn (listed.setIfInBounds i true)) all 0]? = some H) :
    ∃ t', Jn C q0 s0 nx all ms R a0 (listed.setIfInBounds i true) (a.put o.dst v) (w.alloc obj) t' H := by
  have hlt : i < all.length := by rw [← hJ.sz]; exact hil
  obtain ⟨hu1, hu2, hu3⟩ := hJ.und i hlt hin
  obtain ⟨t', h1, h2, h3, h4⟩ := hJ.rel.name hu3 hu1 hu2 (fun q => by have := hrs _ q; omega) obj
  obtain ⟨hv1, hv2⟩ := hv t' h1 h2
  obtain ⟨hs1, hs2⟩ := slots_put hds hz0 hJ hi hil h1 hv1 hx
  have hne : ∀ {j}, j ≠ i → nx + j ≠ nx + i := fun h q => h (by omega)
  have hnb : ∀ {b o'}, H.hp.get b = some o' → t' b = t b := fun {b o'} hb => h3 b fun q => by rw [q, hu2] at hb; cases hb
  have hnf : q0.nf ≤ w.heap.size := Nat.le_trans hJ.rel.nf hJ.rel.blw.size
  refine ⟨t', hJ.le.tr h1, h4, hst, by simp [hJ.sz], ?_, ?_, ?_, ?_, hs1, hs2, by rw [put_size]; exact hJ.tz, by rw [put_defers]; exact hJ.df⟩
  · intro j k h5 h6
    rw [dn_set hil] at h5 ⊢
    split
    · rfl
    · split at h5
      · rename_i q; subst q; exact hbd k h6
      · exact hJ.cl j k h5 h6
  · intro j h5 h6
    rw [dn_set hil] at h6
    split at h6
    · cases h6
    · rename_i q
      rw [h3 _ (hne q)]
      exact hJ.und j h5 h6
  · intro j o' h5 h6 h7
    rw [dn_set hil] at h5
    by_cases q : j = i
    · subst q
      rw [hd] at h6; cases h6
      refine ⟨_, obj, h2, heap_alloc_new w obj, hv2, hnf, fun q => Nat.lt_irrefl _ (hJ.rel.pr _ q).1, fun b o' e' hb he' => ?_⟩
      rw [hnb hb] at he'
      exact Nat.ne_of_lt (hJ.rel.lt hb he')
    · rw [if_neg q] at h5
      obtain ⟨e, ob', h8, h9, h10, h11, h12, h13⟩ := hJ.pd j o' h5 h6 h7
      refine ⟨e, ob', h1 _ _ h8, ?_, h10.mono h1, h11, h12, fun b o' e' hb he' => ?_⟩
      · rw [heap_alloc_old w obj (Array.getElem?_eq_some_iff.1 h9).1]; exact h9
      · rw [hnb hb] at he'
        exact h13 b o' e' hb he'
  · intro j j' o1 o2 e1 e2 hjj h5 h6 h7 h8 h9 h10 h11 h12
    rw [dn_set hil] at h5 h6
    have old : ∀ {k o' e'}, k ≠ i → dn listed k = true → R.ds[k]? = some (some o') → H.hp.get (nx + k) = none → t' (nx + k) = some e' → e'.blk < w.heap.size := fun {k o' e'} q g1 g2 g3 g4 => by
      obtain ⟨e, ob', g5, g6, _⟩ := hJ.pd k o' g1 g2 g3
      rw [h1 _ _ g5] at g4; cases g4
      exact (Array.getElem?_eq_some_iff.1 g6).1
    by_cases q : j = i
    · subst q
      rw [h2] at h11; cases h11
      have q' : j' ≠ j := Ne.symm hjj
      rw [if_neg q'] at h6
      have := old q' h6 h8 h10 h12
      simp only; omega
    · rw [if_neg q] at h5
      by_cases q' : j' = i
      · subst q'
        rw [h2] at h12; cases h12
        have := old q h5 h7 h9 h11
        simp only; omega
      · rw [if_neg q'] at h6
        rw [h3 _ (hne q)] at h11
        rw [h3 _ (hne q')] at h12
        exact hJ.pp j j' o1 o2 e1 e2 hjj h5 h6 h7 h8 h9 h10 h11 h12
/-- What the acting operation i must leave alone: the blocks made before it that it does not know of. -/
def prL (q0 : Gq) (nx : Nat) (ms : List Nat) (R : Run) (listed : Array Bool) (t : Env) (H : St) (i : Nat) (k : Nat) : Prop :=
  q0.pr k ∨ ∃ j o e, dn listed j = true ∧ R.ds[j]? = some (some o) ∧ H.hp.get (nx + j) = none ∧ befM ms i j = false ∧ t (nx + j) = some e ∧ k = e.blk
def rsL (q0 : Gq) (nx : Nat) (all : List Oper) (listed : Array Bool) (b : Nat) : Prop := q0.rs b ∨ ∃ j, j < all.length ∧ dn listed j = false ∧ b = nx + j
theorem Jn.before (hJ : Jn C q0 s0 nx all ms R a0 listed a w t H) {i : Nat} (hbd : ∀ j, befM ms i j = true → dn listed j = true) :
    Rel ⟨C.fl, ⟨q0.nf, q0.wf, prL q0 nx ms R listed t H i, w, rsL q0 nx all listed⟩⟩ t (absorb ms i nx R.ds H) w := by
  have hD := hJ.absorbed (p := befM ms i) fun j o _ h => hbd j h
  refine hD.sw ?_ ?_ ?_
  · rintro k (h1 | ⟨j, o, e, h1, h2, h3, h4, h5, rfl⟩)
    · exact ⟨(hD.pr k h1).1, rfl⟩
    · obtain ⟨e', ob, h6, h7, _⟩ := hJ.pd j o h1 h2 h3
      rw [h5] at h6; cases h6
      exact ⟨(Array.getElem?_eq_some_iff.1 h7).1, rfl⟩
  · rintro b o e hb he hf (h1 | ⟨j, o', e', h1, h2, h3, h4, h5, h6⟩)
    · exact hD.npr b o e hb he hf h1
    · obtain ⟨e2, ob, g1, g2, g3, g4, g5, g6⟩ := hJ.pd j o' h1 h2 h3
      rw [h5] at g1; cases g1
      unfold absorb at hb
      rw [absorbP_get] at hb
      cases hg : H.hp.get b with
      | some o2 => exact g6 b o2 e hg he h6
      | none =>
        rw [hg] at hb
        dsimp only at hb
        split at hb
        · rename_i hq
          rw [Nat.sub_zero] at hb
          cases hd : R.ds[b - nx]? with
          | none => rw [hd] at hb; cases hb
          | some d =>
            rw [hd] at hb
            have hd' : R.ds[b - nx]? = some (some o) := by rw [hd, show d = some o from hb]
            have hbe : nx + (b - nx) = b := by omega
            refine hJ.pp (b - nx) j o o' e e' (fun q => by rw [q, h4] at hq; cases hq.2) (hbd _ hq.2) h1 hd' h2 (by rw [hbe]; exact hg) h3 (by rw [hbe]; exact he) h5 h6
        · cases hb
  · rintro b (h1 | ⟨j, h1, h2, rfl⟩)
    · exact hD.res b h1
    · obtain ⟨h3, h4, h5⟩ := hJ.und j h1 h2
      exact ⟨h3, by rw [absorbP_nx]; exact h5⟩
/-- An operation that acts. -/
theorem Jn.loud (hds : dstsOk fr0.n all [] = true) (hz0 : a0.tmps.size = fr0.n) {i : Nat} {o : Oper} {x : XV} {v : Value} {w' : World} {t' : Env} {H' : St} (hJ : Jn C q0 s0 nx all ms R a0 listed a w t H) (hi : all[i]? = some o) (hil : i < listed.size) (hbd : ∀ j, befM ms i j = true → dn listed j = true)
    (hle : t.le t') (hv : VR t' x v) (hr : Rel ⟨C.fl, ⟨q0.nf, q0.wf, prL q0 nx ms R listed t H i, w, rsL q0 nx all listed⟩⟩ t' H' w') (hnm : namesOk nx (absorb ms i nx R.ds H) H' all.length = true) (hx : R.xs[i]? = some x) (hd : R.ds[i]? = some none) (hdl : R.ds.length = all.length)
    (hst : R.Ss[countB (dn (listed.setIfInBounds i true)) all 0]? = some H') : Jn C q0 s0 nx all ms R a0 (listed.setIfInBounds i true) (a.put o.dst v) w' t' H' := by
  obtain ⟨hs1, hs2⟩ := slots_put hds hz0 hJ hi hil hle hv hx
  have hold : ∀ {j o'}, dn (listed.setIfInBounds i true) j = true → R.ds[j]? = some (some o') → dn listed j = true := fun {j o'} h1 h2 => by
    rw [dn_set hil] at h1
    split at h1
    · rename_i q; subst q; rw [hd] at h2; cases h2
    · exact h1
  have hnone : ∀ {j o'}, R.ds[j]? = some (some o') → H'.hp.get (nx + j) = none → H.hp.get (nx + j) = none ∧ befM ms i j = false := fun {j o'} h1 h2 => by
    have hj : j < all.length := by rw [← hdl]; exact (List.getElem?_eq_some_iff.1 h1).1
    have h3 := (names_spec hnm j hj).1 h2
    unfold absorb at h3
    rw [absorbP_get] at h3
    cases hg : H.hp.get (nx + j) with
    | some o2 => rw [hg] at h3; cases h3
    | none =>
      refine ⟨rfl, ?_⟩
      rw [hg] at h3
      dsimp only at h3
      cases hb : befM ms i j with
      | false => rfl
      | true =>
        have e1 : nx + j - nx = j := by omega
        rw [e1, Nat.sub_zero, h1, if_pos ⟨by omega, hb⟩] at h3
        cases h3
  have hrel : Rel ⟨C.fl, q0⟩ t' H' w' := by
    refine hr.sw (pr := q0.pr) (wp := q0.wp) (rs := q0.rs) (fun k hk => ?_) (fun b o e hb he hf hp => hr.npr b o e hb he hf (.inl hp)) fun b hb => hr.res b (.inl hb)
    obtain ⟨h1, h2⟩ := hr.pr k (.inl hk)
    exact ⟨h1, h2.trans (hJ.rel.pr k hk).2⟩
  refine ⟨hJ.le.tr hle, hrel, hst, by simp [hJ.sz], ?_, ?_, ?_, ?_, hs1, hs2, by rw [put_size]; exact hJ.tz, by rw [put_defers]; exact hJ.df⟩
  · intro j k h1 h2
    rw [dn_set hil] at h1 ⊢
    split
    · rfl
    · split at h1
      · rename_i q; subst q; exact hbd k h2
      · exact hJ.cl j k h1 h2
  · intro j h1 h2
    rw [dn_set hil] at h2
    split at h2
    · cases h2
    · obtain ⟨h3, h4⟩ := hr.res (nx + j) (.inr ⟨j, h1, h2, rfl⟩)
      refine ⟨h3, (names_spec hnm j h1).2 ?_, h4⟩
      unfold absorb
      rw [absorbP_get, (hJ.und j h1 h2).2.1]
      dsimp only
      rw [if_neg]
      rintro ⟨_, q⟩
      rw [show nx + j - nx = j from by omega] at q
      rw [hbd j q] at h2
      cases h2
  · intro j o' h1 h2 h3
    have h1' := hold h1 h2
    obtain ⟨h4, h5⟩ := hnone h2 h3
    obtain ⟨e, ob, g1, g2, g3, g4, g5, g6⟩ := hJ.pd j o' h1' h2 h4
    have hpr : prL q0 nx ms R listed t H i e.blk := .inr ⟨j, o', e, h1', h2, h4, h5, g1, rfl⟩
    refine ⟨e, ob, hle _ _ g1, (hr.pr _ hpr).2.trans g2, g3.mono hle, g4, g5, fun b o2 e2 hb he hq => ?_⟩
    by_cases hf : C.fl ≤ b
    · exact hr.npr b o2 e2 hb he hf (hq ▸ hpr)
    · obtain ⟨e6, h6, h7⟩ := hr.glb b (Nat.lt_of_not_le hf)
      rw [he] at h6; cases h6
      change e2.blk < q0.nf at h7
      omega
  · intro j j' o1 o2 e1 e2 hne h1 h2 h3 h4 h5 h6 h7 h8
    have h1' := hold h1 h3
    have h2' := hold h2 h4
    have h5' := (hnone h3 h5).1
    have h6' := (hnone h4 h6).1
    obtain ⟨e, ob, g1, _⟩ := hJ.pd j o1 h1' h3 h5'
    obtain ⟨e', ob', g2, _⟩ := hJ.pd j' o2 h2' h4 h6'
    rw [hle _ _ g1] at h7; cases h7
    rw [hle _ _ g2] at h8; cases h8
    exact hJ.pp j j' o1 o2 _ _ hne h1' h2' h3 h4 h5' h6' g1 g2
end
end Go.Proofs.YtlibeobmdjeilaaGreatDoor.Ex
namespace Go.Proofs.YtlibeobmdjeilaaGreatDoor.Ex
open Go Go.RowKit
/-- Functions that are told: they are so. -/
def OrcOk (P : Program) (C : Ctx) : Prop := ∀ (q : Gq) (s : Env) (S : St) (w : World) (f : Nat) (args : List XV) (us : List Value) (x : XV),
  Rel ⟨C.fl, q⟩ s S w → VRs s args us → C.orc f args S = some x →
    (∀ (as : Array Value) (w : World), (callFunc f as).run P w = .ok (.enter f as) w) ∧
    ∀ n, CallsIn Fence.wide n P f ⟨us⟩ w fun e w' => ∃ (t : Env) (v : Value), s.le t ∧ e = .returned v ∧ VR t x v ∧ Rel ⟨C.fl, q⟩ t S w'
section
variable {P : Program} {C : Ctx} {q : Gq} {s : Env} {S : St} {w : World} {fr : Fr} {a : Act} {call yld : CallK} {F : Fence} {n : Nat}
theorem callFunc_run {f : FuncId} {fn : Func} (hf : P.funcs[f]? = some fn) (hb : fn.body.isSome = true) (hn : fn.name ≠ "runtime.NumGoroutine") (as : Array Value) : (callFunc f as).run P w = .ok (.enter f as) w := by
  unfold callFunc
  rw [Sem.run_bind, run_program, Result.andThen_ok, hf]
  have h1 : (fn.name == "runtime.NumGoroutine") = false := by simpa using hn
  have h2 : fn.body.isNone = false := by cases hq : fn.body <;> rw [hq] at hb <;> first | rfl | cases hb
  simp only [h1, h2, Bool.false_eq_true, if_false]
  rfl
theorem results_ok (hC : CtxOk P C) (h : Rel ⟨C.fl, q⟩ s S w) (hf : FrR s fr a.tmps) : ∀ {rs : List ResultVar} {xs : List XV}, xresults C rs fr S = some xs →
    ∃ vs, (rs.mapM (fun | .tmp t => pure (a.tmps.getD t undef) | .cell p t => do loadVar t (← asAddr (a.tmps.getD p undef))) : Sem (List Value)).run P w = .ok vs w ∧ VRs s xs vs
  | [], xs, hx => by
    simp only [xresults] at hx; cases hx
    exact ⟨[], by simp, rfl⟩
  | .tmp t :: rs, xs, hx => by
    simp only [xresults] at hx
    cases h1 : fr.tm.get t with
    | none => rw [h1] at hx; cases hx
    | some x => cases h2 : xresults C rs fr S with
      | none => rw [h1, h2] at hx; cases hx
      | some ys =>
        rw [h1, h2] at hx; cases hx
        obtain ⟨vs, h3, h4⟩ := results_ok hC h hf h2
        obtain ⟨v, h5, h6⟩ := hf.tm t x h1
        refine ⟨v :: vs, ?_, v, vs, rfl, h6, h4⟩
        have h7 : a.tmps.getD t undef = v := by rw [Array.getD_eq_getD_getElem?, h5]; rfl
        simp only [List.mapM_cons, Sem.run_bind, Sem.run_pure, Result.andThen_ok, h7, h3]
  | .cell p t :: rs, xs, hx => by
    simp only [xresults] at hx
    cases h1 : fr.tm.get p with
    | none => rw [h1] at hx; cases hx
    | some x =>
      cases h0 : C.ty t with
      | none => rw [h1, h0] at hx; cases x <;> cases hx
      | some i =>
        rw [h1, h0] at hx
        cases x with
        | ptr b o =>
          dsimp only at hx
          cases h8 : loadT i S b o with
          | none => rw [h8] at hx; cases hx
          | some y => cases h2 : xresults C rs fr S with
            | none => rw [h8, h2] at hx; cases hx
            | some ys =>
              rw [h8, h2] at hx; cases hx
              obtain ⟨vs, h3, h4⟩ := results_ok hC h hf h2
              obtain ⟨v, h5, e, h6, rfl⟩ := hf.tm p _ h1
              obtain ⟨e', v', h9, h10, h11⟩ := loadT_ok hC h h0 h8
              rw [h6] at h9; cases h9
              refine ⟨v' :: vs, ?_, v', vs, rfl, h11, h4⟩
              have h7 : a.tmps.getD p undef = .pointer (some (e.ad o)) := by rw [Array.getD_eq_getD_getElem?, h5]; rfl
              have hA : (asAddr (a.tmps.getD p undef)).run P w = .ok (e.ad o) w := by rw [h7]; rfl
              simp only [List.mapM_cons, Sem.run_bind, Sem.run_pure, Result.andThen_ok, hA, h10, h3]
        | _ => cases hx
theorem marks_ok {fn : Func} {tmps : Array Value} {R : Ending → World → Prop} : ∀ {ms : List Nat} {ds : List Deferred} {S S' : St} {w : World}, Rel ⟨C.fl, q⟩ s S w → DfR s ms ds → xmarks C.fl ms S = some S' →
    (∀ w', Rel ⟨C.fl, q⟩ s S' w' → LeavesInM F n P fn tmps R [] .returning w') → LeavesInM F n P fn tmps R ds .returning w
  | [], ds, S, S', w, h, hd, hx, hR => by
    rw [DfR] at hd; subst hd
    simp only [xmarks] at hx; cases hx
    exact hR w h
  | m :: ms, ds, S, S', w, h, hd, hx, hR => by
    obtain ⟨e, es, h1, rfl, h2⟩ := hd
    simp only [xmarks] at hx
    split at hx
    · rename_i hm
      cases hp : S.put C.fl m (.defd false) with
      | none => rw [hp] at hx; cases hx
      | some S1 =>
        rw [hp] at hx; dsimp only at hx
        obtain ⟨e', ob, h3, h4, h5⟩ := h.at hm
        rw [h1] at h3; cases h3
        have hob : ob = .deferred (some []) := h5
        subst hob
        have h6 := h.put hm rfl hp h1 (ob' := .deferred none) rfl
        refine ⟨by simp, .inl ⟨e.blk, _, rfl, ?_, marks_ok h6 h2 hx hR⟩⟩
        simp [Instr.takeDeferred, getObj, setObj, Sem.run, h4]
    · cases hx
theorem VRs.tup1 {xs : List XV} {vs : List Value} (h : VRs s xs vs) : VR s (tup1 xs) (if h : (⟨vs⟩ : Array Value).size = 1 then (⟨vs⟩ : Array Value)[0] else .tuple ⟨vs⟩) := by
  have hl := h.length
  cases xs with
  | nil => rw [VRs] at h; subst h; exact ⟨[], rfl, rfl⟩
  | cons x xs =>
    obtain ⟨v, ws, rfl, h1, h2⟩ := h
    cases xs with
    | nil => rw [VRs] at h2; subst h2; exact h1
    | cons y ys =>
      obtain ⟨u, us, rfl, h3, h4⟩ := h2
      rw [dif_neg (by simp)]
      exact ⟨_, rfl, v, _, rfl, h1, u, us, rfl, h3, h4⟩
theorem xbody_ok (hC : CtxOk P C) (horc : OrcOk P C) (hnm : ∀ f fn, C.fn f = some fn → fn.name ≠ "runtime.NumGoroutine") (hcall : CallsOk P C call) (hreg : RegOk P C call yld) (lim : Nat) : CallsOk P C (xbody C call yld lim) := by
  intro q s S w f args us x S' h hargs hx
  unfold xbody at hx
  cases ho : C.orc f args S with
  | some v =>
    rw [ho] at hx; cases hx
    exact horc q s S w f args us x h hargs ho
  | none =>
    rw [ho] at hx; dsimp only at hx
    cases hfn : C.fn f with
    | none => rw [hfn] at hx; cases hx
    | some fn =>
      rw [hfn] at hx; dsimp only at hx
      cases hb : fn.body with
      | none => rw [hb] at hx; cases hx
      | some c =>
        rw [hb] at hx; dsimp only at hx
        have hPf := hC.fn f fn hfn
        refine ⟨fun as w => callFunc_run hPf (by rw [hb]; rfl) (hnm f fn hfn) as, fun n => ?_⟩
        have hal := hargs.length
        generalize hcd : xcode C call yld lim none c ⟨args.length + (fn.ntmps - args.length), T.ofL args 0 .leaf, []⟩ S = res at hx
        cases res with
        | none => cases hx
        | some q =>
          obtain ⟨e, fr, S1⟩ := q
          dsimp only at hx
          refine callsIn_of_wp_marks hPf hb trivial ?_ rfl
          refine xcode_ok (F := Fence.wide) hC hcall hreg c h (a := { tmps := ⟨us⟩ ++ Array.replicate (fn.ntmps - (⟨us⟩ : Array Value).size) undef, defers := [] }) (ro := none) (fr := ⟨args.length + (fn.ntmps - args.length), T.ofL args 0 .leaf, []⟩) ⟨?_, ?_⟩ rfl rfl hcd ?_
          · simp [hal]
          · intro i y hy
            rw [T.get_ofL] at hy
            split at hy
            · rename_i hi
              obtain ⟨v, h1, h2⟩ := hargs.get hy
              refine ⟨v, ?_, h2⟩
              have hlt := (List.getElem?_eq_some_iff.1 h1).1
              rw [Array.getElem?_append_left (by simpa using hlt)]
              simpa using h1
            · simp [T.get_leaf] at hy
          · intro t a' w' h1 h2 h3 h4
            have key : ∀ S2, xmarks C.fl fr.marks S1 = some S2 → ∀ vs, xresults C fn.results.toList fr S2 = some vs → x = tup1 vs → S' = S2 →
                LeavesInM Fence.wide n P fn a'.tmps (fun e w' => ∃ (t : Env) (v : Value), s.le t ∧ e = .returned v ∧ VR t x v ∧ Rel ⟨C.fl, q⟩ t S' w') a'.defers .returning w' := by
              rintro S2 hm vs hr rfl rfl
              refine marks_ok h2 h4 hm fun w2 h5 => ?_
              obtain ⟨us', h6, h7⟩ := results_ok hC h5 h3 hr
              refine ⟨_, ?_, t, _, h1, rfl, h7.tup1, h5⟩
              unfold results
              rw [Array.mapM_eq_mapM_toList]
              simp only [Sem.run_bind, Sem.run_map]
              erw [h6]
              rfl
            cases e with
            | normal =>
              dsimp only at hx
              cases hm : xmarks C.fl fr.marks S1 with
              | none => rw [hm] at hx; cases hx
              | some S2 =>
                rw [hm] at hx; dsimp only at hx
                cases hr : xresults C fn.results.toList fr S2 with
                | none => rw [hr] at hx; cases hx
                | some vs => rw [hr] at hx; cases hx; exact key _ hm vs hr rfl rfl
            | jump j => cases j with
              | exit id => cases hx
              | goto l => cases hx
              | ret =>
                dsimp only at hx
                cases hm : xmarks C.fl fr.marks S1 with
                | none => rw [hm] at hx; cases hx
                | some S2 =>
                  rw [hm] at hx; dsimp only at hx
                  cases hr : xresults C fn.results.toList fr S2 with
                  | none => rw [hr] at hx; cases hx
                  | some vs => rw [hr] at hx; cases hx; exact key _ hm vs hr rfl rfl
theorem setPs_ok : ∀ {ps : List Nat} {xs : List XV} {us : List Value} {tm : T XV} {tmps : Array Value}, VRs s xs us → ps.length = xs.length → (∀ p ∈ ps, p < tmps.size) → TR s tm tmps →
    TR s (setPs ps xs tm) ((ps.zip us).foldl (fun tmps (t, a) => tmps.setIfInBounds t a) tmps)
  | [], xs, us, tm, tmps, h, hl, hp, ht => by
    cases xs with
    | nil => rw [VRs] at h; subst h; exact ht
    | cons _ _ => cases hl
  | p :: ps, xs, us, tm, tmps, h, hl, hp, ht => by
    cases xs with
    | nil => cases hl
    | cons x xs =>
      obtain ⟨v, ws, rfl, h1, h2⟩ := h
      have hlt := hp p (List.mem_cons_self ..)
      show TR s (setPs ps xs (tm.set (some x) p)) ((ps.zip ws).foldl (fun tmps (t, a) => tmps.setIfInBounds t a) (tmps.setIfInBounds p v))
      refine setPs_ok h2 (by simpa using hl) (fun q hq => by simpa using hp q (List.mem_cons_of_mem _ hq)) fun i y hy => ?_
      rw [T.get_set] at hy
      by_cases q : i = p
      · subst q
        rw [if_pos rfl] at hy; cases hy
        exact ⟨v, by simp [hlt], h1⟩
      · rw [if_neg q] at hy
        obtain ⟨u, h3, h4⟩ := ht i y hy
        exact ⟨u, by rw [Array.getElem?_setIfInBounds_ne (Ne.symm q)]; exact h3, h4⟩
theorem endRound_run {b : Nat} {r : Loop} (h : w.heap[b]? = some (.loop r)) (j : Option Code) : (Instr.endRound b j).run P w = .ok (.bool j.isNone) { w with heap := w.heap.setIfInBounds b (.loop { r with state := if j.isNone then .ready else .done, pending := j }) } := by
  unfold Instr.endRound
  rw [Sem.run_bind, getLoop_run h, Result.andThen_ok]
  simp only [Sem.run_bind, setLoop_run _ h, Result.andThen_ok, Sem.run_pure]
theorem xround_ok (hC : CtxOk P C) (hcall : CallsOk P C call) (hreg : RegOk P C call yld) (lim : Nat) : YldOk P C (xround C call yld lim) := by
  intro q s S w l args us x S' e h hargs hx he
  unfold xround at hx
  cases hl : S.hp.get l with
  | none => rw [hl] at hx; cases hx
  | some o =>
    rw [hl] at hx
    cases o with
    | loop L =>
      dsimp only at hx
      obtain ⟨e', r, h1, h2, h3⟩ := h.loop hl
      rw [he] at h1; cases h1
      have hal := hargs.length
      cases hq : (Nat.beq args.length L.params.size && L.params.toList.all fun p => Nat.blt p L.n) with
      | false => rw [hq] at hx; cases hx
      | true =>
        rw [hq] at hx; dsimp only at hx
        rw [Bool.and_eq_true] at hq
        have hpl := bnot_eq.1 hq.1
        have hpb : ∀ p ∈ L.params.toList, p < r.tmps.size := fun p hp => by rw [h3.size]; exact blt_iff.1 (List.all_eq_true.1 hq.2 p hp)
        refine ⟨r.fn, (L.params.toList.zip us).foldl (fun tmps (t, a) => tmps.setIfInBounds t a) r.tmps, L.assign, L.body, ?_, fun n => ?_⟩
        · unfold Instr.yield
          rw [Sem.run_bind, getLoop_run h2, Result.andThen_ok]
          have hsz : ¬ ((⟨us⟩ : Array Value).size ≠ r.params.size) := by rw [h3.params]; simp; omega
          rw [if_neg hsz, h3.params, h3.assign, h3.body, ← Array.foldl_toList, Array.toList_zip]
          rfl
        · generalize hcd : xcode C call yld lim (some l) L.assign ⟨L.n, setPs L.params.toList args L.tm, []⟩ S = res at hx
          cases res with
          | none => cases hx
          | some q =>
            obtain ⟨e1, fr1, S1⟩ := q
            cases e1 with
            | jump j => cases hx
            | normal =>
              dsimp only at hx
              refine roundIn_of_wpIn trivial ?_
              have hszf : ∀ (zs : List (Nat × Value)) (tm : Array Value), (zs.foldl (fun tmps (t, a) => tmps.setIfInBounds t a) tm).size = tm.size := by
                intro zs
                induction zs with
                | nil => intro tm; rfl
                | cons z zs ih => intro tm; rw [List.foldl_cons, ih]; simp
              refine xcode_ok (F := Fence.wide.inRound e.blk) hC hcall hreg L.assign h (ro := some l) (fr := ⟨L.n, setPs L.params.toList args L.tm, []⟩) ⟨by rw [hszf]; exact h3.size, setPs_ok hargs (by rw [Array.length_toList]; omega) hpb h3.tm⟩ rfl ⟨e, he, rfl⟩ hcd ?_
              intro t a1 w1 h4 h5 h6 h7
              cases hl1 : S1.hp.get l with
              | none => rw [hl1] at hx; cases hx
              | some o1 =>
                rw [hl1] at hx
                cases o1 with
                | loop L1 =>
                  dsimp only at hx
                  obtain ⟨e', r1, h8, h9, h10⟩ := h5.loop hl1
                  have het := h4 _ _ he
                  rw [het] at h8; cases h8
                  cases hst : L1.st with
                  | ready =>
                    rw [hst] at hx; dsimp only at hx
                    cases hp : S1.put C.fl l (.loop { L1 with st := .busy }) with
                    | none => rw [hp] at hx; cases hx
                    | some S2 =>
                      rw [hp] at hx; dsimp only at hx
                      have h11 := h5.put hl1 rfl hp het (ob' := .loop { r1 with state := .busy }) ⟨_, rfl, ⟨rfl, h10.pend, h10.size, h10.tm, h10.params, h10.assign, h10.body, h10.defers⟩⟩
                      have hbr : (Instr.beginRound e.blk).run P w1 = .ok () { w1 with heap := w1.heap.setIfInBounds e.blk (.loop { r1 with state := .busy }) } := by
                        unfold Instr.beginRound
                        rw [Sem.run_bind, getLoop_run h9, Result.andThen_ok, Sem.run_bind, setLoop_run _ h9, Result.andThen_ok]
                        have : r1.state = .ready := by rw [h10.st, hst]
                        rw [this]; rfl
                      refine ⟨_, hbr, ?_⟩
                      generalize hcd2 : xcode C call yld lim (some l) L.body fr1 S2 = res2 at hx
                      cases res2 with
                      | none => cases hx
                      | some q2 =>
                        obtain ⟨e2, fr3, S3⟩ := q2
                        dsimp only at hx
                        refine xcode_ok (F := Fence.wide.inRound e.blk) hC hcall hreg L.body h11 (ro := some l) h6 h7 ⟨e, het, rfl⟩ hcd2 ?_
                        intro t2 a2 w2 h12 h13 h14 h15
                        cases hl3 : S3.hp.get l with
                        | none => rw [hl3] at hx; cases hx
                        | some o3 =>
                          rw [hl3] at hx
                          cases o3 with
                          | loop L3 =>
                            obtain ⟨e', r3, h16, h17, h18⟩ := h13.loop hl3
                            have het2 := h12 _ _ het
                            rw [het2] at h16; cases h16
                            have fin : ∀ (j : Option XJ) (S4 : St), S3.put C.fl l (.loop { L3 with st := if j.isNone then .ready else .done, pend := j }) = some S4 → x = .bool j.isNone → S' = S4 →
                                ∃ v w', (Instr.endRound e.blk (j.map jcode)).run P w2 = .ok v w' ∧ ∃ (t : Env) (v' : Value), s.le t ∧ Ending.returned v = .returned v' ∧ VR t x v' ∧ Rel ⟨C.fl, q⟩ t S' w' := by
                              rintro j S4 hp4 rfl rfl
                              have h19 := h13.put hl3 rfl hp4 het2 (ob' := .loop { r3 with state := if (j.map jcode).isNone then .ready else .done, pending := j.map jcode }) ⟨_, rfl, ⟨by cases j <;> rfl, rfl, h18.size, h18.tm, h18.params, h18.assign, h18.body, h18.defers⟩⟩
                              refine ⟨_, _, endRound_run h17 (j.map jcode), t2, _, h4.tr h12, rfl, ?_, h19⟩
                              rw [VR]; cases j <;> rfl
                            cases hmk : fr3.marks with
                            | cons m ms => rw [hmk] at hx; cases hx
                            | nil =>
                              rw [hmk] at hx; dsimp only at hx
                              cases e2 with
                              | normal =>
                                dsimp only at hx
                                cases hp4 : S3.put C.fl l (.loop { L3 with st := .ready, pend := none }) with
                                | none => rw [hp4] at hx; cases hx
                                | some S4 => rw [hp4] at hx; cases hx; exact fin none _ hp4 rfl rfl
                              | jump j =>
                                dsimp only at hx
                                cases hp4 : S3.put C.fl l (.loop { L3 with st := .done, pend := some j }) with
                                | none => rw [hp4] at hx; cases hx
                                | some S4 =>
                                  rw [hp4] at hx; cases hx
                                  have := fin (some j) _ hp4 rfl rfl
                                  cases j <;> exact this
                          | _ => cases hx
                  | _ => rw [hst] at hx; cases hx
                | _ => cases hx
    | _ => cases hx
/-- THE EXECUTOR IS RIGHT. -/
theorem X_ok (hC : CtxOk P C) (horc : OrcOk P C) (hnm : ∀ f fn, C.fn f = some fn → fn.name ≠ "runtime.NumGoroutine") (hreg : ∀ call yld, CallsOk P C call → YldOk P C yld → RegOk P C call yld) (lim : Nat) : ∀ n, CallsOk P C (X C lim n true) ∧ YldOk P C (X C lim n false)
  | 0 => ⟨(by intro q s S w f args us x S' _ _ h; simp only [X] at h; cases h), (by intro q s S w l args us x S' e _ _ h; simp only [X] at h; cases h)⟩
  | n + 1 => by
    obtain ⟨h1, h2⟩ := X_ok hC horc hnm hreg lim n
    exact ⟨xbody_ok hC horc hnm h1 (hreg _ _ h1 h2) lim, xround_ok hC h1 (hreg _ _ h1 h2) lim⟩
end
end Go.Proofs.YtlibeobmdjeilaaGreatDoor.Ex
namespace Go.Proofs.YtlibeobmdjeilaaGreatDoor.Ex
open Go Go.RowKit
section
variable {P : Program} {C : Ctx} {call yld : CallK} {q0 : Gq} {s0 : Env} {S : St} {fr0 : Fr} {nx : Nat} {R : Run} {a0 : Act} {F : Fence} {n : Nat}
theorem step_ok (hC : CtxOk P C) (hcall : CallsOk P C call) (hyld : YldOk P C yld) (hF : WideF F) {ops : Array Oper} {Q : Exit → Act → World → Prop} (hed : edgesOk ops.toList 0 = true) (hds : dstsOk fr0.n ops.toList [] = true) (hch : chainOk (masks ops.toList []) ops.toList 0 [] = true)
    (hR : ∀ j o, ops.toList[j]? = some o → Tr C call yld fr0 nx ops.toList (masks ops.toList []) R j o) (hdl : R.ds.length = ops.toList.length) (hqo : quietOk C fr0 nx ops.toList (masks ops.toList []) R ops.toList 0 = true) (hFr0 : FrR s0 fr0 a0.tmps) (hrs : ∀ b, q0.rs b → b < nx)
    (listed : Array Bool) (a : Act) (w : World) (i : Nat) (hI : ∃ t H, Jn C q0 s0 nx ops.toList (masks ops.toList []) R a0 listed a w t H) (hr : i ∈ Region.ready .any ops listed) :
    wpOpIn F n P ops Q i (fun a w => ∃ t H, Jn C q0 s0 nx ops.toList (masks ops.toList []) R a0 (listed.setIfInBounds i true) a w t H) a w := by
  obtain ⟨t, H, hJ⟩ := hI
  obtain ⟨h1, o, h2, h3⟩ := mem_ready.1 hr
  have hi : ops.toList[i]? = some o := by rw [Array.getElem?_toList]; exact h2
  have hil : i < listed.size := by
    rcases Nat.lt_or_ge i listed.size with h4 | h4
    · exact h4
    · rw [Array.getD_eq_getD_getElem?, Array.getElem?_eq_none h4] at h1; cases h1
  have hin : dn listed i = false := by
    unfold dn
    rw [Array.getD_eq_getD_getElem?, Array.getElem?_eq_getElem hil] at h1 ⊢
    exact h1
  have hbd : ∀ j, befM (masks ops.toList []) i j = true → dn listed j = true := by
    intro j hb
    obtain ⟨o', g1, e, g2, g3, g4⟩ := bef_cases hb
    rw [hi] at g1; cases g1
    have g5 : dn listed e.on = true := h3 e (Array.mem_toList_iff.1 g2) g3
    rcases g4 with rfl | ⟨_, g6⟩
    · exact g5
    · exact hJ.cl e.on j g5 g6
  have hna : ∀ j, befM (masks ops.toList []) j i = true → dn listed j = false := by
    intro j hb
    cases hd : dn listed j with
    | false => rfl
    | true => rw [hJ.cl j i hd hb] at hin; cases hin
  have hz0 : a0.tmps.size = fr0.n := hFr0.size
  have hfr : FrR t (mkFr (masks ops.toList []) i ops.toList R.xs 0 fr0) a.tmps := by
    have old : ∀ u y, fr0.tm.get u = some y → (∀ (j : Nat) (o : Oper), ops.toList[j]? = some o → dn listed j = true → o.dst ≠ some u) → ∃ v, a.tmps[u]? = some v ∧ VR t y v := fun u y hy hno => by
      obtain ⟨v, g1, g2⟩ := hFr0.tm u y hy
      exact ⟨v, by rw [hJ.sk u hno]; exact g1, g2.mono hJ.le⟩
    refine ⟨by rw [mkFr_n]; exact hJ.tz.trans hz0, fun u y hy => mkFr_slots (p := fun u y => ∃ v, a.tmps[u]? = some v ∧ VR t y v) (xs := R.xs) ?_ ?_ ?_ u y hy⟩
    · intro j o' u x hj hd hb hx
      obtain ⟨x', v, g1, g2, g3⟩ := hJ.sd j o' u hj hd (hbd j hb)
      rw [hx] at g1; cases g1
      exact ⟨v, g2, g3⟩
    · intro j o' u y' hj hd hor hy'
      have hjn : dn listed j = false := by
        rcases hor with g | rfl
        · exact hna j g
        · exact hin
      refine old u y' hy' fun j' o2 hj' hdn hd' => ?_
      have := (dsts_spec hds j o' u hj hd).2.2 j' o2 hj' hd'
      subst this
      rw [hjn] at hdn; cases hdn
    · intro u y' hno hy'
      exact old u y' hy' fun j' o2 hj' _ hd' => hno j' o2 hj' hd'
  have hcount : loudB o = true → countB (dn listed) ops.toList 0 = kk ops.toList i := fun hl => by
    refine countB_congr fun j o' hj hl' => ?_
    rw [Nat.zero_add]
    rcases Nat.lt_trichotomy j i with g | g | g
    · have g1 := (chain_spec hch i o hi hl).2 j o' g hj hl'
      rw [Nat.zero_add, Nat.zero_add] at g1
      rw [hbd j g1, blt_iff.2 g]
    · subst g
      rw [hin]
      cases g2 : Nat.blt j j with
      | false => rfl
      | true => exact absurd (blt_iff.1 g2) (Nat.lt_irrefl _)
    · have g1 := (chain_spec hch j o' hj hl').2 i o g hi hl
      rw [Nat.zero_add, Nat.zero_add] at g1
      rw [hna j g1]
      cases g2 : Nat.blt j i with
      | false => rfl
      | true => exact absurd (blt_iff.1 g2) (by omega)
  have hc1 : loudB o = true → countB (dn (listed.setIfInBounds i true)) ops.toList 0 = countB (dn listed) ops.toList 0 + 1 := fun hl => by
    refine countB_succ (m := i) hi hl (by rw [Nat.zero_add]; exact hin) (by rw [Nat.zero_add, dn_set hil, if_pos rfl]) fun j hj => ?_
    rw [Nat.zero_add, dn_set hil, if_neg hj]
  have hc0 : loudB o = false → countB (dn (listed.setIfInBounds i true)) ops.toList 0 = countB (dn listed) ops.toList 0 := fun hl => by
    refine countB_congr fun j o' hj hl' => ?_
    rw [Nat.zero_add, dn_set hil, if_neg]
    rintro rfl
    rw [hi] at hj; cases hj
    rw [hl] at hl'; cases hl'
  unfold wpOpIn
  rw [h2]
  dsimp only
  rcases hR i o hi with ⟨hw, hx, hd, hS⟩ | ⟨hw, hq, hd, x, hx⟩ | ⟨hw, hq, hfq, v, ob, hxv, hx, hd⟩ | ⟨hw, hl, S1, v, S2, hS1, hxo, hnm, hx, hd, hS2⟩
  · rw [wanted_ok hfr hw, if_neg (by decide)]
    refine ⟨fun f _ => hF.fn f, t, H, hJ.next hds hz0 hi hil hbd undef_VR hx hd ?_⟩
    cases hl : loudB o with
    | false => rw [hc0 hl]; exact hJ.st
    | true =>
      obtain ⟨S1, g1, g2⟩ := hS hl
      have g3 := hJ.st
      rw [hcount hl, g1] at g3; cases g3
      rw [hc1 hl, hcount hl]; exact g2
  · rw [wanted_ok hfr hw, if_pos rfl]
    have hnl : loudB o = false := by
      show (!(isQ o.op) && !(isFresh o.op)) = false
      rw [hq]; rfl
    have hD := hJ.absorbed (p := befM (masks ops.toList []) i) fun j o _ h => hbd j h
    have hxv := quiet_spec hqo i o hi hq (by rw [Nat.zero_add]; exact hw) _ H x hJ.st (countB_le fun j o' _ _ g => by simp only [Nat.zero_add] at g ⊢; exact hbd j g) (countB_le fun j o' _ _ g => by
      simp only [Nat.zero_add] at g ⊢
      cases g2 : befM (masks ops.toList []) j i with
      | false => rfl
      | true => rw [hna j g2] at g; cases g) (by rw [Nat.zero_add]; exact hx)
    rw [Nat.zero_add] at hxv
    obtain ⟨v, hrun, hv⟩ := xval_ok (P := P) hC hD hfr hxv
    refine ⟨fun f _ => hF.fn f, ?_⟩
    have hnd : ∀ c, o.op ≠ .defer c := by
      intro c hc
      rw [hc] at hxv
      simp [xval] at hxv
    rw [Oper.semAt_eq _ _ _ hnd, hrun]
    exact ⟨t, H, hJ.next hds hz0 hi hil hbd hv hx hd (by rw [hc0 hnl]; exact hJ.st)⟩
  · rw [wanted_ok hfr hw, if_pos rfl]
    have hnl : loudB o = false := by
      show (!(isQ o.op) && !(isFresh o.op)) = false
      rw [hq, hfq]; rfl
    obtain ⟨u, obj, hrun, hv⟩ := fresh_ok (P := P) hC hJ.rel hfr hxv
    refine ⟨fun f _ => hF.fn f, ?_⟩
    have hnd : ∀ c, o.op ≠ .defer c := by
      intro c hc
      rw [hc] at hxv
      simp [freshV] at hxv
    rw [Oper.semAt_eq _ _ _ hnd, hrun]
    obtain ⟨t', hJ'⟩ := hJ.fresh hds hz0 hrs hi hil hin hbd hv hx hd (by rw [hc0 hnl]; exact hJ.st)
    exact ⟨t', H, hJ'⟩
  · rw [wanted_ok hfr hw, if_pos rfl]
    have g3 := hJ.st
    rw [hcount hl, hS1] at g3; cases g3
    exact xoper_ok hC hcall hyld (hJ.before hbd) hfr hF hxo fun t' v' w' g1 g2 g4 => ⟨t', S2, hJ.loud hds hz0 hi hil hbd g1 g2 g4 hnm hx hd hdl (by rw [hc1 hl, hcount hl]; exact hS2)⟩
theorem all_done {ops : Array Oper} {ms : List Nat} {listed : Array Bool} {a : Act} {w : World} {t : Env} {H : St} (hed : edgesOk ops.toList 0 = true) (hJ : Jn C q0 s0 nx ops.toList ms R a0 listed a w t H) (hr : Region.ready .any ops listed = []) : ∀ j, j < ops.toList.length → dn listed j = true := by
  intro j
  induction j using Nat.strongRecOn with
  | _ j ih =>
    intro hj
    cases hd : dn listed j with
    | true => rfl
    | false =>
      have hil : j < listed.size := by rw [hJ.sz]; exact hj
      have hjs : j < ops.size := by simpa using hj
      have hmem : j ∈ Region.ready .any ops listed := by
        refine mem_ready.2 ⟨?_, ops[j], Array.getElem?_eq_getElem hjs, fun e he hb => ?_⟩
        · unfold dn at hd
          rw [Array.getD_eq_getD_getElem?, Array.getElem?_eq_getElem hil] at hd ⊢
          exact hd
        · have h5 := edges_spec hed j ops[j] (by rw [Array.getElem?_toList]; exact Array.getElem?_eq_getElem hjs) e (Array.mem_toList_iff.2 he) hb
          rw [Nat.zero_add] at h5
          exact ih e.on h5 (Nat.lt_trans h5 hj)
      rw [hr] at hmem
      cases hmem
theorem draw_ok (hC : CtxOk P C) (hcall : CallsOk P C call) (hyld : YldOk P C yld) (hmo : P.follows .mixedOrders = true) {id : Nat} {ops : Array Oper} {q : Gq} {s : Env} {S S' : St} {w : World} {fr fr' : Fr} {a : Act} {Q : Exit → Act → World → Prop}
    (h : Rel ⟨C.fl, q⟩ s S w) (hf : FrR s fr a.tmps) (hF : WideF F) (hx : xdraw C call yld ops.toList fr S = some (fr', S'))
    (hQ : ∀ (t : Env) (a' : Act) (w' : World), s.le t → Rel ⟨C.fl, q⟩ t S' w' → FrR t fr' a'.tmps → a'.defers = a.defers → Q .normal a' w') : (Code.region id ops true).wpIn F n P Q a w := by
  unfold xdraw at hx
  split at hx
  · rename_i hck
    rw [Bool.and_eq_true, Bool.and_eq_true] at hck
    obtain ⟨⟨hed, hds⟩, hch⟩ := hck
    split at hx
    · rename_i R hrun
      split at hx
      · rename_i S2 hqo hlast
        cases hx
        obtain ⟨⟨xs, ds, Ss, hRe⟩, hxl, hdl, hSl, htr⟩ := runD_ok (bef_lt hed) ops.toList 0 ⟨[], [], [⟨S.hp, S.nx + ops.toList.length⟩]⟩ _ R rfl (Nat.zero_le _) rfl rfl (by
          have : kk ops.toList 0 = 0 := by
            have := countB_le (p := fun j => Nat.blt j 0) (p' := fun _ => false) (l := ops.toList) (i := 0) fun j o _ _ g => absurd (blt_iff.1 g) (by omega)
            have z : ∀ (l : List Oper) (i : Nat), countB (fun _ => false) l i = 0 := by
              intro l
              induction l with
              | nil => intro i; rfl
              | cons o l ih => intro i; simp only [countB, Bool.and_false, ih]
            unfold kk
            rw [z] at this
            omega
          rw [this]; rfl) (by
          have : kk ops.toList 0 = 0 := by
            have := countB_le (p := fun j => Nat.blt j 0) (p' := fun _ => false) (l := ops.toList) (i := 0) fun j o _ _ g => absurd (blt_iff.1 g) (by omega)
            have z : ∀ (l : List Oper) (i : Nat), countB (fun _ => false) l i = 0 := by
              intro l
              induction l with
              | nil => intro i; rfl
              | cons o l ih => intro i; simp only [countB, Bool.and_false, ih]
            unfold kk
            rw [z] at this
            omega
          rw [this]; rfl) hrun
        have hrs : ∀ b, q.rs b → b < S.nx := fun b hb => (h.res b hb).2
        have hdn0 : ∀ j, dn (Array.replicate ops.size false) j = false := fun j => by
          unfold dn
          rw [Array.getD_eq_getD_getElem?, Array.getElem?_replicate]
          split <;> rfl
        refine wpIn_region_inv hmo (fun listed a' w' => ∃ t H, Jn C q s S.nx ops.toList (masks ops.toList []) R a listed a' w' t H) ?_ ?_ ?_
        · intro listed a' w' i hI hr
          exact step_ok hC hcall hyld hF hed hds hch (fun j o hj => htr j o (Nat.zero_le _) hj) hdl hqo hf hrs listed a' w' i hI hr
        · rintro listed a' w' ⟨t, H, hJ⟩ hr
          have hall := all_done hed hJ hr
          have hH : H = S2 := by
            have h1 := hJ.st
            have h2 : countB (dn listed) ops.toList 0 = kk ops.toList ops.toList.length := by
              refine countB_congr fun j o hj _ => ?_
              have hlt := (List.getElem?_eq_some_iff.1 hj).1
              rw [Nat.zero_add, hall j hlt, blt_iff.2 hlt]
            rw [h2] at h1
            rw [List.getLast?_eq_getElem?, hSl, Nat.add_sub_cancel, h1] at hlast
            cases hlast; rfl
          subst hH
          refine hQ t a' w' hJ.le (hJ.absorbed fun j o hd _ => hall j (by rw [← hdl]; exact (List.getElem?_eq_some_iff.1 hd).1)) ⟨?_, fun u y hy => ?_⟩ hJ.df
          · rw [setAll_n]; exact hJ.tz.trans hf.size
          · refine setAll_slots (p := fun u y => ∃ v, a'.tmps[u]? = some v ∧ VR t y v) (xs := R.xs) hds hxl ?_ ops.toList 0 fr rfl rfl ?_ u y hy
            · intro j o u x hj hd hx
              obtain ⟨x', v, g1, g2, g3⟩ := hJ.sd j o u hj hd (hall j (List.getElem?_eq_some_iff.1 hj).1)
              rw [hx] at g1; cases g1
              exact ⟨v, g2, g3⟩
            · intro u y' hy'
              by_cases hex : ∃ (k : Nat) (o : Oper), ops.toList[k]? = some o ∧ o.dst = some u
              · obtain ⟨k, o', g1, g2⟩ := hex
                exact .inr ⟨k, o', Nat.zero_le _, g1, g2⟩
              · obtain ⟨v, g1, g2⟩ := hf.tm u y' hy'
                exact .inl ⟨v, by rw [hJ.sk u fun j o hj _ hd => hex ⟨j, o, hj, hd⟩]; exact g1, g2.mono hJ.le⟩
        · refine ⟨s, ⟨S.hp, S.nx + ops.toList.length⟩, Env.le.rf s, h.drew.nxup _, ?_, by simp, ?_, ?_, ?_, ?_, ?_, fun _ _ => rfl, rfl, rfl⟩
          · have hz : countB (dn (Array.replicate ops.size false)) ops.toList 0 = 0 := by
              have z : ∀ (l : List Oper) (i : Nat), countB (dn (Array.replicate ops.size false)) l i = 0 := by
                intro l
                induction l with
                | nil => intro i; rfl
                | cons o l ih => intro i; simp only [countB, hdn0, Bool.and_false, ih]
              exact z _ _
            rw [hz, hRe]
            rfl
          · intro i j h1; rw [hdn0] at h1; cases h1
          · intro i hi _
            have h1 : s (S.nx + i) = none := by
              cases e : s (S.nx + i) with
              | none => rfl
              | some x => have := h.dom _ _ e; omega
            refine ⟨h1, ?_, by show S.nx + i < S.nx + ops.toList.length; omega⟩
            show S.hp.get (S.nx + i) = none
            cases e : S.hp.get (S.nx + i) with
            | none => rfl
            | some o =>
              obtain ⟨e', _, h2, _⟩ := h.obj _ _ e
              rw [h1] at h2; cases h2
          · intro i o h1; rw [hdn0] at h1; cases h1
          · intro i i' o o' e e' _ h1; rw [hdn0] at h1; cases h1
          · intro j o u _ _ h1; rw [hdn0] at h1; cases h1
      · cases hx
    · cases hx
  · cases hx
theorem reg_ok (hC : CtxOk P C) (hcall : CallsOk P C call) (hyld : YldOk P C yld) (hmo : P.follows .mixedOrders = true) : RegOk P C call yld := by
  intro d id ops q s S w fr fr' S' a F n Q h hf hF hx hQ
  cases d with
  | true => exact draw_ok hC hcall hyld hmo h hf hF hx hQ
  | false =>
    refine wpIn_region ?_
    rw [List.range_eq_range', ← Array.length_toList]
    exact xplain_ok hC hcall hyld hF ops.toList 0 rfl h hf hx hQ
/-- THE EXECUTOR IS RIGHT: what it says a call gives is what the call gives, whatever is drawn. -/
theorem exec_ok (hC : CtxOk P C) (horc : OrcOk P C) (hnm : ∀ f fn, C.fn f = some fn → fn.name ≠ "runtime.NumGoroutine") (hmo : P.follows .mixedOrders = true) (lim k : Nat) : CallsOk P C (X C lim k true) :=
  (X_ok hC horc hnm (fun _ _ h1 h2 => reg_ok hC h1 h2 hmo) lim k).1
end
end Go.Proofs.YtlibeobmdjeilaaGreatDoor.Ex
