import Derived.Test.YtepacjkacjabbaaGreatDoorKAI
import Derived.Test.YtepacjkacjabbaaGreatDoorKBB
import Derived.Test.YtepacjkacjabbaaGreatDoorKAJ
namespace Go.Proofs.YtepacjkacjabbaaGreatDoor
open Go Go.RowKit
structure UnS (w wr : World) (l : List StmtV) (k : Nat) (A : Option Addr) (c : Nat) (cur : List StmtV) : Prop where
 own : OwnL w.heap.size wr 43 6 StmtV.cells (.slice A cur.length c) cur
 new : ∀ s, s ∈ cur → NewTx w.heap.size (Value.slice A cur.length c).ownBlock wr s
 low : Below w.heap.size w wr
 eq : cur.map bareT = (unTs (l.take k)).map bareT
section
variable {w wr W' : World} {l cur : List StmtV} {k : Nat} {A : Option Addr} {c : Nat}
theorem UnS.start : UnS w w l 0 none 0 [] := ⟨OwnL.nil, fun _ h => absurd h (by simp), Below.refl _ _, rfl⟩
theorem UnS.on (h : UnS w wr l k A c cur) (hb : Below wr.heap.size wr W') : UnS w W' l k A c cur :=
 ⟨h.own.on hb, fun s hs => (h.new s hs).below hb, h.low.trans (hb.mono h.low.size), h.eq⟩
theorem UnS.len (h : UnS w wr l k A c cur) (hk : k ≤ l.length) : cur.length = k := by
 have := congrArg List.length h.eq
 rw [List.length_map, List.length_map, unTs_eq, List.length_map, List.length_take] at this
 omega
theorem UnS.old (h : UnS w wr l k A c cur) : ∀ b, (Value.slice A cur.length c).ownBlock = some b → b < wr.heap.size := h.own.old_block
theorem UnS.push (h : UnS w wr l k A c cur) (hk : k < l.length) {y : StmtV} (hy : NewTx w.heap.size (Value.slice A cur.length c).ownBlock wr y) (hbare : bareT y = bareT (unT l[k])) {v' : Value} (ho : OwnL w.heap.size W' 43 6 StmtV.cells v' (cur ++ [y])) (hg : wr.grownBy W' (Value.slice A cur.length c).ownBlock) (hat : v'.ownBlock = (Value.slice A cur.length c).ownBlock ∨ v'.ownBlock = some wr.heap.size) :
   ∃ A' c', v' = .slice A' (cur ++ [y]).length c' ∧ UnS w W' l (k + 1) A' c' (cur ++ [y]) := by
 obtain ⟨A', c', rfl⟩ := ho.form
 refine ⟨A', c', rfl, ho, fun s hs => ?_, h.own.below hg (Nat.le_refl _) h.low h.low.size, ?_⟩
 · rcases List.mem_append.1 hs with h1 | h1
   · exact (h.new s h1).grow hg hat
   · rw [List.mem_singleton] at h1
     subst h1
     exact hy.grow hg hat
 · rw [List.map_append, h.eq, unTs_eq, unTs_eq, List.take_succ_eq_append_getElem hk, List.map_append, List.map_append, List.map_cons, List.map_cons, List.map_cons, hbare]
   rfl
theorem UnS.done (h : UnS w wr l k A c cur) (hk : k = l.length) : cur.map bareT = (unTs l).map bareT := by
 have := h.eq
 rwa [hk, List.take_length] at this
end
theorem own_newTs' {lo : Nat} {W : World} {A : Option Addr} {c : Nat} {l : List StmtV} (h : OwnL lo W 43 6 StmtV.cells (.slice A l.length c) l) (hs : ∀ s, s ∈ l → NewT lo W s) (hl : l.length ≤ 1000000) : NewTs lo W ⟨A, c⟩ l := by
 obtain ⟨sp, e, hr, hb⟩ := h.row (fun _ => rfl) (by omega)
 have : sp = ⟨A, c⟩ := by
   unfold Sp.val at e
   injection e with e1 e2 e3
   rw [e1, e3]
 subst this
 exact ⟨hr.low' fun a ha => (hb a ha).1, hs⟩
theorem NewT.tox' {lo : Nat} {g : Option Nat} {W W' : World} {s : StmtV} (h : NewT lo W s) (hb : Below W.heap.size W W') (hg : ∀ b, g = some b → W.heap.size ≤ b) : NewTx lo g W' s :=
 (RdT.cells h fun p u hp hc => by
   obtain ⟨h1, h2⟩ := lowm_cell.1 hc
   exact xcell.2 ⟨h1, fun e => by have := hg _ e; omega, (hb.cell hp).trans h2⟩).more hb.size
theorem OwnL.from {α : Type} {k B : Nat} {enc : α → List Value} {e : TypeId} {v : Value} {l : List α} {W : World} (h : OwnL B W e k enc v l) : ∀ b, v.ownBlock = some b → B ≤ b := fun _ hb => (h.own_type hb).1
theorem when_bare {ex : List ExprV} {e e' : ExprV} {th th' : List StmtV} (hx : ex = [e]) (he : bareX e' = bareX e) (ht : th'.map bareT = th.map bareT) (es ts : Sp) : bareT (.mk 6 ⟨#[]⟩ es [e'] 0 ts th' Sp.none []) = bareT (whenT ex th) := by
 subst hx
 unfold whenT
 rw [bareT_mk, bareT_mk]
 simp [he, ht]
end Go.Proofs.YtepacjkacjabbaaGreatDoor
namespace Go.Proofs.YtepacjkacjabbaaGreatDoor
open Go Go.RowKit
section
variable {P : Program} {ops : Array Oper} {Q : Exit → Act → World → Prop}
def LeavesHA (dst : Nat → Option Nat) (S : (Nat → Bool) → World → Prop) (Pv : (Nat → Bool) → Nat → Value → World → Prop) (i : Nat) (L : Nat → Bool) (a : Act) (w : World) (a' : Act) (w' : World) : Prop :=
 ∃ v, a' = a.put (dst i) v ∧ (dst i = none → v = undef) ∧ Pv (onL L i) i v w' ∧ S (onL L i) w' ∧ ∀ j u, j ≠ i → L j = true → u = slotv a (dst j) → Pv L j u w → Pv (onL L i) j u w'
def StepHA (P : Program) (Q : Exit → Act → World → Prop) (ops : Array Oper) (n : Nat) (dst : Nat → Option Nat) (S : (Nat → Bool) → World → Prop) (Pv : (Nat → Bool) → Nat → Value → World → Prop) (a0 : Act) (i : Nat) (o : Oper) : Prop :=
 ∀ (L : Nat → Bool) (a : Act) (w : World), L i = false → S L w → (∀ j, (ops[j]?.any fun o' => befB o' i) = true → L j = false) → (∀ t : Nat, (∀ i, i < n → dst i ≠ some t) → a.eval (.tmp t) = a0.eval (.tmp t)) → (∀ j, befB o j = true → L j = true ∧ Pv L j (slotv a (dst j)) w) →
   match o.guard with
   | none => o.wp P a w (LeavesHA dst S Pv i L a w) Q
   | some (g, b) => ∃ b', slotv a (dst g) = .bool b' ∧ (b' = b → o.wp P a w (LeavesHA dst S Pv i L a w) Q) ∧ (b' ≠ b → LeavesHA dst S Pv i L a w (a.put (dst i) undef) w)
theorem wp_region_valsHA {id n sz : Nat} {dst : Nat → Option Nat} {a0 : Act} {w0 : World} (hm : P.follows .mixedOrders = true) (hB : valsH ops n sz dst = true) (ha : a0.tmps.size = sz)
   (S : (Nat → Bool) → World → Prop) (Pv : (Nat → Bool) → Nat → Value → World → Prop)
   (hall : AllL (fun i o => StepHA P Q ops n dst S Pv a0 i o) 0 ops.toList)
   (hs : S (fun _ => false) w0.drew)
   (hdone : ∀ (L : Nat → Bool) (a : Act) (w : World), S L w → a.tmps.size = a0.tmps.size → a.defers = a0.defers → (∀ t : Nat, (∀ i, i < n → dst i ≠ some t) → a.eval (.tmp t) = a0.eval (.tmp t)) → (∀ i, i < n → L i = true ∧ Pv L i (slotv a (dst i)) w) → Q .normal a w) : (Code.region id ops true).wp P Q a0 w0 := by
 unfold valsH at hB
 simp only [Bool.and_eq_true, List.all_eq_true, List.mem_range, decide_eq_true_eq] at hB
 obtain ⟨hsz, hB⟩ := hB
 have hop : ∀ i o, ops[i]? = some o → i < n ∧ (∀ g b, o.guard = some (g, b) → g < i ∧ befB o g = true) ∧ o.dst = dst i ∧ (∀ d, dst i = some d → d < sz) ∧ (∀ e ∈ o.after, Region.binds .any e = true → e.on < i) ∧ ∀ j, j < n → dst i ≠ none → dst i = dst j → j = i := by
   intro i o ho
   have hi : i < n := by rw [← hsz]; exact (Array.getElem?_eq_some_iff.1 ho).1
   have h1 := hB i hi
   rw [ho] at h1
   simp only [Bool.and_eq_true, List.all_eq_true, List.mem_range, Bool.or_eq_true, beq_iff_eq, Bool.not_eq_true', decide_eq_true_eq] at h1
   obtain ⟨⟨⟨⟨h2, h3⟩, h3'⟩, h4⟩, h5⟩ := h1
   refine ⟨hi, fun g b hg => ?_, optEq_eq h3, fun d hd => ?_, fun e he hb => ?_, fun j hj hne he => ?_⟩
   · simp only [hg, Bool.and_eq_true, decide_eq_true_eq] at h2
     exact h2
   · simpa [hd] using h3'
   · have := h4 e (by simpa using he)
     simpa [hb] using this
   · rcases h5 j hj with (h | h) | h
     · exact h
     · exact absurd (by simpa using h) hne
     · rw [← he] at h
       cases hd : dst i with
       | none => exact absurd hd hne
       | some d => rw [hd] at h; simp [optEq] at h
 refine wp_region_inv hm (fun listed a w => listed.size = ops.size ∧ (∀ (j : Nat) (o' : Oper), ops[j]? = some o' → fnL listed j = true → ∀ e ∈ o'.after, Region.binds .any e = true → fnL listed e.on = true) ∧ S (fnL listed) w ∧ a.tmps.size = a0.tmps.size ∧ a.defers = a0.defers ∧ (∀ t : Nat, (∀ i, i < n → dst i ≠ some t) → a.eval (.tmp t) = a0.eval (.tmp t)) ∧ ∀ i, i < n → fnL listed i = true → Pv (fnL listed) i (slotv a (dst i)) w) ?_ ?_ ⟨by simp, fun j o' _ h => ?_, ?_, rfl, rfl, fun _ _ => rfl, fun i _ h => ?_⟩
 · rintro listed a w i ⟨hls, hcl, hS, hsa, hde, hsm, hv⟩ hr
   obtain ⟨h0, o, ho, haft⟩ := mem_ready.1 hr
   obtain ⟨hi, hg, hd, hlt, hbk, hinj⟩ := hop i o ho
   have hi2 : i < listed.size := by rw [hls, hsz]; exact hi
   have hfi : fnL listed i = false := by
     unfold fnL
     simp [Array.getD, hi2] at h0 ⊢
     exact h0
   have hbeh : ∀ j, (ops[j]?.any fun o' => befB o' i) = true → fnL listed j = false := fun j hj => by
     cases hoj : ops[j]? with
     | none => rw [hoj] at hj; cases hj
     | some oj =>
       rw [hoj] at hj
       simp only [Option.any_some] at hj
       unfold befB at hj
       simp only [List.any_eq_true, Bool.and_eq_true] at hj
       obtain ⟨e, he, hbb, hej⟩ := hj
       obtain rfl := Nat.eq_of_beq_eq_true hej
       cases hlj : fnL listed j with
       | false => rfl
       | true =>
         have := hcl j oj hoj hlj e (by simpa using he) hbb
         rw [hfi] at this
         cases this
   have hstep := hall.all i o ho (fnL listed) a w hfi hS hbeh hsm fun j hj => by
     unfold befB at hj
     simp only [List.any_eq_true, Bool.and_eq_true] at hj
     obtain ⟨e, he, hbb, hej⟩ := hj
     obtain rfl := Nat.eq_of_beq_eq_true hej
     have h2 := haft e (by simpa using he) hbb
     exact ⟨h2, hv e.on (Nat.lt_trans (hbk e (by simpa using he) hbb) hi) h2⟩
   have hfin : ∀ a' w', LeavesHA dst S Pv i (fnL listed) a w a' w' → (listed.setIfInBounds i true).size = ops.size ∧ (∀ (j : Nat) (o' : Oper), ops[j]? = some o' → fnL (listed.setIfInBounds i true) j = true → ∀ e ∈ o'.after, Region.binds .any e = true → fnL (listed.setIfInBounds i true) e.on = true) ∧ S (fnL (listed.setIfInBounds i true)) w' ∧ a'.tmps.size = a0.tmps.size ∧ a'.defers = a0.defers ∧ (∀ t : Nat, (∀ i, i < n → dst i ≠ some t) → a'.eval (.tmp t) = a0.eval (.tmp t)) ∧ ∀ j, j < n → fnL (listed.setIfInBounds i true) j = true → Pv (fnL (listed.setIfInBounds i true)) j (slotv a' (dst j)) w' := by
     rintro a' w' ⟨v, rfl, hun, hp, hs', hk⟩
     rw [fnL_set hi2] at *
     refine ⟨by simpa using hls, fun j oj hoj hl e he hb => ?_, hs', by rw [size_put]; exact hsa, by cases dst i <;> exact hde, fun t ht => ?_, fun j hj hl => ?_⟩
     · by_cases hei : e.on = i
       · rw [hei]; exact onL_same
       · rw [onL_other hei]
         by_cases hji : j = i
         · subst hji
           rw [ho] at hoj
           cases hoj
           exact haft e he hb
         · rw [onL_other hji] at hl
           exact hcl j oj hoj hl e he hb
     · rw [← hsm t ht]
       cases hdi : dst i with
       | none => rfl
       | some d => exact eval_put_other fun hne => ht i hi (by rw [hdi, hne])
     · by_cases hij : j = i
       · subst hij
         cases hdi : dst j with
         | none => rw [hdi] at hun; rw [hun rfl] at hp; exact hp
         | some d =>
           show Pv _ j ((a.put (some d) v).eval (.tmp d)) _
           rw [eval_put_same (by rw [hsa, ha]; exact hlt d hdi)]
           exact hp
       · rw [onL_other hij] at hl
         have h2 := hk j _ hij hl rfl (hv j hj hl)
         cases hdj : dst j with
         | none => rw [hdj] at h2; exact h2
         | some d =>
           rw [hdj] at h2
           cases hdi : dst i with
           | none => exact h2
           | some d2 =>
             show Pv _ j ((a.put (some d2) v).eval (.tmp d)) _
             rw [eval_put_other (fun hne => hij (hinj j hj (by rw [hdi]; simp) (by rw [hdi, hdj, hne])))]
             exact h2
   unfold wpOp
   simp only [ho]
   cases hgd : o.guard with
   | none =>
     rw [hgd] at hstep
     rw [if_pos (by simp [Region.wanted, hgd])]
     exact .inl (Oper.wp_mono hfin hstep)
   | some gb =>
     obtain ⟨g, b⟩ := gb
     rw [hgd] at hstep
     obtain ⟨b', hev, hy, hn⟩ := hstep
     have hgi := (hg g b hgd).1
     have hgo : g < ops.size := by rw [hsz]; omega
     have hgd2 := (hop g ops[g] (Array.getElem?_eq_getElem hgo)).2.2.1
     have hyi : yielded ops a.tmps g = some b' := by
       unfold yielded
       rw [Array.getElem?_eq_getElem hgo]
       cases hdg : dst g with
       | none => rw [hdg] at hev; cases hev
       | some d =>
         rw [hdg] at hev
         simp only [Option.bind_some, hgd2, hdg, tmp_bool (show a.eval (.tmp d) = .bool b' from hev)]
     by_cases hbb : b' = b
     · rw [if_pos (by simp [Region.wanted, hgd, hyi, hbb])]
       exact .inl (Oper.wp_mono hfin (hy hbb))
     · rw [if_neg (by simp [Region.wanted, hgd, hyi, hbb])]
       rw [hd]
       exact hfin _ _ (hn hbb)
 · rintro listed a w ⟨hls, hcl, hS, hsa, hde, hsm, hv⟩ hr
   have hall2 := ready_all hls (fun i o ho e he hb => (hop i o ho).2.2.2.2.1 e he hb) hr
   exact hdone (fnL listed) a w hS hsa hde hsm fun i hi => ⟨hall2 i (by rw [hsz]; exact hi), hv i hi (hall2 i (by rw [hsz]; exact hi))⟩
 · simp [fnL, Array.getD] at h
 · have : fnL (Array.replicate ops.size false) = fun _ => false := by funext j; simp [fnL, Array.getD]
   rw [this]
   exact hs
 · simp [fnL, Array.getD] at h
end
end Go.Proofs.YtepacjkacjabbaaGreatDoor
namespace Go.Proofs.YtepacjkacjabbaaGreatDoor
open Go Go.RowKit
section
variable (P : Program) (Q : Exit → Act → World → Prop) (ops : Array Oper) (keep : Nat → Bool) (a0 : Act) (S : (Nat → Bool) → World → Prop) (R : Nat → (Nat → Bool) → Act → World → World → Prop)
def LeavesL (k : Nat) (d : Option Nat) (Pk : PV) (L : Nat → Bool) (a : Act) (w : World) (a' : Act) (w' : World) : Prop :=
 ∃ v, a' = a.put d v ∧ (d = none → v = undef) ∧ Pk (onL L k) v w' ∧ S (onL L k) w' ∧ R k L a w w'
def StepL (Ps : PVs) (k : Nat) (o : Oper) (Pk : PV) : Prop := ∀ (L : Nat → Bool) (a : Act) (w : World), NowS ops keep a0 S Ps k o L a w →
   match o.guard with
   | none => o.wp P a w (LeavesL S R k o.dst Pk L a w) Q
   | some (g, b) => ∃ b', slotv a (lkP Ps g).1 = .bool b' ∧ (b' = b → o.wp P a w (LeavesL S R k o.dst Pk L a w) Q) ∧ (b' ≠ b → LeavesL S R k o.dst Pk L a w (a.put o.dst undef) w)
def StabL (k : Nat) (d : Option Nat) (Pk : PV) : Prop := ∀ (i : Nat) (L : Nat → Bool) (a : Act) (w w' : World), i ≠ k → L k = true → R i L a w w' → Pk L (slotv a d) w → Pk (onL L i) (slotv a d) w'
def StepsL : Nat → PVs → List Oper → Prop
 | k, Ps, [] => ∀ (L : Nat → Bool) (a : Act) (w : World), (∀ i, i < k → L i = true) → DoneS keep a0 S Ps L a w → Q .normal a w
 | k, Ps, o :: rest => ∃ Pk, StabL R k o.dst Pk ∧ StepL P Q ops keep a0 S R Ps k o Pk ∧ StepsL (k + 1) ((k, o.dst, Pk) :: Ps) rest
end
section
variable {P : Program} {Q : Exit → Act → World → Prop} {ops : Array Oper} {keep : Nat → Bool} {a0 : Act} {S : (Nat → Bool) → World → Prop} {R : Nat → (Nat → Bool) → Act → World → World → Prop}
theorem StepsL.all : ∀ (rest : List Oper) (k : Nat) (Ps : PVs), StepsL P Q ops keep a0 S R k Ps rest →
   ∃ Ex : PVs, (∀ x, x ∈ Ex → k ≤ x.1 ∧ x.1 < k + rest.length ∧ lkP (Ex ++ Ps) x.1 = x.2) ∧ (∀ (L : Nat → Bool) (a : Act) (w : World), (∀ i, i < k + rest.length → L i = true) → DoneS keep a0 S (Ex ++ Ps) L a w → Q .normal a w) ∧
     ∀ (i : Nat) (o : Oper), rest[i]? = some o → ∃ (Pk : PV) (Pi : PVs), lkP (Ex ++ Ps) (k + i) = (o.dst, Pk) ∧ StabL R (k + i) o.dst Pk ∧ StepL P Q ops keep a0 S R Pi (k + i) o Pk ∧ ∀ j, j < k + i → lkP Pi j = lkP (Ex ++ Ps) j
 | [], k, Ps, h => ⟨[], by simp, h, by simp⟩
 | o :: rest, k, Ps, h => by
   obtain ⟨Pk, h1, h2, h3⟩ := h
   obtain ⟨Ex, g1, g2, g3⟩ := StepsL.all rest (k + 1) _ h3
   have e : Ex ++ (k, o.dst, Pk) :: Ps = (Ex ++ [(k, o.dst, Pk)]) ++ Ps := by simp
   have hk : lkP (Ex ++ (k, o.dst, Pk) :: Ps) k = (o.dst, Pk) := by
     rw [lkP_app (k := k + 1) (fun x hx => (g1 x hx).1) (Nat.lt_succ_self k)]
     exact lkP_same
   rw [e] at g1 g2 g3 hk
   have e2 : k + 1 + rest.length = k + (o :: rest).length := by simp; omega
   rw [e2] at g2
   refine ⟨Ex ++ [(k, o.dst, Pk)], fun x hx => ?_, g2, fun i o' ho => ?_⟩
   · rcases List.mem_append.1 hx with hx | hx
     · have := g1 x hx
       simp only [List.length_cons]
       exact ⟨by omega, by omega, this.2.2⟩
     · obtain rfl := List.mem_singleton.1 hx
       simp only [List.length_cons]
       exact ⟨Nat.le_refl _, by omega, hk⟩
   · match i with
     | 0 =>
       simp only [List.getElem?_cons_zero, Option.some.injEq] at ho
       subst ho
       refine ⟨Pk, Ps, hk, h1, h2, fun j hj => ?_⟩
       refine (lkP_app (k := k) (fun x hx => ?_) hj).symm
       rcases List.mem_append.1 hx with hx | hx
       · have := (g1 x hx).1; omega
       · obtain rfl := List.mem_singleton.1 hx; exact Nat.le_refl _
     | i + 1 =>
       obtain ⟨Pk', Pi, t1, t2, t3, t4⟩ := g3 i o' (by simpa using ho)
       rw [show k + 1 + i = k + (i + 1) by omega] at t1 t2 t3 t4
       exact ⟨Pk', Pi, t1, t2, t3, t4⟩
theorem wp_region_stepsL {id n sz : Nat} {w0 : World} (hm : P.follows .mixedOrders = true) (hB : stepsB ops n sz keep = true) (ha : a0.tmps.size = sz)
   (S : (Nat → Bool) → World → Prop) (R : Nat → (Nat → Bool) → Act → World → World → Prop) (hs : S (fun _ => false) w0.drew) (h : StepsL P Q ops keep a0 S R 0 [] ops.toList) : (Code.region id ops true).wp P Q a0 w0 := by
 unfold stepsB at hB
 rw [Bool.and_eq_true, List.all_eq_true] at hB
 obtain ⟨hB, hkp⟩ := hB
 obtain ⟨Ex, h1, h2, h3⟩ := StepsL.all _ _ _ h
 rw [List.append_nil] at h1 h2 h3
 simp only [Nat.zero_add] at h1 h2 h3
 have hdst : ∀ i o, ops[i]? = some o → dstOf ops i = o.dst := fun i o ho => by unfold dstOf; rw [ho]; rfl
 have hn : ops.size = n := by unfold valsH at hB; rw [Bool.and_eq_true] at hB; simpa using hB.1
 have hlk : ∀ i o, ops[i]? = some o → (lkP Ex i).1 = o.dst := fun i o ho => by
   obtain ⟨Pk, Pi, t1, _⟩ := h3 i o (by simpa using ho)
   rw [t1]
 refine wp_region_valsHA hm hB ha S (fun L i v w => (lkP Ex i).2 L v w) ?_ hs ?_
 · refine AllL.of fun i o ho => ?_
   intro L a w hL hS hbeh hsm haft
   obtain ⟨Pk, Pi, t1, t2, t3, t4⟩ := h3 i o (by simpa using ho)
   have hdi := hdst i o ho
   have hnow : NowS ops keep a0 S Pi i o L a w := ⟨hL, hS, hbeh, fun t ht => by
       have := hsm t fun j hj he => by
         have hj2 : j < ops.size := by rw [hn]; exact hj
         have hd := hdst j ops[j] (Array.getElem?_eq_getElem hj2)
         rw [hd] at he
         have := hkp ops[j] (by simp)
         rw [he] at this
         simp only [ht] at this
         cases this
       simpa [Act.eval] using this, aftF_of t4 _ fun e he hb => ?_⟩
   · have hstep := t3 L a w hnow
     have hl : ∀ a' w', LeavesL S R i o.dst Pk L a w a' w' → LeavesHA (dstOf ops) S (fun L i v w => (lkP Ex i).2 L v w) i L a w a' w' := by
       rintro a' w' ⟨v, e1, e2, e3, e4, e5⟩
       rw [← hdi] at e1 e2
       refine ⟨v, e1, e2, by show (lkP Ex i).2 _ _ _; rw [t1]; exact e3, e4, fun j u hji hj he hu => ?_⟩
       by_cases hjn : j < ops.size
       · obtain ⟨Pj, _, u1, u2, _⟩ := h3 j ops[j] (by simp [hjn])
         show (lkP Ex j).2 _ _ _
         replace hu : (lkP Ex j).2 _ _ _ := hu
         rw [u1] at hu ⊢
         rw [hdst j ops[j] (Array.getElem?_eq_getElem hjn)] at he
         subst he
         exact u2 i L a w w' (Ne.symm hji) hj e5 hu
       · have : (lkP Ex j) = (none, fun _ _ _ => True) := lkP_none fun x hx e => hjn (by have := (h1 x hx).2.1; rw [e] at this; simpa using this)
         show (lkP Ex j).2 _ _ _
         rw [this]
         trivial
     cases hg : o.guard with
     | none =>
       rw [hg] at hstep
       exact Oper.wp_mono hl hstep
     | some gb =>
       obtain ⟨g, b⟩ := gb
       rw [hg] at hstep
       obtain ⟨b', s1, s2, s3⟩ := hstep
       have hgi : g < i := by
         unfold valsH at hB
         simp only [Bool.and_eq_true, List.all_eq_true, List.mem_range] at hB
         have hi : i < n := by rw [← hn]; exact (Array.getElem?_eq_some_iff.1 ho).1
         have := hB.2 i hi
         rw [ho] at this
         simp only [hg, Bool.and_eq_true, decide_eq_true_eq] at this
         exact this.1.1.1.1.1
       have hgs : g < ops.size := Nat.lt_trans hgi (Array.getElem?_eq_some_iff.1 ho).1
       refine ⟨b', ?_, fun e => Oper.wp_mono hl (s2 e), fun e => ?_⟩
       · rw [t4 g hgi, hlk g ops[g] (Array.getElem?_eq_getElem hgs), ← hdst g ops[g] (Array.getElem?_eq_getElem hgs)] at s1
         exact s1
       · rw [hdi]
         exact hl _ _ (s3 e)
   · have hbf : befB o e.on = true := by
       unfold befB
       rw [List.any_eq_true]
       exact ⟨e, he, by rw [hb, Bool.true_and]; exact Nat.beq_refl _⟩
     obtain ⟨g1, g2⟩ := haft e.on hbf
     have hlt : e.on < i := by
       unfold valsH at hB
       simp only [Bool.and_eq_true, List.all_eq_true, List.mem_range] at hB
       have hi : i < n := by rw [← hn]; exact (Array.getElem?_eq_some_iff.1 ho).1
       have := hB.2 i hi
       rw [ho] at this
       simp only [Bool.and_eq_true, List.all_eq_true] at this
       have := this.1.2 e (by simpa using he)
       simpa [hb] using this
     have hes : e.on < ops.size := Nat.lt_trans hlt (Array.getElem?_eq_some_iff.1 ho).1
     refine ⟨hlt, g1, ?_⟩
     rw [hlk e.on ops[e.on] (Array.getElem?_eq_getElem hes), ← hdst e.on ops[e.on] (Array.getElem?_eq_getElem hes)]
     exact g2
 · intro L a w hS hsz hde hsm hv
   refine h2 L a w (fun i hi => (hv i (by rw [← hn]; simpa using hi)).1) ⟨hS, ⟨hsz, hde, fun t ht => ?_⟩, fun j => ?_⟩
   · have := hsm t fun j hj he => by
       have hj2 : j < ops.size := by rw [hn]; exact hj
       have hd := hdst j ops[j] (Array.getElem?_eq_getElem hj2)
       rw [hd] at he
       have := hkp ops[j] (by simp)
       rw [he] at this
       simp only [ht] at this
       cases this
     simpa [Act.eval] using this
   · by_cases hj : j < n
     · have hjs : j < ops.size := by rw [hn]; exact hj
       have := (hv j hj).2
       rw [hdst _ _ (Array.getElem?_eq_getElem hjs), ← hlk _ _ (Array.getElem?_eq_getElem hjs)] at this
       exact this
     · have hx : ∀ x, x ∈ Ex → x.1 ≠ j := fun x hx e => hj (by have := (h1 x hx).2.1; rw [e] at this; rw [← hn]; simpa using this)
       rw [lkP_none hx]
       trivial
section
variable {k : Nat} {Ps : PVs} {o : Oper} {rest : List Oper}
theorem StepsL.exact {c : Value} {d : Nat} (hg : o.guard = none) (hd : o.dst = some d) (hS : ∀ L w, S L w → S (onL L k) w) (hR : ∀ L a w, R k L a w w)
   (h : ∀ (L : Nat → Bool) (a : Act) (w : World), NowS ops keep a0 S Ps k o L a w → (execOp a.eval o).run P w = .ok (.value c) w)
   (t : StepsL P Q ops keep a0 S R (k + 1) ((k, o.dst, exactP c) :: Ps) rest) : StepsL P Q ops keep a0 S R k Ps (o :: rest) := by
 refine ⟨exactP c, fun _ _ _ _ _ _ _ _ h => h, fun L a w hn => ?_, t⟩
 rw [hg]
 exact Oper.wp_value (h L a w hn) ⟨c, rfl, fun e => by rw [hd] at e; (cases e), rfl, hS L w hn.world, hR L a w⟩
theorem StepsL.any (Pk : PV) (hg : o.guard = none) (hst : StabL R k o.dst Pk)
   (h : ∀ (L : Nat → Bool) (a : Act) (w : World), NowS ops keep a0 S Ps k o L a w → o.wp P a w (LeavesL S R k o.dst Pk L a w) Q)
   (t : StepsL P Q ops keep a0 S R (k + 1) ((k, o.dst, Pk) :: Ps) rest) : StepsL P Q ops keep a0 S R k Ps (o :: rest) := by
 refine ⟨Pk, hst, fun L a w hn => ?_, t⟩
 rw [hg]
 exact h L a w hn
theorem StepsL.guarded (Pk : PV) {g : Nat} {b : Bool} (hg : o.guard = some (g, b)) (hst : StabL R k o.dst Pk)
   (h : ∀ (L : Nat → Bool) (a : Act) (w : World), NowS ops keep a0 S Ps k o L a w → ∃ b', slotv a (lkP Ps g).1 = .bool b' ∧ (b' = b → o.wp P a w (LeavesL S R k o.dst Pk L a w) Q) ∧ (b' ≠ b → LeavesL S R k o.dst Pk L a w (a.put o.dst undef) w))
   (t : StepsL P Q ops keep a0 S R (k + 1) ((k, o.dst, Pk) :: Ps) rest) : StepsL P Q ops keep a0 S R k Ps (o :: rest) := by
 refine ⟨Pk, hst, fun L a w hn => ?_, t⟩
 rw [hg]
 exact h L a w hn
theorem StepsL.call {c : Value} {d : Nat} {f : FuncId} {args : Array Value} (hg : o.guard = none) (hd : o.dst = some d) (hS : ∀ L w w', S L w → Below w.heap.size w w' → S (onL L k) w') (hR : ∀ L a w w', Below w.heap.size w w' → R k L a w w')
   (h : ∀ (L : Nat → Bool) (a : Act) (w : World), NowS ops keep a0 S Ps k o L a w → (execOp a.eval o).run P w = .ok (.enter f args) w ∧ Calls P f args w fun e w' => e = .returned c ∧ Below w.heap.size w w')
   (t : StepsL P Q ops keep a0 S R (k + 1) ((k, o.dst, exactP c) :: Ps) rest) : StepsL P Q ops keep a0 S R k Ps (o :: rest) := by
 refine ⟨exactP c, fun _ _ _ _ _ _ _ _ h => h, fun L a w hn => ?_, t⟩
 rw [hg]
 obtain ⟨h1, h2⟩ := h L a w hn
 refine Oper.wp_enter h1 (h2.mono ?_)
 rintro e w' ⟨rfl, hb⟩
 exact ⟨c, rfl, c, rfl, fun e => by rw [hd] at e; (cases e), rfl, hS L w w' hn.world hb, hR L a w w' hb⟩
theorem StepsL.exactG {c : Value} {d g : Nat} {b : Bool} (hg : o.guard = some (g, b)) (hd : o.dst = some d) (hS : ∀ L w, S L w → S (onL L k) w) (hR : ∀ L a w, R k L a w w)
   (hb : ∀ (L : Nat → Bool) (a : Act) (w : World), NowS ops keep a0 S Ps k o L a w → slotv a (lkP Ps g).1 = .bool b)
   (h : ∀ (L : Nat → Bool) (a : Act) (w : World), NowS ops keep a0 S Ps k o L a w → (execOp a.eval o).run P w = .ok (.value c) w)
   (t : StepsL P Q ops keep a0 S R (k + 1) ((k, o.dst, exactP c) :: Ps) rest) : StepsL P Q ops keep a0 S R k Ps (o :: rest) := by
 refine ⟨exactP c, fun _ _ _ _ _ _ _ _ h => h, fun L a w hn => ?_, t⟩
 rw [hg]
 exact ⟨b, hb L a w hn, fun _ => Oper.wp_value (h L a w hn) ⟨c, rfl, fun e => by rw [hd] at e; (cases e), rfl, hS L w hn.world, hR L a w⟩, fun e => absurd rfl e⟩
theorem StepsL.callG {c : Value} {d g : Nat} {b : Bool} {f : FuncId} {args : Array Value} (hg : o.guard = some (g, b)) (hd : o.dst = some d) (hS : ∀ L w w', S L w → Below w.heap.size w w' → S (onL L k) w') (hR : ∀ L a w w', Below w.heap.size w w' → R k L a w w')
   (hb : ∀ (L : Nat → Bool) (a : Act) (w : World), NowS ops keep a0 S Ps k o L a w → slotv a (lkP Ps g).1 = .bool b)
   (h : ∀ (L : Nat → Bool) (a : Act) (w : World), NowS ops keep a0 S Ps k o L a w → (execOp a.eval o).run P w = .ok (.enter f args) w ∧ Calls P f args w fun e w' => e = .returned c ∧ Below w.heap.size w w')
   (t : StepsL P Q ops keep a0 S R (k + 1) ((k, o.dst, exactP c) :: Ps) rest) : StepsL P Q ops keep a0 S R k Ps (o :: rest) := by
 refine ⟨exactP c, fun _ _ _ _ _ _ _ _ h => h, fun L a w hn => ?_, t⟩
 rw [hg]
 refine ⟨b, hb L a w hn, fun _ => ?_, fun e => absurd rfl e⟩
 obtain ⟨h1, h2⟩ := h L a w hn
 refine Oper.wp_enter h1 (h2.mono ?_)
 rintro e w' ⟨rfl, hb⟩
 exact ⟨c, rfl, c, rfl, fun e => by rw [hd] at e; (cases e), rfl, hS L w w' hn.world hb, hR L a w w' hb⟩
end
end
end Go.Proofs.YtepacjkacjabbaaGreatDoor
