/- check: what stays where a map of names is written; the names of all things, gathered by a range over their map. -/
import Derived.Test.YthcboallnbaimaaGreatDoorDecl
import Derived.Test.YthcboallnbaimaaGreatDoorStmtsC
import Derived.Maps.RangeWalk
namespace Go.Proofs.YthcboallnbaimaaGreatDoor
open Go Go.RowKit Go.Maps
theorem KeepsQ.turned {K : CkE} {w X X' : World} {b : Nat} (h : KeepsQ K w X) (ht : X.mapTurned X' b) (hb : w.heap.size ≤ b) (hn : K.n₀ ≤ w.heap.size) : KeepsQ K w X' := by
  have hg := ht.grown
  have hs := h.size
  have hne : ∀ (k : Nat) (o : Obj), w.heap[k]? = some o → k ≠ b ∧ k < X.heap.size := fun k o ho => by have := (Array.getElem?_eq_some_iff.1 ho).1; omega
  refine ⟨Nat.le_trans hs hg.size, fun k o hB ho hc => ?_, fun k cs t fr ho hk hq => ?_, ?_⟩
  · obtain ⟨h1, h2⟩ := hne k _ ho
    exact (hg.block k h2 (by simpa using h1)).trans (h.same k o hB ho hc)
  · obtain ⟨h1, h2⟩ := hne k _ ho
    exact (hg.block k h2 (by simpa using h1)).trans (h.cells k cs t fr ho hk hq)
  · exact h.low.trans ⟨hg.os, hg.tape, hg.output, hg.size, fun k hk => hg.block k (by omega) (by intro e; cases e; omega)⟩
theorem CkSt.turned {K : CkE} {J Jx : List (Int × Int) → World → Prop} (hJ : OwnC 129 K.B J) (hJx : OwnC 129 K.B Jx) {pm : Option Nat} {E : Env} {cs : List Int} {X X' : World} {b : Nat} (h : CkSt K J Jx pm E cs X) (ht : X.mapTurned X' b) (hB : K.B ≤ b) (h1 : b ≠ K.mt) (h2 : b ≠ K.mp) (h3 : pm ≠ some b) : CkSt K J Jx pm E cs X' := by
  obtain ⟨over, hk, hs⟩ := h.ex
  have hg := ht.grown
  obtain ⟨es, cl, es', cl', hb0, he⟩ := id ht
  have hother : ∀ k, k ≠ b → k < X.heap.size → X'.heap[k]? = X.heap[k]? := fun k hk2 hlt => hg.block k hlt (by simpa using hk2)
  have hqm : K.q ≠ b := by
    intro e
    have := hk.box
    rw [e, hb0] at this
    cases this
  refine ⟨over, ⟨(hother _ hqm hk.lt).trans hk.box, ?_, ?_, ?_, hk.prog.below ⟨hg.os, hg.tape, hg.output, hg.size, fun k hk2 => hother k (by have := hk.n0; omega) (by have := hk.lt; have := hk.q; have := hk.n0; omega)⟩, hk.n0, hk.q, hk.mt, hk.mp⟩, hs.keep (fun l hl => hJ.turned hl hB ht) (fun l hl => hJx.turned hl hB ht)⟩
  · cases pm with
    | none => exact hk.params
    | some m =>
      obtain ⟨a1, k, a2⟩ := hk.params
      exact ⟨a1, k, a2.of_block (hother m (fun e => h3 (by rw [e])) a2.lt)⟩
  · obtain ⟨k, a2⟩ := hk.things
    exact ⟨k, a2.of_block (hother _ (Ne.symm h1) a2.lt)⟩
  · obtain ⟨k, a2⟩ := hk.procs
    exact ⟨k, a2.of_block (hother _ (Ne.symm h2) a2.lt)⟩
/-- Where the maps of a checker lie. -/
theorem CkSt.maps {K : CkE} {J Jx : List (Int × Int) → World → Prop} {pm : Option Nat} {E : Env} {cs : List Int} {X : World} (h : CkSt K J Jx pm E cs X) : K.mt < X.heap.size ∧ K.mp < X.heap.size ∧ ∀ m, pm = some m → m < X.heap.size := by
  obtain ⟨over, hk, hs⟩ := h.ex
  refine ⟨?_, ?_, fun m hm => ?_⟩
  · obtain ⟨k, a2⟩ := hk.things; exact a2.lt
  · obtain ⟨k, a2⟩ := hk.procs; exact a2.lt
  · subst hm
    obtain ⟨a1, k, a2⟩ := hk.params; exact a2.lt
theorem nodup_le {α : Type} [DecidableEq α] : ∀ (zs L : List α), zs.Nodup → (∀ x ∈ zs, x ∈ L) → zs.length ≤ L.length
  | [], _, _, _ => Nat.zero_le _
  | x :: zs, L, hn, hs => by
    obtain ⟨h1, h2⟩ := List.nodup_cons.1 hn
    have hx := hs x (List.mem_cons_self ..)
    have := nodup_le zs (L.erase x) h2 (fun y hy => (List.mem_erase_of_ne (fun e => h1 (by rw [← e]; exact hy))).2 (hs y (List.mem_cons_of_mem _ hy)))
    rw [List.length_erase_of_mem hx] at this
    have hp : 0 < L.length := List.length_pos_of_mem hx
    simp only [List.length_cons]
    omega
theorem declsC_snoc (p : ProgV) (a : Bool) : ∀ (l : List DeclV) (b : List ByteArray) (d : DeclV), declsC p a (l ++ [d]) b = declsC p a l b ++ [declE p (b ++ l.map DeclV.name) a d]
  | [], b, d => by simp [declsC]
  | x :: l, b, d => by
    rw [List.cons_append, declsC, declsC_snoc p a l, declsC]
    simp
theorem hasN_mem (l : List ByteArray) (s : ByteArray) : hasN l s = true ↔ s ∈ l := by
  unfold hasN; simp
theorem look_has {α : Type} (T : List (ByteArray × α)) (s : ByteArray) : (look T s).isSome = hasN (T.map (·.1)) s := by
  unfold look hasN
  rw [Bool.eq_iff_iff]
  simp [List.find?_isSome]
/-- All things' names: how the map of the names grows while the map of things is gone through. -/
structure OwnSt (K : CkE) (n : Nat) (D : DataW Unit) (left : Lit → Bool) (zs : List ByteArray) : Prop where
  nodup : zs.Nodup
  sub : ∀ s ∈ zs, s ∈ thingNames K.p
  gone : ∀ s ∈ zs, left (skey s) = false
  rest : ∀ s, s ∈ thingNames K.p → s.size ≤ maxLen → s ∈ zs ∨ left (skey s) = true
  key : ∀ kl, left kl = true → Maps.has D kl = true
theorem OwnSt.step {K : CkE} {n : Nat} {D : DataW Unit} {left : Lit → Bool} {zs : List ByteArray} (h : OwnSt K n D left zs) {x : ByteArray} (hl : left (skey x) = true) (hx : x ∈ thingNames K.p) : OwnSt K n D (fun z => left z && !z.sameKey (skey x)) (zs ++ [x]) := by
  have hxz : x ∉ zs := fun hm => by rw [h.gone x hm] at hl; cases hl
  have hself : (skey x).sameKey (skey x) = true := WideAt.sameKey_self (by trivial)
  refine ⟨?_, ?_, ?_, ?_, ?_⟩
  · rw [List.nodup_append]
    refine ⟨h.nodup, by simp, fun a ha b hb e => ?_⟩
    rw [List.mem_singleton] at hb
    subst hb
    subst e
    exact hxz ha
  · intro s hs
    rcases List.mem_append.1 hs with hs | hs
    · exact h.sub s hs
    · rw [List.mem_singleton.1 hs]; exact hx
  · intro s hs
    rcases List.mem_append.1 hs with hs | hs
    · rw [h.gone s hs]; rfl
    · rw [List.mem_singleton.1 hs, hself]; simp
  · intro s hs hsz
    rcases h.rest s hs hsz with h1 | h1
    · exact .inl (List.mem_append_left _ h1)
    · by_cases e : s = x
      · exact .inl (by rw [e]; simp)
      · refine .inr ?_
        have hne : (skey s).sameKey (skey x) = false := Bool.eq_false_iff.2 fun h2 => e (skey_inj (WideAt.sameKey_eq h2))
        simp [h1, hne]
  · intro kl hk
    simp at hk
    exact h.key kl hk.1
theorem BefAt.names {W : World} {mb n n' : Nat} {l l' : List ByteArray} {f : ByteArray → Option Int} (h : BefAt W mb n l f) (hn : n ≤ n') (hl : ∀ s, (f s).isSome = true → hasN l' s = true) (hl2 : ∀ s, hasN l' s = true → hasN l s = true) : BefAt W mb n' l' f := by
  refine ⟨h.map.mono hn, fun s => ?_, fun s c hc => by have := h.few s c hc; omega⟩
  rw [Bool.eq_iff_iff]
  exact ⟨hl s, fun h2 => by rw [h.has]; exact hl2 s h2⟩
/-- Names that can be keys, and that the library's searches take. -/
structure NamesOk (p : ProgV) : Prop where
  decls : ∀ d, d ∈ p.inputs ++ p.ghosts ++ p.vars ++ p.arrays → d.name.size ≤ 4294967200
  procs : ∀ q ∈ p.procs, q.name.size ≤ 4294967200 ∧ ∀ d ∈ q.params, d.name.size ≤ 4294967200
theorem thing_names {p : ProgV} (h : NamesOk p) : ∀ s ∈ thingNames p, s.size ≤ maxLen := by
  intro s hs
  have e : thingNames p = (p.inputs ++ p.ghosts ++ p.vars ++ p.arrays).map DeclV.name := by
    unfold thingNames thingsP
    simp [List.map_append, List.map_map, Function.comp_def]
  rw [e] at hs
  obtain ⟨d, hd, rfl⟩ := List.mem_map.1 hs
  have := h.decls d hd
  unfold maxLen
  omega
theorem thing_names_len (p : ProgV) : (thingNames p).length = p.inputs.length + p.ghosts.length + p.vars.length + p.arrays.length := by
  unfold thingNames thingsP
  simp
  omega
end Go.Proofs.YthcboallnbaimaaGreatDoor
