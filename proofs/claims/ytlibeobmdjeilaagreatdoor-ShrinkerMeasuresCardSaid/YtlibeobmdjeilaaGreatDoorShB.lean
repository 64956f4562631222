/- slices.Clone of words and of booleans; measures: Of, Compare; schedules: Copy. -/
import Derived.Test.YtlibeobmdjeilaaGreatDoorShA
set_option linter.all false
namespace Go.Proofs.YtlibeobmdjeilaaGreatDoor
open Go Go.RowKit Go.WideShapes Go.ChangeShapes
theorem wordInfo : ∃ i : TypeInfo, Tryz.prog.info? 24 = some i ∧ i.zero = some (.int .u32 0) ∧ i.size = 1 ∧ i.bytes = 4 := by
  have h : (Tryz.prog.info? 24).map (fun i => (i.size, i.bytes)) = some (1, 4) := by kernel_rfl
  have h2 : (Tryz.prog.info? 24).bind (·.zero) = some (.int .u32 0) := by kernel_rfl
  obtain ⟨i, hi, hs⟩ := Option.map_eq_some_iff.1 h
  rw [hi] at h2
  exact ⟨i, hi, h2, congrArg Prod.fst hs, congrArg Prod.snd hs⟩
theorem boolInfo : ∃ i : TypeInfo, Tryz.prog.info? 4 = some i ∧ i.zero = some (.bool false) ∧ i.size = 1 ∧ i.bytes = 1 := by
  have h : (Tryz.prog.info? 4).map (fun i => (i.size, i.bytes)) = some (1, 1) := by kernel_rfl
  have h2 : (Tryz.prog.info? 4).bind (·.zero) = some (.bool false) := by kernel_rfl
  obtain ⟨i, hi, hs⟩ := Option.map_eq_some_iff.1 h
  rw [hi] at h2
  exact ⟨i, hi, h2, congrArg Prod.fst hs, congrArg Prod.snd hs⟩
/-- A list of one's own, of elements of one cell. -/
def OwnG {α : Type} (B : Nat) (W : World) (t : TypeId) (mk : α → Value) (v : Value) (l : List α) : Prop := W.ownsRow B t 1 v l.length (l.map mk)
section
variable {α : Type} {B C : Nat} {W W' : World} {t : TypeId} {mk : α → Value} {v : Value} {l : List α}
theorem OwnG.kept (h : OwnG B W t mk v l) (hk : ∀ g cs fr, B ≤ g → W.heap[g]? = some (.cells cs t fr) → W'.heap[g]? = W.heap[g]?) : OwnG B W' t mk v l := by
  obtain ⟨hlen, ho⟩ := h
  refine ⟨hlen, ?_⟩
  rcases ho with h0 | ⟨g, cap, cur, rfl, h1, h2, h3⟩
  · exact .inl h0
  · exact .inr ⟨g, cap, cur, rfl, h1, (hk g _ _ h1 h2).trans h2, h3⟩
theorem OwnG.on (h : OwnG B W t mk v l) (hb : Below W.heap.size W W') : OwnG B W' t mk v l := h.kept fun g _ _ _ hg => hb.block g (Array.getElem?_eq_some_iff.1 hg).1
theorem OwnG.less (h : OwnG C W t mk v l) (hB : B ≤ C) : OwnG B W t mk v l := by
  obtain ⟨hlen, ho⟩ := h
  refine ⟨hlen, ?_⟩
  rcases ho with h0 | ⟨g, cap, cur, rfl, h1, h2⟩
  · exact .inl h0
  · exact .inr ⟨g, cap, cur, rfl, Nat.le_trans hB h1, h2⟩
theorem OwnG.form (h : OwnG B W t mk v l) : ∃ A c, v = .slice A l.length c := by
  obtain ⟨hlen, ho⟩ := h
  rcases ho with ⟨rfl, h0⟩ | ⟨g, cap, cur, rfl, _⟩
  · exact ⟨none, 0, by rw [h0]⟩
  · exact ⟨_, _, rfl⟩
theorem OwnG.rd (h : OwnG B W t mk v l) : RdG mk W v l := by
  have h' := h
  obtain ⟨hlen, ho⟩ := h
  rcases ho with ⟨rfl, h0⟩ | ⟨g, cap, cur, rfl, _⟩
  · exact ⟨none, 0, by rw [h0], fun h => absurd h (by omega)⟩
  · refine ⟨_, _, rfl, fun _ => ⟨g, 0, rfl, fun j hj => ?_⟩⟩
    rw [Nat.zero_add]
    have h2 := World.ownsRow.cellAt h' j (by omega)
    rw [h2]
    simp [hj]
end
theorem one_map {α : Type} {mk : α → Value} (h : ∀ x, (mk x).oneCell' = true) (l : List α) : ∀ u ∈ l.map mk, u.oneCell' = true := by
  intro u hu
  obtain ⟨x, _, rfl⟩ := List.mem_map.1 hu
  exact h x
set_option maxRecDepth 1000000 in
theorem clone_words (w : World) (A : Option Addr) (c : Nat) (l : List Int) (h : RdG (.int .u32) w (.slice A l.length c) l) (hl : l.length ≤ 1000000) :
    Calls Tryz.prog 66 #[.slice A l.length c] w fun o w' => (∃ v, o = .returned v ∧ OwnG w.heap.size w' 24 (.int .u32) v l) ∧ Below w.heap.size w w' := by
  obtain ⟨i0, hi, hz0, hz1, hz2⟩ := wordInfo
  have q22 : ∀ (w : World) (a : Option Addr) (n c n' c' : Nat), (binOp .eql 45 (.slice a n c) (.slice none n' c')).run Tryz.prog w = .ok (.bool a.isNone) w := fun w a n c n' c' => Lib.run_eql_slice_nil w _ _ a n c n' c' Tryz.underlying45
  cases A with
  | none =>
    have h0 : l = [] := by
      cases l with
      | nil => rfl
      | cons x l => obtain ⟨A, c', e, hr⟩ := h; cases e; obtain ⟨b, off, e, _⟩ := hr (by simp); cases e
    subst h0
    clear h
    go_enter Tryz.func66, Tryz.ntmps66
    go_wp2_with fail
    go_ret
    exact ⟨⟨_, rfl, ⟨rfl, .inl ⟨rfl, rfl⟩⟩⟩, Below.refl _ _⟩
  | some a =>
    have hnews : ∀ j u, (l.map (Value.int .u32))[j]? = some u → (w.alloc (.cells #[] 24)).cell? (a.add j) = some u := by
      intro j u hj
      obtain ⟨A, c', e, hr⟩ := h
      cases e
      have hjl : j < l.length := by have := (List.getElem?_eq_some_iff.1 hj).1; rwa [List.length_map] at this
      obtain ⟨b, off, e, hc⟩ := hr (by omega)
      cases e
      have hcc := hc j hjl
      have hblk := World.block_lt_of_cell? w _ hcc
      rw [add_plain]
      refine (World.cell?_of_block (w := w) (Below.heap_alloc _ _ _ hblk)).trans (hcc.trans ?_)
      rw [List.getElem?_map, List.getElem?_eq_getElem hjl] at hj
      exact hj
    have HNEWS := Lib.hid hnews
    clear hnews h
    have hl63 : l.length ≤ maxLen := by simp only [maxLen]; omega
    have HLN := Lib.hid (show (l.map (Value.int .u32)).length = l.length * 1 by rw [List.length_map, Nat.mul_one])
    have HO1 := Lib.hid (one_map (mk := Value.int .u32) (fun _ => rfl) l)
    obtain ⟨n, hn⟩ : ∃ n, l.length = n := ⟨_, rfl⟩
    have HNN := Lib.hid hn
    rw [hn] at HLN hl hl63 ⊢
    clear hn
    go_enter Tryz.func66, Tryz.ntmps66
    go_wp2_with (first | (at_builtin; refine wpList_append_own _ rfl _ _ 45 rfl w.heap.size 24 i0 _ 1 4 Tryz.underlying45 hi hz0 hz1 hz2 rfl (by decide) _ _ _ rfl (World.ownsRow_made w #[] 0 (Nat.le_refl _) (Nat.zero_le _) (by simp)) a n c (l.map (Value.int .u32)) rfl HLN.out HNEWS.out HO1.out (by omega) (by omega) (by simp) ?_) | fail)
    intro v' w1 hown hgrow hnil
    go_wp2_with fail
    go_ret
    refine ⟨⟨v', rfl, by simpa [OwnG, HNN.out] using hown⟩, ?_⟩
    exact ((Below.refl _ w).alloc (Nat.le_refl _) _).grown hgrow (by simp) (by intro k hk; simp [Value.ownBlock] at hk; omega)
set_option maxRecDepth 1000000 in
theorem clone_bools (w : World) (A : Option Addr) (c : Nat) (l : List Bool) (h : RdG .bool w (.slice A l.length c) l) (hl : l.length ≤ 1000000) :
    Calls Tryz.prog 68 #[.slice A l.length c] w fun o w' => (∃ v, o = .returned v ∧ OwnG w.heap.size w' 4 .bool v l) ∧ Below w.heap.size w w' := by
  obtain ⟨i0, hi, hz0, hz1, hz2⟩ := boolInfo
  have q22 : ∀ (w : World) (a : Option Addr) (n c n' c' : Nat), (binOp .eql 91 (.slice a n c) (.slice none n' c')).run Tryz.prog w = .ok (.bool a.isNone) w := fun w a n c n' c' => Lib.run_eql_slice_nil w _ _ a n c n' c' Tryz.underlying91
  cases A with
  | none =>
    have h0 : l = [] := by
      cases l with
      | nil => rfl
      | cons x l => obtain ⟨A, c', e, hr⟩ := h; cases e; obtain ⟨b, off, e, _⟩ := hr (by simp); cases e
    subst h0
    clear h
    go_enter Tryz.func68, Tryz.ntmps68
    go_wp2_with fail
    go_ret
    exact ⟨⟨_, rfl, ⟨rfl, .inl ⟨rfl, rfl⟩⟩⟩, Below.refl _ _⟩
  | some a =>
    have hnews : ∀ j u, (l.map Value.bool)[j]? = some u → (w.alloc (.cells #[] 4)).cell? (a.add j) = some u := by
      intro j u hj
      obtain ⟨A, c', e, hr⟩ := h
      cases e
      have hjl : j < l.length := by have := (List.getElem?_eq_some_iff.1 hj).1; rwa [List.length_map] at this
      obtain ⟨b, off, e, hc⟩ := hr (by omega)
      cases e
      have hcc := hc j hjl
      have hblk := World.block_lt_of_cell? w _ hcc
      rw [add_plain]
      refine (World.cell?_of_block (w := w) (Below.heap_alloc _ _ _ hblk)).trans (hcc.trans ?_)
      rw [List.getElem?_map, List.getElem?_eq_getElem hjl] at hj
      exact hj
    have HNEWS := Lib.hid hnews
    clear hnews h
    have hl63 : l.length ≤ maxLen := by simp only [maxLen]; omega
    have HLN := Lib.hid (show (l.map Value.bool).length = l.length * 1 by rw [List.length_map, Nat.mul_one])
    have HO1 := Lib.hid (one_map (mk := Value.bool) (fun _ => rfl) l)
    obtain ⟨n, hn⟩ : ∃ n, l.length = n := ⟨_, rfl⟩
    have HNN := Lib.hid hn
    rw [hn] at HLN hl hl63 ⊢
    clear hn
    go_enter Tryz.func68, Tryz.ntmps68
    go_wp2_with (first | (at_builtin; refine wpList_append_own _ rfl _ _ 91 rfl w.heap.size 4 i0 _ 1 1 Tryz.underlying91 hi hz0 hz1 hz2 rfl (by decide) _ _ _ rfl (World.ownsRow_made w #[] 0 (Nat.le_refl _) (Nat.zero_le _) (by simp)) a n c (l.map Value.bool) rfl HLN.out HNEWS.out HO1.out (by omega) (by omega) (by simp) ?_) | fail)
    intro v' w1 hown hgrow hnil
    go_wp2_with fail
    go_ret
    refine ⟨⟨v', rfl, by simpa [OwnG, HNN.out] using hown⟩, ?_⟩
    exact ((Below.refl _ w).alloc (Nat.le_refl _) _).grown hgrow (by simp) (by intro k hk; simp [Value.ownBlock] at hk; omega)
end Go.Proofs.YtlibeobmdjeilaaGreatDoor
