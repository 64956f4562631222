import Derived.Test.YtcpcoomkapblcaaTab
open Go Go.RowKit Go.Maps
namespace Go.Proofs.Ytcpcoomkapblcaa
def findI (T : List Inf) (i : Int) : Option Inf := T.find? (fun x => x.id == i)
def infoOf (T : List Inf) (i : Int) : Inf := (findI T i).getD ⟨0, 0, 0⟩
def hasI (T : List Inf) (i : Int) : Bool := T.any (fun x => x.id == i)
theorem Tab.drew {w : World} {p m : Nat} {T : List Inf} {c : Int} (h : Tab w p m T c) : Tab w.drew p m T c := ⟨h.head, h.map.drew, h.apart, h.wf, h.ne⟩
theorem Tab.alloc {w : World} {p m : Nat} {T : List Inf} {c : Int} (h : Tab w p m T c) (o : Obj) : Tab (w.alloc o) p m T c :=
  ⟨((MapKept.heap_alloc w o).2 p h.lt).trans h.head, h.map.alloc o, h.apart, h.wf, h.ne⟩
theorem Tab.setCell {w : World} {p m : Nat} {T : List Inf} {c : Int} (h : Tab w p m T c) {a : Addr} (hp : p ≠ a.block) (hm : m ≠ a.block) (v : Value) : Tab (w.setCell a v) p m T c :=
  ⟨(heap_setCell_other _ _ _ _ hp).trans h.head, h.map.setCell hm v, h.apart, h.wf, h.ne⟩
theorem Tab.look {w : World} {p m : Nat} {T : List Inf} {c : Int} (h : Tab w p m T c) {i : Int} (hi : (Lit.int .i64 i).wf = true) :
    (Instr.lookup 76 (.map (some m)) (.int .i64 i) true).run Try.prog w = .ok (.tuple #[.agg #[.int .i64 (infoOf T i).id, .int .i64 (infoOf T i).lev, .int .i64 (infoOf T i).used], .bool (hasI T i)]) w := by
  obtain ⟨v, ps, hrun, hv⟩ := h.map.look_ok law3 Try.underlying76 (zero32 w) (rInf_mk ⟨0, 0, 0⟩) (key3 hi)
  rw [has_tab] at hrun
  change _ = Result.ok (Value.tuple #[v, .bool (hasI T i)]) w at hrun
  rw [hrun]
  obtain ⟨x, rfl, hx⟩ := rInf_inv hv
  replace hx := (Prod.mk.injEq _ _ _ _ ▸ hx).1
  suffices x = infoOf T i by rw [this]; rfl
  unfold infoOf findI
  cases hf : T.find? (fun x => x.id == i) with
  | none =>
    rw [List.find?_eq_none] at hf
    rw [at_tab_none h.apart (by simpa using hf)] at hx
    exact (dInf_inj hx.symm)
  | some y =>
    have hy := List.mem_of_find?_eq_some hf
    have hyi : y.id = i := by simpa using List.find?_some hf
    rw [← hyi, at_tab h.apart hy] at hx
    exact (dInf_inj hx.symm)
set_option maxRecDepth 1000000 in
theorem info_any (w : World) (p m : Nat) (T : List Inf) (c i : Int) (h : Tab w p m T c) (hi : (Lit.int .i64 i).wf = true) :
    Calls Try.prog 32 #[.pointer (some ⟨p, 0, none⟩), .int .i64 i] w fun e w' => e = .returned (.tuple #[(infoOf T i).val, .bool (hasI T i)]) ∧ Tab w' p m T c ∧ Below w.heap.size w w' := by
  have h0 := h.cell0
  have hl := h.look hi
  have hl2 := (h.alloc (.cells #[.int .i64 0, .int .i64 0, .int .i64 0] 32)).look hi
  have h3 := (h.alloc (.cells #[.int .i64 0, .int .i64 0, .int .i64 0] 32)).cell0
  go_enter Try.func32, Try.ntmps32
  go_wp2
  go_returns
  exact ⟨rfl, (h.alloc _).alloc _, ((Below.refl _ _).alloc (Nat.le_refl _) _).alloc (by simp) _⟩
set_option maxRecDepth 1000000 in
theorem len_any (w : World) (p m : Nat) (T : List Inf) (c : Int) (h : Tab w p m T c) :
    Calls Try.prog 19 #[.pointer (some ⟨p, 0, none⟩)] w fun e w' => e = .returned (.int .i64 T.length) ∧ w = w' := by
  have h0 := h.cell0
  have hl := h.map.len Try.underlying76
  rw [size_tab] at hl
  go_enter Try.func19, Try.ntmps19
  go_wp2
  go_ret
  exact ⟨rfl, rfl⟩
set_option maxRecDepth 1000000 in
theorem clock_any (w : World) (p m : Nat) (T : List Inf) (c : Int) (h : Tab w p m T c) :
    Calls Try.prog 16 #[.pointer (some ⟨p, 0, none⟩)] w fun e w' => e = .returned (.int .i64 c) ∧ w = w' := by
  have h1 := h.cell1
  go_enter Try.func16, Try.ntmps16
  go_wp2
  go_ret
  exact ⟨rfl, rfl⟩

/-- What Put makes of a table. -/
def putR (T : List Inf) (c i l : Int) : List Inf × Int × Int :=
  if hasI T i ∨ i < 1 ∨ 1073741824 < i then (T, c, 160) else if l < 0 then (T, c, 2) else (T.filter (fun y => y.id ≠ i) ++ [⟨i, l, c⟩], c + 1, 0)
theorem not_put {T : List Inf} {i : Int} (h : ¬ hasI T i = true) (h1 : 1 ≤ i ∧ i ≤ 1073741824) : ¬ (hasI T i = true ∨ i < 1 ∨ 1073741824 < i) := by
  rintro (h' | h')
  · exact h h'
  · omega
set_option maxRecDepth 1000000 in
theorem put_any (w : World) (p m : Nat) (T : List Inf) (c i l : Int) (h : Tab w p m T c) (hi : (Lit.int .i64 i).wf = true) (hc : 0 ≤ c ∧ c < 1000000) (hT : T.length < 1000000) :
    Calls Try.prog 28 #[.pointer (some ⟨p, 0, none⟩), .int .i64 i, .int .i64 l] w fun e w' => e = .returned (.int .i64 (putR T c i l).2.2) ∧ Tab w' p m (putR T c i l).1 (putR T c i l).2.1 ∧ But p m w w' := by
  have h0 := h.cell0
  have hl := (h.alloc (.cells #[.int .i64 0, .int .i64 0, .int .i64 0] 32)).look hi
  have h3 := (h.alloc (.cells #[.int .i64 0, .int .i64 0, .int .i64 0] 32)).cell0
  have hl2 := h.look hi
  go_enter Try.func28, Try.ntmps28
  go_wp2_with fail
  all_goals first
    | (go_ret
       have hR : putR T c i l = (T, c, 160) := by unfold putR; rw [if_pos (by first | (left; assumption) | (right; omega))]
       rw [hR]
       exact ⟨rfl, h.alloc _, But.of_below ((Below.refl _ _).alloc (Nat.le_refl _) _)⟩)
    | (go_ret
       have hR : putR T c i l = (T, c, 2) := by unfold putR; rw [if_neg (not_put (by assumption) (by omega)), if_pos (by omega)]
       rw [hR]
       exact ⟨rfl, h.alloc _, But.of_below ((Below.refl _ _).alloc (Nat.le_refl _) _)⟩)
    | (refine (note_any _ p m T c i l (h.alloc _) hi hc hT).mono ?_
       rintro e w' ⟨rfl, ht, hb⟩
       go_wp2
       go_ret
       have hR : putR T c i l = (T.filter (fun y => y.id ≠ i) ++ [⟨i, l, c⟩], c + 1, 0) := by unfold putR; rw [if_neg (not_put (by assumption) (by omega)), if_neg (by omega)]
       rw [hR]
       exact ⟨rfl, ht, (But.of_below ((Below.refl _ _).alloc (Nat.le_refl _) _)).trans hb⟩)
/-- What Use makes of a table. -/
def useR (T : List Inf) (c i l : Int) : List Inf × Int × Int :=
  if hasI T i = false then (T, c, 160) else if l < 0 then (T, c, 2) else (T.filter (fun y => y.id ≠ i) ++ [⟨i, min (infoOf T i).lev l, c⟩], c + 1, 0)
set_option maxRecDepth 1000000 in
theorem use_any (w : World) (p m : Nat) (T : List Inf) (c i l : Int) (h : Tab w p m T c) (hi : (Lit.int .i64 i).wf = true) (hc : 0 ≤ c ∧ c < 1000000) (hT : T.length < 1000000) :
    Calls Try.prog 29 #[.pointer (some ⟨p, 0, none⟩), .int .i64 i, .int .i64 l] w fun e w' => e = .returned (.int .i64 (useR T c i l).2.2) ∧ Tab w' p m (useR T c i l).1 (useR T c i l).2.1 ∧ But p m w w' := by
  have hTab := h
  have h0 := h.cell0
  have hl := (h.alloc (.cells #[.int .i64 0, .int .i64 0, .int .i64 0] 32)).look hi
  have h3 := (h.alloc (.cells #[.int .i64 0, .int .i64 0, .int .i64 0] 32)).cell0
  have hl2 := h.look hi
  go_enter Try.func29, Try.ntmps29
  go_wp2_with fail
  all_goals first
    | (go_ret
       have hR : useR T c i l = (T, c, 160) := by unfold useR; rw [if_pos (by simpa using (by assumption : (!hasI T i) = true))]
       rw [hR]
       exact ⟨rfl, hTab.alloc _, But.of_below ((Below.refl _ _).alloc (Nat.le_refl _) _)⟩)
    | (go_ret
       have hR : useR T c i l = (T, c, 2) := by unfold useR; rw [if_neg (by simpa using (by assumption : (!hasI T i) = false)), if_pos (by omega)]
       rw [hR]
       exact ⟨rfl, hTab.alloc _, But.of_below ((Below.refl _ _).alloc (Nat.le_refl _) _)⟩)
    | (refine (note_any _ p m T c i _ (hTab.alloc _) hi hc hT).mono ?_
       rintro e w' ⟨rfl, ht, hb⟩
       go_wp2
       go_ret
       have hR : useR T c i l = (T.filter (fun y => y.id ≠ i) ++ [⟨i, min (infoOf T i).lev l, c⟩], c + 1, 0) := by unfold useR; rw [if_neg (by simpa using (by assumption : (!hasI T i) = false)), if_neg (by omega)]
       rw [hR]
       refine ⟨rfl, ?_, (But.of_below ((Below.refl _ _).alloc (Nat.le_refl _) _)).trans hb⟩
       first
         | (have hm : min (infoOf T i).lev l = l := by omega
            rw [hm]; exact ht)
         | (have hm : min (infoOf T i).lev l = (infoOf T i).lev := by omega
            rw [hm]; exact ht))
def remR (T : List Inf) (i : Int) : List Inf × Int := if hasI T i = false then (T, 160) else (T.filter (fun y => y.id ≠ i), 0)
theorem apart_del {T : List Inf} (h : IdsApart T) (i : Int) : IdsApart (T.filter (fun y => y.id ≠ i)) := List.Pairwise.filter _ h
set_option maxRecDepth 1000000 in
theorem remove_any (w : World) (p m : Nat) (T : List Inf) (c i : Int) (h : Tab w p m T c) (hi : (Lit.int .i64 i).wf = true) :
    Calls Try.prog 30 #[.pointer (some ⟨p, 0, none⟩), .int .i64 i] w fun e w' => e = .returned (.int .i64 (remR T i).2) ∧ Tab w' p m (remR T i).1 c ∧ But p m w w' := by
  have h0 := h.cell0
  have hl := (h.alloc (.cells #[.int .i64 0, .int .i64 0, .int .i64 0] 32)).look hi
  have h3 := (h.alloc (.cells #[.int .i64 0, .int .i64 0, .int .i64 0] 32)).cell0
  have hl2 := h.look hi
  have h4 := h.alloc (.cells #[.int .i64 (infoOf T i).id, .int .i64 (infoOf T i).lev, .int .i64 (infoOf T i).used] 32)
  have h5 := h4.cell0
  obtain ⟨w1, hrun, hown, hturn⟩ := h4.map.drop law3 Try.underlying76 (key3 hi) 0
  go_enter Try.func30, Try.ntmps30
  go_wp2_with fail
  · go_ret
    have hR : remR T i = (T, 160) := by unfold remR; rw [if_pos (by first | assumption | simpa using (by assumption : (!hasI T i) = true))]
    rw [hR]
    exact ⟨rfl, h.alloc _, But.of_below ((Below.refl _ _).alloc (Nat.le_refl _) _)⟩
  · go_ret
    have hR : remR T i = (T.filter (fun y => y.id ≠ i), 0) := by unfold remR; rw [if_neg (by simpa using (by assumption : (!hasI T i) = false))]
    rw [hR]
    have hg := hturn.grown
    rw [del_tab h.apart] at hown
    have hk : Below w.heap.size w (w.alloc (.cells #[.int .i64 (infoOf T i).id, .int .i64 (infoOf T i).lev, .int .i64 (infoOf T i).used] 32)) := (Below.refl _ _).alloc (Nat.le_refl _) _
    refine ⟨rfl, ⟨(hg.block p h4.lt (by simpa using h.ne)).trans h4.head, own_sharp hown, apart_del h.apart i, fun x hx => h.wf x (List.mem_filter.1 hx).1, h.ne⟩, ?_⟩
    refine (But.of_below hk).trans ⟨hg.os, hg.tape, hg.output, hg.size, fun k hk _ hm => hg.block k hk (by simpa using hm)⟩
end Go.Proofs.Ytcpcoomkapblcaa
