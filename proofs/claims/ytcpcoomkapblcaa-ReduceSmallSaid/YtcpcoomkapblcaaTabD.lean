import Derived.Maps.OwnSet
import Derived.Maps.RangeWalk
namespace Go.Proofs.Ytcpcoomkapblcaa
open Go Go.Maps Go.WideShapes Go.ChangeShapes
open Go.ChangeMaps (notKey putKey delKey)
/-- What is known of a clause: its ID, its levels, when it was used. -/
structure Inf where
  id : Int
  lev : Int
  used : Int
deriving DecidableEq, Repr
def Inf.enc (x : Inf) : List Value := [.int .i64 x.id, .int .i64 x.lev, .int .i64 x.used]
def Inf.val (x : Inf) : Value := .agg #[.int .i64 x.id, .int .i64 x.lev, .int .i64 x.used]
def dInf (x : Inf) : DataW Unit := .agg [.lit (.int .i64 x.id), .lit (.int .i64 x.lev), .lit (.int .i64 x.used)]
def kInf (x : Inf) : Lit := .int .i64 x.id
def ent (x : Inf) : Lit × DataW Unit := (kInf x, dInf x)
/-- How a struct of three integers reads. -/
def rInf : Value → Option (DataW Unit × List MemPlace)
  | .agg cs => match cs.toList with
    | [.int .i64 a, .int .i64 b, .int .i64 c] => some (.agg [.lit (.int .i64 a), .lit (.int .i64 b), .lit (.int .i64 c)], [])
    | _ => none
  | _ => none
theorem rInf_mk (x : Inf) : rInf x.val = some (dInf x, []) := rfl
theorem rInf_inv {v : Value} {z : DataW Unit × List MemPlace} (h : rInf v = some z) : ∃ x : Inf, v = x.val ∧ z = (dInf x, []) := by
  unfold rInf at h
  split at h
  · rename_i cs
    split at h
    · rename_i a b c he
      cases h
      refine ⟨⟨a, b, c⟩, ?_, rfl⟩
      have : cs = #[.int .i64 a, .int .i64 b, .int .i64 c] := by rw [← Array.toList_inj]; exact he
      rw [this]; rfl
    · cases h
  · cases h
theorem dInf_inj {x y : Inf} (h : dInf x = dInf y) : x = y := by
  cases x; cases y; simp [dInf] at h; simp [h]
def tabD (T : List Inf) : DataW Unit := .map ((T.map ent).foldr DataW.insert [])
def IdsApart (T : List Inf) : Prop := T.Pairwise (fun x y => x.id ≠ y.id)
def KInt (l : Lit) : Prop := ∃ a, l = .int .i64 a
theorem kint_one : OneKind KInt := ⟨fun {a} ⟨x, h⟩ => by rw [h]; trivial, fun {a b} ⟨x, hx⟩ ⟨y, hy⟩ hne => by
  subst hx; subst hy
  simp only [Lit.before, decide_eq_true_eq]
  have : x ≠ y := fun e => hne (by rw [e])
  omega⟩
theorem same_int (a b : Int) : (Lit.int .i64 a).sameKey (.int .i64 b) = (a == b) := by simp [Lit.sameKey]; rfl
theorem keys_tab (T : List Inf) : Keys KInt (T.map ent) := fun p hp => by
  obtain ⟨x, _, rfl⟩ := List.mem_map.1 hp
  exact ⟨x.id, rfl⟩
theorem apart_tab {T : List Inf} (h : IdsApart T) : (T.map ent).Pairwise (fun p q => p.1 ≠ q.1) := by
  rw [List.pairwise_map]
  exact h.imp fun {a b} hab e => hab (by simpa [ent, kInf] using e)
theorem has_tab (T : List Inf) (i : Int) : Maps.has (tabD T) (.int .i64 i) = T.any (fun x => x.id == i) := by
  unfold tabD
  rw [has_eq]
  have hp : ((T.map ent).foldr DataW.insert []).any (fun p => p.1.sameKey (.int .i64 i)) = (T.map ent).any (fun p => p.1.sameKey (.int .i64 i)) := (sorted_perm _).any_eq
  rw [hp, List.any_map]
  congr 1
  funext x
  exact same_int x.id i
theorem size_tab (T : List Inf) : Maps.size (tabD T) = T.length := by
  unfold tabD
  rw [size_eq, length_sorted, List.length_map]
theorem filter_ent (T : List Inf) (i : Int) : (T.map ent).filter (notKey (.int .i64 i)) = (T.filter (fun x => x.id ≠ i)).map ent := by
  rw [List.filter_map]
  congr 1
  apply List.filter_congr
  intro x _
  show (!(Lit.int .i64 x.id).sameKey (.int .i64 i)) = _
  rw [same_int]
  simp
  rfl
theorem del_tab {T : List Inf} (h : IdsApart T) (i : Int) : (tabD T).del (.int .i64 i) = tabD (T.filter (fun x => x.id ≠ i)) := by
  unfold tabD
  rw [DataW.del_eq, ← sorted_del kint_one (keys_tab T) (apart_tab h) (E' := (T.filter (fun x => x.id ≠ i)).map ent) (by rw [filter_ent])]
theorem put_tab {T : List Inf} (h : IdsApart T) (x : Inf) : (tabD T).put (.int .i64 x.id) (dInf x) = tabD (T.filter (fun y => y.id ≠ x.id) ++ [x]) := by
  unfold tabD
  rw [DataW.put_eq, ← sorted_put kint_one ⟨x.id, rfl⟩ (keys_tab T) (apart_tab h) (E' := (T.filter (fun y => y.id ≠ x.id) ++ [x]).map ent) ?_]
  rw [filter_ent, List.map_append]
  exact (List.perm_append_comm).trans (List.Perm.refl _)
theorem perm_tab {T T' : List Inf} (h : IdsApart T) (hp : T.Perm T') : tabD T = tabD T' := by
  unfold tabD
  have h' : IdsApart T' := (hp.pairwise_iff (fun {_ _} hne => Ne.symm hne)).1 h
  rw [ChangeMaps.eq_of_perm_sorted ((sorted_perm _).trans ((hp.map ent).trans (sorted_perm _).symm)) (sorted_sorted kint_one _ (keys_tab T) (apart_tab h)) (sorted_sorted kint_one _ (keys_tab T') (apart_tab h'))]
theorem at_tab {T : List Inf} (h : IdsApart T) {x : Inf} (hx : x ∈ T) (zd : DataW Unit) : (tabD T).atKey (.int .i64 x.id) zd = dInf x := by
  unfold tabD
  have hr : DataW.rising ((T.map ent).foldr DataW.insert []) = true := ChangeMaps.rising_of_pairwise _ (sorted_sorted kint_one _ (keys_tab T) (apart_tab h))
  exact (atKey_sorted (T.map ent) hr (.int .i64 x.id) trivial).2 (ent x) (List.mem_map.2 ⟨x, hx, rfl⟩) rfl zd
theorem at_tab_none {T : List Inf} (h : IdsApart T) {i : Int} (hx : ∀ x ∈ T, x.id ≠ i) (zd : DataW Unit) : (tabD T).atKey (.int .i64 i) zd = zd := by
  unfold tabD
  have hr : DataW.rising ((T.map ent).foldr DataW.insert []) = true := ChangeMaps.rising_of_pairwise _ (sorted_sorted kint_one _ (keys_tab T) (apart_tab h))
  exact (atKey_sorted (T.map ent) hr (.int .i64 i) trivial).1 (fun p hp e => by
    obtain ⟨x, hx', rfl⟩ := List.mem_map.1 hp
    exact hx x hx' (by simpa [ent, kInf] using e)) zd
end Go.Proofs.Ytcpcoomkapblcaa
