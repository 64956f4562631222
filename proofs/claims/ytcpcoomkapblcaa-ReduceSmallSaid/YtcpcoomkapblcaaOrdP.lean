/- ReduceOrder's walk: Better is an order on a table, All is in it, and Sorted of any turn is the same. -/
import Derived.Test.YtcpcoomkapblcaaConcat
import Derived.Test.YtcpcoomkapblcaaRedP
import Derived.Test.YtcpcoomkapblcaaMade
import Derived.Test.YtcpcoomkapblcaaAwake
import Derived.Test.YtcpcoomkapblcaaEqualS
import Derived.Test.YtcpcoomkapblcaaSortP
import Derived.StillTailTactics
import Derived.Deep.CutBlock
open Go Go.RowKit Go.Maps
namespace Go.Proofs.Ytcpcoomkapblcaa
open Go.Sort Go.Lib Go.Shelf
theorem own_form' {w : World} {base e size : Nat} {v : Value} {n : Nat} {xs : List Value} (h : w.ownsRow base e size v n xs) : ∃ A c, v = .slice A n c := by
  rcases h.2 with ⟨rfl, h0⟩ | ⟨g, cap, cur, rfl, _⟩
  · exact ⟨none, 0, by rw [h0]⟩
  · exact ⟨_, _, rfl⟩
theorem reverse_own (w : World) (base : Nat) (v : Value) (T : List Inf) (hown : w.ownsRow base 32 3 v T.length (T.flatMap Inf.enc)) (hT : T.length ≤ 1000000) :
    Calls Try.prog 38 #[v] w fun e w' => e = .returned (.tuple #[]) ∧ w'.ownsRow base 32 3 v T.reverse.length (T.reverse.flatMap Inf.enc) ∧ w.grownBy w' v.ownBlock := by
  rcases hown.2 with ⟨rfl, h0⟩ | ⟨g, cap, cur, rfl, hbg, hb, h1, h2, h3, h4⟩
  · refine (AnyQ.slices_Reverse_empty Try.reverseInf none 0 w).mono ?_
    rintro e w' ⟨rfl, rfl⟩
    have hT0 : T = [] := List.eq_nil_of_length_eq_zero h0
    subst hT0
    exact ⟨rfl, World.ownsRow_nil _ _ _ _, World.grownBy.refl _ _⟩
  · have hH := holdsK_block (enc := Inf.enc) (k := 3) (fun _ => rfl) (by decide) hb h4
    have hc := AnyQ.slices_Reverse Try.reverseInf 3 Try.isAgg32 Try.sizeOf32 Inf.enc (fun _ => rfl) enc1 g 0 cap T.toArray w hH (by simp; omega)
    refine (show Calls Try.prog 38 #[.slice (some ⟨g, 0, none⟩) T.length cap] w _ from hc).mono ?_
    rintro e w' ⟨rfl, n, hw⟩
    have hw' : w' = sortWorldK Inf.enc 3 w g 0 n T.reverse.toArray #[] := by
      rw [hw]; unfold sortWorldK; rw [grow_empty]; simp
    subst hw'
    have hlen : T.reverse.length = T.length := List.length_reverse
    refine ⟨rfl, ?_, grownBy_sortK _⟩
    rw [hlen]
    exact ownsRow_sortK (enc := Inf.enc) (k := 3) (fun _ => rfl) (by decide) hlen hbg hb h1 h2 h3
theorem sorted_strict {S : List Inf} (hs : SortedI S) (hap : IdsApart S) {i k : Nat} (hi : i < S.length) (hk : k < S.length) : bt (S[i]?.getD ⟨0, 0, 0⟩) (S[k]?.getD ⟨0, 0, 0⟩) = decide (i < k) := by
  rw [List.getElem?_eq_getElem hi, List.getElem?_eq_getElem hk, Option.getD_some, Option.getD_some]
  have strict : ∀ a b, (ha : a < S.length) → (hb : b < S.length) → a < b → bt S[a] S[b] = true := by
    intro a b ha hb hab
    have h1 := List.pairwise_iff_getElem.1 hs a b ha hb hab
    have h2 := List.pairwise_iff_getElem.1 hap a b ha hb hab
    cases h : bt S[a] S[b]
    · exact absurd (congrArg Inf.id (tot_cf _ _ (by rw [lt_cf]; exact h) (by rw [lt_cf]; simpa using h1))) h2
    · rfl
  rcases Nat.lt_trichotomy i k with h | h | h
  · rw [strict i k hi hk h]; simp [h]
  · subst h
    have := swo_cf.irrefl S[i]
    rw [lt_cf] at this
    rw [this]; simp
  · rw [bt_asymm (strict k i hk hi h)]; simp; omega
theorem sortI_turn (T : List Inf) (k : Nat) : sortI ((sortI T).drop k ++ (sortI T).take k).reverse = sortI T := by
  have h1 : ((sortI T).drop k ++ (sortI T).take k).reverse.Perm (sortI T) :=
    (List.reverse_perm _).trans (List.perm_append_comm.trans (by rw [List.take_append_drop]))
  rw [sortI_perm (h1.trans (List.mergeSort_perm _ _))]
theorem sortedI_sortI (T : List Inf) : SortedI (sortI T) := List.pairwise_mergeSort bt_trans bt_total T
theorem RdS.drop {B g cap : Nat} {W : World} {S : List Inf} (h : RdS B W (.slice (some ⟨g, 0, none⟩) S.length cap) S) {k : Nat} (hk : k ≤ S.length) : RdS B W (.slice (some ⟨g, k * 3, none⟩) (S.drop k).length (cap - k)) (S.drop k) := by
  obtain ⟨A, c, e, hc, hr⟩ := h
  injection e with e1 e2 e3
  subst e1 e3
  refine ⟨_, _, rfl, by rw [List.length_drop]; omega, fun h0 => ?_⟩
  rw [List.length_drop] at h0
  obtain ⟨b, off, e, hb, hcell⟩ := hr (by omega)
  injection e with e
  injection e with e1 e2
  subst e1 e2
  refine ⟨_, _, rfl, hb, fun j hj => ?_⟩
  rw [List.length_drop] at hj
  have := hcell (k + j) (by omega)
  rw [List.getElem?_drop]
  rw [show k * 3 + j * 3 = 0 + (k + j) * 3 by omega]
  exact this
theorem RdS.take {B cap : Nat} {A : Option Addr} {W : World} {S : List Inf} (h : RdS B W (.slice A S.length cap) S) {k : Nat} (hk : k ≤ S.length) : RdS B W (.slice A (S.take k).length cap) (S.take k) := by
  obtain ⟨A', c, e, hc, hr⟩ := h
  injection e with e1 e2 e3
  subst e1 e3
  have hl : (S.take k).length = k := by rw [List.length_take]; omega
  refine ⟨_, _, rfl, by omega, fun h0 => ?_⟩
  obtain ⟨b, off, e, hb, hcell⟩ := hr (by omega)
  refine ⟨b, off, e, hb, fun j hj => ?_⟩
  rw [List.getElem?_take_of_lt (by omega)]
  exact hcell j (by omega)
end Go.Proofs.Ytcpcoomkapblcaa
