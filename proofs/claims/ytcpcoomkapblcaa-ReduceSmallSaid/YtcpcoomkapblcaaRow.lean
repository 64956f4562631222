/- What the rows of this seat share: the row's last step over a call that only lays new blocks; an argument that is a slice of bytes reads as a list. -/
import Derived.Test.YtcpcoomkapblcaaRows
import Derived.Test.YtcpcoomkapblcaaProg
import Derived.WalkKit
import Derived.ProofKit
import Derived.OpenShut
import Derived.Below
namespace Go.Proofs.Ytcpcoomkapblcaa
open Go Go.RowKit Go.WideShapes Go.ChangeShapes
section
variable {H : Type} {enc : TypeId × Value → H} {P : Program}
/-- The row's last step where the call has laid new blocks and turned nothing that was there. -/
theorem post_below {f : Func} {s : ChangeSpec} {apart fresh handsOn again : Bool} {W W' : World} {args : Array Value} {v : Value} {ds gs : List (DataW H)} {bf pa pv : List MemPlace}
    (hW : DataW.Whole enc P f.params.toList s.vars apart W args.toList ds gs bf)
    (hres : ∀ (b : Nat) (sp : Nat → Bool) (hd : Bool), DataW.TrodAll enc P W' b sp hd f.resultTypes.toList (v.resultList f.resultTypes.size) (s.fn H (ds ++ gs)).results [])
    (hargs : ∀ sp : Nat → Bool, (∀ x ∈ bf, sp x.block = true) → DataW.TrodAll enc P W' 0 sp true f.params.toList args.toList (s.fn H (ds ++ gs)).args pa)
    (hvars : ∀ sp : Nat → Bool, (∀ x ∈ bf, sp x.block = true) → DataW.TrodVars enc P W' sp s.vars (s.fn H (ds ++ gs)).vars pv)
    (hps : bf = pa ++ pv) (hb : Below W.heap.size W W')
    (hok : ∀ (j : Nat) (t : TypeId) (r : Value), f.resultTypes[j]? = some t → (v.resultList f.resultTypes.size)[j]? = some r → Value.okWide P W' .any 0 t r) :
    s.post enc P f apart fresh handsOn again W args v W' := by
  have hlt : ∀ x ∈ bf, x.block < W.heap.size := fun x hx => hW.lt x hx
  have hold : ∀ x ∈ bf, (fun b => decide (b < W.heap.size)) x.block = true := fun x hx => by simpa using hlt x hx
  refine ⟨ds, gs, bf, [], pa, pv, hW, hres _ _ _, hargs _ hold, hvars _ hold, World.keptBut_mono (fun x hx => ⟨hx, ?_⟩) (hb.frame (· ∈ bf)), fun _ => ?_⟩
  · rw [hps, List.mem_append] at hx
    exact Or.inr hx
  · obtain ⟨_, _, _, _, _, hz, hn⟩ := hW
    refine ⟨hok, _, _, ([] ++ pa) ++ pv, ⟨[] ++ pa, pv, trodAll_append (hargs _ (fun _ _ => rfl)) (hres _ _ _), hvars _ (fun _ _ => rfl), rfl, ?_, ?_⟩, ?_⟩
    · intro b off hx
      have hin : MemPlace.cell b off ∈ bf := by rw [hps]; simpa using hx
      rw [hb.frozen (hlt _ hin)]
      exact hz b off hin
    · intro ha
      have := hn ha
      rw [hps] at this
      simpa using this
    · intro x hx _
      rw [hps]
      simpa using hx
end
/-- The slice value sv reads as the bytes zs, in a block below n₀ (or has no element). -/
def RdB (n₀ : Nat) (W : World) (sv : Value) (zs : List Int) : Prop :=
  (∀ z ∈ zs, 0 ≤ z ∧ z ≤ 255) ∧ ∃ A cap, sv = .slice A zs.length cap ∧ zs.length ≤ cap ∧ (A = none → cap = 0) ∧ (0 < zs.length → ∃ b off, A = some ⟨b, off, none⟩ ∧ b < n₀ ∧ ∀ j, j < zs.length → W.cell? ⟨b, off + j, none⟩ = some (.int .u8 (zs[j]?.getD 0)))
theorem RdB.below {n₀ : Nat} {A B : World} {sv : Value} {zs : List Int} (h : RdB n₀ A sv zs) (hb : Below n₀ A B) : RdB n₀ B sv zs := by
  obtain ⟨h0, a, cap, rfl, hc, hn, hr⟩ := h
  refine ⟨h0, a, cap, rfl, hc, hn, fun h0 => ?_⟩
  obtain ⟨b, off, e, hlt, hcell⟩ := hr h0
  exact ⟨b, off, e, hlt, fun j hj => (hb.cell (p := ⟨b, off + j, none⟩) hlt).trans (hcell j hj)⟩
theorem RdB.more {n₀ n₁ : Nat} {A : World} {sv : Value} {zs : List Int} (h : RdB n₀ A sv zs) (hn : n₀ ≤ n₁) : RdB n₁ A sv zs := by
  obtain ⟨h0, a, cap, rfl, hc, hn, hr⟩ := h
  refine ⟨h0, a, cap, rfl, hc, hn, fun h0 => ?_⟩
  obtain ⟨b, off, e, hlt, hcell⟩ := hr h0
  exact ⟨b, off, e, by omega, hcell⟩
theorem RdB.form {n₀ : Nat} {W : World} {sv : Value} {zs : List Int} (h : RdB n₀ W sv zs) : ∃ A n c, sv = .slice A n c := by
  obtain ⟨_, A, c, e, _⟩ := h; exact ⟨A, _, c, e⟩
theorem RdB.nil (n₀ : Nat) (W : World) : RdB n₀ W (.slice none 0 0) [] := ⟨by simp, none, 0, rfl, Nat.le_refl _, fun _ => rfl, fun h => by simp at h⟩
theorem cellsU8 : Try.prog.cellsOf 5 = 1 := by kernel_rfl
theorem u8_of_wf {z : Int} (h : (Lit.int .u8 z).wf = true) : 0 ≤ z ∧ z ≤ 255 := by
  have := (bounds_u8 (by simpa [Lit.wf] using h))
  omega
set_option maxRecDepth 100000 in
/-- An argument that is a slice of bytes reads as a list. -/
theorem rdB_of_arg {H : Type} {enc : TypeId × Value → H} {W : World} {base : Nat} {v : Value} {d : DataW H} {p : List MemPlace}
    (hval : Value.okWide Try.prog W .any base 24 v) (h : DataW.Trod enc Try.prog W 0 (fun _ => true) true 24 v d p) : ∃ zs, RdB W.heap.size W v zs ∧ zs.length ≤ maxLen := by
  obtain ⟨a0, len, cap, rfl⟩ := okWide_slice Try.underlying24 hval
  obtain ⟨fuel, hf⟩ := h
  rcases open_ints Try.underlying24 Try.underlying5 cellsU8 hf with ⟨hcs, hx⟩ | ⟨a, len', cap', zs, hcs, _, hl, hm, hz, hx, hcell, hwz⟩
  · injection hcs with e
    injection e with e1 e2 e3
    subst e1 e2 e3
    exact ⟨[], RdB.nil _ _, by simp⟩
  · injection hcs with e
    injection e with e1 e2 e3
    subst e1 e2 e3
    simp only [if_true] at hz
    have hlen : (zs.take len).length = len := by rw [List.length_take]; omega
    refine ⟨zs.take len, ⟨fun z hz => u8_of_wf (hwz z (List.mem_of_mem_take hz)), some a, cap, by rw [hlen], by omega, (fun h => by cases h), fun h0 => ?_⟩, by omega⟩
    obtain ⟨b, off, rfl, hc⟩ := Go.ints_at hcell (by omega)
    have hb : b < W.heap.size := by
      have := hc 0 (by omega)
      rcases Nat.lt_or_ge b W.heap.size with h1 | h1
      · exact h1
      · simp [World.cell?, Array.getElem?_eq_none h1] at this
    refine ⟨b, off, rfl, hb, fun j hj => ?_⟩
    have hj' : j < zs.length := by rw [hlen] at hj; omega
    rw [hc j hj']
    have hj2 : j < len := by omega
    simp [List.getElem?_take_of_lt hj2]
end Go.Proofs.Ytcpcoomkapblcaa
