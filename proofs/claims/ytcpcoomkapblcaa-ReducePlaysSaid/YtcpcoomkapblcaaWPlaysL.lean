/- ReducePlays' walk. -/
import Derived.Test.YtcpcoomkapblcaaWPlays
import Derived.Test.YtcpcoomkapblcaaRow
open Go Go.RowKit Go.Maps
namespace Go.Proofs.Ytcpcoomkapblcaa
open Go.Shelf
theorem RdA.more {n₀ n₁ : Nat} {A : World} {sv : Value} {l : List ActD} (h : RdA n₀ A sv l) (hn : n₀ ≤ n₁) : RdA n₁ A sv l := by
  obtain ⟨a, cap, rfl, hc, hr⟩ := h
  refine ⟨a, cap, rfl, hc, fun h0 => ?_⟩
  obtain ⟨b, off, e, hlt, hcell⟩ := hr h0
  refine ⟨b, off, e, by omega, fun k hk => ?_⟩
  obtain ⟨lv, h1, h2, h3, h4, h5, h6⟩ := hcell k hk
  exact ⟨lv, h1, h2, h3, h4, h5.more hn, h6⟩
set_option maxRecDepth 1000000 in
set_option maxHeartbeats 1000000 in
theorem reducePlays_any (w : World) (v : Value) (l : List ActD) (hr : RdA w.heap.size w v l) (hT : l.length ≤ maxLen) :
    Calls Try.prog 9 #[v] w fun e w' => e = .returned (.bool true) ∧ Below w.heap.size w w' := by
  obtain ⟨A, c, rfl⟩ := hr.form
  unfold maxLen at hT
  by_cases h : l.length ≤ 60
  · have h1 : decide ((60 : Int) < (l.length : Int)) = false := decide_eq_false (by omega)
    have HC := Lib.hid (containsAct_any w _ _ l (Nat.le_refl _) hr (by omega))
    cases hb : l.any big with
    | true =>
      rw [hb] at HC
      clear hr hb
      go_enter Try.func9, Try.ntmps9
      go_wp2_with fail
      refine HC.out.mono ?_
      rintro e w1 ⟨rfl, hb1⟩
      go_wp2_with fail
      refine (awake_any _).mono ?_
      rintro e w2 ⟨rfl, hb2⟩
      go_wp2_with fail
      go_ret
      exact ⟨rfl, hb1.trans (hb2.mono hb1.size)⟩
    | false =>
      have hbig : ∀ x ∈ l, x.lock.length ≤ 20 := by
        intro x hx
        have := (List.any_eq_false.1 hb) x hx
        unfold big at this
        simpa using this
      have HP : Hid (∀ W, Below w.heap.size w W → Calls Try.prog 35 #[.slice A l.length c] W fun e w' => e = .returned (.bool true) ∧ Below W.heap.size W w') :=
        Lib.hid fun W hW => plays_any W _ l (hr.below hW |>.more hW.size) h hbig
      rw [hb] at HC
      clear hr hb hbig
      go_enter Try.func9, Try.ntmps9
      go_wp2_with fail
      refine HC.out.mono ?_
      rintro e w1 ⟨rfl, hb1⟩
      have hb1' := hb1
      go_wp2_with fail
      refine (HP.out _ hb1').mono ?_
      rintro e w2 ⟨rfl, hb2⟩
      go_wp2_with fail
      refine (awake_any _).mono ?_
      rintro e w3 ⟨rfl, hb3⟩
      go_wp2_with fail
      go_ret
      exact ⟨rfl, hb1'.trans ((hb2.trans (hb3.mono hb2.size)).mono hb1'.size)⟩
  · have h1 : decide ((60 : Int) < (l.length : Int)) = true := decide_eq_true (by omega)
    clear hr
    go_enter Try.func9, Try.ntmps9
    go_wp2_with fail
    refine (awake_any _).mono ?_
    rintro e w2 ⟨rfl, hb2⟩
    go_wp2_with fail
    go_ret
    exact ⟨rfl, hb2⟩
end Go.Proofs.Ytcpcoomkapblcaa
