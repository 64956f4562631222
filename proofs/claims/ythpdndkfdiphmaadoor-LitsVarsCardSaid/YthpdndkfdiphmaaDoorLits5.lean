/- The reference's Read: what it returns. -/
import Derived.Test.YthpdndkfdiphmaaDoorLits4
import Derived.Deep.QuietTactic
import Derived.BigQuiet
import Derived.RegionTactic
import Derived.Lib.IndexBytes
import Derived.Deep.Draws
namespace Go.Proofs.YthpdndkfdiphmaaDoor
open Go Go.RowKit
def vGo : Int → List UInt8 → Option Int
  | n, [] => some n
  | n, c :: t => if 48 ≤ c.toNat ∧ c.toNat ≤ 57 then vGo (n * 10 + (c.toNat : Int) - 48) t else none
def RSign (s : List UInt8) : Int := if HeadMinus s then -1 else 1
def RDigs (s : List UInt8) : List UInt8 := if HeadMinus s then s.drop 1 else s
def RBad (d : List UInt8) : Bool := decide (d.length < 1 ∨ 7 < d.length) || (d.head? == some 48)
def RVal (d : List UInt8) : Int := match vGo 0 d with | some n => if LRight n then n else 0 | none => 0
def RRd (s : List UInt8) : Int := if RBad (RDigs s) then 0 else RSign s * RVal (RDigs s)
theorem pow10_le (k : Nat) (h : k < 7) : 10 ^ k ≤ 1000000 := by
  have : k = 0 ∨ k = 1 ∨ k = 2 ∨ k = 3 ∨ k = 4 ∨ k = 5 ∨ k = 6 := by omega
  rcases this with rfl | rfl | rfl | rfl | rfl | rfl | rfl <;> decide
theorem vGo_cons (d : ByteArray) (k : Nat) (n : Int) (h : k < d.size) : vGo n (d.data.toList.drop k) = if 48 ≤ (d[k]).toNat ∧ (d[k]).toNat ≤ 57 then vGo (n * 10 + ((d[k]).toNat : Int) - 48) (d.data.toList.drop (k + 1)) else none := by
  rw [drop_cons d k h]; rfl
theorem below_drewN' (w : World) (q : Nat) : Below w.heap.size w (w.drewN q) := ⟨rfl, rfl, rfl, Nat.le_refl _, fun _ _ => rfl⟩
theorem rbad_of {s : List UInt8} {D : ByteArray} (hd : D.data.toList = RDigs s) (h : (D.size : Int) < 1 ∨ 7 < (D.size : Int) ∨ ∃ h0 : 0 < D.size, ((((D[0]).toNat : Int) == 48) = true)) : RRd s = 0 := by
  have hl : (RDigs s).length = D.size := by rw [← hd]; simp
  unfold RRd
  rw [if_pos]
  unfold RBad
  rcases h with h | h | ⟨h0, h⟩
  · rw [decide_eq_true (by omega)]; rfl
  · rw [decide_eq_true (by omega)]; rfl
  · have e : (RDigs s).head? = some D[0] := by
      have := drop_cons D 0 h0
      rw [List.drop_zero, hd] at this
      rw [this]; rfl
    rw [e]
    have : D[0] = 48 := by rw [← UInt8.toNat_inj]; simp at h; show _ = 48; omega
    rw [this]; simp
theorem rgood_of {s : List UInt8} {D : ByteArray} (hd : D.data.toList = RDigs s) (h1 : 1 ≤ (D.size : Int)) (h2 : (D.size : Int) ≤ 7) (h0 : 0 < D.size) (h : (((D[0]).toNat : Int) == 48) = false) : RRd s = RSign s * RVal (RDigs s) := by
  have hl : (RDigs s).length = D.size := by rw [← hd]; simp
  unfold RRd
  rw [if_neg]
  unfold RBad
  have e : (RDigs s).head? = some D[0] := by
    have := drop_cons D 0 h0
    rw [List.drop_zero, hd] at this
    rw [this]; rfl
  rw [e, decide_eq_false (by omega)]
  have : D[0] ≠ 48 := by
    intro e; rw [e] at h; simp at h
  simp [this]
set_option maxHeartbeats 1000000 in
theorem RRead_any (s : ByteArray) (w : World) (hs : s.size ≤ 1000000) : Calls Tryd.prog 48 #[.string s] w fun e w' =>
    e = .returned (.int .i64 (RRd s.data.toList)) ∧ Below w.heap.size w w' := by
  have hcase : s.size = 0 ∨ (∃ h0 : 0 < s.size, ((((s[0]).toNat : Int) == 45) = false)) ∨ (∃ h0 : 0 < s.size, ((((s[0]).toNat : Int) == 45) = true)) := by
    by_cases h0 : 0 < s.size
    · cases hm : (((s[0]).toNat : Int) == 45)
      · exact .inr (.inl ⟨h0, hm⟩)
      · exact .inr (.inr ⟨h0, hm⟩)
    · exact .inl (by omega)
  have hsg : RSign s.data.toList = 1 ∨ RSign s.data.toList = -1 := by unfold RSign; split <;> simp
  rcases hcase with hz | ⟨h0, hm⟩ | ⟨h0, hm⟩
  case' inl =>
    have hz' : ¬ 0 < s.size := by omega
    have hh : HeadMinus s.data.toList = false := by
      have : s.data.toList = [] := List.eq_nil_of_length_eq_zero (by simpa using hz)
      rw [this]; rfl
    clear hz
    have Hh := Lib.hid hh; clear hh
    have Hsg := Lib.hid hsg; clear hsg
    go_enter Tryd.func48, Tryd.ntmps48
    go_upto_if 15 with (fail)
    go_cut [3, 4] (fun sg d wx => ∃ D : ByteArray, D.size ≤ 1000000 ∧ d = .string D ∧ D.data.toList = RDigs s.data.toList ∧ sg = .int .i64 (RSign s.data.toList) ∧ Below w.heap.size w wx)
    case first =>
      go_wp2
      go_meet
      exact ⟨s, hs, rfl, by unfold RDigs; rw [Hh.out]; rfl, by unfold RSign; rw [Hh.out]; rfl, Below.refl _ _⟩
  case' inr.inl =>
    have hh := head_t s h0
    have Hh := Lib.hid hh; clear hh
    have Hsg := Lib.hid hsg; clear hsg
    go_enter Tryd.func48, Tryd.ntmps48
    go_upto_if 15 with (fail)
    go_cut [3, 4] (fun sg d wx => ∃ D : ByteArray, D.size ≤ 1000000 ∧ d = .string D ∧ D.data.toList = RDigs s.data.toList ∧ sg = .int .i64 (RSign s.data.toList) ∧ Below w.heap.size w wx)
    case first =>
      go_wp2
      go_meet
      have hb : HeadMinus s.data.toList = false := by rw [← Hh.out, hm]
      exact ⟨s, hs, rfl, by unfold RDigs; rw [hb]; rfl, by unfold RSign; rw [hb]; rfl, Below.refl _ _⟩
  case' inr.inr =>
    have hh := head_t s h0
    have Hh := Lib.hid hh; clear hh
    have h1 : (1 : Int) ≤ (s.size : Int) := by omega
    have Hsg := Lib.hid hsg; clear hsg
    go_enter Tryd.func48, Tryd.ntmps48
    go_upto_if 15 with (fail)
    go_cut [3, 4] (fun sg d wx => ∃ D : ByteArray, D.size ≤ 1000000 ∧ d = .string D ∧ D.data.toList = RDigs s.data.toList ∧ sg = .int .i64 (RSign s.data.toList) ∧ Below w.heap.size w wx)
    case first =>
      go_wp2
      go_quiet (fail)
      go_wp2
      go_meet
      have hb : HeadMinus s.data.toList = true := by rw [← Hh.out, hm]
      exact ⟨s.extract 1 s.size, by simp; omega, rfl, by rw [Lib.extract_to_end]; unfold RDigs; rw [hb]; rfl, by unfold RSign; rw [hb]; rfl, below_drewN' _ _⟩
  all_goals
    obtain ⟨D, hD, rfl, hd, rfl, hb⟩ := hcut
    generalize hS : RSign s.data.toList = S at *
    have HS := Lib.hid hS; clear hS
    have Hd := Lib.hid hd; clear hd
    have Hb := Lib.hid hb; clear hb
    clear Hh
    go_wp2
    · go_ret
      have ht : (((D[0]).toNat : Int) == 48) = true := by
        have : ((D.size : Int) < 1 ∨ 7 < (D.size : Int)) ∨ (((D[0]).toNat : Int) == 48) = true := by assumption
        rcases this with h | h
        · omega
        · exact h
      exact ⟨ri (by rw [rbad_of Hd.out (.inr (.inr ⟨by omega, ht⟩))]), Hb.out⟩
    · have hne : (((D[0]).toNat : Int) == 48) = false := by
        have : ((1 : Int) ≤ (D.size : Int) ∧ (D.size : Int) ≤ 7) ∧ (((D[0]).toNat : Int) == 48) = false := by assumption
        exact this.2
      have hg := rgood_of Hd.out (by omega) (by omega) (by omega) hne
      have Hg := Lib.hid hg; clear hg
      clear hne
      have hpw : ∀ k : Nat, k < 7 → ((10 ^ k : Nat) : Int) ≤ 1000000 := fun k hk => by have := pow10_le k hk; omega
      have Hpw := Lib.hid hpw; clear hpw
      go_loop [2, 5, 6] (fun r a i => r = .int .i64 0 ∧ ∃ (k : Nat) (n : Int), k ≤ D.size ∧ 0 ≤ n ∧ n + 1 ≤ ((10 ^ k : Nat) : Int) ∧ n ≤ 99999999 ∧ i = .int .i64 k ∧ a = .int .i64 n ∧ vGo n (D.data.toList.drop k) = vGo 0 D.data.toList) (fun _ _ i => D.size - (intOf i).toNat)
      case atStart => exact ⟨rfl, 0, 0, by omega, by omega, by simp, by omega, rfl, rfl, rfl⟩
      case round =>
        obtain ⟨rfl, k, n, hk, hn0, hn1, hn2, rfl, rfl, hv⟩ := hrel
        have Hv := Lib.hid hv; clear hv
        have Hn1 := Lib.hid hn1; clear hn1
        by_cases hlt : k < D.size
        · have hn3 : n ≤ 1000000 := by
            have := Hpw.out k (by omega)
            have := Hn1.out
            omega
          have hvc := vGo_cons D k n hlt
          have Hvc := Lib.hid hvc; clear hvc
          by_cases hdg : 48 ≤ (D[k]).toNat ∧ (D[k]).toNat ≤ 57
          · obtain ⟨hd1, hd2⟩ := hdg
            have hd3 : (48 : Int) ≤ ((D[k]).toNat : Int) := by omega
            have hd4 : ((D[k]).toNat : Int) ≤ 57 := by omega
            go_wp2
            refine ⟨⟨_, _, _, ⟨rfl, k + 1, (by omega), n * 10 + ((D[k]).toNat : Int) - 48, (by omega), ?_, (by omega), (by go_num), rfl, ?_⟩, rfl, rfl, rfl⟩, (by simp [intOf]; omega)⟩
            · have h1 : n + 1 ≤ (10 : Int) ^ k := by simpa using Hn1.out
              rw [Int.pow_succ]; omega
            · have h1 := Hv.out
              rw [Hvc.out, if_pos ⟨hd1, hd2⟩] at h1
              exact h1
          · have hr : RRd s.data.toList = 0 := by
              rw [Hg.out]; unfold RVal
              have h1 := Hv.out
              rw [Hvc.out, if_neg hdg] at h1
              rw [← Hd.out, ← h1]; simp
            have Hr := Lib.hid hr; clear hr
            go_wp2
            all_goals
              first
                | (exfalso; omega)
                | (go_ret; exact ⟨ri (by rw [Hr.out]), Hb.out⟩)
        · have hv1 : vGo 0 D.data.toList = some n := by
            have h1 := Hv.out
            rw [List.drop_of_length_le (by simp; omega)] at h1
            rw [← h1]; rfl
          have hr : RRd s.data.toList = S * (if LRight n then n else 0) := by
            rw [Hg.out, HS.out]; unfold RVal; rw [← Hd.out, hv1]
          clear hv1
          have Hr := Lib.hid hr; clear hr
          cases hR : LRight n
          · go_wp2_with (go_at_call 42; refine (RRight_any _ _).mono ?_; rintro e w' ⟨rfl, rfl⟩)
            go_ret
            exact ⟨ri (by rw [Hr.out, hR]; simp), Hb.out⟩
          · rcases Hsg.out with rfl | rfl
            all_goals
              go_wp2_with (go_at_call 42; refine (RRight_any _ _).mono ?_; rintro e w' ⟨rfl, rfl⟩)
              go_ret
              exact ⟨ri (by rw [Hr.out, hR]; simp), Hb.out⟩
    all_goals
      go_ret
      exact ⟨ri (by rw [rbad_of Hd.out (by first | exact .inl (by omega) | exact .inr (.inl (by omega)))]), Hb.out⟩
end Go.Proofs.YthpdndkfdiphmaaDoor
