/- A call that is known beforehand at some arguments, its answer a flat value. No program in sight. -/
import Derived.Test.YtlibeobmdjeilaaGreatDoorPG
namespace Go.Proofs.YtlibeobmdjeilaaGreatDoor.Ex
open Go Go.RowKit
noncomputable section
mutual
/-- No memory in it. -/
def flatX : XV → Bool
  | .bool _ => true
  | .int _ _ => true
  | .str _ => true
  | .nilp => true
  | .nsl => true
  | .nmap => true
  | .nfn => true
  | .agg l => flats l
  | .tup l => flats l
  | _ => false
def flats : List XV → Bool
  | [] => true
  | x :: l => flatX x && flats l
end
section
variable {P : Program} {s t : Env} {S : St} {w : World}
mutual
theorem VR.flat : ∀ {x : XV} {v : Value}, flatX x = true → VR s x v → VR t x v := by
  intro x v h hv
  cases x with
  | bool b => exact hv
  | int k n => exact hv
  | str l => exact hv
  | nilp => exact hv
  | nsl => exact hv
  | nmap => exact hv
  | nfn => exact hv
  | agg l => obtain ⟨vs, h1, h2, h3⟩ := hv; exact ⟨vs, h1, VRs.flat (by simpa only [flatX] using h) h2, h3⟩
  | tup l => obtain ⟨vs, h1, h2⟩ := hv; exact ⟨vs, h1, VRs.flat (by simpa only [flatX] using h) h2⟩
  | ptr b o => simp only [flatX] at h; cases h
  | sl b o n c => simp only [flatX] at h; cases h
  | esl => simp only [flatX] at h; cases h
  | map b => simp only [flatX] at h; cases h
  | fn f a c => simp only [flatX] at h; cases h
  | yld b => simp only [flatX] at h; cases h
theorem VRs.flat : ∀ {l : List XV} {vs : List Value}, flats l = true → VRs s l vs → VRs t l vs := by
  intro l vs h hv
  cases l with
  | nil => exact hv
  | cons x l =>
    simp only [flats, Bool.and_eq_true] at h
    obtain ⟨v, ws, h1, h2, h3⟩ := hv
    exact ⟨v, ws, h1, VR.flat h.1 h2, VRs.flat h.2 h3⟩
end
/-- What a call gives is known at a key. -/
def KeyA (P : Program) (f : Nat) (k : Key) (x : XV) : Prop := ∀ (w : World) (s0 : Env) (us : List Value), Sit s0 k.rows w → VRs s0 k.args us → ∀ n, CallsIn Fence.wide n P f ⟨us⟩ w fun o w' => (∃ v, o = .returned v ∧ ∀ t, VR t x v) ∧ Below w.heap.size w w'
def isX (x : XV) : Option (XV × St) → Bool
  | some (y, _) => flatX x && x.beq y
  | none => false
theorem keyA {f : Nat} {k : Key} {b : XV} {eqs : List Nat} {orc : Nat → List XV → St → Option XV} {lim d : Nat} (he : eqsOk P eqs = true) (horc : OrcOk P (ctxN (k.rows.length + 1) P eqs orc)) (hn : namesB P.funcs.toList = true) (hmo : P.follows .mixedOrders = true)
    (hx : ∀ m, isX b (Y (ctxN (k.rows.length + 1) P eqs orc) lim d true f k.args (S0 m k.rows)) = true) : KeyA P f k b := by
  intro w s0 us hs ha n
  obtain ⟨m, hr⟩ := Rel.sit hs
  have hx := hx m
  rw [Y_eq] at hx
  cases hX : X (ctxN (k.rows.length + 1) P eqs orc) lim d true f k.args (S0 m k.rows) with
  | none => rw [hX] at hx; cases hx
  | some p =>
    obtain ⟨x, S'⟩ := p
    rw [hX] at hx
    simp only [isX, Bool.and_eq_true] at hx
    obtain ⟨hfl, hbe⟩ := hx
    have hxt := xv_eq hbe
    subst hxt
    have h3 := exec_ok (ctxN_ok he orc) horc (fun f fn hf => namesB_ok hn fn (Array.mem_toList_iff.2 (Array.mem_of_getElem? hf))) hmo lim d
    obtain ⟨_, h4⟩ := h3 _ _ _ w f k.args us _ S' hr ha hX
    refine (h4 n).mono ?_
    rintro o w' ⟨t, v, _, rfl, h5, h6⟩
    exact ⟨⟨v, rfl, fun t' => VR.flat hfl h5⟩, h6.blw⟩
def pickV : List (Key × XV) → List XV → St → Option XV
  | [], _, _ => none
  | p :: l, args, S => match hit p.1 args S with
    | true => some p.2
    | false => pickV l args S
/-- An oracle out of keys and answers. -/
def memoV (f0 : Nat) (ks : List (Key × XV)) (f : Nat) (args : List XV) (S : St) : Option XV := match Nat.beq f f0 with
  | true => match mxB S with
    | true => pickV ks args S
    | false => none
  | false => none
theorem pickV_mem : ∀ {ks : List (Key × XV)} {args : List XV} {x : XV}, pickV ks args S = some x → ∃ k, (k, x) ∈ ks ∧ hit k args S = true
  | [], _, _, h => by cases h
  | p :: l, args, x, h => by
    unfold pickV at h
    cases q : hit p.1 args S with
    | true => rw [q] at h; cases h; exact ⟨p.1, List.mem_cons_self, q⟩
    | false => rw [q] at h; obtain ⟨k, h1, h2⟩ := pickV_mem h; exact ⟨k, List.mem_cons_of_mem _ h1, h2⟩
theorem memoV_ok {fl f0 : Nat} {ks : List (Key × XV)} (h1 : fnB P f0 = true) (hk : ∀ p ∈ ks, onesB p.1.rows = true ∧ KeyA P f0 p.1 p.2) : OrcF P fl (memoV f0 ks) := by
  intro q s S w f args us x h ha ho
  unfold memoV at ho
  cases hf : Nat.beq f f0 with
  | false => rw [hf] at ho; cases ho
  | true =>
    have := bnot_eq.1 hf; subst this
    rw [hf] at ho; dsimp only at ho
    cases hm : mxB S with
    | false => rw [hm] at ho; cases ho
    | true =>
      rw [hm] at ho; dsimp only at ho
      obtain ⟨k, hmem, hh⟩ := pickV_mem ho
      obtain ⟨ho1, hok⟩ := hk _ hmem
      obtain ⟨s0, hs, hv⟩ := hit_sit h hm ho1 ha hh
      refine ⟨fnB_ok h1, fun n => (hok w s0 us hs hv n).mono ?_⟩
      rintro e w' ⟨⟨v, rfl, hvr⟩, hbl⟩
      exact ⟨s, v, Env.le.rf s, rfl, hvr s, h.ext hbl⟩
end
end
end Go.Proofs.YtlibeobmdjeilaaGreatDoor.Ex
