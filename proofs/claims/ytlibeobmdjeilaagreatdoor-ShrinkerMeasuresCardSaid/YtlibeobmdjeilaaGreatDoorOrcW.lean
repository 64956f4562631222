/- The text of a schedule of small numbers: told to the executor. -/
import Derived.Test.YtlibeobmdjeilaaGreatDoorWriR
import Derived.Test.YtlibeobmdjeilaaGreatDoorPG
set_option linter.all false
namespace Go.Proofs.YtlibeobmdjeilaaGreatDoor
open Go Go.RowKit Go.Proofs.YtlibeobmdjeilaaGreatDoor.Ex
noncomputable section
def intsX : List XV → Option (List Nat)
  | [] => some []
  | .int .u32 (.ofNat n) :: l => match intsX l, Nat.blt n 100 with
    | some r, true => some (n :: r)
    | _, _ => none
  | _ => none
def boolsX : List XV → Option (List Bool)
  | [] => some []
  | .bool b :: l => match boolsX l with
    | some r => some (b :: r)
    | none => none
  | _ => none
/-- The cells of a slice of elements of one cell. -/
def cellsX (S : St) : XV → Option (List XV)
  | .nsl => some []
  | .sl b o n _ => S.load b o n
  | _ => none
/-- The text of a number below 100. -/
def txS (n : Int) : List UInt8 := match n with
  | .ofNat k => match Nat.blt k 10 with
    | true => [UInt8.ofNat (48 + k)]
    | false => [UInt8.ofNat (48 + Nat.div k 10), UInt8.ofNat (48 + Nat.mod k 10)]
  | _ => []
def orcW (wr f : Nat) (args : List XV) (S : St) : Option XV := match Nat.beq f wr with
  | true => match args with
    | [.agg [v1, .int .i64 (.ofNat p), v3]] => match cellsX S v1, cellsX S v3 with
      | some c1, some c3 => match intsX c1, boolsX c3, Nat.blt p 100 && Nat.blt c1.length 1000 && Nat.blt c3.length 1000 with
        | some xs, some bs, true => some (.str (writeP txS (xs.map Int.ofNat) (.ofNat p) bs))
        | _, _, _ => none
      | _, _ => none
    | _ => none
  | false => none
section
variable {s : Env} {S : St} {w : World}
theorem intsX_get : ∀ {l : List XV} {xs : List Nat}, intsX l = some xs → xs.length = l.length ∧ ∀ (j : Nat) (n : Nat), xs[j]? = some n → n < 100 ∧ l[j]? = some (.int .u32 (.ofNat n))
  | [], xs, h => by simp only [intsX] at h; cases h; exact ⟨rfl, fun j n hj => by simp at hj⟩
  | v :: l, xs, h => by
    unfold intsX at h
    split at h
    · rename_i heq; cases heq
    · rename_i n l' heq
      cases heq
      split at h
      · rename_i r hr hb
        cases h
        obtain ⟨h1, h2⟩ := intsX_get hr
        refine ⟨by simp [h1], fun j m hj => ?_⟩
        cases j with
        | zero => simp at hj; subst hj; exact ⟨blt_iff.1 hb, rfl⟩
        | succ j => simpa using h2 j m (by simpa using hj)
      · cases h
    · cases h
theorem boolsX_get : ∀ {l : List XV} {xs : List Bool}, boolsX l = some xs → xs.length = l.length ∧ ∀ (j : Nat) (b : Bool), xs[j]? = some b → l[j]? = some (.bool b)
  | [], xs, h => by simp only [boolsX] at h; cases h; exact ⟨rfl, fun j n hj => by simp at hj⟩
  | v :: l, xs, h => by
    unfold boolsX at h
    split at h
    · rename_i heq; cases heq
    · rename_i b l' heq
      cases heq
      cases hr : boolsX l with
      | none => rw [hr] at h; cases h
      | some r =>
        rw [hr] at h; cases h
        obtain ⟨h1, h2⟩ := boolsX_get hr
        refine ⟨by simp [h1], fun j m hj => ?_⟩
        cases j with
        | zero => simp at hj; subst hj; rfl
        | succ j => simpa using h2 j m (by simpa using hj)
    · cases h
/-- A slice's cells, read in the world. -/
theorem cellsX_rd {α : Type} {mk : α → Value} {fl : Nat} {q : Gq} (h : Rel ⟨fl, q⟩ s S w) {x : XV} {v : Value} (hv : VR s x v) {cs : List XV} (hc : cellsX S x = some cs) {l : List α} (hl : l.length = cs.length)
    (hm : ∀ (j : Nat) (y : α), l[j]? = some y → ∃ z, cs[j]? = some z ∧ ∀ u, VR s z u → u = mk y) : RdG mk w v l := by
  cases x with
  | nsl =>
    simp only [cellsX] at hc
    cases hc
    rw [VR] at hv; subst hv
    have : l = [] := List.eq_nil_of_length_eq_zero hl
    subst this
    exact ⟨none, 0, rfl, fun h => by simp at h⟩
  | sl b o n c =>
    simp only [cellsX] at hc
    unfold St.load St.blk at hc
    cases hg : S.hp.get b with
    | none => rw [hg] at hc; cases hc
    | some ob =>
      rw [hg] at hc
      cases ob with
      | cells B =>
        dsimp only at hc
        obtain ⟨e, o2, h1, h2, arr, ty, rfl, hr⟩ := h.obj b _ hg
        obtain ⟨h3, h4⟩ := takeL_length hc
        have hn : cs.length = n := by rw [h3, List.length_take]; omega
        obtain ⟨cc, hval⟩ : ∃ cc, v = .slice (some (e.ad o)) n cc := by
          cases c with
          | ex c => obtain ⟨e', g1, g2⟩ := hv; rw [h1] at g1; cases g1; exact ⟨_, g2⟩
          | op c => obtain ⟨e', g1, g2⟩ := hv; rw [h1] at g1; cases g1; exact ⟨_, g2⟩
        refine ⟨_, cc, by rw [hval, hl, hn]; rfl, fun h0 => ⟨e.blk, e.sh + o, rfl, fun j hj => ?_⟩⟩
        obtain ⟨z, g1, g2⟩ := hm j l[j] (List.getElem?_eq_getElem hj)
        rw [h3, List.getElem?_take, List.getElem?_drop] at g1
        split at g1
        · obtain ⟨u, g3, g4⟩ := hr.cs _ _ g1
          have := g2 u g4
          subst this
          simp only [World.cell?, h2]
          rw [show e.sh + o + j = e.sh + (o + j) from by omega]
          simpa using g3
        · cases g1
      | _ => cases hc
  | _ => simp only [cellsX] at hc; cases hc
theorem txS_len (n : Int) (h0 : 0 ≤ n) (h1 : n < 100) : (txS n).length ≤ 20 := by
  cases n with
  | negSucc k => exact Nat.zero_le _
  | ofNat k => unfold txS; dsimp only; cases Nat.blt k 10 <;> simp
theorem txS_dec (k : Nat) (h : k < 100) : txS (.ofNat k) = Lib.decDigits k := by
  unfold txS
  dsimp only
  cases hb : Nat.blt k 10 with
  | true => rw [Lib.decDigits_one (blt_iff.1 hb)]
  | false => rw [Lib.decDigits_two (fun q => by rw [blt_iff.2 q] at hb; cases hb) h]; rfl
theorem orcW_ok {fl : Nat} (hfn : fnB Tryz.prog 70 = true) : OrcF Tryz.prog fl (orcW 70) := by
  intro q s S w f args us x h ha ho
  unfold orcW at ho
  cases hf : Nat.beq f 70 with
  | false => rw [hf] at ho; cases ho
  | true =>
    have := bnot_eq.1 hf; subst this
    rw [hf] at ho; dsimp only at ho
    split at ho
    · rename_i v1 p v3
      split at ho
      · rename_i c1 c3 hc1 hc3
        split at ho
        · rename_i xs bs hxs hbs hpl
          cases ho
          simp only [Bool.and_eq_true] at hpl
          obtain ⟨⟨hp, hl1⟩, hl3⟩ := hpl
          have hp := blt_iff.1 hp
          have hl1 := blt_iff.1 hl1
          have hl3 := blt_iff.1 hl3
          obtain ⟨hx1, hx2⟩ := intsX_get hxs
          obtain ⟨hb1, hb2⟩ := boolsX_get hbs
          obtain ⟨u0, us0, rfl, ⟨vs, rfl, hvs, _⟩, hnil⟩ := ha
          rw [VRs] at hnil; subst hnil
          obtain ⟨u1, ws1, rfl, hu1, u2, ws2, rfl, hu2, u3, ws3, rfl, hu3, hn3⟩ := hvs
          rw [VRs] at hn3; subst hn3
          rw [VR] at hu2; subst hu2
          have r1 : RdG (.int .u32) w u1 (xs.map Int.ofNat) := cellsX_rd h hu1 hc1 (by rw [List.length_map, hx1]) fun j y hj => by
            rw [List.getElem?_map] at hj
            cases hq : xs[j]? with
            | none => rw [hq] at hj; cases hj
            | some n => rw [hq] at hj; cases hj; exact ⟨_, (hx2 j n hq).2, fun u hu => by rw [VR] at hu; exact hu⟩
          have r3 : RdG .bool w u3 bs := cellsX_rd h hu3 hc3 hb1 fun j y hj => ⟨_, hb2 j y hj, fun u hu => by rw [VR] at hu; exact hu⟩
          have small : ∀ n : Int, (n ∈ xs.map Int.ofNat ∨ n = Int.ofNat p) → 0 ≤ n ∧ n < 100 := by
            rintro n (hn | rfl)
            · obtain ⟨m, hm, rfl⟩ := List.mem_map.1 hn
              obtain ⟨j, hj, hje⟩ := List.getElem_of_mem hm
              have := (hx2 j m (by rw [← hje]; exact List.getElem?_eq_getElem hj)).1
              exact ⟨Int.natCast_nonneg m, Int.ofNat_lt.2 this⟩
            · exact ⟨Int.natCast_nonneg p, Int.ofNat_lt.2 hp⟩
          refine ⟨fnB_ok hfn, fun n => callsIn_wide.2 ?_⟩
          refine (write_any w u1 u3 (xs.map Int.ofNat) (.ofNat p) bs txS r1 r3 (fun x hx => by have := small x (.inl hx); omega) (by have := small _ (.inr rfl); omega) (by rw [List.length_map]; omega) (by omega) (fun n hn => by have := small n hn; exact txS_len n this.1 this.2) (fun n W' hn hb => ?_)).mono ?_
          · obtain ⟨g0, g1⟩ := small n hn
            obtain ⟨m, rfl⟩ : ∃ m : Nat, n = m := ⟨n.toNat, by omega⟩
            refine (Tryz.strconv_Itoa_small m (by omega) W').mono ?_
            rintro e w' ⟨rfl, rfl⟩
            exact ⟨by rw [show txS (m : Int) = Lib.decDigits m from txS_dec m (by omega)], Below.refl _ _⟩
          · rintro e w' ⟨rfl, hb⟩
            exact ⟨s, _, Env.le.rf s, rfl, rfl, h.ext hb⟩
        · cases ho
      · cases ho
    · cases ho
end
end
end Go.Proofs.YtlibeobmdjeilaaGreatDoor
