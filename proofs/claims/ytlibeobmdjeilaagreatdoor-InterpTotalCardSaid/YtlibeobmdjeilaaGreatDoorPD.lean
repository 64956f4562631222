/- The executor and what it leans on (PD): told in wip/x. -/
import Derived.Test.YtlibeobmdjeilaaGreatDoorPC
import Derived.Laws.BytesString
import Derived.Laws.Slices
import Derived.Laws.MakeOwn
import Derived.Laws.AppendOwn
set_option linter.all false
namespace Go.Proofs.YtlibeobmdjeilaaGreatDoor.Ex
open Go Go.RowKit
section
variable {P : Program} {C : Ctx} {g : Gh} {s : Env} {S : St} {w : World} {fr : Fr} {a : Act}
theorem VR.int {k : IntKind} {n : Int} {v : Value} (h : VR s (.int k n) v) : v = .int k n := h
theorem utf8_ok {n : Nat} {l : List UInt8} (h : utf8 n = some l) : Utf8.encode (n : Int) = ⟨⟨l⟩⟩ := by
  unfold utf8 at h
  cases hb : Nat.blt n 128 with
  | false => rw [hb] at h; cases h
  | true =>
    rw [hb] at h; cases h
    have hn := blt_iff.1 hb
    have hv : Utf8.valid (n : Int) = true := by simp [Utf8.valid]; omega
    unfold Utf8.encode
    simp only [hv, if_true, Int.toNat_natCast]
    rw [if_pos (by omega)]
theorem bytes_ok : ∀ {cs : List XV} {l : List UInt8} {us : List Value}, bytesOf cs = some l → VRs s cs us → ∃ ns : List Int, us = ns.map (Value.int .u8) ∧ ∀ b : ByteArray, ns.foldl (fun r n => r.push (UInt8.ofNat n.toNat)) b = ⟨⟨b.data.toList ++ l⟩⟩
  | [], l, us, h, hv => by
    simp only [bytesOf] at h; cases h
    rw [VRs] at hv; subst hv
    exact ⟨[], rfl, fun b => by simp⟩
  | .int .u8 n :: cs, l, us, h, hv => by
    simp only [bytesOf] at h
    cases hr : bytesOf cs with
    | none => rw [hr] at h; cases h
    | some r =>
      rw [hr] at h; cases h
      obtain ⟨v, ws, rfl, h1, h2⟩ := hv
      rw [VR] at h1; subst h1
      obtain ⟨ns, rfl, h3⟩ := bytes_ok hr h2
      refine ⟨n :: ns, rfl, fun b => ?_⟩
      rw [List.foldl_cons, h3]
      congr 2
      simp [ByteArray.push]
theorem slice_cells (h : Rel g s S w) {n : Nat} {x : XV} {v : Value} (hv : VR s x v) (hn : slenS x = some n) : (x = .nsl ∧ v = .slice none 0 0 ∧ n = 0) ∨ (x = .esl ∧ n = 0 ∧ ∃ ad c', v = .slice (some ad) 0 c') ∨ ∃ b o c e c', x = .sl b o n c ∧ s b = some e ∧ v = .slice (some (e.ad o)) n c' := by
  cases x <;> simp only [slenS] at hn <;> cases hn
  · rw [VR] at hv; exact .inl ⟨rfl, hv, rfl⟩
  · rename_i b o c
    cases c <;> (obtain ⟨e, h1, h2⟩ := hv; exact .inr (.inr ⟨_, _, _, e, _, rfl, h1, h2⟩))
  · obtain ⟨ad, c, rfl⟩ := hv
    exact .inr (.inl ⟨rfl, rfl, ad, c, rfl⟩)
theorem conv_ok (hC : CtxOk P C) (h : Rel g s S w) {src dst : Nat} {x r : XV} {v : Value} (hv : VR s x v) (hx : xconv C src dst x S = some r) : ∃ z, (convert src dst v).run P w = .ok z w ∧ VR s r z := by
  unfold xconv at hx
  cases hs : C.ty src with
  | none => rw [hs] at hx; cases hx
  | some si => cases hd : C.ty dst with
    | none => rw [hs, hd] at hx; cases hx
    | some di =>
      rw [hs, hd] at hx
      dsimp only at hx
      have us := (hC.ty src si hs).1
      have ud := (hC.ty dst di hd).1
      split at hx
      · rename_i h1 h2
        cases hx; rw [VR] at hv; subst hv
        rw [h1] at us; rw [h2] at ud
        exact ⟨_, by simp [convert, run_underlying us, run_underlying ud, Conv.intToInt]; rfl, by rw [VR, iwrap_eq]⟩
      · rename_i h1 h2
        rw [VR] at hv; subst hv
        rw [h1] at us; rw [h2] at ud
        split at hx
        · rename_i m
          cases hu : utf8 m with
          | none => rw [hu] at hx; cases hx
          | some l =>
            rw [hu] at hx; cases hx
            exact ⟨_, by simp [convert, run_underlying us, run_underlying ud, Conv.intToString]; rfl, by rw [VR, utf8_ok hu]⟩
        · cases hx
      · rename_i h1 h2
        cases hx; rw [VR] at hv; subst hv
        rw [h1] at us; rw [h2] at ud
        exact ⟨_, by simp [convert, run_underlying us, run_underlying ud], rfl⟩
      · rename_i x0 d1 d2 x1 e h1 h2
        rw [h1] at us; rw [h2] at ud
        cases he : C.ty e with
        | none => rw [he] at hx; cases hx
        | some ei =>
          rw [he] at hx
          dsimp only at hx
          split at hx
          · rename_i n hu8 hn
            have ue := (hC.ty e ei he).1
            rw [hu8] at ue
            cases hc : cellsV S 1 n x0 with
            | none => rw [hc] at hx; cases hx
            | some cs =>
              rw [hc] at hx
              dsimp only at hx
              cases hbs : bytesOf cs with
              | none => rw [hbs] at hx; cases hx
              | some l =>
                rw [hbs] at hx; cases hx
                rcases slice_cells h hv hn with ⟨rfl, rfl, rfl⟩ | ⟨rfl, rfl, ad, c', rfl⟩ | ⟨b, o, c, e', c', rfl, h3, rfl⟩
                · simp only [cellsV] at hc; cases hc
                  simp only [bytesOf] at hbs; cases hbs
                  exact ⟨.string .empty, by simp [convert, run_underlying us, run_underlying ud, run_underlying ue, Conv.bytesToString], rfl⟩
                · simp only [cellsV] at hc; cases hc
                  simp only [bytesOf] at hbs; cases hbs
                  rw [run_convert_bytes_string w src dst e _ _ _ us ue ud]
                  exact ⟨_, run_bytesToString w ad 0 c' [] (by simp [loadCells, loadCellsFrom]), rfl⟩
                · rw [run_convert_bytes_string w src dst e _ _ _ us ue ud]
                  simp only [cellsV, Nat.mul_one] at hc
                  cases hz : Nat.beq n 0 with
                  | true =>
                    rw [hz] at hc; cases hc
                    simp only [bytesOf] at hbs; cases hbs
                    have := bnot_eq.1 hz; subst this
                    exact ⟨_, run_bytesToString w _ 0 c' [] (by simp [loadCells, loadCellsFrom]), rfl⟩
                  | false =>
                    rw [hz] at hc
                    obtain ⟨e2, us2, h4, h5, h6, h7, h8⟩ := h.loads hc
                    rw [h3] at h4; cases h4
                    obtain ⟨ns, rfl, h9⟩ := bytes_ok hbs h5
                    have h10 := run_loadCells_list (P := P) w (e'.ad o) _ h8
                    rw [h7] at h10
                    exact ⟨_, run_bytesToString w _ n c' ns h10, by rw [VR, h9]; rfl⟩
          · cases hx
      · cases hx
/-- A bound of a slice expression: told, or left out. -/
def OV (v : Option Value) (n y d : Nat) : Prop := (v = none ∧ n = d) ∨ ∃ k, v = some (.int k (n : Int)) ∧ n ≤ y
theorem bnd_ok {x : XV} {y n : Nat} {v : Value} (hv : VR s x v) (h : bnd x y = some n) : ∃ k, v = .int k (n : Int) ∧ n ≤ y := by
  unfold bnd at h
  split at h
  · rename_i k m
    cases hb : Nat.ble m y with
    | false => rw [hb] at h; cases h
    | true => rw [hb] at h; cases h; exact ⟨k, hv, ble_iff.1 hb⟩
  · cases h
def VRo (s : Env) (x : Option XV) (v : Option Value) : Prop := (x = none ∧ v = none) ∨ ∃ y u, x = some y ∧ v = some u ∧ VR s y u
theorem bndO_ok {x : Option XV} {y d n : Nat} {v : Option Value} (hv : VRo s x v) (h : bndO x y d = some n) : OV v n y d := by
  rcases hv with ⟨rfl, rfl⟩ | ⟨z, u, rfl, rfl, hv⟩
  · cases h; exact .inl ⟨rfl, rfl⟩
  · obtain ⟨k, rfl, h1⟩ := bnd_ok hv h
    exact .inr ⟨k, rfl, h1⟩
theorem OV.mono {v : Option Value} {n y z d : Nat} (h : OV v n y d) (hz : y ≤ z) : OV v n z d := by
  rcases h with h | ⟨k, h1, h2⟩
  · exact .inl h
  · exact .inr ⟨k, h1, Nat.le_trans h2 hz⟩
theorem bound_run {k : IntKind} {n y : Nat} (h : n ≤ y) (code : BoundsCode) : (Instr.sliceBound (.int k (n : Int)) y code).run P w = .ok n w := by
  rw [run_sliceBound w k n y code (by omega) (by omega)]
  rfl
theorem bounds_run {is : Bool} {len cap l h m : Nat} {lo hi mx : Option Value} (hm : OV mx m cap cap) (hh : OV hi h m len) (hl : OV lo l h 0) (hmx : hi = none → mx = none) :
    (Instr.sliceBounds is len cap lo hi mx).run P w = .ok (l, h, m) w := by
  unfold Instr.sliceBounds
  rcases hm with ⟨rfl, rfl⟩ | ⟨km, rfl, hm⟩ <;> rcases hh with ⟨rfl, rfl⟩ | ⟨kh, rfl, hh⟩ <;> rcases hl with ⟨rfl, rfl⟩ | ⟨kl, rfl, hl⟩ <;>
    first
    | (cases hmx rfl; done)
    | simp [bound_run, *]
theorem maxOk_of {hi mx : Option XV} {vh vm : Option Value} (h : maxOk hi mx = true) (hh : VRo s hi vh) (hm : VRo s mx vm) : vh = none → vm = none := by
  intro e
  rcases hh with ⟨rfl, _⟩ | ⟨_, _, rfl, h2, _⟩
  · rcases hm with ⟨_, h3⟩ | ⟨_, _, rfl, _⟩
    · exact h3
    · cases h
  · rw [e] at h2; cases h2
/-- What a capacity is in memory. -/
def CapIs (e : E) (lb cap : Nat) : XC → Prop
  | .ex n => cap = n
  | .op k => cap = e.tot - k ∧ lb ≤ e.tot
theorem sliceV_ok {size b o len : Nat} {c : XC} {lo hi mx : Option XV} {lb : Nat} {r : XV} (h : sliceV size b o len c lo hi mx lb = some r) {e : E} (he : s b = some e) {cap : Nat} (hcap : CapIs e lb cap c)
    {vl vh vm : Option Value} (hl : VRo s lo vl) (hh : VRo s hi vh) (hm : VRo s mx vm) (hmx : vh = none → vm = none) (is : Bool) :
    ∃ l h m, (Instr.sliceBounds is len cap vl vh vm).run P w = .ok (l, h, m) w ∧ VR s r (.slice (if m = l then some (e.ad o) else some ((e.ad o).add (l * size))) (h - l) (m - l)) := by
  cases c with
  | ex n =>
    simp only [sliceV] at h
    change cap = n at hcap
    subst hcap
    cases e1 : bndO mx cap cap with
    | none => rw [e1] at h; cases h
    | some m =>
      rw [e1] at h; dsimp only at h
      cases e2 : bndO hi m len with
      | none => rw [e2] at h; cases h
      | some hh' =>
        rw [e2] at h; dsimp only at h
        cases e3 : bndO lo hh' 0 with
        | none => rw [e3] at h; cases h
        | some l =>
          rw [e3] at h; cases h
          refine ⟨l, hh', m, bounds_run (bndO_ok hm e1) (bndO_ok hh e2) (bndO_ok hl e3) hmx, e, he, ?_⟩
          cases hb : Nat.beq m l with
          | true => rw [if_pos (bnot_eq.1 hb)]
          | false => rw [if_neg (bnot_ne.1 hb), E.add]
  | op k => cases mx with
   | some mx' =>
    simp only [sliceV] at h
    obtain ⟨rfl, hlb⟩ := hcap
    cases e1 : bnd mx' (lb - k) with
    | none => rw [e1] at h; cases h
    | some m =>
      rw [e1] at h; dsimp only at h
      cases e2 : bndO hi m len with
      | none => rw [e2] at h; cases h
      | some hh' =>
        rw [e2] at h; dsimp only at h
        cases e3 : bndO lo hh' 0 with
        | none => rw [e3] at h; cases h
        | some l =>
          rw [e3] at h; cases h
          have hm' : OV vm m (e.tot - k) (e.tot - k) := by
            rcases hm with ⟨h1, _⟩ | ⟨y, u, h1, rfl, hv⟩
            · cases h1
            · cases h1
              obtain ⟨k', rfl, h2⟩ := bnd_ok hv e1
              exact .inr ⟨k', rfl, by omega⟩
          refine ⟨l, hh', m, bounds_run hm' (bndO_ok hh e2) (bndO_ok hl e3) hmx, e, he, ?_⟩
          cases hb : Nat.beq m l with
          | true => rw [if_pos (bnot_eq.1 hb)]
          | false => rw [if_neg (bnot_ne.1 hb), E.add]
   | none =>
    simp only [sliceV] at h
    obtain ⟨rfl, hlb⟩ := hcap
    have hmn : vm = none := by
      rcases hm with ⟨_, h2⟩ | ⟨y, u, h1, _⟩
      · exact h2
      · cases h1
    cases e2 : bndO hi (lb - k) len with
    | none => rw [e2] at h; cases h
    | some hh' =>
      rw [e2] at h; dsimp only at h
      cases e3 : bndO lo hh' 0 with
      | none => rw [e3] at h; cases h
      | some l =>
        rw [e3] at h; dsimp only at h
        cases hq : (Nat.blt l (lb - k) || Nat.beq l 0) with
        | false =>
          rw [hq] at h; dsimp only at h
          cases hhl : Nat.beq hh' l with
          | false => rw [hhl] at h; cases h
          | true =>
            rw [hhl] at h; cases h
            have := bnot_eq.1 hhl
            subst this
            refine ⟨hh', hh', e.tot - k, bounds_run (.inl ⟨hmn, rfl⟩) ((bndO_ok hh e2).mono (by omega)) (bndO_ok hl e3) (fun _ => hmn), ?_⟩
            rw [Nat.sub_self]
            split <;> exact ⟨_, _, rfl⟩
        | true =>
          rw [hq] at h; cases h
          refine ⟨l, hh', e.tot - k, bounds_run (.inl ⟨hmn, rfl⟩) ((bndO_ok hh e2).mono (by omega)) (bndO_ok hl e3) (fun _ => hmn), e, he, ?_⟩
          rw [Bool.or_eq_true] at hq
          rw [Nat.sub_sub]
          rcases hq with hq | hq
          · have := blt_iff.1 hq
            rw [if_neg (by omega), E.add]
          · have := bnot_eq.1 hq
            subst this
            rw [Nat.zero_mul, E.add, Nat.add_zero]
            split <;> rfl
theorem slice_ok (hC : CtxOk P C) (h : Rel g s S w) {t : Nat} {x r : XV} {lo hi mx : Option XV} {v : Value} {vl vh vm : Option Value} (hv : VR s x v) (hl : VRo s lo vl) (hh : VRo s hi vh) (hm : VRo s mx vm) (hx : xslice C t x lo hi mx S = some r) :
    ∃ z, (Instr.sliceAt t v vl vh vm).run P w = .ok z w ∧ VR s r z := by
  unfold xslice at hx
  cases ht : C.ty t with
  | none => rw [ht] at hx; cases hx
  | some i => cases hmo : maxOk hi mx with
    | false => rw [ht, hmo] at hx; cases hx
    | true =>
      rw [ht, hmo] at hx
      dsimp only at hx
      have hmx := maxOk_of hmo hh hm
      have hun := fun w => hC.und (w := w) ht
      unfold Instr.sliceAt
      rw [Sem.run_bind, hun, Result.andThen_ok]
      cases hund : i.und with
      | string =>
        rw [hund] at hx hun
        cases x with
        | str l =>
          dsimp only at hx
          rw [VR] at hv; subst hv
          cases mx with
          | some _ => cases hx
          | none =>
            dsimp only at hx
            have hvm : vm = none := by
              rcases hm with ⟨_, h2⟩ | ⟨y, u, h1, _⟩
              · exact h2
              · cases h1
            subst hvm
            cases e2 : bndO hi l.length l.length with
            | none => rw [e2] at hx; cases hx
            | some h' =>
              rw [e2] at hx; dsimp only at hx
              cases e3 : bndO lo h' 0 with
              | none => rw [e3] at hx; cases hx
              | some l' =>
                rw [e3] at hx; cases hx
                have hb := bounds_run (P := P) (w := w) (is := false) (len := l.length) (cap := l.length) (.inl ⟨rfl, rfl⟩) (bndO_ok hh e2) (bndO_ok hl e3) hmx
                refine ⟨.string ((⟨⟨l⟩⟩ : ByteArray).extract l' h'), ?_, ?_⟩
                · unfold Instr.slice
                  have hsz : (⟨⟨l⟩⟩ : ByteArray).size = l.length := rfl
                  simp [hun, hsz, hb]
                · rw [VR]; congr 1; apply ByteArray.ext; apply Array.ext'; simp [ByteArray.data_extract, Array.toList_extract, List.extract, List.drop_take]
        | _ => cases hx
      | slice e =>
        rw [hund] at hx hun
        cases x with
        | nsl =>
          dsimp only at hx
          rw [VR] at hv; subst hv
          cases he : C.ty e with
          | none => rw [he] at hx; cases hx
          | some ei => cases e1 : bndO mx 0 0 with
            | none => rw [he, e1] at hx; cases hx
            | some m => cases e2 : bndO hi 0 0 with
              | none => rw [he, e1, e2] at hx; cases hx
              | some h' => cases e3 : bndO lo 0 0 with
                | none => rw [he, e1, e2, e3] at hx; cases hx
                | some l' =>
                  rw [he, e1, e2, e3] at hx; cases hx
                  have z : ∀ {v : Option Value} {n : Nat}, OV v n 0 0 → n = 0 := by
                    intro v n h0; rcases h0 with ⟨_, h1⟩ | ⟨_, _, h1⟩ <;> omega
                  have z1 := z (bndO_ok hm e1); have z2 := z (bndO_ok hh e2); have z3 := z (bndO_ok hl e3)
                  subst z1 z2 z3
                  have hb := bounds_run (P := P) (w := w) (is := true) (len := 0) (cap := 0) (bndO_ok hm e1) (bndO_ok hh e2) (bndO_ok hl e3) hmx
                  refine ⟨.slice none 0 0, ?_, rfl⟩
                  unfold Instr.slice
                  simp [hun, hb, hC.sizeOf he]
        | sl b o n c =>
          dsimp only at hx
          cases he : C.ty e with
          | none => rw [he] at hx; cases hx
          | some ei =>
            rw [he] at hx
            dsimp only at hx
            have key : ∃ e' cap, s b = some e' ∧ v = .slice (some (e'.ad o)) n cap ∧ CapIs e' (lbOf S b) cap c := by
              cases c with
              | ex c => obtain ⟨e', h1, h2⟩ := hv; exact ⟨e', c, h1, h2, rfl⟩
              | op k =>
                obtain ⟨e', h1, h2⟩ := hv
                refine ⟨e', _, h1, h2, rfl, ?_⟩
                unfold lbOf
                cases hB : S.blk b with
                | none => exact Nat.zero_le _
                | some B =>
                  obtain ⟨e2, arr, ty, h3, _, h4⟩ := h.row hB
                  rw [h1] at h3; cases h3
                  exact h4.lb
            obtain ⟨e', cap, h1, rfl, hcap⟩ := key
            obtain ⟨l, h', m, h2, h3⟩ := sliceV_ok (P := P) (w := w) hx h1 hcap hl hh hm hmx true
            refine ⟨_, ?_, h3⟩
            unfold Instr.slice
            simp [hun, h2, hC.sizeOf he]
        | _ => cases hx
      | array len e =>
        rw [hund] at hx hun
        cases x with
        | ptr b o =>
          dsimp only at hx
          cases he : C.ty e with
          | none => rw [he] at hx; cases hx
          | some ei =>
            rw [he] at hx
            dsimp only at hx
            obtain ⟨e', h1, rfl⟩ := hv
            obtain ⟨l, h', m, h2, h3⟩ := sliceV_ok (P := P) (w := w) hx h1 (cap := len) rfl hl hh hm hmx false
            refine ⟨_, ?_, h3⟩
            simp [Instr.sureAddr, h2, hC.sizeOf he]
            split <;> rfl
        | _ => cases hx
      | _ => rw [hund] at hx; cases hx
end
end Go.Proofs.YtlibeobmdjeilaaGreatDoor.Ex
namespace Go.Proofs.YtlibeobmdjeilaaGreatDoor.Ex
open Go Go.RowKit
section
variable {P : Program} {C : Ctx} {g : Gh} {s : Env} {S : St} {w : World} {fr : Fr} {a : Act}
theorem fieldAddr_ok (hC : CtxOk P C) {t f : Nat} {x r : XV} {v : Value} (hv : VR s x v) (hx : xfieldAddr C t x f = some r) : ∃ z, (Instr.fieldAt t v f).run P w = .ok z w ∧ VR s r z := by
  unfold xfieldAddr at hx
  cases ht : C.ty t with
  | none => rw [ht] at hx; cases hx
  | some i =>
    rw [ht] at hx
    cases x with
    | ptr b o =>
      dsimp only at hx
      have hun := hC.und (w := w) ht
      obtain ⟨e, h1, rfl⟩ := hv
      split at hx
      · rename_i fs hund
        rw [hund] at hun
        cases hf : fs[f]? with
        | none => rw [hf] at hx; cases hx
        | some fd =>
          rw [hf] at hx; dsimp only at hx
          cases hft : C.ty fd.type with
          | none => rw [hft] at hx; cases hx
          | some fi =>
            rw [hft] at hx; dsimp only at hx
            cases hz : Nat.beq fi.size 0 with
            | true => rw [hz] at hx; cases hx
            | false =>
              rw [hz] at hx; cases hx
              refine ⟨.pointer (some ((e.ad o).add fd.offset)), ?_, e, h1, by rw [E.add]⟩
              have := bnot_ne.1 hz
              simp [Instr.fieldAt, hun, hf, Instr.sureAddr, fieldPlace, hC.sizeOf hft, this]
      · cases hx
    | _ => cases hx
theorem field_ok (hC : CtxOk P C) {t f : Nat} {x r : XV} {v : Value} (hv : VR s x v) (hx : xfield C t x f = some r) : ∃ z, (Instr.field t v f).run P w = .ok z w ∧ VR s r z := by
  unfold xfield at hx
  cases ht : C.ty t with
  | none => rw [ht] at hx; cases hx
  | some i =>
    rw [ht] at hx
    cases x with
    | agg cs =>
      dsimp only at hx
      have hun := hC.und (w := w) ht
      obtain ⟨us, rfl, h1, h2⟩ := hv
      split at hx
      · rename_i fs hund
        rw [hund] at hun
        cases hf : fs[f]? with
        | none => rw [hf] at hx; cases hx
        | some fd =>
          rw [hf] at hx; dsimp only at hx
          cases hft : C.ty fd.type with
          | none => rw [hft] at hx; cases hx
          | some fi =>
            rw [hft] at hx; dsimp only at hx
            obtain ⟨z, h3, h4⟩ := partV_ok (w := w) hC hft h1 h2 hx
            exact ⟨z, by simp [Instr.field, hun, hf, asAgg, h3], h4⟩
      · cases hx
    | _ => cases hx
theorem indexAddr_ok (hC : CtxOk P C) {t : Nat} {x j r : XV} {v u : Value} (hv : VR s x v) (hu : VR s j u) (hx : xindexAddr C t x j = some r) : ∃ z, (Instr.indexAt t v u).run P w = .ok z w ∧ VR s r z := by
  unfold xindexAddr at hx
  cases ht : C.ty t with
  | none => rw [ht] at hx; cases hx
  | some i =>
    rw [ht] at hx
    have hun := hC.und (w := w) ht
    split at hx
    · rename_i i' k n heq
      cases heq
      rw [VR] at hu; subst hu
      split at hx
      · rename_i len e b o hund
        rw [hund] at hun
        obtain ⟨e', h1, rfl⟩ := hv
        cases he : C.ty e with
        | none => rw [he] at hx; cases hx
        | some ei => cases hb : Nat.blt n len with
          | false => rw [he, hb] at hx; cases hx
          | true =>
            rw [he, hb] at hx; cases hx
            have hlt := blt_iff.1 hb
            refine ⟨.pointer (some ((e'.ad o).add (n * ei.size))), ?_, e', h1, by rw [E.add]⟩
            simp [Instr.indexAt, asIntOf, hun, Instr.sureAddr, hC.sizeOf he, hlt]
      · rename_i e b o len c hund
        rw [hund] at hun
        cases he : C.ty e with
        | none => rw [he] at hx; cases hx
        | some ei => cases hb : Nat.blt n len with
          | false => rw [he, hb] at hx; cases hx
          | true =>
            rw [he, hb] at hx; cases hx
            have hlt := blt_iff.1 hb
            cases c <;>
            · obtain ⟨e', h1, rfl⟩ := hv
              refine ⟨.pointer (some ((e'.ad o).add (n * ei.size))), ?_, e', h1, by rw [E.add]⟩
              simp [Instr.indexAt, asIntOf, hun, hC.sizeOf he, hlt]
      · cases hx
    · cases hx
theorem index_ok (hC : CtxOk P C) {t : Nat} {x j r : XV} {v u : Value} (hv : VR s x v) (hu : VR s j u) (hx : xindex C t x j = some r) : ∃ z, (Instr.index t v u).run P w = .ok z w ∧ VR s r z := by
  unfold xindex at hx
  cases ht : C.ty t with
  | none => rw [ht] at hx; cases hx
  | some i =>
    rw [ht] at hx
    have hun := hC.und (w := w) ht
    split at hx
    · rename_i i' k n heq
      cases heq
      rw [VR] at hu; subst hu
      split at hx
      · rename_i len e cs hund
        rw [hund] at hun
        obtain ⟨us, rfl, h1, h2⟩ := hv
        cases he : C.ty e with
        | none => rw [he] at hx; cases hx
        | some ei => cases hb : Nat.blt n len with
          | false => rw [he, hb] at hx; cases hx
          | true =>
            rw [he, hb] at hx; dsimp only at hx
            have hlt := blt_iff.1 hb
            obtain ⟨z, h3, h4⟩ := partV_ok (w := w) hC he h1 h2 hx
            exact ⟨z, by simp [Instr.index, asIntOf, hun, hC.sizeOf he, hlt, h3], h4⟩
      · rename_i l hund
        rw [hund] at hun
        rw [VR] at hv; subst hv
        cases hl : l[n]? with
        | none => rw [hl] at hx; cases hx
        | some c =>
          rw [hl] at hx; cases hx
          have hlt := (List.getElem?_eq_some_iff.1 hl).1
          refine ⟨.int .u8 c.toNat, ?_, rfl⟩
          have hg : (⟨⟨l⟩⟩ : ByteArray)[n]? = some c := by
            rw [ByteArray.getElem?_lt' _ _ (by exact hlt)]
            have := (List.getElem?_eq_some_iff.1 hl).2
            exact congrArg some this
          simp [Instr.index, asIntOf, hun, hg]
      · cases hx
    · cases hx
theorem zeroV_ok (hC : CtxOk P C) {t : Nat} {i : TI} (ht : C.ty t = some i) {x : XV} (h : zeroV i = some x) : ∃ z, (zeroValue t).run P w = .ok z w ∧ VR s x z := by
  obtain ⟨_, ti, z, h1, h2, _, h4, h5, h6, h7, h8⟩ := hC.ty t i ht
  refine ⟨z, by simp [zeroValue, typeInfo, h1, h4], ?_⟩
  obtain ⟨h9, h10⟩ := VRs.xvs1 (s := s) h5
  unfold zeroV at h
  cases hi : isAg i.und with
  | true =>
    rw [hi] at h; cases h
    obtain ⟨cs, rfl⟩ := h7 hi
    obtain ⟨l⟩ := cs
    exact ⟨l, rfl, h9, h10⟩
  | false =>
    rw [hi] at h; dsimp only at h
    split at h
    · rename_i v hz
      cases h
      rw [(h8 hi).2, hz] at h9
      obtain ⟨u, ws, h11, h12, _⟩ := h9
      cases h11
      exact h12
    · cases h
theorem same_ok {kd : TypeDesc} {k a : XV} (hk : keyFit kd k = true) {v u : Value} (hv : VR s k v) (hu : VR s a u) {b : Bool} (h : xeq1 k a = some b) : Instr.sameNow kd v u = some b := by
  cases kd <;> cases k <;> simp only [keyFit] at hk <;> first | (cases hk; done) | skip
  all_goals cases a <;> simp only [xeq1] at h <;> first | (cases h; done) | skip
  · cases h; rw [VR] at hv hu; subst hv hu; rfl
  · rename_i j n k' m
    cases hq : keq j k' with
    | false => rw [hq] at h; cases h
    | true =>
      rw [hq] at h; cases h
      have := keq_eq hq; subst this
      rw [VR] at hv hu; subst hv hu
      simp [Instr.sameNow, ieq_eq]
  · cases h; rw [VR] at hv hu; subst hv hu
    simp only [Instr.sameNow, seq_eq]
    rw [show ∀ (p q : List UInt8), ((⟨⟨p⟩⟩ : ByteArray) == ⟨⟨q⟩⟩) = (p == q) from fun p q => by
      rw [Bool.eq_iff_iff]
      show ((⟨p⟩ : Array UInt8) == ⟨q⟩) = true ↔ _
      simp]
theorem findK_ok {kd : TypeDesc} {k : XV} (hk : keyFit kd k = true) {v : Value} (hv : VR s k v) : ∀ {es : List (XV × XV × Nat)} {ms : List MapEntry} {i : Nat} {r : Option (Nat × XV × Nat)}, MRs s es ms → findK k es i = some r →
    (r = none ∧ Instr.findNow kd v ms i = some none) ∨ ∃ j x b z, r = some (j, x, b) ∧ Instr.findNow kd v ms i = some (some (j, z)) ∧ VR s x z ∧ i ≤ j ∧ j - i < ms.length
  | [], ms, i, r, hm, h => by
    rw [MRs] at hm; subst hm
    simp only [findK] at h; cases h
    exact .inl ⟨rfl, rfl⟩
  | (a, x, b) :: es, ms, i, r, hm, h => by
    obtain ⟨m, ns, rfl, h1, h2, h3, h4⟩ := hm
    simp only [findK] at h
    cases hq : xeq1 k a with
    | none => rw [hq] at h; cases h
    | some t =>
      have hs := same_ok hk hv h1 hq
      rw [hq] at h
      cases t with
      | true => cases h; exact .inr ⟨i, x, b, m.val, rfl, by simp [Instr.findNow, hs], h2, Nat.le_refl _, by simp⟩
      | false =>
        dsimp only at h
        rcases findK_ok hk hv h4 h with ⟨h5, h6⟩ | ⟨j, x', b', z, h5, h6, h7, h8, h9⟩
        · exact .inl ⟨h5, by simp [Instr.findNow, hs, h6]⟩
        · exact .inr ⟨j, x', b', z, h5, by simp [Instr.findNow, hs, h6], h7, by omega, by simp; omega⟩
theorem checkKey_ok (hC : CtxOk P C) {t : Nat} {i : TI} (ht : C.ty t = some i) {k : XV} (hk : keyFit i.und k = true) {v : Value} (hv : VR s k v) (b : Bool) : (Instr.checkKey b 10000 t v).run P w = .ok () w := by
  have hun := hC.und (w := w) ht
  show (Instr.checkKey b (9999 + 1) t v).run P w = .ok () w
  unfold Instr.checkKey
  rw [Sem.run_bind, hun, Result.andThen_ok]
  cases hi : i.und <;> cases k <;> rw [hi] at hk <;> simp only [keyFit] at hk <;> first | (cases hk; done) | skip
  all_goals (rw [VR] at hv; subst hv; rfl)
theorem findKey_ok (hC : CtxOk P C) {t : Nat} {i : TI} (ht : C.ty t = some i) {v : Value} {ms : List MapEntry} {r : Option (Nat × Value)} (h : Instr.findNow i.und v ms 0 = some r) : (Instr.findKey t v ms).run P w = .ok r w := by
  unfold Instr.findKey
  rw [Sem.run_bind, hC.und ht, Result.andThen_ok, h]
  rfl
theorem lookup_ok (hC : CtxOk P C) (h : Rel g s S w) {t : Nat} {m k r : XV} {ok : Bool} {v u : Value} (hv : VR s m v) (hu : VR s k u) (hx : xlookup C t m k ok S = some r) : ∃ z, (Instr.lookup t v u ok).run P w = .ok z w ∧ VR s r z := by
  unfold xlookup at hx
  cases ht : C.ty t with
  | none => rw [ht] at hx; cases hx
  | some i =>
    rw [ht] at hx; dsimp only at hx
    have hun := hC.und (w := w) ht
    split at hx
    · rename_i kt et hund
      rw [hund] at hun
      cases hkt : C.ty kt with
      | none => rw [hkt] at hx; cases hx
      | some ki => cases het : C.ty et with
        | none => rw [hkt, het] at hx; cases hx
        | some ei =>
          rw [hkt, het] at hx; dsimp only at hx
          cases hf : keyFit ki.und k with
          | false => rw [hf] at hx; cases hx
          | true => cases hes : entries S m with
            | none => rw [hf, hes] at hx; cases hx
            | some es =>
              rw [hf, hes] at hx; dsimp only at hx
              have hms : ∃ ms : Array MapEntry, MRs s es ms.toList ∧ ((v = .map none ∧ ms = #[]) ∨ ∃ b cl, v = .map (some b) ∧ w.heap[b]? = some (.map ms cl)) := by
                cases m with
                | nmap => cases hes; rw [VR] at hv; exact ⟨#[], rfl, .inl ⟨hv, rfl⟩⟩
                | map b =>
                  simp only [entries] at hes
                  split at hes
                  · rename_i es' cl hb
                    cases hes
                    obtain ⟨e, ob, h1, h2, ms, rfl, h3⟩ := h.at hb
                    obtain ⟨e', h4, rfl⟩ := hv
                    rw [h1] at h4; cases h4
                    exact ⟨ms, h3, .inr ⟨_, cl, rfl, h2⟩⟩
                  · cases hes
                | _ => cases hes
              obtain ⟨ms, hmr, hmv⟩ := hms
              have hck := fun b => checkKey_ok (w := w) hC hkt hf hu b
              cases hk : findK k es 0 with
              | none => rw [hk] at hx; cases hx
              | some r' =>
                rw [hk] at hx
                have hrest : ∀ (q : Option (Nat × Value)) (z0 : Value) (b0 : Bool), (Instr.findKey kt u ms.toList).run P w = .ok q w → ((match q with | some (_, v) => pure (v, true) | none => do pure (← zeroValue et, false)) : Sem (Value × Bool)).run P w = .ok (z0, b0) w →
                    (Instr.lookup t v u ok).run P w = .ok (if ok then .tuple #[z0, .bool b0] else z0) w := by
                  intro q z0 b0 hq hz
                  have tl : ((do
                      let (v, ok') ← match ← Instr.findKey kt u ms.toList with
                        | some (_, v) => pure (v, true)
                        | none => pure (← zeroValue et, false)
                      pure (if ok then .tuple #[v, .bool ok'] else v)) : Sem Value).run P w = .ok (if ok then .tuple #[z0, .bool b0] else z0) w := by
                    rw [Sem.run_bind, hq, Result.andThen_ok]
                    cases q with
                    | none =>
                      simp only [Sem.run_bind] at hz ⊢
                      cases hzv : (zeroValue et).run P w with
                      | ok zz w2 => rw [hzv] at hz; simp at hz; obtain ⟨⟨rfl, rfl⟩, rfl⟩ := hz; simp
                      | halt _ _ => rw [hzv] at hz; cases hz
                    | some q => obtain ⟨j, q⟩ := q; simp at hz; obtain ⟨rfl, rfl⟩ := hz; simp
                  unfold Instr.lookup
                  rw [Sem.run_bind, hun, Result.andThen_ok]
                  rcases hmv with ⟨rfl, rfl⟩ | ⟨b, cl, rfl, hh⟩
                  · simp only [Sem.run_bind, Sem.run_pure, Result.andThen_ok, hck] at tl ⊢
                    exact tl
                  · have hg : (getObj b).run P w = .ok (.map ms cl) w := by simp [getObj, Sem.run, hh]
                    simp only [Sem.run_bind, Sem.run_pure, Result.andThen_ok, hck, hg] at tl ⊢
                    exact tl
                rcases findK_ok hf hu hmr hk with ⟨rfl, h5⟩ | ⟨j, x, b, z, rfl, h5, h6, _⟩
                · dsimp only at hx
                  cases hz : zeroV ei with
                  | none => rw [hz] at hx; cases hx
                  | some zv =>
                    rw [hz] at hx; cases hx
                    obtain ⟨z, h7, h8⟩ := zeroV_ok (s := s) (w := w) hC het hz
                    refine ⟨_, hrest none z false (findKey_ok hC hkt h5) (by simp [h7]), ?_⟩
                    cases ok with
                    | true => exact ⟨_, rfl, ⟨z, _, rfl, h8, ⟨_, [], rfl, rfl, rfl⟩⟩⟩
                    | false => exact h8
                · cases hx
                  refine ⟨_, hrest (some (j, z)) z true (findKey_ok hC hkt h5) rfl, ?_⟩
                  cases ok with
                  | true => exact ⟨_, rfl, ⟨z, _, rfl, h6, ⟨_, [], rfl, rfl, rfl⟩⟩⟩
                  | false => exact h6
    · cases hx
theorem len_ok (hC : CtxOk P C) (h : Rel g s S w) {t : Nat} {x : XV} {n : Nat} {v : Value} (hv : VR s x v) (hx : xlen C t x S = some n) (ts : List Nat) (ty : TypeId) (r : List Value) : (Builtin.len_ ⟨t :: ts⟩ ty ⟨v :: r⟩).run P w = .ok (.int .i64 (.ofNat n)) w := by
  unfold xlen at hx
  cases ht : C.ty t with
  | none => rw [ht] at hx; cases hx
  | some i =>
    rw [ht] at hx; dsimp only at hx
    have hun := hC.und (w := w) ht
    unfold Builtin.len_
    simp only [List.getElem?_toArray, List.getElem?_cons_zero]
    rw [Sem.run_bind, hun, Result.andThen_ok]
    split at hx
    · rename_i k e hund; rw [hund]; cases hx; rfl
    · rename_i k e hund; rw [hund]; cases hx; rw [VR] at hv; subst hv; rfl
    · rename_i k e b hund
      rw [hund]
      split at hx
      · rename_i es cl hb
        cases hx
        obtain ⟨e, ob, h1, h2, ms, rfl, h3⟩ := h.at hb
        obtain ⟨e', h4, rfl⟩ := hv
        rw [h1] at h4; cases h4
        have hl : ms.size = es.length := by
          rw [← Array.length_toList]
          clear h2 hb
          generalize ms.toList = l at h3
          induction es generalizing l with
          | nil => rw [MRs] at h3; subst h3; rfl
          | cons x es ih => obtain ⟨m, ns, rfl, _, _, _, h5⟩ := h3; simp [ih ns h5]
        simp [getObj, Sem.run, h2, goInt, hl]
      · cases hx
    · rename_i e hund
      rw [hund]
      cases he : C.ty e with
      | none => rw [he] at hx; cases hx
      | some ei =>
        rw [he] at hx; dsimp only at hx
        have hue := hC.und (w := w) he
        split at hx
        · rename_i n' e' hund'
          cases hx
          rw [hund'] at hue
          simp [hue, goInt]
        · cases hx
    · rename_i hund; rw [hund]; cases hx; rw [VR] at hv; subst hv; rfl
    · rename_i hund; rw [hund]; cases hx; obtain ⟨ad, c, rfl⟩ := hv; rfl
    · rename_i b o n' c hund; rw [hund]; cases hx
      cases c <;> (obtain ⟨e, _, rfl⟩ := hv; rfl)
    · rename_i hund; rw [hund]; cases hx; rw [VR] at hv; subst hv; rfl
    · cases hx
theorem maxmin_ok {k : IntKind} : ∀ {l : List XV} {us : List Value} {a : Int} {mx : Bool} {r : XV}, VRs s l us → xmaxmin mx k a l = some r →
    ∃ z, (us.foldlM (match mx with | true => Builtin.max2 | false => Builtin.min2) (.int k a)).run P w = .ok z w ∧ VR s r z
  | [], us, a, mx, r, hv, h => by
    rw [VRs] at hv; subst hv
    simp only [xmaxmin] at h; cases h
    exact ⟨_, rfl, rfl⟩
  | x :: l, us, a, mx, r, hv, h => by
    obtain ⟨v, ws, rfl, h1, h2⟩ := hv
    cases x with
    | int j b =>
      rw [VR] at h1; subst h1
      simp only [xmaxmin] at h
      obtain ⟨z, h3, h4⟩ := maxmin_ok h2 h
      refine ⟨z, ?_, h4⟩
      cases mx with
      | true =>
        simp only [List.foldlM_cons, Builtin.max2]
        rw [← h3]
        simp only [ilt_eq]
        by_cases hab : a < b <;> simp [hab]
      | false =>
        simp only [List.foldlM_cons, Builtin.min2]
        rw [← h3]
        simp only [ilt_eq]
        by_cases hab : b < a <;> simp [hab]
    | _ => simp [xmaxmin] at h
end
end Go.Proofs.YtlibeobmdjeilaaGreatDoor.Ex
namespace Go.Proofs.YtlibeobmdjeilaaGreatDoor.Ex
open Go Go.RowKit
section
variable {P : Program} {C : Ctx} {q : Gq} {s : Env} {S : St} {w : World} {fr : Fr} {a : Act}
theorem next_of {x : Sem Value} {v : Value} (h : x.run P w = .ok v w) : ((do pure (.value (← x))) : Sem Next).run P w = .ok (.value v) w := by
  rw [Sem.run_bind, h]; rfl
theorem map_ev {xs : List Operand} {ys : Array Operand} (h : ys.toList = xs) : ys.map a.eval = ⟨xs.map a.eval⟩ := by
  apply Array.ext'
  rw [Array.toList_map, h]
/-- What an operation that leaves memory alone gives. -/
theorem xval_ok (hC : CtxOk P C) (h : Rel ⟨C.fl, q⟩ s S w) (hf : FrR s fr a.tmps) {o : Oper} {x : XV} (hx : xval C fr S o.op = some x) : ∃ v, (execOp a.eval o).run P w = .ok (.value v) w ∧ VR s x v := by
  have ev : ∀ {y : Operand} {v : XV}, fr.ev C.fl y = some v → VR s v (a.eval y) := fun hv => ev_ok h hf hv
  have evs : ∀ {ys : List Operand} {vs : List XV}, fr.evs C.fl ys = some vs → VRs s vs (ys.map a.eval) := fun hv => evs_ok h hf hv
  have evo : ∀ {y : Option Operand} {v : Option XV}, fr.evo C.fl y = some v → VRo s v (y.map a.eval) := fun hv => by
    rcases evo_ok h hf hv with ⟨rfl, rfl⟩ | ⟨y, u, rfl, rfl, h1⟩
    · exact .inl ⟨rfl, rfl⟩
    · exact .inr ⟨u, _, rfl, rfl, h1⟩
  unfold execOp
  cases ho : o.op <;> rw [ho] at hx <;> simp only [xval] at hx <;> first | (cases hx; done) | skip
  case move y => exact ⟨_, rfl, ev hx⟩
  case assign y => exact ⟨_, rfl, ev hx⟩
  case pick c p q =>
    cases hc : fr.ev C.fl c with
    | none => rw [hc] at hx; cases hx
    | some v =>
      rw [hc] at hx
      have h1 := ev hc
      cases v with
      | bool b =>
        rw [VR] at h1
        cases b with
        | true => exact ⟨a.eval p, by simp [h1, asBool], ev hx⟩
        | false => exact ⟨a.eval q, by simp [h1, asBool], ev hx⟩
      | _ => cases hx
  case build t ps =>
    cases hp : fr.evp C.fl ps.toList with
    | none => rw [hp] at hx; cases hx
    | some qs =>
      rw [hp] at hx
      obtain ⟨v, h1, h2⟩ := build_ok (w := w) hC (evp_ok h hf hp) hx
      refine ⟨v, next_of ?_, h2⟩
      have : (ps.map fun (i, x) => (i, a.eval x)) = ⟨ps.toList.map fun x => (x.1, a.eval x.2)⟩ := by
        apply Array.ext'
        rw [Array.toList_map]
      rw [this]
      exact h1
  case load t y =>
    cases ht : C.ty t with
    | none => rw [ht] at hx; cases hx
    | some i => cases hy : fr.ev C.fl y with
      | none => rw [ht, hy] at hx; cases hx
      | some v =>
        rw [ht, hy] at hx
        cases v with
        | ptr b o' =>
          dsimp only at hx
          obtain ⟨e, v, h1, h2, h3⟩ := loadT_ok hC h ht hx
          obtain ⟨e', h4, h5⟩ := ev hy
          rw [h1] at h4; cases h4
          refine ⟨v, next_of ?_, h3⟩
          simp only [h5, Instr.loadAt, Instr.sureAddr, Sem.run_bind, Sem.run_pure, Result.andThen_ok, h2]
        | _ => cases hx
  case nilCheck y =>
    cases hy : fr.ev C.fl y with
    | none => rw [hy] at hx; cases hx
    | some v =>
      rw [hy] at hx
      have h1 := ev hy
      cases v with
      | ptr b o' => cases hx; obtain ⟨e, h2, h3⟩ := h1; exact ⟨_, by dsimp only; rw [h3]; rfl, e, h2, rfl⟩
      | fn f p q => cases hx; obtain ⟨va, vc, h2, h3⟩ := h1; exact ⟨_, by dsimp only; rw [h2]; rfl, va, vc, rfl, h3⟩
      | yld l => cases hx; obtain ⟨e, h2, h3⟩ := h1; exact ⟨_, by dsimp only; rw [h3]; rfl, e, h2, rfl⟩
      | _ => cases hx
  case binOp op t y z u =>
    cases hy : fr.ev C.fl y with
    | none => rw [hy] at hx; cases hx
    | some v => cases hz : fr.ev C.fl z with
      | none => rw [hy, hz] at hx; cases hx
      | some v' =>
        rw [hy, hz] at hx
        obtain ⟨r, h1, h2⟩ := xbin_ok (w := w) (x := y) (y := z) hC (ev hy) (ev hz) hx
        exact ⟨r, next_of h1, h2⟩
  case unOp op t y =>
    cases hy : fr.ev C.fl y with
    | none => rw [hy] at hx; cases hx
    | some v =>
      rw [hy] at hx
      obtain ⟨r, h1, h2⟩ := xun_run (P := P) (w := w) hx (ev hy)
      exact ⟨r, next_of h1, h2⟩
  case convert p q y =>
    cases hy : fr.ev C.fl y with
    | none => rw [hy] at hx; cases hx
    | some v =>
      rw [hy] at hx
      obtain ⟨r, h1, h2⟩ := conv_ok hC h (ev hy) hx
      exact ⟨r, next_of h1, h2⟩
  case makeFunc f ps qs =>
    cases f with
    | func f =>
      simp only at hx
      cases hp : fr.evs C.fl ps.toList with
      | none => rw [hp] at hx; cases hx
      | some xs => cases hq : fr.evs C.fl qs.toList with
        | none => rw [hp, hq] at hx; cases hx
        | some ys =>
          rw [hp, hq] at hx; cases hx
          refine ⟨.func (.func f) ⟨ps.toList.map a.eval⟩ ⟨qs.toList.map a.eval⟩, ?_, _, _, rfl, evs hp, evs hq⟩
          have e1 := map_ev (a := a) (ys := ps) rfl
          have e2 := map_ev (a := a) (ys := qs) rfl
          dsimp only
          unfold Instr.makeFunc
          rw [e1, e2]
          rfl
    | _ => cases hx
  case slice t y lo hi mx =>
    cases hy : fr.ev C.fl y with
    | none => rw [hy] at hx; cases hx
    | some v => cases h1 : fr.evo C.fl lo with
      | none => rw [hy, h1] at hx; cases hx
      | some lo' => cases h2 : fr.evo C.fl hi with
        | none => rw [hy, h1, h2] at hx; cases hx
        | some hi' => cases h3 : fr.evo C.fl mx with
          | none => rw [hy, h1, h2, h3] at hx; cases hx
          | some mx' =>
            rw [hy, h1, h2, h3] at hx
            obtain ⟨r, h4, h5⟩ := slice_ok hC h (ev hy) (evo h1) (evo h2) (evo h3) hx
            exact ⟨r, next_of h4, h5⟩
  case fieldAddr t y f =>
    cases hy : fr.ev C.fl y with
    | none => rw [hy] at hx; cases hx
    | some v =>
      rw [hy] at hx
      obtain ⟨r, h1, h2⟩ := fieldAddr_ok (w := w) hC (ev hy) hx
      exact ⟨r, next_of h1, h2⟩
  case field t y f =>
    cases hy : fr.ev C.fl y with
    | none => rw [hy] at hx; cases hx
    | some v =>
      rw [hy] at hx
      obtain ⟨r, h1, h2⟩ := field_ok (w := w) hC (ev hy) hx
      exact ⟨r, next_of h1, h2⟩
  case indexAddr t y z =>
    cases hy : fr.ev C.fl y with
    | none => rw [hy] at hx; cases hx
    | some v => cases hz : fr.ev C.fl z with
      | none => rw [hy, hz] at hx; cases hx
      | some v' =>
        rw [hy, hz] at hx
        obtain ⟨r, h1, h2⟩ := indexAddr_ok (w := w) hC (ev hy) (ev hz) hx
        exact ⟨r, next_of h1, h2⟩
  case index t y z =>
    cases hy : fr.ev C.fl y with
    | none => rw [hy] at hx; cases hx
    | some v => cases hz : fr.ev C.fl z with
      | none => rw [hy, hz] at hx; cases hx
      | some v' =>
        rw [hy, hz] at hx
        obtain ⟨r, h1, h2⟩ := index_ok (w := w) hC (ev hy) (ev hz) hx
        exact ⟨r, next_of h1, h2⟩
  case lookup t y z ok =>
    cases hy : fr.ev C.fl y with
    | none => rw [hy] at hx; cases hx
    | some v => cases hz : fr.ev C.fl z with
      | none => rw [hy, hz] at hx; cases hx
      | some v' =>
        rw [hy, hz] at hx
        obtain ⟨r, h1, h2⟩ := lookup_ok hC h (ev hy) (ev hz) hx
        exact ⟨r, next_of h1, h2⟩
  case extract y j =>
    cases hy : fr.ev C.fl y with
    | none => rw [hy] at hx; cases hx
    | some v =>
      rw [hy] at hx
      have h1 := ev hy
      cases v with
      | tup l =>
        dsimp only at hx
        obtain ⟨vs, h2, h3⟩ := h1
        obtain ⟨u, h4, h5⟩ := h3.get hx
        refine ⟨u, next_of ?_, h5⟩
        have h6 : (⟨vs⟩ : Array Value)[j]? = some u := by simpa using h4
        simp only [h2, Instr.extract, h6]
        rfl
      | _ => cases hx
  case call c =>
    cases hcl : c.callee with
    | value f => rw [hcl] at hx; cases hx
    | invoke f m => rw [hcl] at hx; cases hx
    | builtin b =>
      cases hargs : fr.evs C.fl c.args.toList with
      | none => rw [hcl, hargs] at hx; cases hx
      | some args =>
        rw [hcl, hargs] at hx; dsimp only at hx
        have h1 := evs hargs
        have hm := map_ev (a := a) (ys := c.args) rfl
        unfold xbuiltQ at hx
        split at hx
        · rename_i t ts y ys hts
          obtain ⟨v, vs, hvs, h2, _⟩ := h1
          cases hl : xlen C t y S with
          | none => rw [hl] at hx; cases hx
          | some n =>
            rw [hl] at hx; cases hx
            refine ⟨.int .i64 (.ofNat n), ?_, rfl⟩
            have h3 := len_ok hC h h2 hl ts o.type vs
            have h4 : c.argTypes = ⟨t :: ts⟩ := by apply Array.ext'; exact hts
            simp only [resolve, hcl, hm, hvs, invoke, builtin, Sem.run_bind, Sem.run_pure, Result.andThen_ok, h4, h3]
        · rename_i t ts y ys hts
          obtain ⟨v, vs, hvs, h2, _⟩ := h1
          have h4 : c.argTypes = ⟨t :: ts⟩ := by apply Array.ext'; exact hts
          cases ht : C.ty t with
          | none => rw [ht] at hx; cases hx
          | some i =>
            rw [ht] at hx; dsimp only at hx
            have hun := hC.und (w := w) ht
            split at hx
            · rename_i e b' o' n c' hund
              cases hx
              rw [hund] at hun
              obtain ⟨e', _, rfl⟩ := h2
              refine ⟨.int .i64 (.ofNat c'), ?_, rfl⟩
              simp [resolve, hcl, hm, hvs, invoke, builtin, h4, Builtin.cap_, hun, goInt]
            · rename_i e hund
              cases hx
              rw [hund] at hun
              rw [VR] at h2; subst h2
              refine ⟨.int .i64 0, ?_, rfl⟩
              simp [resolve, hcl, hm, hvs, invoke, builtin, h4, Builtin.cap_, hun, goInt]
            · cases hx
        · rename_i k n l
          obtain ⟨v, vs, hvs, h2, h5⟩ := h1
          rw [VR] at h2; subst h2
          obtain ⟨z, h6, h7⟩ := maxmin_ok (P := P) (w := w) (mx := true) h5 hx
          refine ⟨z, ?_, h7⟩
          simp only [resolve, hcl, hm, hvs, invoke, builtin, Sem.run_bind, Sem.run_pure, Result.andThen_ok, Builtin.max_]
          simp only at h6
          rw [h6]
          rfl
        · rename_i k n l
          obtain ⟨v, vs, hvs, h2, h5⟩ := h1
          rw [VR] at h2; subst h2
          obtain ⟨z, h6, h7⟩ := maxmin_ok (P := P) (w := w) (mx := false) h5 hx
          refine ⟨z, ?_, h7⟩
          simp only [resolve, hcl, hm, hvs, invoke, builtin, Sem.run_bind, Sem.run_pure, Result.andThen_ok, Builtin.min_]
          simp only at h6
          rw [h6]
          rfl
        · cases hx
end
end Go.Proofs.YtlibeobmdjeilaaGreatDoor.Ex
namespace Go.Proofs.YtlibeobmdjeilaaGreatDoor.Ex
open Go Go.RowKit
section
variable {P : Program} {C : Ctx} {g : Gh} {s : Env} {S : St} {w : World} {fr : Fr} {a : Act}
/-- A row of cells, as it is laid new. -/
theorem row_new {t : Env} {cs : List XV} {us : Array Value} (hv : VRs t cs us.toList) (h1 : cs.all XV.one = true) (ty : TypeId) (n : Nat) : OR t (row cs) ⟨n, 0, 0⟩ (.cells us ty) :=
  ⟨us, ty, rfl, ⟨fun i x hx => by
    obtain ⟨v, h2, h3⟩ := hv.get hx
    exact ⟨v, by rw [Nat.zero_add, ← Array.getElem?_toList]; exact h2, h3⟩, h1, fun e => (by cases e), Nat.le_refl _⟩⟩
theorem zeros_get (z : List XV) : ∀ (n i : Nat), (zeros z n)[i]? = if i < n * z.length then z[i % z.length]? else none
  | 0, i => by simp [zeros]
  | n + 1, i => by
    rw [zeros]
    by_cases h : i < z.length
    · rw [List.getElem?_append_left h, if_pos (by rw [Nat.succ_mul]; omega), Nat.mod_eq_of_lt h]
    · rw [List.getElem?_append_right (by omega), zeros_get z n]
      have e : (n + 1) * z.length = n * z.length + z.length := Nat.succ_mul _ _
      by_cases h2 : i - z.length < n * z.length
      · rw [if_pos h2, if_pos (by omega)]
        congr 1
        conv => rhs; rw [← Nat.sub_add_cancel (Nat.le_of_not_lt h), Nat.add_mod_right]
      · rw [if_neg h2, if_neg (by omega)]
theorem zeros_length (z : List XV) : ∀ n : Nat, (zeros z n).length = n * z.length
  | 0 => by simp [zeros]
  | n + 1 => by rw [zeros, List.length_append, zeros_length z n, Nat.succ_mul, Nat.add_comm]
theorem zeros_one {z : List XV} (h : z.all XV.one = true) : ∀ n : Nat, (zeros z n).all XV.one = true
  | 0 => rfl
  | n + 1 => by rw [zeros, List.all_append, h, zeros_one h n]; rfl
theorem zeros_made {z : List XV} {zc : Array Value} (h : VRs s z zc.toList) (n : Nat) : VRs s (zeros z n) (madeCells zc (n * zc.size)).toList := by
  have hl := h.length
  rw [Array.length_toList] at hl
  refine VRs.of_get (by rw [zeros_length, Array.length_toList, size_madeCells, hl]) fun i x v hx hv => ?_
  rw [zeros_get] at hx
  split at hx
  · rename_i hi
    obtain ⟨u, h1, h2⟩ := h.get hx
    rw [Array.getElem?_toList] at hv
    have hi' : i < n * zc.size := by rw [hl]; exact hi
    have hm : i % zc.size < zc.size := Nat.mod_lt _ (by rcases Nat.eq_zero_or_pos zc.size with h0 | h0; · rw [h0] at hi'; simp at hi'
                                                        · exact h0)
    have e : (madeCells zc (n * zc.size))[i]? = some zc[i % zc.size]! := by
      unfold madeCells
      rw [Array.getElem?_map, Array.getElem?_range, if_pos hi']
      rfl
    rw [e] at hv
    cases hv
    rw [Array.getElem?_toList, ← hl, Array.getElem?_eq_getElem hm] at h1
    cases h1
    rw [getElem!_pos zc _ hm]
    exact h2
  · cases hx
theorem store_ok (hC : CtxOk P C) (h : Rel g s S w) {t : Nat} {i : TI} (ht : C.ty t = some i) {b o : Nat} {x : XV} {v : Value} (hv : VR s x v) {S' : St} (hs : storeT g.fl i S b o x = some S') : ∃ e w', s b = some e ∧ (storeVar t (e.ad o) v).run P w = .ok () w' ∧ Rel g s S' w' := by
  unfold storeT at hs
  cases hc : x.cells with
  | none => rw [hc] at hs; cases hs
  | some cs =>
    rw [hc] at hs; dsimp only at hs
    cases hb : (Nat.beq cs.length i.size && !(Nat.beq i.size 0)) with
    | false => rw [hb] at hs; cases hs
    | true =>
      rw [hb] at hs; dsimp only at hs
      rw [Bool.and_eq_true, Bool.not_eq_true'] at hb
      have hl := bnot_eq.1 hb.1
      have h0 := bnot_ne.1 hb.2
      obtain ⟨hvs, h1⟩ := hv.cells hc
      have hne : cs ≠ [] := fun e => h0 (by rw [← hl, e]; rfl)
      obtain ⟨e, arr, ty, he, hh, hfit, hone, hrel⟩ := h.store hs hne hvs h1
      refine ⟨e, _, he, ?_, hrel⟩
      have hsz : v.cells.size = i.size := by rw [← Array.length_toList, hvs.length, hl]
      have hst := run_storeCells_at P e.blk (e.sh + o) ty v.cells.toList 0 arr w hh (by simpa using hfit) hone
      unfold storeVar
      rw [Sem.run_bind, hC.sizeOf ht, Result.andThen_ok, if_neg (by simp [hsz])]
      exact hst
/-- The elements that are appended. -/
theorem appended_ok (hC : CtxOk P C) (h : Rel g s S w) {sz u n : Nat} {x : XV} {new : List XV} {v : Value} (hv : VR s x v) (ha : appended C sz u x S = some (n, new)) :
    ∃ us, Src P sz u v n us w ∧ VRs s new us ∧ new.all XV.one = true ∧ new.length = n * sz := by
  unfold appended at ha
  cases hu : C.ty u with
  | none => rw [hu] at ha; cases ha
  | some ui =>
    rw [hu] at ha; dsimp only at ha
    have hun := (hC.ty u ui hu).1
    split at ha
    · rename_i e hund
      cases ha
      rw [hund] at hun
      rw [VR] at hv; subst hv
      exact ⟨[], Src.ofNil w hun 0, rfl, rfl, by simp⟩
    · rename_i e hund
      cases ha
      rw [hund] at hun
      obtain ⟨ad, c, rfl⟩ := hv
      exact ⟨[], Src.ofSlice w hun ad 0 c [] (by simp) (fun j u hj => by simp at hj) (fun u hu => by cases hu), rfl, rfl, by simp⟩
    · rename_i e b o m c hund
      rw [hund] at hun
      cases hc : cellsV S sz m (.sl b o m c) with
      | none => rw [hc] at ha; cases ha
      | some l =>
        rw [hc] at ha; cases ha
        have hv' : ∃ e', s b = some e' ∧ ∃ c', v = .slice (some (e'.ad o)) n c' := by
          cases c <;> (obtain ⟨e', h1, h2⟩ := hv; exact ⟨e', h1, _, h2⟩)
        obtain ⟨e', h1, c', rfl⟩ := hv'
        simp only [cellsV] at hc
        cases hz : Nat.beq n 0 with
        | true =>
          rw [hz] at hc; cases hc
          have := bnot_eq.1 hz; subst this
          exact ⟨[], Src.ofSlice w hun _ 0 c' [] (by simp) (fun j u hj => by simp at hj) (fun u hu => by cases hu), rfl, rfl, by simp⟩
        | false =>
          rw [hz] at hc; dsimp only at hc
          obtain ⟨e2, us, h2, h3, h4, h5, h6⟩ := h.loads hc
          rw [h1] at h2; cases h2
          exact ⟨us, Src.ofSlice w hun _ n c' us h5 h6 (h3.ones h4), h3, h4, by rw [← h3.length, h5]⟩
    · rename_i l hund
      rw [hund] at hun
      cases hz : Nat.beq sz 1 with
      | false => rw [hz] at ha; cases ha
      | true =>
        rw [hz] at ha; cases ha
        have := bnot_eq.1 hz; subst this
        rw [VR] at hv; subst hv
        refine ⟨byteCells ⟨⟨l⟩⟩, Src.ofString w hun ⟨⟨l⟩⟩, ?_, ?_, by simp⟩
        · unfold byteCells
          show VRs s (l.map _) (l.map _)
          clear hun hund
          induction l with
          | nil => rfl
          | cons c l ih => exact ⟨_, _, rfl, rfl, ih⟩
        · rw [List.all_map, List.all_eq_true]; intro c _; rfl
    · cases ha
/-- A row of one's own, grown out of old cells and new ones. -/
theorem Rel.grow (h : Rel g s S w) {old new : List XV} {olds news : List Value} (ho : VRs s old olds) (hn : VRs s new news) (h1 : old.all XV.one = true) (h2 : new.all XV.one = true) {sz len n : Nat} (hol : old.length = len * sz) (hnl : new.length = n * sz) (e : TypeId) (z : Array Value) (hz : z.size = sz) {cap : Nat} (hcap : len + n ≤ cap) (fz : Nat) :
    ∃ t : Env, s.le t ∧ t S.nx = some ⟨w.heap.size, 0, cap⟩ ∧ Rel g t (S.new (.cells ⟨old ++ new, sz, fz, true, len + n⟩)) (w.drew.alloc (.cells ((olds ++ news).toArray ++ Builtin.zeroCells z (cap - (len + n))) e)) := by
  refine h.drew.alloc _ _ cap fun t ht _ => ⟨_, e, rfl, ⟨fun i x hx => ?_, ?_, fun _ => ?_, hcap⟩⟩
  · obtain ⟨v, h3, h4⟩ := ((ho.append hn).mono ht).get hx
    refine ⟨v, ?_, h4⟩
    rw [Nat.zero_add, Array.getElem?_append_left (by simpa using (List.getElem?_eq_some_iff.1 h3).1)]
    simpa using h3
  · show (old ++ new).all XV.one = true
    rw [List.all_append, h1, h2]; rfl
  · show 0 + cap * sz ≤ _
    have hol' := ho.length
    have hnl' := hn.length
    have e1 : cap * sz = len * sz + n * sz + (cap - (len + n)) * sz := by
      rw [← Nat.add_mul, ← Nat.add_mul]; congr 1; omega
    simp only [Array.size_append, List.size_toArray, List.length_append, size_zeroCells, hz]
    omega
theorem Rel.flag (h : Rel g s S w) {b : Nat} {B : XB} (hB : S.blk b = some B) (hown : B.own = true) (hf : g.fl ≤ b) : Rel g s ⟨S.hp.set (some (.cells { B with fz := B.cs.length, own := false })) b, S.nx⟩ w := by
  have hb := blk_some hB
  obtain ⟨e, arr, ty, he, hh, hrow⟩ := h.row hB
  refine h.upd hb he hf rfl (fun _ _ => rfl) rfl rfl rfl hh ⟨arr, ty, rfl, ⟨hrow.cs, hrow.one, fun e => (by cases e), hrow.lb⟩⟩ ?_
  intro b' o2 e2 hne hb' he' hq
  obtain ⟨B1, B2, e1, rfl, h8, h9⟩ := h.ali b b' _ o2 e e2 (Ne.symm hne) hb hb' he he' hq.symm
  cases e1
  obtain ⟨B3, B4, e3, e4, h10, h11⟩ := h.ali b' b _ _ e2 e hne hb' hb he' he hq
  cases e3; cases e4
  obtain ⟨e2', ob2, h12, h13, arr2, ty2, rfl, hr2⟩ := h.obj b' _ hb'
  rw [he'] at h12; cases h12
  rw [hq, hh] at h13; cases h13
  refine ⟨⟨_, _, rfl, hr2⟩, ⟨_, _, rfl, rfl, fun i i' hi hi' hp => ⟨hi, (h8 i i' hi hi' hp).2⟩, fun e => (by cases e)⟩, ⟨_, _, rfl, rfl, fun i i' hi hi' hp => ⟨(h10 i i' hi hi' hp).1, hi'⟩, fun ho => ?_⟩⟩
  have := h11 ho
  rw [hown] at this
  cases this.1
end
end Go.Proofs.YtlibeobmdjeilaaGreatDoor.Ex
namespace Go.Proofs.YtlibeobmdjeilaaGreatDoor.Ex
open Go Go.RowKit
section
variable {P : Program} {C : Ctx} {g : Gh} {s : Env} {S : St} {w : World} {fr : Fr} {a : Act}
theorem Rel.move (h : Rel g s S w) {b : Nat} {B : XB} (hB : S.blk b = some B) (hown : B.own = true) (hf : g.fl ≤ b) {o k len n sz : Nat} (ho : o = k * sz) (hsz : B.sz = sz) (hend : o + len * sz = B.cs.length) (h0 : 0 < sz) {new : List XV} {news : List Value} (hn : VRs s new news) (h1 : new.all XV.one = true) (hnl : new.length = n * sz) (hn0 : 0 < n)
    {e : E} (he : s b = some e) (hroom : len + n ≤ e.tot - k) {arr : Array Value} {ty : TypeId} (hh : w.heap[e.blk]? = some (.cells arr ty (0, 0))) :
    e.sh + B.cs.length + news.length ≤ arr.size ∧ ∃ t : Env, s.le t ∧ t S.nx = some ⟨e.blk, e.sh + o, e.tot - k⟩ ∧
      Rel g t (St.new ⟨S.hp.set (some (.cells { B with fz := B.cs.length, own := false })) b, S.nx⟩ (.cells ⟨B.cs.drop o ++ new, sz, len * sz, true, len + n⟩)) (w.setRow e.blk (wr arr (e.sh + B.cs.length) news)) := by
  have hb := blk_some hB
  obtain ⟨e', arr', ty', he', hh', hrow⟩ := h.row hB
  rw [he] at he'; cases he'
  rw [hh] at hh'; cases hh'
  have hol := hrow.own hown
  rw [hsz] at hol
  have hnl' := hn.length
  have hk : k + (len + n) ≤ e.tot := by omega
  have hmul : (k + (len + n)) * sz ≤ e.tot * sz := Nat.mul_le_mul_right _ hk
  have hexp : (k + (len + n)) * sz = B.cs.length + n * sz := by rw [Nat.add_mul, Nat.add_mul, ← ho, ← hend]; omega
  have hnz : 0 < n * sz := Nat.mul_pos hn0 h0
  have hfit : e.sh + B.cs.length + news.length ≤ arr.size := by omega
  refine ⟨hfit, ?_⟩
  have hnone : s S.nx = none := by
    cases q : s S.nx with
    | none => rfl
    | some x => exact absurd (h.dom _ _ q) (Nat.lt_irrefl _)
  have hle := Env.upd_le hnone ⟨e.blk, e.sh + o, e.tot - k⟩
  have hbn : b ≠ S.nx := fun q => by rw [q, hnone] at he; cases he
  refine ⟨_, hle, by simp, ?_⟩
  generalize hF : ({ B with fz := B.cs.length, own := false } : XB) = F
  generalize hN : (⟨B.cs.drop o ++ new, sz, len * sz, true, len + n⟩ : XB) = N
  have hFc : F.cs = B.cs := by rw [← hF]
  have hFf : F.fz = B.cs.length := by rw [← hF]
  have hFo : F.own = false := by rw [← hF]
  have hNl : N.cs.length = len * sz + n * sz := by rw [← hN]; simp only [List.length_append, List.length_drop]; omega
  have hNf : N.fz = len * sz := by rw [← hN]
  have hNo : N.own = true := by rw [← hN]
  have hget : ∀ b1 o1, (St.new ⟨S.hp.set (some (.cells F)) b, S.nx⟩ (.cells N)).hp.get b1 = some o1 → (b1 = S.nx ∧ o1 = .cells N) ∨ (b1 ≠ S.nx ∧ b1 = b ∧ o1 = .cells F) ∨ (b1 ≠ S.nx ∧ b1 ≠ b ∧ S.hp.get b1 = some o1) := by
    intro b1 o1 hb1
    simp only [St.new, T.get_set] at hb1
    by_cases q : b1 = S.nx
    · rw [if_pos q] at hb1; exact .inl ⟨q, by cases hb1; rfl⟩
    · rw [if_neg q] at hb1
      by_cases q2 : b1 = b
      · rw [if_pos q2] at hb1; exact .inr (.inl ⟨q, q2, by cases hb1; rfl⟩)
      · rw [if_neg q2] at hb1; exact .inr (.inr ⟨q, q2, hb1⟩)
  -- other names of the same block
  have hoth : ∀ b' o2 e2, b' ≠ b → S.hp.get b' = some o2 → s b' = some e2 → e2.blk = e.blk → ∃ B2, o2 = .cells B2 ∧ RowR s B2 e2 arr ∧ (∀ i i', i < B.cs.length → i' < B2.cs.length → e.sh + i = e2.sh + i' → i < B.fz ∧ i' < B2.fz) ∧ B2.own = false ∧ e2.sh + B2.cs.length ≤ e.sh + B.cs.length := by
    intro b' o2 e2 hne hb' he2 hq
    obtain ⟨B1, B2, e1, rfl, h8, h9⟩ := h.ali b b' _ o2 e e2 (Ne.symm hne) hb hb' he he2 hq.symm
    cases e1
    obtain ⟨e2', ob2, h12, h13, arr2, ty2, rfl, hr2⟩ := h.obj b' _ hb'
    rw [he2] at h12; cases h12
    rw [hq, hh] at h13; cases h13
    exact ⟨B2, rfl, hr2, h8, (h9 hown).1, (h9 hown).2⟩
  have hheap : ∀ j, j ≠ e.blk → (w.setRow e.blk (wr arr (e.sh + B.cs.length) news)).heap[j]? = w.heap[j]? := fun j hj => setRow_other _ _ _ _ hj
  have hheap' : (w.setRow e.blk (wr arr (e.sh + B.cs.length) news)).heap[e.blk]? = some (.cells (wr arr (e.sh + B.cs.length) news) ty (0, 0)) := setRow_heap w e.blk arr _ ty (0, 0) hh
  have hnp := h.npr b _ e hb he hf
  refine ⟨?_, ?_, ?_, ?_, h.nf, fun j hj => ?_, Nat.le_succ_of_le h.fl, fun j hj => ?_, ?_, ?_, fun b1 hb1 => ?_, let ⟨tot, h1⟩ := h.zero; ⟨tot, hle _ _ h1⟩⟩
  · intro b1 e1 h2
    show b1 < S.nx + 1
    by_cases q : b1 = S.nx
    · omega
    · simp [q] at h2; have := h.dom _ _ h2; omega
  · intro b1 o1 h2
    rcases hget b1 o1 h2 with ⟨rfl, rfl⟩ | ⟨q1, rfl, rfl⟩ | ⟨q1, q2, h3⟩
    · refine ⟨⟨e.blk, e.sh + o, e.tot - k⟩, _, by simp, hheap', _, ty, rfl, ⟨fun i x hx => ?_, ?_, fun _ => ?_, ?_⟩⟩
      · rw [← hN] at hx
        change (B.cs.drop o ++ new)[i]? = some x at hx
        show ∃ v, (wr arr (e.sh + B.cs.length) news)[e.sh + o + i]? = some v ∧ VR _ x v
        rw [wr_get hfit]
        by_cases hi : i < (B.cs.drop o).length
        · rw [List.getElem?_append_left hi, List.getElem?_drop] at hx
          simp only [List.length_drop] at hi
          rw [if_neg (by omega)]
          obtain ⟨v, h4, h5⟩ := hrow.cs _ _ hx
          exact ⟨v, by rw [Nat.add_assoc]; exact h4, h5.mono hle⟩
        · rw [List.getElem?_append_right (by omega)] at hx
          simp only [List.length_drop] at hi hx
          obtain ⟨v, h4, h5⟩ := hn.get hx
          have hlt := (List.getElem?_eq_some_iff.1 h4).1
          rw [if_pos (by omega)]
          refine ⟨v, ?_, h5.mono hle⟩
          rw [← h4]; congr 1; omega
      · rw [← hN]
        show (B.cs.drop o ++ new).all XV.one = true
        rw [List.all_append, h1, Bool.and_true, List.all_eq_true]
        intro x hx
        exact List.all_eq_true.1 hrow.one x (List.mem_of_mem_drop hx)
      · rw [wr_size hfit, ← hN]
        show e.sh + o + (e.tot - k) * sz ≤ arr.size
        have : (e.tot - k) * sz = e.tot * sz - k * sz := Nat.sub_mul _ _ _
        have hkm : k * sz ≤ e.tot * sz := Nat.mul_le_mul_right _ (by omega)
        omega
      · rw [← hN]; exact hroom
    · refine ⟨e, _, hle _ _ he, hheap', _, ty, rfl, ?_⟩
      have hr : RowR s F e arr := ⟨by rw [hFc]; exact hrow.cs, by rw [hFc]; exact hrow.one, fun q => (by rw [hFo] at q; cases q), by rw [← hF]; exact hrow.lb⟩
      exact (hr.other hfit fun i hi hp => by rw [hFc] at hi; omega).mono hle
    · obtain ⟨e1, ob1, h4, h5, h6⟩ := h.obj b1 o1 h3
      by_cases hq : e1.blk = e.blk
      · obtain ⟨B2, rfl, hr2, _, _, h9⟩ := hoth b1 o1 e1 q2 h3 h4 hq
        exact ⟨e1, _, hle _ _ h4, by rw [hq]; exact hheap', _, ty, rfl, (hr2.other hfit fun i hi hp => by omega).mono hle⟩
      · exact ⟨e1, ob1, hle _ _ h4, by rw [hheap _ hq]; exact h5, h6.mono hle⟩
  · intro b1 e1 h2 h3
    by_cases q : b1 = S.nx
    · subst q; simp at h2; subst h2; exact h.new b e he hf
    · simp [q] at h2; exact h.new b1 e1 h2 h3
  · have hnf := h.new b e he hf
    exact ⟨h.blw.os, h.blw.tape, h.blw.output, by rw [setRow_size]; exact h.blw.size, fun j hj => (hheap j (by omega)).trans (h.blw.block j hj)⟩
  · obtain ⟨e1, h2, h3⟩ := h.glb j hj
    exact ⟨e1, hle _ _ h2, h3⟩
  · obtain ⟨h4, h5⟩ := h.pr j hj
    exact ⟨by rw [setRow_size]; exact h4, (hheap j fun q => hnp (q ▸ hj)).trans h5⟩
  · intro b1 o1 e1 h2 h3 hf1
    rcases hget b1 o1 h2 with ⟨rfl, rfl⟩ | ⟨q1, rfl, rfl⟩ | ⟨q1, q2, h4⟩
    · simp at h3; subst h3; exact hnp
    · simp [q1] at h3; rw [he] at h3; cases h3; exact hnp
    · simp [q1] at h3; exact h.npr b1 o1 e1 h4 h3 hf1
  · intro b1 b2 o1 o2 e1 e2 hne h2 h3 h4 h5 hq
    rcases hget b1 o1 h2 with ⟨rfl, rfl⟩ | ⟨q1, rfl, rfl⟩ | ⟨q1, q2, h6⟩ <;> rcases hget b2 o2 h3 with ⟨rfl, rfl⟩ | ⟨q3, rfl, rfl⟩ | ⟨q3, q4, h7⟩
    · exact absurd rfl hne
    · simp at h4; subst h4
      simp [q3] at h5; rw [he] at h5; cases h5
      refine ⟨N, F, rfl, rfl, fun i i' hi hi' hp => ?_, fun _ => ⟨hFo, ?_⟩⟩
      · simp only at hp; rw [hFc] at hi'; rw [hNf, hFf]; omega
      · rw [hFc, hNl]; simp only; omega
    · simp at h4; subst h4
      simp [q3] at h5
      obtain ⟨B2, rfl, _, h8, h9, h10⟩ := hoth b2 o2 e2 q4 h7 h5 hq.symm
      refine ⟨N, B2, rfl, rfl, fun i i' hi hi' hp => ?_, fun _ => ⟨h9, ?_⟩⟩
      · simp only at hp
        have h11 : o + i < B.cs.length := by omega
        have := h8 (o + i) i' h11 hi' (by omega)
        rw [hNf]; omega
      · rw [hNl]; simp only; omega
    · simp at h5; subst h5
      simp [q1] at h4; rw [he] at h4; cases h4
      refine ⟨F, N, rfl, rfl, fun i i' hi hi' hp => ?_, fun q => by rw [hFo] at q; cases q⟩
      simp only at hp; rw [hFc] at hi; rw [hNf, hFf]; omega
    · exact absurd rfl hne
    · simp [q1] at h4; rw [he] at h4; cases h4
      simp [q3] at h5
      obtain ⟨B2, rfl, _, h8, h9, h10⟩ := hoth b2 o2 e2 q4 h7 h5 hq.symm
      refine ⟨F, B2, rfl, rfl, fun i i' hi hi' hp => ?_, fun q => by rw [hFo] at q; cases q⟩
      rw [hFc] at hi
      exact ⟨by rw [hFf]; exact hi, (h8 i i' hi hi' hp).2⟩
    · simp at h5; subst h5
      simp [q1] at h4
      obtain ⟨B2, rfl, _, h8, h9, h10⟩ := hoth b1 o1 e1 q2 h6 h4 hq
      refine ⟨B2, N, rfl, rfl, fun i i' hi hi' hp => ?_, fun q => by rw [h9] at q; cases q⟩
      simp only at hp
      have h11 : o + i' < B.cs.length := by omega
      have := h8 (o + i') i h11 hi (by omega)
      rw [hNf]; omega
    · simp [q3] at h5; rw [he] at h5; cases h5
      simp [q1] at h4
      obtain ⟨B2, rfl, _, h8, h9, h10⟩ := hoth b1 o1 e1 q2 h6 h4 hq
      refine ⟨B2, F, rfl, rfl, fun i i' hi hi' hp => ?_, fun q => by rw [h9] at q; cases q⟩
      rw [hFc] at hi'
      exact ⟨(h8 i' i hi' hi hp.symm).2, by rw [hFf]; exact hi'⟩
    · simp [q1] at h4; simp [q3] at h5
      exact h.ali b1 b2 o1 o2 e1 e2 hne h6 h7 h4 h5 hq
  · obtain ⟨h2, h3⟩ := h.res b1 hb1
    refine ⟨?_, Nat.lt_succ_of_lt h3⟩
    show (if b1 = S.nx then _ else s b1) = none
    rw [if_neg (by omega)]
    exact h2
end
end Go.Proofs.YtlibeobmdjeilaaGreatDoor.Ex
