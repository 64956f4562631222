/- The executor and what it leans on (PG): told in wip/x. -/
import Derived.Test.YtlibeobmdjeilaaGreatDoorPF
import Derived.Laws.StructEq
import Derived.Lib.IndexMore
import Derived.Deep.Draws
set_option linter.all false
namespace Go.Proofs.YtlibeobmdjeilaaGreatDoor.Ex
open Go Go.RowKit
def fldsB (P : Program) : List Field → Bool
  | [] => true
  | f :: fs => (match P.info? f.type with | some _ => true | none => false) && fldsB P fs
def undB (P : Program) : TypeDesc → Bool
  | .struct fs => fldsB P fs.toList
  | _ => true
def shapeV (u : TypeDesc) (n : Nat) (z : Value) : Bool := match isAg u, z with
  | true, .agg _ => true
  | true, _ => false
  | false, .agg _ => false
  | false, _ => Nat.beq n 1
def tyOf (P : Program) (t : Nat) : Option TI := match P.underlying t, P.info? t with
  | some u, some ti => match ti.zero with
    | some z => match xvs1 z.cells.toList with
      | some xs => match Nat.beq xs.length ti.size && shapeV u ti.size z && undB P u with
        | true => some ⟨u, ti.size, ti.bytes, xs⟩
        | false => none
      | none => none
    | none => none
  | _, _ => none
def eqFB (P : Program) : List Field → List XV → Nat → Bool
  | [], [], _ => true
  | f :: fs, x :: l, i => (match P.underlying f.type, x with
    | some (.int _), .int _ _ => true
    | some .string, .str _ => true
    | some .bool, .bool _ => true
    | _, _ => false) && !(f.name == "_") && Nat.beq f.offset i && eqFB P fs l (i + 1)
  | _, _, _ => false
def eqOf (P : Program) (eqs : List Nat) (t : Nat) (l : List XV) : Bool := eqs.any (fun u => Nat.beq u t) && match P.underlying t with
  | some (.struct fs) => eqFB P fs.toList l 0
  | _ => false
def eqsOk (P : Program) (eqs : List Nat) : Bool := eqs.all fun t => !(P.stoodInHeld t) && !(P.eqGuardType P.depth t)
def ctxP (P : Program) (eqs : List Nat) (orc : Nat → List XV → St → Option XV) : Ctx := ⟨0, tyOf P, fun f => P.funcs[f]?, orc, eqOf P eqs⟩
section
variable {P : Program} {s : Env} {w : World}
theorem fldsB_ok : ∀ {fs : List Field}, fldsB P fs = true → ∀ f ∈ fs, ∃ ti, P.info? f.type = some ti
  | [], _, f, hf => by cases hf
  | g :: fs, h, f, hf => by
    simp only [fldsB, Bool.and_eq_true] at h
    rcases List.mem_cons.1 hf with q | hf
    · subst q
      cases hi : P.info? f.type with
      | none => have := h.1; rw [hi] at this; cases this
      | some ti => exact ⟨ti, rfl⟩
    · exact fldsB_ok h.2 f hf
theorem tyOf_ok {t : Nat} {i : TI} (h : tyOf P t = some i) : P.underlying t = some i.und ∧ undB P i.und = true ∧ ∃ ti z, P.info? t = some ti ∧ ti.size = i.size ∧ ti.bytes = i.bytes ∧ ti.zero = some z ∧ xvs1 z.cells.toList = some i.zero ∧ i.zero.length = i.size ∧ (isAg i.und = true → ∃ cs, z = .agg cs) ∧ (isAg i.und = false → i.size = 1 ∧ z.cells = #[z]) := by
  unfold tyOf at h
  split at h
  · rename_i u ti hu hti
    cases hz : ti.zero with
    | none => rw [hz] at h; cases h
    | some z =>
      rw [hz] at h; dsimp only at h
      cases hx : xvs1 z.cells.toList with
      | none => rw [hx] at h; cases h
      | some xs =>
        rw [hx] at h; dsimp only at h
        cases hb : (Nat.beq xs.length ti.size && shapeV u ti.size z && undB P u) with
        | false => rw [hb] at h; cases h
        | true =>
          rw [hb] at h; cases h
          rw [Bool.and_eq_true, Bool.and_eq_true] at hb
          refine ⟨hu, hb.2, ti, z, hti, rfl, rfl, hz, hx, bnot_eq.1 hb.1.1, fun ha => ?_, fun ha => ?_⟩
          · have h1 := hb.1.2
            unfold shapeV at h1
            rw [show isAg u = true from ha] at h1
            cases z <;> simp only at h1 <;> first | (cases h1; done) | exact ⟨_, rfl⟩
          · have h1 := hb.1.2
            unfold shapeV at h1
            rw [show isAg u = false from ha] at h1
            cases z <;> simp only at h1 <;> first | (cases h1; done) | exact ⟨bnot_eq.1 h1, rfl⟩
  · cases h
theorem part_cell {t off : Nat} {xs : Array Value} {v : Value} {d : TypeDesc} (hd : P.underlying t = some d) (ha : d = .bool ∨ d = .string ∨ ∃ k, d = .int k) (hx : xs[off]? = some v) : (part t xs off).run P w = .ok v w := by
  rcases ha with rfl | rfl | ⟨k, rfl⟩ <;> simp [part, isAgg, run_underlying hd, hx]
theorem eqF_ok {xs ys : Array Value} : ∀ {fs : List Field} {l m : List XV} {i : Nat} {vs ws : List Value} {r : Bool}, eqFB P fs l i = true → VRs s l vs → VRs s m ws → xs.toList.drop i = vs → ys.toList.drop i = ws → xeqs l m = some r → (Op.eqFields 9999 xs ys fs).run P w = .ok r w
  | [], [], m, i, vs, ws, r, h, hl, hm, h1, h2, hx => by
    cases m with
    | nil => simp only [xeqs] at hx; cases hx; rfl
    | cons _ _ => simp only [xeqs] at hx; cases hx
  | [], _ :: _, _, _, _, _, _, h, _, _, _, _, _ => by simp only [eqFB] at h; cases h
  | _ :: _, [], _, _, _, _, _, h, _, _, _, _, _ => by simp only [eqFB] at h; cases h
  | f :: fs, x :: l, m, i, vs, ws, r, h, hl, hm, h1, h2, hx => by
    simp only [eqFB, Bool.and_eq_true] at h
    obtain ⟨⟨⟨hk, hn⟩, ho⟩, hr⟩ := h
    have ho := bnot_eq.1 ho
    have hn : f.name ≠ "_" := by simpa using hn
    obtain ⟨u, us, rfl, h3, h4⟩ := hl
    cases m with
    | nil => simp only [xeqs] at hx; cases hx
    | cons y m =>
      obtain ⟨v, vs', rfl, h5, h6⟩ := hm
      have hxu : xs[f.offset]? = some u := by
        have h7 : (xs.toList.drop i)[0]? = some u := by rw [h1]; rfl
        rw [List.getElem?_drop, Array.getElem?_toList, Nat.add_zero] at h7
        rw [ho]; exact h7
      have hyv : ys[f.offset]? = some v := by
        have h7 : (ys.toList.drop i)[0]? = some v := by rw [h2]; rfl
        rw [List.getElem?_drop, Array.getElem?_toList, Nat.add_zero] at h7
        rw [ho]; exact h7
      have hxd : xs.toList.drop (i + 1) = us := by rw [← List.drop_drop, h1]; rfl
      have hyd : ys.toList.drop (i + 1) = vs' := by rw [← List.drop_drop, h2]; rfl
      simp only [xeqs] at hx
      cases hb : xeq1 x y with
      | none => rw [hb] at hx; cases hx
      | some b =>
        rw [hb] at hx
        have key : ∃ d, P.underlying f.type = some d ∧ (d = .bool ∨ d = .string ∨ ∃ k, d = .int k) ∧ (Op.equalIn 9999 f.type u v).run P w = .ok b w := by
          split at hk
          · rename_i k j a hu
            refine ⟨_, hu, .inr (.inr ⟨_, rfl⟩), ?_⟩
            cases y <;> simp only [xeq1] at hb <;> first | (cases hb; done) | skip
            rename_i j' c
            cases hq : keq j j' with
            | false => rw [hq] at hb; cases hb
            | true =>
              rw [hq] at hb; cases hb
              have := keq_eq hq; subst this
              rw [VR] at h3 h5; subst h3 h5
              rw [ieq_eq]
              exact run_equalIn_int w 9998 _ _ _ _ _ hu
          · rename_i a hu
            refine ⟨_, hu, .inr (.inl rfl), ?_⟩
            cases y <;> simp only [xeq1] at hb <;> first | (cases hb; done) | skip
            rename_i c
            cases hb
            rw [VR] at h3 h5; subst h3 h5
            rw [seq_eq]
            have := run_equalIn_string (P := P) w 9998 f.type ⟨⟨a⟩⟩ ⟨⟨c⟩⟩ hu
            rw [this, ByteArray.toList_eq, ByteArray.toList_eq]
          · rename_i a hu
            refine ⟨_, hu, .inl rfl, ?_⟩
            cases y <;> simp only [xeq1] at hb <;> first | (cases hb; done) | skip
            cases hb
            rw [VR] at h3 h5; subst h3 h5
            exact run_equalIn_bool' w 9998 _ _ _ hu
          · cases hk
        obtain ⟨d, hd1, hd2, hd3⟩ := key
        simp only [Op.eqFields]
        rw [if_pos hn, Sem.run_bind, part_cell hd1 hd2 hxu, Result.andThen_ok, Sem.run_bind, part_cell hd1 hd2 hyv, Result.andThen_ok, Sem.run_bind, hd3, Result.andThen_ok]
        cases b with
        | false => cases hx; rfl
        | true => exact eqF_ok hr h4 h6 hxd hyd hx
theorem ctx_ok {eqs : List Nat} (he : eqsOk P eqs = true) (orc : Nat → List XV → St → Option XV) : CtxOk P (ctxP P eqs orc) := by
  refine ⟨fun t i h => ⟨(tyOf_ok h).1, (tyOf_ok h).2.2⟩, fun t i fs h hu f hf => ?_, fun f fn h => h, fun t l hq s m vs ws r h1 h2 h3 w x y => ?_⟩
  · have h1 := (tyOf_ok h).2.1
    rw [hu] at h1
    exact fldsB_ok h1 f hf
  · change eqOf P eqs t l = true at hq
    unfold eqOf at hq
    rw [Bool.and_eq_true, List.any_eq_true] at hq
    obtain ⟨⟨u, hu, hut⟩, hq⟩ := hq
    have := bnot_eq.1 hut; subst this
    have hg := List.all_eq_true.1 he u hu
    rw [Bool.and_eq_true, Bool.not_eq_true', Bool.not_eq_true'] at hg
    split at hq
    · rename_i fs hun
      have hf : P.fieldsOf u = fs := by unfold Program.fieldsOf; rw [hun]
      have hr : (Op.equalIn 10000 u (.agg ⟨vs⟩) (.agg ⟨ws⟩)).run P w = .ok r w := by
        rw [run_equalIn_struct w 9999 u _ _ (by rw [hf]; exact hun) hg.1, hf]
        exact eqF_ok hq h1 h2 rfl rfl h3
      constructor
      · rw [Sem.run_bind, run_eqGuard_agg w _ _ _ _ _ _ hg.2, Result.andThen_ok, run_eql_struct, hr]; rfl
      · rw [Sem.run_bind, run_eqGuard_agg w _ _ _ _ _ _ hg.2, Result.andThen_ok, run_neq_struct, hr]; rfl
    · cases hq
def noOrc : Nat → List XV → St → Option XV := fun _ _ _ => none
theorem noOrc_ok {C : Ctx} (h : C.orc = noOrc) : OrcOk P C := fun q s S w f args us x _ _ ho => by rw [h] at ho; cases ho
def namesB : List Func → Bool
  | [] => true
  | f :: fs => !(f.name == "runtime.NumGoroutine") && namesB fs
theorem namesB_ok : ∀ {fs : List Func}, namesB fs = true → ∀ f ∈ fs, f.name ≠ "runtime.NumGoroutine"
  | [], _, f, hf => by cases hf
  | g :: fs, h, f, hf => by
    simp only [namesB, Bool.and_eq_true] at h
    rcases List.mem_cons.1 hf with q | hf
    · subst q; simpa using h.1
    · exact namesB_ok h.2 f hf
def isTrue : Option (XV × St) → Bool
  | some (.bool true, _) => true
  | _ => false
end
end Go.Proofs.YtlibeobmdjeilaaGreatDoor.Ex
namespace Go.Proofs.YtlibeobmdjeilaaGreatDoor.Ex
open Go Go.RowKit
/-- Is block 0 known to hold an int? -/
noncomputable def mxB (S : St) : Bool := match S.hp.get 0 with
  | some (.cells B) => match B.cs with
    | .int .i64 _ :: _ => true
    | _ => false
  | _ => false
def cutV (p : List UInt8 × List UInt8 × Bool) : XV := .tup [.str p.1, .str p.2.1, .bool p.2.2]
noncomputable def orcT (cut nm : Nat) (nmF : List UInt8 → Bool) (f : Nat) (args : List XV) (S : St) : Option XV := match Nat.beq f cut with
  | true => match args, mxB S with
    | [.str s, .str t], true => match Nat.blt s.length 1000000 with
      | true => some (cutV (Lib.cut s t))
      | false => none
    | _, _ => none
  | false => match Nat.beq f nm with
    | true => match args, mxB S with
      | [.str s], true => match Nat.blt s.length 1000000 with
        | true => some (.bool (nmF s))
        | false => none
      | _, _ => none
    | false => none
def fnB (P : Program) (f : Nat) : Bool := match P.funcs[f]? with
  | some fn => fn.body.isSome && !(fn.name == "runtime.NumGoroutine")
  | none => false
def MxRow (w : World) : Prop := ∃ (arr : Array Value) (ty : TypeId) (m : Int), w.heap[0]? = some (.cells arr ty (0, 0)) ∧ arr[0]? = some (.int .i64 m)
section
variable {P : Program} {C : Ctx} {s : Env} {S : St} {w : World}
theorem Rel.ext {g : Gh} (h : Rel g s S w) {w' : World} (hb : Below w.heap.size w w') : Rel g s S w' := by
  have old : ∀ k, k < w.heap.size → w'.heap[k]? = w.heap[k]? := hb.block
  refine ⟨h.dom, fun b o hg => ?_, h.new, h.blw.trans (hb.mono (Nat.le_trans h.nf h.blw.size)), h.nf, h.glb, h.fl, fun k hk => ?_, h.npr, h.ali, h.res, h.zero⟩
  · obtain ⟨e, ob, h1, h2, h3⟩ := h.obj b o hg
    exact ⟨e, ob, h1, by rw [old _ (h.lt hg h1)]; exact h2, h3⟩
  · obtain ⟨h1, h2⟩ := h.pr k hk
    exact ⟨Nat.lt_of_lt_of_le h1 hb.size, (old k h1).trans h2⟩
theorem mx_ok {q : Gq} {fl : Nat} (h : Rel ⟨fl, q⟩ s S w) (hm : mxB S = true) : ∃ m, w.cell? ⟨0, 0, none⟩ = some (.int .i64 m) := by
  unfold mxB at hm
  cases hg : S.hp.get 0 with
  | none => rw [hg] at hm; cases hm
  | some o =>
    rw [hg] at hm
    cases o with
    | cells B =>
      dsimp only at hm
      obtain ⟨e, ob, h1, h2, arr, ty, rfl, hr⟩ := h.obj 0 _ hg
      obtain ⟨tot, h3⟩ := h.zero
      rw [h3] at h1; cases h1
      cases hc : B.cs with
      | nil => rw [hc] at hm; cases hm
      | cons x l =>
        rw [hc] at hm
        obtain ⟨v, h4, h5⟩ := hr.cs 0 x (by rw [hc]; rfl)
        cases x with
        | int k m =>
          rw [VR] at h5; subst h5
          cases k <;> first | (cases hm; done) | skip
          refine ⟨m, ?_⟩
          simp only [World.cell?, h2]
          simpa using h4
        | _ => cases hm
    | _ => cases hm
theorem fnB_ok {f : Nat} (h : fnB P f = true) (as : Array Value) (w : World) : (callFunc f as).run P w = .ok (.enter f as) w := by
  unfold fnB at h
  cases hf : P.funcs[f]? with
  | none => rw [hf] at h; cases h
  | some fn =>
    rw [hf] at h
    rw [Bool.and_eq_true] at h
    exact callFunc_run hf h.1 (by simpa using h.2) as
theorem orcT_ok {cut nm : Nat} {nmF : List UInt8 → Bool} (hC : C.orc = orcT cut nm nmF) (h1 : fnB P cut = true) (h2 : fnB P nm = true)
    (hcut : ∀ (s sep : ByteArray) (m : Int) (w : World), s.size < 4294967281 → w.cell? ⟨0, 0, none⟩ = some (.int .i64 m) → Calls P cut #[.string s, .string sep] w fun e w' => e = .returned (.tuple #[.string ⟨(Lib.cut s.data.toList sep.data.toList).1.toArray⟩, .string ⟨(Lib.cut s.data.toList sep.data.toList).2.1.toArray⟩, .bool (Lib.cut s.data.toList sep.data.toList).2.2]) ∧ ∃ n, w' = w.drewN n)
    (hnm : ∀ (w : World) (s : ByteArray), s.size ≤ 4294967200 → (∃ m, w.cell? ⟨0, 0, none⟩ = some (.int .i64 m)) → Calls P nm #[.string s] w fun o w' => o = .returned (.bool (nmF s.data.toList)) ∧ Below w.heap.size w w') : OrcOk P C := by
  intro q s S w f args us x h ha ho
  rw [hC] at ho
  unfold orcT at ho
  cases hf : Nat.beq f cut with
  | true =>
    have := bnot_eq.1 hf; subst this
    rw [hf] at ho; dsimp only at ho
    refine ⟨fnB_ok h1, fun n => callsIn_wide.2 ?_⟩
    split at ho
    · rename_i a b hm
      cases hl : Nat.blt a.length 1000000 with
      | false => rw [hl] at ho; cases ho
      | true =>
        rw [hl] at ho; cases ho
        obtain ⟨m, hm⟩ := mx_ok h hm
        obtain ⟨v1, us1, rfl, h3, v2, us2, rfl, h4, h5⟩ := ha
        rw [VRs] at h5; subst h5
        rw [VR] at h3 h4; subst h3 h4
        refine (hcut ⟨⟨a⟩⟩ ⟨⟨b⟩⟩ m w (Nat.lt_trans (blt_iff.1 hl) (by decide)) hm).mono ?_
        rintro e w' ⟨rfl, k, rfl⟩
        exact ⟨s, _, Env.le.rf s, rfl, ⟨[_, _, _], rfl, _, _, rfl, rfl, _, _, rfl, rfl, _, _, rfl, rfl, rfl⟩, h.same rfl rfl rfl rfl⟩
    · cases ho
  | false =>
    rw [hf] at ho; dsimp only at ho
    cases hf2 : Nat.beq f nm with
    | false => rw [hf2] at ho; cases ho
    | true =>
      have := bnot_eq.1 hf2; subst this
      rw [hf2] at ho; dsimp only at ho
      refine ⟨fnB_ok h2, fun n => callsIn_wide.2 ?_⟩
      split at ho
      · rename_i a hm
        cases hl : Nat.blt a.length 1000000 with
        | false => rw [hl] at ho; cases ho
        | true =>
          rw [hl] at ho; cases ho
          obtain ⟨v1, us1, rfl, h3, h5⟩ := ha
          rw [VRs] at h5; subst h5
          rw [VR] at h3; subst h3
          refine (hnm w ⟨⟨a⟩⟩ (Nat.le_trans (Nat.le_of_lt (blt_iff.1 hl)) (by decide)) (mx_ok h hm)).mono ?_
          rintro e w' ⟨rfl, hb⟩
          exact ⟨s, _, Env.le.rf s, rfl, rfl, h.ext hb⟩
      · cases ho
/-- What is known: of a program, with a floor of so many names. -/
def ctxN (n : Nat) (P : Program) (eqs : List Nat) (orc : Nat → List XV → St → Option XV) : Ctx := ⟨n, tyOf P, fun f => P.funcs[f]?, orc, eqOf P eqs⟩
theorem ctxN_ok {n : Nat} {eqs : List Nat} (he : eqsOk P eqs = true) (orc : Nat → List XV → St → Option XV) : CtxOk P (ctxN n P eqs orc) :=
  let h := ctx_ok he orc
  ⟨h.ty, h.flds, h.fn, h.eqt⟩
def ctx1 (P : Program) (eqs : List Nat) (orc : Nat → List XV → St → Option XV) : Ctx := ⟨1, tyOf P, fun f => P.funcs[f]?, orc, eqOf P eqs⟩
theorem ctx1_ok {eqs : List Nat} (he : eqsOk P eqs = true) (orc : Nat → List XV → St → Option XV) : CtxOk P (ctx1 P eqs orc) :=
  let h := ctx_ok he orc
  ⟨h.ty, h.flds, h.fn, h.eqt⟩
/-- Memory of which the first block alone is known. -/
noncomputable def S1 (m : Int) : St := ⟨T.leaf.set (some (.cells ⟨[.int .i64 m], 0, 0, false, 0⟩)) 0, 1⟩
def s1 : Env := fun b => if b = 0 then some ⟨0, 0, 0⟩ else none
theorem S1_get (m : Int) (b : Nat) (o : XO) (h : (S1 m).hp.get b = some o) : b = 0 ∧ o = .cells ⟨[.int .i64 m], 0, 0, false, 0⟩ := by
  unfold S1 at h
  simp only [T.get_set] at h
  by_cases q : b = 0
  · rw [if_pos q] at h; exact ⟨q, by cases h; rfl⟩
  · rw [if_neg q] at h; rw [T.get_leaf] at h; cases h
theorem Rel.start1 {arr : Array Value} {ty : TypeId} {m : Int} (h0 : w.heap[0]? = some (.cells arr ty (0, 0))) (h1 : arr[0]? = some (.int .i64 m)) : Rel ⟨1, ⟨w.heap.size, w, fun _ => False, w, fun _ => False⟩⟩ s1 (S1 m) w := by
  have hlt : 0 < w.heap.size := (Array.getElem?_eq_some_iff.1 h0).1
  have hs : ∀ b e, s1 b = some e → b = 0 ∧ e = ⟨0, 0, 0⟩ := fun b e h => by
    unfold s1 at h
    by_cases q : b = 0
    · rw [if_pos q] at h; cases h; exact ⟨q, rfl⟩
    · rw [if_neg q] at h; cases h
  refine ⟨fun b e h => ?_, fun b o h => ?_, fun b e h hf => ?_, Below.refl _ _, Nat.le_refl _, fun k hk => ⟨⟨0, 0, 0⟩, ?_, hlt⟩, Nat.le_refl _, fun k h => h.elim, fun b o e h he hf hp => hp, fun b b' o o' e e' hne h h' => ?_, fun b h => h.elim, ⟨0, rfl⟩⟩
  · rw [(hs b e h).1]; exact Nat.zero_lt_one
  · obtain ⟨rfl, rfl⟩ := S1_get m b o h
    refine ⟨⟨0, 0, 0⟩, _, rfl, h0, arr, ty, rfl, ⟨fun i x hx => ?_, rfl, fun q => (by cases q), Nat.le_refl _⟩⟩
    cases i with
    | zero => cases hx; exact ⟨_, h1, rfl⟩
    | succ i => simp at hx
  · have := (hs b e h).1
    subst this
    exact absurd hf (by simp)
  · have : k = 0 := by simp at hk; exact hk
    subst this; rfl
  · exact absurd ((S1_get m b o h).1.trans (S1_get m b' o' h').1.symm) hne
/-- A CLOSED CALL that may cut strings and test names. -/
theorem closed1 (eqs : List Nat) {cut nm : Nat} {nmF : List UInt8 → Bool} (he : eqsOk P eqs = true) (hn : namesB P.funcs.toList = true) (hmo : P.follows .mixedOrders = true) (h1 : fnB P cut = true) (h2 : fnB P nm = true)
    (hcut : ∀ (s sep : ByteArray) (m : Int) (w : World), s.size < 4294967281 → w.cell? ⟨0, 0, none⟩ = some (.int .i64 m) → Calls P cut #[.string s, .string sep] w fun e w' => e = .returned (.tuple #[.string ⟨(Lib.cut s.data.toList sep.data.toList).1.toArray⟩, .string ⟨(Lib.cut s.data.toList sep.data.toList).2.1.toArray⟩, .bool (Lib.cut s.data.toList sep.data.toList).2.2]) ∧ ∃ n, w' = w.drewN n)
    (hnm : ∀ (w : World) (s : ByteArray), s.size ≤ 4294967200 → (∃ m, w.cell? ⟨0, 0, none⟩ = some (.int .i64 m)) → Calls P nm #[.string s] w fun o w' => o = .returned (.bool (nmF s.data.toList)) ∧ Below w.heap.size w w')
    {lim k f : Nat} {args : List XV} {us : List Value} (ha : ∀ s, VRs s args us) (hx : ∀ m, isTrue (X (ctx1 P eqs (orcT cut nm nmF)) lim k true f args (S1 m)) = true) (w : World) (hw : MxRow w) :
    Calls P f ⟨us⟩ w fun o w' => o = .returned (.bool true) ∧ Below w.heap.size w w' := by
  obtain ⟨arr, ty, m, hw1, hw2⟩ := hw
  refine (callsIn_wide (n := 0)).1 ?_
  have hx := hx m
  cases hr : X (ctx1 P eqs (orcT cut nm nmF)) lim k true f args (S1 m) with
  | none => rw [hr] at hx; cases hx
  | some p =>
    obtain ⟨x, S'⟩ := p
    rw [hr] at hx
    have hxt : x = .bool true := by
      cases x with
      | bool b => cases b with
        | true => rfl
        | false => cases hx
      | _ => cases hx
    subst hxt
    have h3 := exec_ok (ctx1_ok he (orcT cut nm nmF)) (orcT_ok rfl h1 h2 hcut hnm) (fun f fn hf => namesB_ok hn fn (Array.mem_toList_iff.2 (Array.mem_of_getElem? hf))) hmo lim k
    obtain ⟨_, h4⟩ := h3 _ _ _ w f args us _ S' (Rel.start1 hw1 hw2) (ha _) hr
    refine (h4 0).mono ?_
    rintro o w' ⟨t, v, _, rfl, h5, h6⟩
    rw [VR] at h5; subst h5
    exact ⟨rfl, h6.blw⟩
end
end Go.Proofs.YtlibeobmdjeilaaGreatDoor.Ex
namespace Go.Proofs.YtlibeobmdjeilaaGreatDoor.Ex
open Go Go.RowKit
variable {P : Program}
/-- A CLOSED CALL that may cut strings and test names, by the lean executor. -/
theorem closedY (eqs : List Nat) {cut nm : Nat} {nmF : List UInt8 → Bool} (he : eqsOk P eqs = true) (hn : namesB P.funcs.toList = true) (hmo : P.follows .mixedOrders = true) (h1 : fnB P cut = true) (h2 : fnB P nm = true)
    (hcut : ∀ (s sep : ByteArray) (m : Int) (w : World), s.size < 4294967281 → w.cell? ⟨0, 0, none⟩ = some (.int .i64 m) → Calls P cut #[.string s, .string sep] w fun e w' => e = .returned (.tuple #[.string ⟨(Lib.cut s.data.toList sep.data.toList).1.toArray⟩, .string ⟨(Lib.cut s.data.toList sep.data.toList).2.1.toArray⟩, .bool (Lib.cut s.data.toList sep.data.toList).2.2]) ∧ ∃ n, w' = w.drewN n)
    (hnm : ∀ (w : World) (s : ByteArray), s.size ≤ 4294967200 → (∃ m, w.cell? ⟨0, 0, none⟩ = some (.int .i64 m)) → Calls P nm #[.string s] w fun o w' => o = .returned (.bool (nmF s.data.toList)) ∧ Below w.heap.size w w')
    {lim k f : Nat} {args : List XV} {us : List Value} (ha : ∀ s, VRs s args us) (hx : ∀ m, isTrue (Y (ctx1 P eqs (orcT cut nm nmF)) lim k true f args (S1 m)) = true) (w : World) (hw : MxRow w) :
    Calls P f ⟨us⟩ w fun o w' => o = .returned (.bool true) ∧ Below w.heap.size w w' :=
  closed1 eqs he hn hmo h1 h2 hcut hnm (lim := lim) (k := k) ha (fun m => by rw [← Y_eq]; exact hx m) w hw
end Go.Proofs.YtlibeobmdjeilaaGreatDoor.Ex
namespace Go.Proofs.YtlibeobmdjeilaaGreatDoor.Ex
open Go Go.RowKit
noncomputable section
/-- Arguments, and the rows that they lead to: rows 1, 2, ..: at least so many elements, the cells. -/
structure Key where
  args : List XV
  rows : List (Nat × List XV)
def rowsT : List (Nat × List XV) → Nat → T XO → T XO
  | [], _, t => t
  | r :: l, i, t => rowsT l (i + 1) (t.set (some (.cells ⟨r.2, 0, r.2.length, false, r.1⟩)) i)
def S0 (m : Int) (rows : List (Nat × List XV)) : St := ⟨rowsT rows 1 (T.leaf.set (some (.cells ⟨[.int .i64 m], 0, 1, false, 0⟩)) 0), rows.length + 1⟩
def assoc : List (Nat × Nat) → Nat → Option Nat
  | [], _ => none
  | p :: l, b => match Nat.beq p.1 b with
    | true => some p.2
    | false => assoc l b
/-- The name here that stands for name b there. -/
def lk (n : Nat) (r : List (Nat × Nat)) (b : Nat) : Option Nat := match Nat.ble 1 b && Nat.ble b n with
  | true => assoc r b
  | false => none
def lkB (n : Nat) (r : List (Nat × Nat)) (b c : Nat) : Bool := match lk n r b with
  | some d => Nat.beq d c
  | none => false
mutual
def eqv (n : Nat) (r : List (Nat × Nat)) : XV → XV → Bool
  | .bool a, y => (XV.bool a).beq y
  | .int k a, y => (XV.int k a).beq y
  | .str s, y => (XV.str s).beq y
  | .nilp, y => XV.nilp.beq y
  | .nsl, y => XV.nsl.beq y
  | .esl, y => XV.esl.beq y
  | .nmap, y => XV.nmap.beq y
  | .nfn, y => XV.nfn.beq y
  | .ptr b o, .ptr c p => lkB n r b c && Nat.beq o p
  | .sl b o k c, .sl d p j e => lkB n r b d && Nat.beq o p && Nat.beq k j && c.beq e
  | .agg l, .agg m => eqvs n r l m
  | _, _ => false
def eqvs (n : Nat) (r : List (Nat × Nat)) : List XV → List XV → Bool
  | [], [] => true
  | a :: l, b :: m => eqv n r a b && eqvs n r l m
  | _, _ => false
end
def eqvp (n : Nat) (r : List (Nat × Nat)) : List XV → List XV → Bool
  | [], _ => true
  | a :: l, b :: m => eqv n r a b && eqvp n r l m
  | _ :: _, [] => false
def veri (n : Nat) (r : List (Nat × Nat)) (S : St) : List (Nat × List XV) → Nat → Bool
  | [], _ => true
  | p :: l, i => (match lk n r i with
    | some b => (match S.blk b with
      | some B => Nat.ble p.1 B.lb && eqvp n r p.2 B.cs
      | none => false)
    | none => false) && veri n r S l (i + 1)
def zipX : List XV → List XV → List (XV × XV) → List (XV × XV)
  | a :: l, b :: m, r => (a, b) :: zipX l m r
  | _, _, r => r
def rowOf : List (Nat × List XV) → Nat → List XV
  | p :: _, 1 => p.2
  | _ :: l, i + 1 => rowOf l i
  | _, _ => []
def csOf (S : St) (b : Nat) : List XV := match S.blk b with
  | some B => B.cs
  | none => []
/-- Names that stand for one another, as they are met; found, not proved. -/
def fnd (rows : List (Nat × List XV)) (S : St) : Nat → List (XV × XV) → List (Nat × Nat) → List (Nat × Nat)
  | 0, _, r => r
  | _ + 1, [], r => r
  | k + 1, (x, y) :: l, r => match x, y with
    | .sl b _ _ _, .sl c _ _ _ => match assoc r b with
      | some _ => fnd rows S k l r
      | none => fnd rows S k (zipX (rowOf rows b) (csOf S c) l) ((b, c) :: r)
    | .ptr b _, .ptr c _ => match assoc r b with
      | some _ => fnd rows S k l r
      | none => fnd rows S k (zipX (rowOf rows b) (csOf S c) l) ((b, c) :: r)
    | .agg a, .agg c => fnd rows S k (zipX a c l) r
    | _, _ => fnd rows S k l r
def hitR (k : Key) (args : List XV) (S : St) (r : List (Nat × Nat)) : Bool := eqvs k.rows.length r k.args args && veri k.rows.length r S k.rows 1
def hit (k : Key) (args : List XV) (S : St) : Bool := hitR k args S (fnd k.rows S 3000 (zipX k.args args []) [])
def onesB (rows : List (Nat × List XV)) : Bool := rows.all fun p => p.2.all XV.one
/-- Memory in which a key's rows lie. -/
structure Sit (s0 : Env) (rows : List (Nat × List XV)) (w : World) : Prop where
  zero : s0 0 = some ⟨0, 0, 0⟩
  mx : MxRow w
  row : ∀ (j lb : Nat) (cs : List XV), rows[j]? = some (lb, cs) → ∃ e arr ty, s0 (j + 1) = some e ∧ w.heap[e.blk]? = some (.cells arr ty (0, 0)) ∧ RowR s0 ⟨cs, 0, cs.length, false, lb⟩ e arr
  dom : ∀ b e, s0 b = some e → b < rows.length + 1
section
variable {P : Program} {s : Env} {S : St} {w : World}
theorem rowsT_get : ∀ (rows : List (Nat × List XV)) (i : Nat) (t : T XO) (b : Nat) (o : XO), (rowsT rows i t).get b = some o → (b < i ∨ rows.length + i ≤ b) ∧ t.get b = some o ∨ ∃ j lb cs, rows[j]? = some (lb, cs) ∧ b = i + j ∧ o = .cells ⟨cs, 0, cs.length, false, lb⟩
  | [], i, t, b, o, h => .inl ⟨by simp; omega, h⟩
  | p :: l, i, t, b, o, h => by
    rcases rowsT_get l (i + 1) _ b o h with ⟨h1, h2⟩ | ⟨j, lb, cs, h1, h2, h3⟩
    · rw [T.get_set] at h2
      by_cases q : b = i
      · rw [if_pos q] at h2; cases h2
        exact .inr ⟨0, p.1, p.2, rfl, q, rfl⟩
      · rw [if_neg q] at h2
        refine .inl ⟨?_, h2⟩
        simp only [List.length_cons]
        omega
    · exact .inr ⟨j + 1, lb, cs, by simpa using h1, by omega, h3⟩
theorem S0_get {m : Int} {rows : List (Nat × List XV)} {b : Nat} {o : XO} (h : (S0 m rows).hp.get b = some o) : (b = 0 ∧ o = .cells ⟨[.int .i64 m], 0, 1, false, 0⟩) ∨ ∃ j lb cs, rows[j]? = some (lb, cs) ∧ b = j + 1 ∧ o = .cells ⟨cs, 0, cs.length, false, lb⟩ := by
  rcases rowsT_get rows 1 _ b o h with ⟨_, h2⟩ | ⟨j, lb, cs, h1, h2, h3⟩
  · rw [T.get_set] at h2
    by_cases q : b = 0
    · rw [if_pos q] at h2; cases h2; exact .inl ⟨q, rfl⟩
    · rw [if_neg q, T.get_leaf] at h2; cases h2
  · exact .inr ⟨j, lb, cs, h1, by omega, h3⟩
theorem Rel.sit {s0 : Env} {rows : List (Nat × List XV)} (h : Sit s0 rows w) : ∃ m, Rel ⟨rows.length + 1, ⟨w.heap.size, w, fun _ => False, w, fun _ => False⟩⟩ s0 (S0 m rows) w := by
  obtain ⟨arr, ty, m, h0, h1⟩ := h.mx
  have hlt : 0 < w.heap.size := (Array.getElem?_eq_some_iff.1 h0).1
  refine ⟨m, h.dom, fun b o hb => ?_, fun b e hb hf => ?_, Below.refl _ _, Nat.le_refl _, fun k hk => ?_, Nat.le_refl _, fun k h => h.elim, fun b o e _ _ hf hp => hp, fun b b' o o' e e' hne hb hb' _ _ _ => ?_, fun b h => h.elim, ⟨0, h.zero⟩⟩
  · rcases S0_get hb with ⟨rfl, rfl⟩ | ⟨j, lb, cs, h2, rfl, rfl⟩
    · refine ⟨⟨0, 0, 0⟩, _, h.zero, h0, arr, ty, rfl, ⟨fun i x hx => ?_, rfl, fun q => (by cases q), Nat.le_refl _⟩⟩
      cases i with
      | zero => cases hx; exact ⟨_, h1, rfl⟩
      | succ i => simp at hx
    · obtain ⟨e, a2, t2, h3, h4, h5⟩ := h.row j lb cs h2
      exact ⟨e, _, h3, h4, a2, t2, rfl, h5⟩
  · have := h.dom b e hb
    have hf : rows.length + 1 ≤ b := hf
    omega
  · have hk : k < rows.length + 1 := hk
    cases k with
    | zero => exact ⟨_, h.zero, hlt⟩
    | succ k =>
      obtain ⟨e, a2, t2, h3, h4, _⟩ := h.row k rows[k].1 rows[k].2 (List.getElem?_eq_getElem (by omega))
      exact ⟨e, h3, (Array.getElem?_eq_some_iff.1 h4).1⟩
  · have fz : ∀ b o, (S0 m rows).hp.get b = some o → ∃ B : XB, o = .cells B ∧ B.fz = B.cs.length ∧ B.own = false := fun b o hb => by
      rcases S0_get hb with ⟨rfl, rfl⟩ | ⟨j, lb, cs, _, _, rfl⟩
      · exact ⟨_, rfl, rfl, rfl⟩
      · exact ⟨_, rfl, rfl, rfl⟩
    obtain ⟨B, rfl, h2, h3⟩ := fz b o hb
    obtain ⟨B', rfl, h4, _⟩ := fz b' o' hb'
    exact ⟨B, B', rfl, rfl, fun i i' hi hi' _ => ⟨by rw [h2]; exact hi, by rw [h4]; exact hi'⟩, fun q => by rw [h3] at q; cases q⟩
/-- What a call gives is known at a key. -/
def KeyOk (P : Program) (f : Nat) (k : Key) (b : Bool) : Prop := ∀ (w : World) (s0 : Env) (us : List Value), Sit s0 k.rows w → VRs s0 k.args us → ∀ n, CallsIn Fence.wide n P f ⟨us⟩ w fun o w' => o = .returned (.bool b) ∧ Below w.heap.size w w'
def isB (b : Bool) : Option (XV × St) → Bool
  | some (.bool c, _) => b == c
  | _ => false
theorem keyOk {f : Nat} {k : Key} {b : Bool} {eqs : List Nat} {orc : Nat → List XV → St → Option XV} {lim d : Nat} (he : eqsOk P eqs = true) (horc : OrcOk P (ctxN (k.rows.length + 1) P eqs orc)) (hn : namesB P.funcs.toList = true) (hmo : P.follows .mixedOrders = true)
    (hx : ∀ m, isB b (Y (ctxN (k.rows.length + 1) P eqs orc) lim d true f k.args (S0 m k.rows)) = true) : KeyOk P f k b := by
  intro w s0 us hs ha n
  obtain ⟨m, hr⟩ := Rel.sit hs
  have hx := hx m
  rw [Y_eq] at hx
  cases hX : X (ctxN (k.rows.length + 1) P eqs orc) lim d true f k.args (S0 m k.rows) with
  | none => rw [hX] at hx; cases hx
  | some p =>
    obtain ⟨x, S'⟩ := p
    rw [hX] at hx
    have hxt : x = .bool b := by
      cases x with
      | bool c => cases b <;> cases c <;> first | rfl | cases hx
      | _ => cases hx
    subst hxt
    have h3 := exec_ok (ctxN_ok he orc) horc (fun f fn hf => namesB_ok hn fn (Array.mem_toList_iff.2 (Array.mem_of_getElem? hf))) hmo lim d
    obtain ⟨_, h4⟩ := h3 _ _ _ w f k.args us _ S' hr ha hX
    refine (h4 n).mono ?_
    rintro o w' ⟨t, v, _, rfl, h5, h6⟩
    rw [VR] at h5; subst h5
    exact ⟨rfl, h6.blw⟩
theorem lkB_some {n : Nat} {r : List (Nat × Nat)} {b c : Nat} (h : lkB n r b c = true) : lk n r b = some c := by
  unfold lkB at h
  cases q : lk n r b with
  | none => rw [q] at h; cases h
  | some d => rw [q] at h; rw [bnot_eq.1 h]
section
variable {s0 : Env} {n : Nat} {r : List (Nat × Nat)}
mutual
theorem eqv_VR (hs : ∀ b c, lk n r b = some c → s0 b = s c) : ∀ {x y : XV} {v : Value}, eqv n r x y = true → VR s y v → VR s0 x v := by
  intro x y v h hv
  cases x with
  | bool a => have := xv_eq (a := .bool a) (b := y) (by simpa only [eqv] using h); subst this; exact hv
  | int k a => have := xv_eq (a := .int k a) (b := y) (by simpa only [eqv] using h); subst this; exact hv
  | str a => have := xv_eq (a := .str a) (b := y) (by simpa only [eqv] using h); subst this; exact hv
  | nilp => have := xv_eq (a := .nilp) (b := y) (by simpa only [eqv] using h); subst this; exact hv
  | nsl => have := xv_eq (a := .nsl) (b := y) (by simpa only [eqv] using h); subst this; exact hv
  | esl => have := xv_eq (a := .esl) (b := y) (by simpa only [eqv] using h); subst this; exact hv
  | nmap => have := xv_eq (a := .nmap) (b := y) (by simpa only [eqv] using h); subst this; exact hv
  | nfn => have := xv_eq (a := .nfn) (b := y) (by simpa only [eqv] using h); subst this; exact hv
  | ptr b o =>
    cases y <;> simp only [eqv] at h <;> first | (cases h; done) | skip
    rw [Bool.and_eq_true] at h
    have h1 := bnot_eq.1 h.2; subst h1
    obtain ⟨e, h2, h3⟩ := hv
    exact ⟨e, by rw [hs _ _ (lkB_some h.1)]; exact h2, h3⟩
  | sl b o k c =>
    cases y <;> simp only [eqv] at h <;> first | (cases h; done) | skip
    simp only [Bool.and_eq_true] at h
    obtain ⟨⟨⟨h1, h2⟩, h3⟩, h4⟩ := h
    have h2 := bnot_eq.1 h2; subst h2
    have h3 := bnot_eq.1 h3; subst h3
    have h4 := xc_eq h4; subst h4
    cases c with
    | ex c => obtain ⟨e, h5, h6⟩ := hv; exact ⟨e, by rw [hs _ _ (lkB_some h1)]; exact h5, h6⟩
    | op c => obtain ⟨e, h5, h6⟩ := hv; exact ⟨e, by rw [hs _ _ (lkB_some h1)]; exact h5, h6⟩
  | agg l =>
    cases y <;> simp only [eqv] at h <;> first | (cases h; done) | skip
    obtain ⟨vs, h1, h2, h3⟩ := hv
    exact ⟨vs, h1, eqvs_VR hs h h2, eqvs_one h h3⟩
  | map b => cases y <;> simp only [eqv] at h <;> cases h
  | fn f a c => cases y <;> simp only [eqv] at h <;> cases h
  | yld b => cases y <;> simp only [eqv] at h <;> cases h
  | tup l => cases y <;> simp only [eqv] at h <;> cases h
theorem eqvs_VR (hs : ∀ b c, lk n r b = some c → s0 b = s c) : ∀ {l m : List XV} {vs : List Value}, eqvs n r l m = true → VRs s m vs → VRs s0 l vs := by
  intro l m vs h hv
  cases l with
  | nil => cases m with
    | nil => exact hv
    | cons b m => simp only [eqvs] at h; cases h
  | cons a l => cases m with
    | nil => simp only [eqvs] at h; cases h
    | cons b m =>
      simp only [eqvs, Bool.and_eq_true] at h
      obtain ⟨v, ws, h1, h2, h3⟩ := hv
      exact ⟨v, ws, h1, eqv_VR hs h.1 h2, eqvs_VR hs h.2 h3⟩
theorem eqvs_one : ∀ {l m : List XV}, eqvs n r l m = true → m.all XV.one = true → l.all XV.one = true := by
  intro l m h hm
  cases l with
  | nil => rfl
  | cons a l => cases m with
    | nil => simp only [eqvs] at h; cases h
    | cons b m =>
      simp only [eqvs, Bool.and_eq_true] at h
      simp only [List.all_cons, Bool.and_eq_true] at hm ⊢
      refine ⟨?_, eqvs_one h.2 hm.2⟩
      cases a with
      | agg l => cases b with
        | agg m' => cases hm.1
        | _ => exact absurd h.1 (by simp [eqv])
      | tup l => cases b <;> exact absurd h.1 (by simp [eqv])
      | _ => rfl
end
theorem eqvp_get : ∀ {l m : List XV}, eqvp n r l m = true → ∀ (i : Nat) (x : XV), l[i]? = some x → ∃ y, m[i]? = some y ∧ eqv n r x y = true
  | [], _, _, i, x, hx => by simp at hx
  | _ :: _, [], h, _, _, _ => by simp only [eqvp] at h; cases h
  | a :: l, b :: m, h, i, x, hx => by
    simp only [eqvp, Bool.and_eq_true] at h
    cases i with
    | zero => simp at hx; subst hx; exact ⟨b, rfl, h.1⟩
    | succ i =>
      obtain ⟨y, h1, h2⟩ := eqvp_get h.2 i x (by simpa using hx)
      exact ⟨y, by simpa using h1, h2⟩
theorem veri_get : ∀ {rows : List (Nat × List XV)} {i : Nat}, veri n r S rows i = true → ∀ (j lb : Nat) (cs : List XV), rows[j]? = some (lb, cs) → ∃ b B, lk n r (i + j) = some b ∧ S.hp.get b = some (.cells B) ∧ lb ≤ B.lb ∧ eqvp n r cs B.cs = true
  | [], _, _, j, lb, cs, hj => by simp at hj
  | p :: l, i, h, j, lb, cs, hj => by
    simp only [veri, Bool.and_eq_true] at h
    cases j with
    | zero =>
      simp at hj; subst hj
      have h1 := h.1
      rw [Nat.add_zero]
      cases hl : lk n r i with
      | none => rw [hl] at h1; cases h1
      | some b =>
        rw [hl] at h1
        dsimp only at h1
        unfold St.blk at h1
        cases hg : S.hp.get b with
        | none => rw [hg] at h1; cases h1
        | some o =>
          rw [hg] at h1
          cases o with
          | cells B =>
            dsimp only at h1
            rw [Bool.and_eq_true] at h1
            exact ⟨b, B, rfl, hg, ble_iff.1 h1.1, h1.2⟩
          | _ => cases h1
    | succ j =>
      obtain ⟨b, B, h1, h2, h3, h4⟩ := veri_get h.2 j lb cs (by simpa using hj)
      exact ⟨b, B, by rw [← h1]; congr 1; omega, h2, h3, h4⟩
end
theorem mx_row {q : Gq} {fl : Nat} (h : Rel ⟨fl, q⟩ s S w) (hm : mxB S = true) : MxRow w := by
  unfold mxB at hm
  cases hg : S.hp.get 0 with
  | none => rw [hg] at hm; cases hm
  | some o =>
    rw [hg] at hm
    cases o with
    | cells B =>
      dsimp only at hm
      obtain ⟨e, ob, h1, h2, arr, ty, rfl, hr⟩ := h.obj 0 _ hg
      obtain ⟨tot, h3⟩ := h.zero
      rw [h3] at h1; cases h1
      cases hc : B.cs with
      | nil => rw [hc] at hm; cases hm
      | cons x l =>
        rw [hc] at hm
        obtain ⟨v, h4, h5⟩ := hr.cs 0 x (by rw [hc]; rfl)
        cases x with
        | int k m =>
          rw [VR] at h5; subst h5
          cases k <;> first | (cases hm; done) | skip
          exact ⟨arr, ty, m, h2, by simpa using h4⟩
        | _ => cases hm
    | _ => cases hm
theorem hit_sit {q : Gq} {fl : Nat} {k : Key} {args : List XV} {us : List Value} (h : Rel ⟨fl, q⟩ s S w) (hm : mxB S = true) (ho : onesB k.rows = true) (ha : VRs s args us) {r : List (Nat × Nat)} (hh : hitR k args S r = true) : ∃ s0, Sit s0 k.rows w ∧ VRs s0 k.args us := by
  unfold hitR at hh
  rw [Bool.and_eq_true] at hh
  obtain ⟨h1, h2⟩ := hh
  have hlk0 : ∀ b c, lk k.rows.length r b = some c → 1 ≤ b ∧ b ≤ k.rows.length := fun b c hb => by
    unfold lk at hb
    cases q : (Nat.ble 1 b && Nat.ble b k.rows.length) with
    | false => rw [q] at hb; cases hb
    | true => rw [Bool.and_eq_true] at q; exact ⟨ble_iff.1 q.1, ble_iff.1 q.2⟩
  let s0 : Env := fun b => if b = 0 then some ⟨0, 0, 0⟩ else match lk k.rows.length r b with | some c => s c | none => none
  have hs0 : ∀ b c, lk k.rows.length r b = some c → s0 b = s c := fun b c hb => by
    have := (hlk0 b c hb).1
    show (if b = 0 then _ else match lk k.rows.length r b with | some c => s c | none => none) = _
    rw [if_neg (by omega), hb]
  refine ⟨s0, ⟨rfl, mx_row h hm, fun j lb cs hj => ?_, fun b e hb => ?_⟩, eqvs_VR hs0 h1 ha⟩
  · obtain ⟨b, B, h3, h4, h5, h6⟩ := veri_get h2 j lb cs hj
    obtain ⟨e, ob, g1, g2, arr, ty, rfl, hr⟩ := h.obj b _ h4
    refine ⟨e, arr, ty, by rw [show j + 1 = 1 + j from by omega, hs0 _ _ h3]; exact g1, g2, ⟨fun i x hx => ?_, ?_, fun q => (by cases q), Nat.le_trans h5 hr.lb⟩⟩
    · obtain ⟨y, h7, h8⟩ := eqvp_get h6 i x hx
      obtain ⟨v, h9, h10⟩ := hr.cs i y h7
      exact ⟨v, h9, eqv_VR hs0 h8 h10⟩
    · exact List.all_eq_true.1 ho (lb, cs) (List.mem_of_getElem? hj)
  · change (if b = 0 then _ else match lk k.rows.length r b with | some c => s c | none => none) = some e at hb
    by_cases q : b = 0
    · omega
    · rw [if_neg q] at hb
      cases hl : lk k.rows.length r b with
      | none => rw [hl] at hb; cases hb
      | some c => have := (hlk0 b c hl).2; omega
/-- An oracle out of keys: function f gives b at each of them. -/
def memo (f0 : Nat) (b : Bool) (ks : List Key) (f : Nat) (args : List XV) (S : St) : Option XV := match Nat.beq f f0 with
  | true => match mxB S && ks.any (fun k => hit k args S) with
    | true => some (.bool b)
    | false => none
  | false => none
def OrcF (P : Program) (fl : Nat) (orc : Nat → List XV → St → Option XV) : Prop := ∀ (q : Gq) (s : Env) (S : St) (w : World) (f : Nat) (args : List XV) (us : List Value) (x : XV),
  Rel ⟨fl, q⟩ s S w → VRs s args us → orc f args S = some x →
    (∀ (as : Array Value) (w : World), (callFunc f as).run P w = .ok (.enter f as) w) ∧
    ∀ n, CallsIn Fence.wide n P f ⟨us⟩ w fun e w' => ∃ (t : Env) (v : Value), s.le t ∧ e = .returned v ∧ VR t x v ∧ Rel ⟨fl, q⟩ t S w'
theorem memo_ok {fl f0 : Nat} {b : Bool} {ks : List Key} (h1 : fnB P f0 = true) (hk : ∀ k ∈ ks, onesB k.rows = true ∧ KeyOk P f0 k b) : OrcF P fl (memo f0 b ks) := by
  intro q s S w f args us x h ha ho
  unfold memo at ho
  cases hf : Nat.beq f f0 with
  | false => rw [hf] at ho; cases ho
  | true =>
    have := bnot_eq.1 hf; subst this
    rw [hf] at ho; dsimp only at ho
    cases hb : mxB S && ks.any (fun k => hit k args S) with
    | false => rw [hb] at ho; cases ho
    | true =>
      rw [hb] at ho; cases ho
      rw [Bool.and_eq_true] at hb
      obtain ⟨hm, hany⟩ := hb
      obtain ⟨k, hmem, hh⟩ := List.any_eq_true.1 hany
      obtain ⟨ho1, hok⟩ := hk k hmem
      obtain ⟨s0, hs, hv⟩ := hit_sit h hm ho1 ha hh
      refine ⟨fnB_ok h1, fun n => (hok w s0 us hs hv n).mono ?_⟩
      rintro e w' ⟨rfl, hbl⟩
      exact ⟨s, _, Env.le.rf s, rfl, rfl, h.ext hbl⟩
def orc2 (o1 o2 : Nat → List XV → St → Option XV) (f : Nat) (args : List XV) (S : St) : Option XV := @Option.rec XV (fun _ => Option XV) (o2 f args S) some (o1 f args S)
theorem orc2_ok {fl : Nat} {o1 o2 : Nat → List XV → St → Option XV} (h1 : OrcF P fl o1) (h2 : OrcF P fl o2) : OrcF P fl (orc2 o1 o2) := by
  intro q s S w f args us x h ha ho
  unfold orc2 at ho
  cases hq : o1 f args S with
  | none => rw [hq] at ho; exact h2 q s S w f args us x h ha ho
  | some y => rw [hq] at ho; cases ho; exact h1 q s S w f args us _ h ha hq
end
end
end Go.Proofs.YtlibeobmdjeilaaGreatDoor.Ex
namespace Go.Proofs.YtlibeobmdjeilaaGreatDoor.Ex
open Go Go.RowKit
noncomputable section
/-- It returns true. -/
def tailB (C : Ctx) (fn : Func) (n : Nat) : YR → Bool
  | .jmp .ret tm [] S => match xresults C fn.results.toList ⟨n, tm, []⟩ S with
    | some [.bool b] => b
    | _ => false
  | _ => false
section
variable {P : Program} {C : Ctx} {q : Gq} {s : Env} {S : St} {w : World} {a : Act}
theorem tail_ok (hC : CtxOk P C) (horc : OrcOk P C) (hnm : ∀ f fn, C.fn f = some fn → fn.name ≠ "runtime.NumGoroutine") (hmo : P.follows .mixedOrders = true) {lim k n : Nat} {tm : T XV} {c : Code} {fn : Func} {R : Ending → World → Prop}
    (h : Rel ⟨C.fl, q⟩ s S w) (hf : FrR s ⟨n, tm, []⟩ a.tmps) (hd : a.defers = []) (hrun : tailB C fn n (ycode c ⟨C, Y C lim k true, Y C lim k false, lim, none, n⟩ tm [] S) = true) (hR : ∀ w', Below q.nf q.wf w' → R (.returned (.bool true)) w') : c.wp P (bodyPost P fn R) a w := by
  have hX := X_ok hC horc hnm (fun _ _ h1 h2 => reg_ok hC h1 h2 hmo) lim k
  have he := ycode_eq (C := C) (call := Y C lim k true) (yld := Y C lim k false) lim none n c tm [] S
  cases hy : ycode c ⟨C, Y C lim k true, Y C lim k false, lim, none, n⟩ tm [] S with
  | no => rw [hy] at hrun; cases hrun
  | nrm tm' mk' S' => rw [hy] at hrun; cases hrun
  | jmp j tm' mk' S' =>
    rw [hy] at hrun he
    cases j <;> first | (cases hrun; done) | skip
    cases mk' with
    | cons m l => cases hrun
    | nil =>
      change (match xresults C fn.results.toList ⟨n, tm', []⟩ S' with | some [.bool b] => b | _ => false) = true at hrun
      have hcd : xcode C (X C lim k true) (X C lim k false) lim none c ⟨n, tm, []⟩ S = some (.jump .ret, ⟨n, tm', []⟩, S') := by
        rw [← Y_eq, ← Y_eq]; exact he.symm
      refine (wpIn_wide (n := 0)).1 (xcode_ok (F := Fence.wide) (ro := none) hC hX.1 (reg_ok hC hX.1 hX.2 hmo) c h hf hd rfl hcd ?_)
      intro t a' w' h1 h2 h3 h4
      cases hr : xresults C fn.results.toList ⟨n, tm', []⟩ S' with
      | none => rw [hr] at hrun; cases hrun
      | some vs =>
        rw [hr] at hrun
        obtain ⟨us', h6, h7⟩ := results_ok hC h2 h3 hr
        have hvs : vs = [.bool true] := by
          cases vs with
          | nil => cases hrun
          | cons v vs => cases vs with
            | nil => cases v <;> first | (cases hrun; done) | (rename_i b; cases b <;> first | rfl | cases hrun)
            | cons v2 vs => cases v <;> cases hrun
        subst hvs
        obtain ⟨v, ws, rfl, h8, h9⟩ := h7
        rw [VRs] at h9; subst h9
        rw [VR] at h8; subst h8
        refine bodyPost_ret (v := .bool true) ?_ h4 (hR w' h2.blw)
        unfold results
        rw [Array.mapM_eq_mapM_toList]
        simp only [Sem.run_bind, Sem.run_map]
        erw [h6]
        rfl
theorem get_leafs {t : Nat} {x : XV} (h : (T.leaf : T XV).get t = some x) : False := by rw [T.get_leaf] at h; cases h
end
end
end Go.Proofs.YtlibeobmdjeilaaGreatDoor.Ex
