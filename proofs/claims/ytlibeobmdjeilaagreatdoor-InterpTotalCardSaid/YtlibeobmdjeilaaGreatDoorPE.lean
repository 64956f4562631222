/- The executor and what it leans on (PE): told in wip/x. -/
import Derived.Test.YtlibeobmdjeilaaGreatDoorPD
import Derived.Deep.Upon
import Derived.MapKept
import Derived.Test.YtlibeobmdjeilaaGreatDoorPA
import Derived.RangeFuncLeaves
import Derived.RangeFuncCalls
import Derived.OrdersIn
set_option linter.all false
namespace Go.Proofs.YtlibeobmdjeilaaGreatDoor.Ex
open Go Go.RowKit
section
variable {P : Program} {C : Ctx} {q : Gq} {s : Env} {S : St} {w : World} {fr : Fr} {a : Act}
theorem takeL_all : ∀ l : List XV, takeL l l.length = some l
  | [] => rfl
  | x :: l => by simp only [List.length_cons, takeL, takeL_all l]
theorem elemT_ok (hC : CtxOk P C) {t : Nat} {ei : TI} (h : elemT C t = some ei) : ∃ e, P.underlying t = some (.slice e) ∧ C.ty e = some ei := by
  unfold elemT at h
  cases ht : C.ty t with
  | none => rw [ht] at h; cases h
  | some i =>
    rw [ht] at h; dsimp only at h
    split at h
    · rename_i e hund
      exact ⟨e, by rw [(hC.ty t i ht).1, hund], h⟩
    · cases h
/-- A slice's own cells, at this world and at any with the same memory. -/
theorem cellsV_ok {g : Gh} (h : Rel g s S w) {sz n b o m : Nat} {c : XC} {cs : List XV} (hc : cellsV S sz n (.sl b o m c) = some cs) {e : E} (he : s b = some e) (cap : Nat) :
    ∃ us, VRs s cs us ∧ cs.all XV.one = true ∧ us.length = n * sz ∧ cs.length = n * sz ∧ ∀ w' : World, w'.heap = w.heap → (Builtin.firstCells sz n (.slice (some (e.ad o)) m cap)).run P w' = .ok us.toArray w' := by
  simp only [cellsV] at hc
  cases hz : Nat.beq n 0 with
  | true =>
    rw [hz] at hc; cases hc
    have := bnot_eq.1 hz; subst this
    exact ⟨[], rfl, rfl, by simp, by simp, fun w' _ => run_firstCells_some w' sz 0 _ _ _ [] (by simp) fun j v hj => by simp at hj⟩
  | false =>
    rw [hz] at hc; dsimp only at hc
    obtain ⟨e2, us, h2, h3, h4, h5, h6⟩ := h.loads hc
    rw [he] at h2; cases h2
    exact ⟨us, h3, h4, h5, by rw [← h3.length, h5], fun w' hw => run_firstCells_some w' sz n _ _ _ us h5 fun j v hj => by
      have := h6 j v hj
      rw [← this]
      simp only [World.cell?, hw]⟩
theorem run_append_in (t tx ty e : TypeId) (i : TypeInfo) (ht : P.underlying t = some (.slice e)) (hi : P.info? e = some i) (b off sLen sCap : Nat) (x : Value) (n : Nat) (news : List Value) (hs : Src P i.size tx x n news w)
    (hroom : sLen + n ≤ sCap) {arr : Array Value} {ety : TypeId} (hh : w.heap[b]? = some (.cells arr ety (0, 0))) (hfit : off + sLen * i.size + news.length ≤ arr.size) :
    (Builtin.append_ #[t, tx] ty #[.slice (some ⟨b, off, none⟩) sLen sCap, x]).run P w = .ok (.slice (some ⟨b, off, none⟩) (sLen + n) sCap) (w.setRow b (wr arr (off + sLen * i.size) news)) := by
  have hst := run_storeCells_at P b (off + sLen * i.size) ety news 0 arr w hh (by simpa using hfit) hs.one
  simp only [Nat.add_zero] at hst
  rcases hs.kind with ⟨e', hk⟩ | hk <;> simp [Builtin.append_, run_underlying ht, run_underlying hk, sizeOf, typeInfo, hi, hs.len, hroom, hs.cells, Addr.add_lit, hst, wr]
theorem append_ok (hC : CtxOk P C) (h : Rel ⟨C.fl, q⟩ s S w) {t u : Nat} {x y r : XV} {S' : St} {v v2 : Value} (hv : VR s x v) (hu : VR s y v2) (ha : xappendB C t u x y S = some (r, S')) (ty : TypeId) :
    ∃ (t' : Env) (z : Value) (w' : World), s.le t' ∧ (Builtin.append_ #[t, u] ty #[v, v2]).run P w = .ok z w' ∧ VR t' r z ∧ Rel ⟨C.fl, q⟩ t' S' w' := by
  unfold xappendB at ha
  cases het : elemT C t with
  | none => rw [het] at ha; cases ha
  | some ei =>
    rw [het] at ha; dsimp only at ha
    obtain ⟨e, htu, hce⟩ := elemT_ok hC het
    obtain ⟨ti, z, hti, hsz, hz0, hzv, hz1, hzs⟩ := zeros_ok (s := s) hC hce
    have hby : ti.bytes = ei.bytes := by
      obtain ⟨_, ti', z', h1, _, h3, _⟩ := hC.ty e ei hce
      rw [hti] at h1; cases h1; exact h3
    cases hap : appended C ei.size u y S with
    | none => rw [hap] at ha; cases ha
    | some q =>
      obtain ⟨n, new⟩ := q
      rw [hap] at ha; dsimp only at ha
      obtain ⟨news, hsrc, hnv, hn1, hnl⟩ := appended_ok hC h hu hap
      rw [← hsz] at hsrc
      cases hn0 : Nat.beq n 0 with
      | true =>
        have := bnot_eq.1 hn0; subst this
        rw [hn0] at ha; dsimp only at ha
        have hnil : news = [] := List.eq_nil_of_length_eq_zero (by rw [hnv.length, hnl]; simp)
        subst hnil
        cases hck : capOk S x with
        | false => rw [hck] at ha; cases ha
        | true =>
          rw [hck] at ha; cases ha
          cases x with
          | nsl =>
            rw [VR] at hv; subst hv
            exact ⟨s, _, w, Env.le.rf s, run_append_nothing w t u ty e ti htu hti none 0 0 (Nat.le_refl _) v2 hsrc, rfl, h⟩
          | sl b o len c =>
            cases c with
            | ex c =>
              have hc := ble_iff.1 hck
              have hv' := hv
              obtain ⟨e', he, rfl⟩ := hv
              exact ⟨s, _, w, Env.le.rf s, run_append_nothing w t u ty e ti htu hti _ len c hc v2 hsrc, hv', h⟩
            | op k =>
              have hv' := hv
              obtain ⟨e', he, rfl⟩ := hv
              simp only [capOk] at hck
              cases hB : S.blk b with
              | none => rw [hB] at hck; cases hck
              | some B =>
                rw [hB] at hck
                have hc := ble_iff.1 hck
                obtain ⟨e2, arr, ety, h2, _, hrow⟩ := h.row hB
                rw [he] at h2; cases h2
                have := hrow.lb
                exact ⟨s, _, w, Env.le.rf s, run_append_nothing w t u ty e ti htu hti _ len _ (by omega) v2 hsrc, hv', h⟩
          | _ => cases hck
      | false =>
        have hne := bnot_ne.1 hn0
        cases hs0 : Nat.beq ei.size 0 with
        | true => rw [hn0, hs0] at ha; cases ha
        | false =>
          have hpos : 0 < ei.size := by have := bnot_ne.1 hs0; omega
          rw [hn0, hs0] at ha; dsimp only at ha
          cases hq : (Nat.blt ei.bytes 1000000 && Nat.blt n 1000000 && lenOk x) with
          | false => rw [hq] at ha; cases ha
          | true =>
            rw [hq] at ha; dsimp only at ha
            simp only [Bool.and_eq_true] at hq
            have hb1 := blt_iff.1 hq.1.1
            have hb2 := blt_iff.1 hq.1.2
            have hlk := hq.2
            have hnnl := hnv.length
            have hnewne : new ≠ [] := fun q => by
              have h7 : n * ei.size = 0 := by rw [← hnl, q]; rfl
              have := Nat.mul_pos (show 0 < n by omega) hpos
              omega
            have fits : ∀ len cap, len < 1000000 → cap < len + n → Builtin.nextslicecap (len + n) cap * ti.bytes ≤ 281474976710656 := fun len cap h1 h2 => growslice_fits h2 (by
              rw [hby]
              have := Nat.mul_le_mul (show len + n ≤ 2000000 by omega) (show ei.bytes ≤ 1000000 by omega)
              omega)
            unfold xappend at ha
            cases x with
            | nsl =>
              cases ha
              rw [VR] at hv; subst hv
              have hcap := grownCap_ge w (0 + n) 0 e
              obtain ⟨t', h1, h2, h3⟩ := h.grow (old := []) (olds := []) rfl hnv rfl hn1 (sz := ei.size) (len := 0) (n := n) (by simp) hnl e z.cells hzs hcap 0
              rw [Nat.zero_add] at h3
              refine ⟨t', _, _, h1, run_append_grow_src w t u ty e ti z htu hti hz0 none 0 0 [] (by simp [Builtin.firstCells]) v2 n news hsrc (by omega) (by omega) (fits 0 0 (by omega) (by omega)), ⟨_, h2, ?_⟩, ?_⟩
              · rw [Nat.zero_add, Nat.sub_zero]; rfl
              · rw [Nat.zero_add]; exact h3
            | sl b o len c =>
              have hll := blt_iff.1 hlk
              cases c with
              | ex c =>
                obtain ⟨e', he, rfl⟩ := hv
                dsimp only at ha
                cases hfit : Nat.ble (len + n) c with
                | true =>
                  have hroom := ble_iff.1 hfit
                  rw [hfit] at ha; dsimp only at ha
                  cases hst : S.store C.fl b (o + len * ei.size) new with
                  | none => rw [hst] at ha; cases ha
                  | some S2 =>
                    rw [hst] at ha; cases ha
                    obtain ⟨e2, arr, ety, h2, hh, hfits, hone, hrel⟩ := h.store hst hnewne hnv hn1
                    rw [he] at h2; cases h2
                    have hrun := run_append_in t u ty e ti htu hti e'.blk (e'.sh + o) len c v2 n news hsrc hroom hh (by rw [hsz, Nat.add_assoc e'.sh]; exact hfits)
                    rw [hsz, Nat.add_assoc e'.sh] at hrun
                    exact ⟨s, _, _, Env.le.rf s, hrun, ⟨e', he, rfl⟩, hrel⟩
                | false =>
                  have hnr : ¬ (len + n ≤ c) := fun q => by rw [ble_iff.2 q] at hfit; cases hfit
                  rw [hfit] at ha; dsimp only at ha
                  cases hcv : cellsV S ei.size len (.sl b o len (.ex c)) with
                  | none => rw [hcv] at ha; cases ha
                  | some old =>
                    rw [hcv] at ha; cases ha
                    obtain ⟨olds, h4, h5, h6, h7, h8⟩ := cellsV_ok (P := P) h hcv he c
                    have hcap := grownCap_ge w (len + n) c e
                    obtain ⟨t', h1, h2, h3⟩ := h.grow h4 hnv h5 hn1 (sz := ei.size) h7 hnl e z.cells hzs hcap 0
                    refine ⟨t', _, _, h1, run_append_grow_src w t u ty e ti z htu hti hz0 _ len c olds (by rw [hsz]; exact h8 w.drew rfl) v2 n news hsrc (by omega) (by omega) (fits len c hll (by omega)), ⟨_, h2, ?_⟩, h3⟩
                    rw [Nat.sub_zero]; rfl
              | op k =>
                have hv0 := hv
                obtain ⟨e', he, rfl⟩ := hv
                dsimp only at ha
                cases hB : S.blk b with
                | none => rw [hB] at ha; cases ha
                | some B =>
                  rw [hB] at ha; dsimp only at ha
                  obtain ⟨e2, arr0, ety0, h2, hh0, hrow⟩ := h.row hB
                  rw [he] at h2; cases h2
                  have hlb := hrow.lb
                  cases hfit : Nat.ble (k + len + n) B.lb with
                  | true =>
                    have hroom := ble_iff.1 hfit
                    rw [hfit] at ha; dsimp only at ha
                    cases hst : S.store C.fl b (o + len * ei.size) new with
                    | none => rw [hst] at ha; cases ha
                    | some S2 =>
                      rw [hst] at ha; cases ha
                      obtain ⟨e2, arr, ety, h2, hh, hfits, hone, hrel⟩ := h.store hst hnewne hnv hn1
                      rw [he] at h2; cases h2
                      have hrun := run_append_in t u ty e ti htu hti e'.blk (e'.sh + o) len (e'.tot - k) v2 n news hsrc (by omega) hh (by rw [hsz, Nat.add_assoc e'.sh]; exact hfits)
                      rw [hsz, Nat.add_assoc e'.sh] at hrun
                      exact ⟨s, _, _, Env.le.rf s, hrun, ⟨e', he, rfl⟩, hrel⟩
                  | false =>
                    rw [hfit] at ha; dsimp only at ha
                    cases hm : (Nat.beq (o + len * ei.size) B.cs.length && Nat.beq o (k * ei.size) && Nat.beq B.sz ei.size && B.own) with
                    | false => rw [hm] at ha; cases ha
                    | true =>
                      rw [hm] at ha; dsimp only at ha
                      simp only [Bool.and_eq_true] at hm
                      have hend := bnot_eq.1 hm.1.1.1
                      have hok := bnot_eq.1 hm.1.1.2
                      have hsz' := bnot_eq.1 hm.1.2
                      have hown := hm.2
                      cases hp : S.put C.fl b (.cells { B with fz := B.cs.length, own := false }) with
                      | none => rw [hp] at ha; cases ha
                      | some S1 =>
                        rw [hp] at ha; cases ha
                        obtain ⟨hfl, rfl⟩ := put_some hp
                        by_cases hroom : len + n ≤ e'.tot - k
                        · obtain ⟨hfits, t', h1, h2, h3⟩ := h.move hB hown hfl hok hsz' hend hpos hnv hn1 hnl (by omega) he hroom hh0
                          have hrun := run_append_in t u ty e ti htu hti e'.blk (e'.sh + o) len (e'.tot - k) v2 n news hsrc hroom hh0 (by rw [hsz, Nat.add_assoc e'.sh, hend]; exact hfits)
                          rw [hsz, Nat.add_assoc e'.sh, hend] at hrun
                          exact ⟨t', _, _, h1, hrun, ⟨_, h2, by rw [Nat.sub_zero]; rfl⟩, h3⟩
                        · have hflag := h.flag hB hown hfl
                          have hdl : (B.cs.drop o).length = len * ei.size := by rw [List.length_drop]; omega
                          have hload : S.load b o (len * ei.size) = some (B.cs.drop o) := by
                            unfold St.load
                            rw [hB, ← hdl]
                            exact takeL_all _
                          obtain ⟨e2, olds, h2, h4, h5, h6, h7⟩ := h.loads hload
                          rw [he] at h2; cases h2
                          have hcap := grownCap_ge w (len + n) (e'.tot - k) e
                          obtain ⟨t', h1, h8, h9⟩ := hflag.grow h4 hnv h5 hn1 (sz := ei.size) hdl hnl e z.cells hzs hcap (len * ei.size)
                          refine ⟨t', _, _, h1, run_append_grow_src w t u ty e ti z htu hti hz0 _ len (e'.tot - k) olds (run_firstCells_some w.drew ti.size len _ _ _ olds (by rw [h6, hsz]) fun j v hj => (by simpa using h7 j v hj)) v2 n news hsrc (by omega) (by omega) (fits len (e'.tot - k) hll (by omega)), ⟨_, h8, ?_⟩, h9⟩
                          rw [Nat.sub_zero]; rfl
            | _ => cases hlk
theorem buildSlice_run (hC : CtxOk P C) {t n : Nat} {ei : TI} (het : elemT C t = some ei) {ps : List (Nat × XV)} {qs : List (Nat × Value)} (hp : VRp s ps qs) (hb : n * ei.size ≤ 16777216) {cs : List XV} (hf : fillL (fun j => some (j * ei.size, ei.size)) (zeros ei.zero n) ps = some cs) :
    ∃ (e : TypeId) (ws : Array Value), (Instr.buildSlice t n ⟨qs⟩).run P w = .ok (.slice (some ⟨w.heap.size, 0, none⟩) n n) (w.alloc (.cells ws e)) ∧ VRs s cs ws.toList ∧ cs.all XV.one = true := by
  obtain ⟨e, htu, hce⟩ := elemT_ok hC het
  obtain ⟨ti, z, hti, hsz, hz0, hzv, hz1, hzs⟩ := zeros_ok (s := s) hC hce
  have hzm := zeros_made hzv n
  rw [hzs] at hzm
  obtain ⟨ws, h1, h2, h3⟩ := fill_ok (pl' := fun i => some (i * ei.size, ei.size)) (fun _ _ h => h) hp hzm (zeros_one hz1 n) hf
  refine ⟨e, ⟨ws⟩, ?_, h2, h3⟩
  have hso := fun w => hC.sizeOf (w := w) hce
  have hzr : (zeroValue e).run P w = .ok z w := by simp [zeroValue, typeInfo, hti, hz0]
  have hnb : ¬ (n * ei.size > 2 ^ 24) := by omega
  unfold Instr.buildSlice
  rw [Sem.run_bind, run_underlying htu, Result.andThen_ok]
  dsimp only
  rw [Sem.run_bind, hso, Result.andThen_ok, if_neg hnb]
  have h1' : Instr.fill (fun i => some (i * ei.size, ei.size)) ((Array.range (n * ei.size)).map (z.cells[· % z.cells.size]!)) qs = some ⟨ws⟩ := h1
  by_cases h0 : n * ei.size = 0
  · have e0 : ((Array.range (n * ei.size)).map fun x => (#[] : Array Value)[x % (#[] : Array Value).size]!) = (Array.range (n * ei.size)).map (z.cells[· % z.cells.size]!) := by rw [h0]; apply Array.ext'; simp
    rw [if_pos h0, Sem.run_bind, Sem.run_pure, Result.andThen_ok]
    simp only [e0, h1', newRow, Sem.run_bind, run_newObj, Result.andThen_ok, Sem.run_pure, World.alloc_eq]
  · rw [if_neg h0]
    simp only [Sem.run_bind, hzr, Result.andThen_ok, Sem.run_pure, h1', newRow, run_newObj, World.alloc_eq]
theorem makeSlice_run (hC : CtxOk P C) {t l c : Nat} {ei : TI} (het : elemT C t = some ei) (hlc : l ≤ c) (hc : c < 1000000) (hby : ei.bytes < 1000000) (kl kc : IntKind) :
    ∃ (e : TypeId) (ws : Array Value), (Instr.makeSlice t (.int kl (l : Int)) (.int kc (c : Int))).run P w = .ok (.slice (some ⟨w.heap.size, 0, none⟩) l c) (w.alloc (.cells ws e)) ∧ VRs s (zeros ei.zero c) ws.toList ∧ (zeros ei.zero c).all XV.one = true := by
  obtain ⟨e, htu, hce⟩ := elemT_ok hC het
  obtain ⟨_, ti, z, hti, hsz, hbt, hz0, _⟩ := hC.ty e ei hce
  obtain ⟨ti', z', hti', hsz', hz0', hzv, hz1, hzs⟩ := zeros_ok (s := s) hC hce
  rw [hti] at hti'; cases hti'
  rw [hz0] at hz0'; cases hz0'
  have hbb : (ti.bytes : Int) * (c : Int) ≤ 281474976710656 := by
    have := Nat.mul_le_mul (show ti.bytes ≤ 1000000 by omega) (show c ≤ 1000000 by omega)
    have h7 : ((ti.bytes * c : Nat) : Int) ≤ 281474976710656 := by omega
    rwa [Int.natCast_mul] at h7
  have hr := run_make (P := P) w t e ti z htu hti hz0 kl kc l c (by omega) (by omega) hbb (by omega)
  refine ⟨e, _, ?_, zeros_made hzv c, zeros_one hz1 c⟩
  rw [hr]
  simp only [Int.toNat_natCast, hsz, hzs]
theorem next_to {x : Sem Value} {v : Value} {w' : World} (h : x.run P w = .ok v w') : ((do pure (.value (← x))) : Sem Next).run P w = .ok (.value v) w' := by
  rw [Sem.run_bind, h]; rfl
/-- What an operation that makes a block makes. -/
theorem fresh_ok (hC : CtxOk P C) (h : Rel ⟨C.fl, q⟩ s S w) (hf : FrR s fr a.tmps) {N : Nat} {o : Oper} {v : XV} {ob : XO} (hx : freshV C fr N o.op = some (v, ob)) :
    ∃ (u : Value) (obj : Obj), (execOp a.eval o).run P w = .ok (.value u) (w.alloc obj) ∧ ∀ t : Env, s.le t → t N = some ⟨w.heap.size, 0, 0⟩ → VR t v u ∧ OR t ob ⟨w.heap.size, 0, 0⟩ obj := by
  have ev : ∀ {y : Operand} {v : XV}, fr.ev C.fl y = some v → VR s v (a.eval y) := fun hv => ev_ok h hf hv
  unfold execOp
  cases ho : o.op <;> rw [ho] at hx <;> simp only [freshV] at hx <;> first | (cases hx; done) | skip
  case alloc t =>
    cases ht : C.ty t with
    | none => rw [ht] at hx; cases hx
    | some i =>
      rw [ht] at hx; cases hx
      obtain ⟨ti, z, h1, _, h3, h4, h5, _⟩ := zeros_ok (s := s) hC ht
      refine ⟨.pointer (some ⟨w.heap.size, 0, none⟩), .cells z.cells t, ?_, fun t' ht' hN => ⟨⟨_, hN, rfl⟩, row_new (h4.mono ht') h5 t _⟩⟩
      simp [Instr.alloc, zeroValue, typeInfo, h1, h3, newVar, newRow]
  case box t y =>
    cases hy : fr.ev C.fl y with
    | none => rw [hy] at hx; cases hx
    | some yv =>
      rw [hy] at hx; dsimp only at hx
      cases hc : yv.cells with
      | none => rw [hc] at hx; cases hx
      | some cs =>
        rw [hc] at hx; cases hx
        obtain ⟨h1, h2⟩ := (ev hy).cells hc
        refine ⟨.pointer (some ⟨w.heap.size, 0, none⟩), .cells (a.eval y).cells t, ?_, fun t' ht' hN => ⟨⟨_, hN, rfl⟩, row_new (h1.mono ht') h2 t _⟩⟩
        simp [Instr.box, newVar, newRow]
  case buildSlice t n ps =>
    cases het : elemT C t with
    | none => rw [het] at hx; cases hx
    | some ei => cases hp : fr.evp C.fl ps.toList with
      | none => rw [het, hp] at hx; cases hx
      | some qs =>
        rw [het, hp] at hx; dsimp only at hx
        cases hb : Nat.ble (n * ei.size) 16777216 with
        | false => rw [hb] at hx; cases hx
        | true => cases hfl : fillL (fun j => some (j * ei.size, ei.size)) (zeros ei.zero n) qs with
          | none => rw [hb, hfl] at hx; cases hx
          | some cs =>
            rw [hb, hfl] at hx; cases hx
            obtain ⟨e, ws, h1, h2, h3⟩ := buildSlice_run (w := w) hC het (evp_ok h hf hp) (ble_iff.1 hb) hfl
            refine ⟨.slice (some ⟨w.heap.size, 0, none⟩) n n, .cells ws e, next_to ?_, fun t' ht' hN => ⟨⟨_, hN, rfl⟩, row_new (h2.mono ht') h3 e _⟩⟩
            have : (ps.map fun (i, x) => (i, a.eval x)) = ⟨ps.toList.map fun x => (x.1, a.eval x.2)⟩ := by
              apply Array.ext'
              rw [Array.toList_map]
            rw [this]
            exact h1
  case makeMap t y =>
    cases y with
    | none =>
      simp only at hx; cases hx
      refine ⟨.map (some w.heap.size), .map #[] 0, ?_, fun t' ht' hN => ⟨⟨_, hN, rfl⟩, #[], rfl, rfl⟩⟩
      simp [Instr.makeMap]
    | some y =>
      simp only at hx
      cases hy : fr.ev C.fl y with
      | none => rw [hy] at hx; cases hx
      | some yv =>
        have hyv := ev hy
        rw [hy] at hx
        cases yv with
        | int k m =>
          rw [VR] at hyv
          cases ht : C.ty t with
          | none => rw [ht] at hx; cases hx
          | some i =>
            rw [ht] at hx; dsimp only at hx
            have hun := hC.und (w := w) ht
            split at hx
            · rename_i kt et hund
              cases hx
              rw [hund] at hun
              refine ⟨.map (some w.heap.size), .map #[] 0, ?_, fun t' ht' hN => ⟨⟨_, hN, rfl⟩, #[], rfl, rfl⟩⟩
              simp [Instr.makeMap, hyv, hun, asInt, asIntOf]
            · cases hx
        | _ => cases hx
  case makeSlice t l c =>
    cases het : elemT C t with
    | none => rw [het] at hx; cases hx
    | some ei => cases hl : fr.ev C.fl l with
      | none => rw [het, hl] at hx; cases hx
      | some lv => cases hc : fr.ev C.fl c with
        | none =>
          rw [het, hl, hc] at hx
          split at hx
          · rename_i e3; cases e3
          · cases hx
        | some cv =>
          rw [het, hl, hc] at hx
          have hlv := ev hl; have hcv := ev hc
          split at hx
          · rename_i ei' k1 l' k2 c' e1 e2 e3
            cases e1; cases e2; cases e3
            rw [VR] at hlv hcv
            cases hb : (Nat.ble l' c' && Nat.blt c' 1000000 && Nat.blt ei.bytes 1000000) with
            | false => rw [hb] at hx; cases hx
            | true =>
              rw [hb] at hx; cases hx
              simp only [Bool.and_eq_true] at hb
              obtain ⟨e, ws, h1, h2, h3⟩ := makeSlice_run (s := s) (w := w) hC het (ble_iff.1 hb.1.1) (blt_iff.1 hb.1.2) (blt_iff.1 hb.2) k1 k2
              refine ⟨.slice (some ⟨w.heap.size, 0, none⟩) l' c', .cells ws e, next_to ?_, fun t' ht' hN => ⟨⟨_, hN, rfl⟩, row_new (h2.mono ht') h3 e _⟩⟩
              rw [hlv, hcv]
              exact h1
          · cases hx
  case range t y =>
    cases hy : fr.ev C.fl y with
    | none => rw [hy] at hx; cases hx
    | some yv =>
      have hyv := ev hy
      rw [hy] at hx
      cases yv with
      | str l =>
        rw [VR] at hyv
        cases ht : C.ty t with
        | none => rw [ht] at hx; cases hx
        | some i =>
          rw [ht] at hx; dsimp only at hx
          have hun := hC.und (w := w) ht
          split at hx
          · rename_i hund
            cases hx
            rw [hund] at hun
            refine ⟨.pointer (some ⟨w.heap.size, 0, none⟩), .stringIter ⟨⟨l⟩⟩ 0, ?_, fun t' ht' hN => ⟨⟨_, hN, rfl⟩, rfl, rfl⟩⟩
            simp [Instr.range, hyv, hun]
          · cases hx
      | _ => cases hx
theorem copy_ok (hC : CtxOk P C) (h : Rel ⟨C.fl, q⟩ s S w) {t u : Nat} {d x r : XV} {S' : St} {v v2 : Value} (hv : VR s d v) (hu : VR s x v2) (ha : xcopy C t d x S = some (r, S')) (ty : TypeId) :
    ∃ (z : Value) (w' : World), (Builtin.copy_ #[t, u] ty #[v, v2]).run P w = .ok z w' ∧ VR s r z ∧ Rel ⟨C.fl, q⟩ s S' w' := by
  unfold xcopy at ha
  cases het : elemT C t with
  | none => rw [het] at ha; cases ha
  | some ei =>
    rw [het] at ha; dsimp only at ha
    obtain ⟨e, htu, hce⟩ := elemT_ok hC het
    have hso := fun w => hC.sizeOf (w := w) hce
    cases hd : slenS d with
    | none => rw [hd] at ha; cases ha
    | some dl => cases hxl : slenS x with
      | none => rw [hd, hxl] at ha; cases ha
      | some xl =>
        rw [hd, hxl] at ha; dsimp only at ha
        cases hc : cellsV S ei.size (Nat.min xl dl) x with
        | none => rw [hc] at ha; cases ha
        | some cs =>
          rw [hc] at ha; dsimp only at ha
          -- the source
          have hsrc : ∃ us, VRs s cs us ∧ cs.all XV.one = true ∧ (Builtin.lenOf v2).run P w = .ok xl w ∧ (Builtin.firstCells ei.size (Nat.min xl dl) v2).run P w = .ok us.toArray w := by
            rcases slice_cells h hu hxl with ⟨rfl, rfl, rfl⟩ | ⟨rfl, rfl, ad, c', rfl⟩ | ⟨b, o, c, e', c', rfl, he, rfl⟩
            · simp only [cellsV] at hc; cases hc
              exact ⟨[], rfl, rfl, rfl, by simp [Builtin.firstCells]⟩
            · simp only [cellsV] at hc; cases hc
              refine ⟨[], rfl, rfl, rfl, ?_⟩
              have : Nat.min 0 dl = 0 := Nat.zero_min _
              rw [this]
              simp [Builtin.firstCells, loadCells, loadCellsFrom]
            · obtain ⟨us, h1, h2, _, _, h5⟩ := cellsV_ok (P := P) h hc he c'
              have h6 := h5 w rfl
              exact ⟨us, h1, h2, rfl, h6⟩
          obtain ⟨us, hus, hone, hlen, hfirst⟩ := hsrc
          -- the destination
          have hdst : (∃ base c', v = .slice base dl c' ∧ (d = .nsl → base = none) ∧ ∀ b o n c, d = .sl b o n c → ∃ e', s b = some e' ∧ base = some (e'.ad o)) := by
            rcases slice_cells h hv hd with ⟨rfl, rfl, rfl⟩ | ⟨rfl, rfl, ad, c', rfl⟩ | ⟨b, o, c, e', c', rfl, he, rfl⟩
            · exact ⟨none, 0, rfl, fun _ => rfl, fun _ _ _ _ q => (by cases q)⟩
            · exact ⟨some ad, c', rfl, fun q => (by cases q), fun _ _ _ _ q => (by cases q)⟩
            · exact ⟨_, c', rfl, fun q => (by cases q), fun _ _ _ _ q => (by cases q; exact ⟨e', he, rfl⟩)⟩
          obtain ⟨base, c', rfl, hb1, hb2⟩ := hdst
          have hgoint : goInt (Nat.min xl dl : Nat) = .int .i64 (.ofNat (Nat.min xl dl)) := rfl
          have hpre : ∀ (w' : World), (match base with | some a => storeCells a us | none => pure () : Sem Unit).run P w = .ok () w' → (Builtin.copy_ #[t, u] ty #[.slice base dl c', v2]).run P w = .ok (.int .i64 (.ofNat (Nat.min xl dl))) w' := by
            intro w' hw'
            unfold Builtin.copy_
            simp only [List.getElem?_toArray, List.getElem?_cons_zero, List.getElem?_cons_succ]
            cases base with
            | none => simp only [Sem.run_bind, run_underlying htu, Result.andThen_ok, hlen, hso, hfirst, Sem.run_pure] at hw' ⊢; cases hw'; rfl
            | some ad => simp only [Sem.run_bind, run_underlying htu, Result.andThen_ok, hlen, hso, hfirst, Sem.run_pure] at hw' ⊢; rw [hw']; rfl
          cases cs with
          | nil =>
            rw [VRs] at hus; subst hus
            cases ha
            refine ⟨_, w, hpre w ?_, rfl, h⟩
            cases base <;> rfl
          | cons c0 cs =>
            cases d with
            | sl b o n c =>
              dsimp only at ha
              cases hst : S.store C.fl b o (c0 :: cs) with
              | none => rw [hst] at ha; cases ha
              | some S2 =>
                rw [hst] at ha; cases ha
                obtain ⟨e', he, hbase⟩ := hb2 b o n c rfl
                subst hbase
                obtain ⟨e2, arr, ety, h2, hh, hfits, hones, hrel⟩ := h.store hst (by simp) hus hone
                rw [he] at h2; cases h2
                have hsc := run_storeCells_at P e'.blk (e'.sh + o) ety us 0 arr w hh (by simpa using hfits) hones
                exact ⟨_, _, hpre _ hsc, rfl, hrel⟩
            | _ => cases ha
theorem zeroCells_made (z : Array Value) (n : Nat) : Builtin.zeroCells z n = madeCells z (n * z.size) := rfl
theorem clear_ok (hC : CtxOk P C) (h : Rel ⟨C.fl, q⟩ s S w) {t : Nat} {x : XV} {S' : St} {v : Value} (hv : VR s x v) (ha : xclear C t x S = some S') (ty : TypeId) :
    ∃ w', (Builtin.clear_ #[t] ty #[v]).run P w = .ok (.tuple #[]) w' ∧ Rel ⟨C.fl, q⟩ s S' w' := by
  unfold xclear at ha
  cases het : elemT C t with
  | none => rw [het] at ha; cases ha
  | some ei =>
    rw [het] at ha; dsimp only at ha
    obtain ⟨e, htu, hce⟩ := elemT_ok hC het
    obtain ⟨ti, z, hti, hsz, hz0, hzv, hz1, hzs⟩ := zeros_ok (s := s) hC hce
    have hzr : (zeroValue e).run P w = .ok z w := by simp [zeroValue, typeInfo, hti, hz0]
    cases x with
    | nsl => cases ha; rw [VR] at hv; subst hv; exact ⟨w, by simp [Builtin.clear_, run_underlying htu], h⟩
    | esl => cases ha; obtain ⟨ad, c, rfl⟩ := hv; exact ⟨w, by simp [Builtin.clear_, run_underlying htu], h⟩
    | sl b o n c =>
      have hv' : ∃ e', s b = some e' ∧ ∃ c', v = .slice (some (e'.ad o)) n c' := by
        cases c <;> (obtain ⟨e', h1, h2⟩ := hv; exact ⟨e', h1, _, h2⟩)
      obtain ⟨e', h1, c', rfl⟩ := hv'
      dsimp only at ha
      cases hn : Nat.beq n 0 with
      | true =>
        rw [hn] at ha; cases ha
        have := bnot_eq.1 hn; subst this
        exact ⟨w, by simp [Builtin.clear_, run_underlying htu], h⟩
      | false => cases hs : Nat.beq ei.size 0 with
        | true => rw [hn, hs] at ha; cases ha
        | false =>
          rw [hn, hs] at ha; dsimp only at ha
          have hne := bnot_ne.1 hn
          have hse := bnot_ne.1 hs
          have hm := zeros_made hzv n
          have hzl : ei.zero.length = ei.size := (hC.ty e ei hce).2.choose_spec.choose_spec.2.2.2.2.2.1
          have hnn : zeros ei.zero n ≠ [] := fun q => by
            have := congrArg List.length q
            rw [zeros_length, hzl] at this
            have h8 : n * ei.size = 0 := this
            have := Nat.mul_pos (show 0 < n by omega) (show 0 < ei.size by omega)
            omega
          obtain ⟨e2, arr, ety, h2, hh, hfits, hone, hrel⟩ := h.store ha hnn hm (zeros_one hz1 n)
          rw [h1] at h2; cases h2
          have hst := run_storeCells_at P e'.blk (e'.sh + o) ety (madeCells z.cells (n * z.cells.size)).toList 0 arr w hh (by simpa using hfits) hone
          refine ⟨_, ?_, hrel⟩
          obtain ⟨n', rfl⟩ : ∃ n', n = n' + 1 := ⟨n - 1, by omega⟩
          unfold Builtin.clear_
          simp only [List.getElem?_toArray, List.getElem?_cons_zero]
          rw [Sem.run_bind, run_underlying htu, Result.andThen_ok]
          show ((zeroValue e >>= fun z => storeCells (e'.ad o) (Builtin.zeroCells z.cells (n' + 1)).toList >>= fun _ => pure (.tuple #[])) : Sem Value).run P w = _
          rw [Sem.run_bind, hzr, Result.andThen_ok, zeroCells_made]
          have hst' : (storeCells (e'.ad o) (madeCells z.cells ((n' + 1) * z.cells.size)).toList).run P w = .ok () (w.setRow e'.blk (wr arr (e'.sh + o) (madeCells z.cells ((n' + 1) * z.cells.size)).toList)) := hst
          rw [Sem.run_bind, hst']
          rfl
    | _ => cases ha
end
end Go.Proofs.YtlibeobmdjeilaaGreatDoor.Ex
namespace Go.Proofs.YtlibeobmdjeilaaGreatDoor.Ex
open Go Go.RowKit
/-- What an operation that acts on memory leaves. -/
def ActOk (P : Program) (a : Act) (o : Oper) (w : World) (g : Gh) (s : Env) (x : XV) (S' : St) : Prop :=
  ∃ (t : Env) (v : Value) (w' : World), s.le t ∧ ((execOp a.eval o).run P w = .ok (.value v) w' ∨ ((execOp a.eval o).run P w = .ok .skip w' ∧ v = undef)) ∧ VR t x v ∧ Rel g t S' w'
section
variable {P : Program} {C : Ctx} {q : Gq} {s : Env} {S : St} {w : World} {fr : Fr} {a : Act}
theorem undef_VR : VR s (.tup []) undef := ⟨[], rfl, rfl⟩
theorem same_bits {kd : TypeDesc} {k b : XV} (hk : keyFit kd k = true) {v u : Value} (hv : VR s k v) (hu : VR s b u) (h : xeq1 k b = some true) : Instr.sameBits 10000 u v = true ∧ VR s b v := by
  cases kd <;> cases k <;> simp only [keyFit] at hk <;> first | (cases hk; done) | skip
  all_goals cases b <;> simp only [xeq1] at h <;> first | (cases h; done) | skip
  · rename_i x y
    rw [VR] at hv hu; subst hv hu
    have : x = y := by simpa using h
    subst this
    exact ⟨by simp [Instr.sameBits], rfl⟩
  · rename_i j n k' m
    cases hq : keq j k' with
    | false => rw [hq] at h; cases h
    | true =>
      rw [hq] at h
      have := keq_eq hq; subst this
      have h2 : ieq n m = true := by simpa using h
      rw [ieq_eq] at h2
      have : n = m := by simpa using h2
      subst this
      rw [VR] at hv hu; subst hv hu
      exact ⟨by simp [Instr.sameBits], rfl⟩
  · rename_i x y
    rw [VR] at hv hu; subst hv hu
    have h2 : seq x y = true := by simpa using h
    rw [seq_eq] at h2
    have : x = y := by simpa using h2
    subst this
    refine ⟨?_, rfl⟩
    simp only [Instr.sameBits]
    show ((⟨x⟩ : Array UInt8) == ⟨x⟩) = true
    simp
theorem findU_ok {kd : TypeDesc} {k : XV} (hk : keyFit kd k = true) {v : Value} (hv : VR s k v) {y : XV} {z : Value} (hz : VR s y z) : ∀ {es : List (XV × XV × Nat)} {ms : List MapEntry} {i j b : Nat} {x : XV}, MRs s es ms → findK k es i = some (some (j, x, b)) →
    ∃ n m, j = i + n ∧ ms[n]? = some m ∧ Instr.findNow kd v ms i = some (some (j, m.val)) ∧ Instr.sameBits 10000 m.key v = true ∧ MRs s (setK es n y) (ms.modify n fun e => { e with key := v, val := z })
  | [], ms, i, j, b, x, hm, h => by simp only [findK] at h; cases h
  | (c, x', b') :: es, ms, i, j, b, x, hm, h => by
    obtain ⟨m, ns, rfl, h1, h2, h3, h4⟩ := hm
    simp only [findK] at h
    cases hq : xeq1 k c with
    | none => rw [hq] at h; cases h
    | some t =>
      have hs := same_ok hk hv h1 hq
      rw [hq] at h
      cases t with
      | true =>
        cases h
        obtain ⟨h5, h6⟩ := same_bits hk hv h1 hq
        exact ⟨0, m, rfl, rfl, by simp [Instr.findNow, hs], h5, _, _, rfl, h6, hz, h3, h4⟩
      | false =>
        dsimp only at h
        obtain ⟨n, m', h5, h6, h7, h8, h9⟩ := findU_ok hk hv hz h4 h
        exact ⟨n + 1, m', by omega, by simpa using h6, by simp [Instr.findNow, hs, h7], h8, m, _, rfl, h1, h2, h3, h9⟩
theorem MRs.snoc : ∀ {es : List (XV × XV × Nat)} {ms : List MapEntry} (_ : MRs s es ms) {k x : XV} {v z : Value} (_ : VR s k v) (_ : VR s x z) (c : Nat), MRs s (es ++ [(k, x, c)]) (ms ++ [{ key := v, val := z, born := c }])
  | [], ms, hm, k, x, v, z, hv, hz, c => by rw [MRs] at hm; subst hm; exact ⟨_, [], rfl, hv, hz, rfl, rfl⟩
  | (_, _, _) :: es, ms, hm, k, x, v, z, hv, hz, c => by
    obtain ⟨m, ns, rfl, h1, h2, h3, h4⟩ := hm
    exact ⟨m, _, rfl, h1, h2, h3, h4.snoc hv hz c⟩
theorem update_ok (hC : CtxOk P C) (h : Rel ⟨C.fl, q⟩ s S w) {t : Nat} {m k x : XV} {S' : St} {v u z : Value} (hv : VR s m v) (hu : VR s k u) (hz : VR s x z) (hx : xupdate C t m k x S = some S') :
    ∃ w', (Instr.mapUpdate t v u z).run P w = .ok () w' ∧ Rel ⟨C.fl, q⟩ s S' w' := by
  unfold xupdate at hx
  cases ht : C.ty t with
  | none => rw [ht] at hx; cases hx
  | some i =>
    rw [ht] at hx; dsimp only at hx
    have hun := hC.und (w := w) ht
    split at hx
    · rename_i kt et hund
      rw [hund] at hun
      cases hkt : C.ty kt with
      | none => rw [hkt] at hx; cases hx
      | some ki =>
        rw [hkt] at hx; dsimp only at hx
        cases hf : keyFit ki.und k with
        | false => rw [hf] at hx; cases hx
        | true =>
          rw [hf] at hx; dsimp only at hx
          cases m with
          | map b =>
            dsimp only at hx
            cases hg : S.hp.get b with
            | none => rw [hg] at hx; cases hx
            | some o =>
              rw [hg] at hx
              cases o with
              | map es clock =>
                dsimp only at hx
                obtain ⟨e', he, rfl⟩ := hv
                obtain ⟨e2, ob, h1, h2, ents, rfl, h3⟩ := h.obj b _ hg
                rw [he] at h1; cases h1
                have hck := checkKey_ok (P := P) (w := w) hC hkt hf hu false
                cases hfk : findK k es 0 with
                | none => rw [hfk] at hx; cases hx
                | some r =>
                  cases r with
                  | none =>
                    rw [hfk] at hx; dsimp only at hx
                    have hfn : Instr.findNow ki.und u ents.toList 0 = some none := by
                      rcases findK_ok hf hu h3 hfk with ⟨_, h4⟩ | ⟨j, x', b', z', h4, _⟩
                      · exact h4
                      · cases h4
                    have hfi := findKey_ok (P := P) (w := w) hC hkt hfn
                    refine ⟨_, ?_, h.put (g := ⟨C.fl, q⟩) hg rfl hx he (ob' := .map (ents.push { key := u, val := z, born := clock }) (clock + 1)) ⟨_, rfl, ?_⟩⟩
                    · unfold Instr.mapUpdate
                      simp only [Sem.run_bind, hun, Result.andThen_ok, MapKept.run_getObj_map h2, hck, hfi, MapKept.run_setObj_map _ h2]
                    · rw [Array.toList_push]
                      exact h3.snoc hu hz clock
                  | some r =>
                    obtain ⟨j, x', b'⟩ := r
                    rw [hfk] at hx; dsimp only at hx
                    obtain ⟨n, m', h4, h5, h6, h7, h8⟩ := findU_ok hf hu hz h3 hfk
                    rw [Nat.zero_add] at h4; subst h4
                    have hfi := findKey_ok (P := P) (w := w) hC hkt h6
                    have h9 : ents[j]? = some m' := by rw [← Array.getElem?_toList]; exact h5
                    refine ⟨_, ?_, h.put (g := ⟨C.fl, q⟩) hg rfl hx he (ob' := .map (ents.modify j fun e => { e with key := u, val := z }) clock) ⟨_, rfl, ?_⟩⟩
                    · unfold Instr.mapUpdate
                      simp only [Sem.run_bind, hun, Result.andThen_ok, MapKept.run_getObj_map h2, hck, hfi, h9, Option.map_some, Option.getD_some, Instr.keyThatStays, h7, if_true, Sem.run_pure, MapKept.run_setObj_map _ h2]
                    · rw [Array.toList_modify]
                      exact h8
              | _ => cases hx
          | _ => cases hx
    · cases hx
theorem get_drop (l : List UInt8) (p : Nat) : (⟨⟨l⟩⟩ : ByteArray).get! p = (l.drop p).headD default := by
  show (⟨l⟩ : Array UInt8)[p]! = _
  rw [List.headD_eq_head?_getD, List.head?_drop]
  simp [getElem!_def]
  cases l[p]? <;> rfl
theorem decode_ok {l : List UInt8} {p c k : Nat} (h : utf8D (l.drop p) = some (c, k)) : Utf8.decode ⟨⟨l⟩⟩ p = (c, k) := by
  unfold utf8D at h
  cases hd : l.drop p with
  | nil => rw [hd] at h; cases h
  | cons b r =>
    rw [hd] at h; dsimp only at h
    cases hb : Nat.blt b.toNat 128 with
    | false => rw [hb] at h; cases h
    | true =>
      rw [hb] at h; cases h
      have hlt := blt_iff.1 hb
      unfold Utf8.decode
      simp only [Nat.add_zero, get_drop, hd, List.headD_cons]
      rw [if_pos hlt]
theorem next_ok (h : Rel ⟨C.fl, q⟩ s S w) {x r : XV} {S' : St} {v : Value} (hv : VR s x v) (hx : xnext C x S = some (r, S')) (ty : TypeId) :
    ∃ z w', (Instr.next v true ty).run P w = .ok z w' ∧ VR s r z ∧ Rel ⟨C.fl, q⟩ s S' w' := by
  unfold xnext at hx
  split at hx
  · rename_i b
    obtain ⟨e, he, rfl⟩ := hv
    cases hg : S.hp.get b with
    | none => rw [hg] at hx; cases hx
    | some o =>
      rw [hg] at hx
      cases o with
      | siter l p =>
        dsimp only at hx
        obtain ⟨e2, ob, h1, h2, h3⟩ := h.obj b _ hg
        rw [he] at h1; cases h1
        obtain ⟨h3', h4⟩ : ob = .stringIter ⟨⟨l⟩⟩ p ∧ e.sh = 0 := h3
        subst h3'
        have had : e.ad 0 = ⟨e.blk, 0, none⟩ := by simp [E.ad, h4]
        have hgo : (getObj e.blk).run P w = .ok (.stringIter ⟨⟨l⟩⟩ p) w := by simp [getObj, Sem.run, h2]
        have hso : ∀ o', (setObj e.blk o').run P w = .ok () { w with heap := w.heap.setIfInBounds e.blk o' } := fun o' => by simp [setObj, Sem.run, h2]
        cases hb : Nat.blt p l.length with
        | false =>
          rw [hb] at hx; cases hx
          have hnp : ¬ p < (⟨⟨l⟩⟩ : ByteArray).size := fun q => by
            have : Nat.blt p l.length = true := blt_iff.2 q
            rw [this] at hb; cases hb
          refine ⟨.tuple #[.bool false], w, ?_, ⟨[_], rfl, _, _, rfl, rfl, rfl⟩, h⟩
          rw [had]
          unfold Instr.next
          simp only [Sem.run_bind, hgo, Result.andThen_ok, hnp, if_false, Sem.run_pure]
        | true =>
          rw [hb] at hx; dsimp only at hx
          have hp : p < (⟨⟨l⟩⟩ : ByteArray).size := blt_iff.1 hb
          cases hu : utf8D (l.drop p) with
          | none => rw [hu] at hx; cases hx
          | some ck =>
            obtain ⟨c, k⟩ := ck
            rw [hu] at hx; dsimp only at hx
            cases hput : S.put C.fl b (.siter l (p + k)) with
            | none => rw [hput] at hx; cases hx
            | some S1 =>
              rw [hput] at hx; cases hx
              refine ⟨.tuple #[.bool true, .int .i64 (.ofNat p), .int .i32 (.ofNat c)], _, ?_, ⟨[_, _, _], rfl, _, _, rfl, rfl, _, _, rfl, rfl, _, _, rfl, rfl, rfl⟩, h.put (g := ⟨C.fl, q⟩) hg rfl hput he (ob' := .stringIter ⟨⟨l⟩⟩ (p + k)) ⟨rfl, h4⟩⟩
              rw [had]
              unfold Instr.next
              simp only [Sem.run_bind, hgo, Result.andThen_ok, hp, if_true, decode_ok hu, hso, Sem.run_pure]
              rfl
      | _ => cases hx
  · cases hx
theorem skip_to {x : Sem Unit} {w' : World} (h : x.run P w = .ok () w') : ((do x; pure .skip) : Sem Next).run P w = .ok .skip w' := by
  rw [Sem.run_bind, h]; rfl
theorem xact_ok (hC : CtxOk P C) (h : Rel ⟨C.fl, q⟩ s S w) (hf : FrR s fr a.tmps) {x : XV} {S' : St} {o : Oper} (hx : xact C fr S o.op = some (x, S')) : ActOk P a o w ⟨C.fl, q⟩ s x S' := by
  have ev : ∀ {y : Operand} {v : XV}, fr.ev C.fl y = some v → VR s v (a.eval y) := fun hv => ev_ok h hf hv
  have upd : ∀ {t : Nat} {m k z : Operand} {S1 : St} {mv kv zv : XV}, fr.ev C.fl m = some mv → fr.ev C.fl k = some kv → fr.ev C.fl z = some zv → xupdate C t mv kv zv S = some S1 → ∃ w', (Instr.mapUpdate t (a.eval m) (a.eval k) (a.eval z)).run P w = .ok () w' ∧ Rel ⟨C.fl, q⟩ s S1 w' :=
    fun h1 h2 h3 h4 => update_ok hC h (ev h1) (ev h2) (ev h3) h4
  unfold ActOk execOp
  cases ho : o.op <;> rw [ho] at hx <;> simp only [xact] at hx <;> first | (cases hx; done) | skip
  case store t y z =>
    cases ht : C.ty t with
    | none => rw [ht] at hx; cases hx
    | some i => cases hy : fr.ev C.fl y with
      | none => rw [ht, hy] at hx; cases hx
      | some yv => cases hz : fr.ev C.fl z with
        | none => rw [ht, hy, hz] at hx; cases yv <;> cases hx
        | some zv =>
          rw [ht, hy, hz] at hx
          have hyv := ev hy
          cases yv with
          | ptr b o' =>
            dsimp only at hx
            cases hs : storeT C.fl i S b o' zv with
            | none => rw [hs] at hx; cases hx
            | some S1 =>
              rw [hs] at hx; cases hx
              obtain ⟨e, he, hye⟩ := hyv
              obtain ⟨e2, w', h1, h2, h3⟩ := store_ok (g := ⟨C.fl, q⟩) hC h ht (ev hz) hs
              rw [he] at h1; cases h1
              refine ⟨s, undef, w', Env.le.rf s, .inr ⟨skip_to ?_, rfl⟩, undef_VR, h3⟩
              rw [hye]
              exact h2
          | _ => cases hx
  case mapUpdate t m k z =>
    cases hm : fr.ev C.fl m with
    | none => rw [hm] at hx; cases hx
    | some mv => cases hk : fr.ev C.fl k with
      | none => rw [hm, hk] at hx; cases hx
      | some kv => cases hz : fr.ev C.fl z with
        | none => rw [hm, hk, hz] at hx; cases hx
        | some zv =>
          rw [hm, hk, hz] at hx; dsimp only at hx
          cases hs : xupdate C t mv kv zv S with
          | none => rw [hs] at hx; cases hx
          | some S1 =>
            rw [hs] at hx; cases hx
            obtain ⟨w', h1, h2⟩ := upd hm hk hz hs
            exact ⟨s, undef, w', Env.le.rf s, .inr ⟨skip_to h1, rfl⟩, undef_VR, h2⟩
  case insert t m k z =>
    cases hm : fr.ev C.fl m with
    | none => rw [hm] at hx; cases hx
    | some mv => cases hk : fr.ev C.fl k with
      | none => rw [hm, hk] at hx; cases hx
      | some kv => cases hz : fr.ev C.fl z with
        | none => rw [hm, hk, hz] at hx; cases hx
        | some zv =>
          rw [hm, hk, hz] at hx; dsimp only at hx
          cases hs : xupdate C t mv kv zv S with
          | none => rw [hs] at hx; cases hx
          | some S1 =>
            rw [hs] at hx; cases hx
            obtain ⟨w', h1, h2⟩ := upd hm hk hz hs
            exact ⟨s, undef, w', Env.le.rf s, .inr ⟨skip_to h1, rfl⟩, undef_VR, h2⟩
  case next y b =>
    cases b with
    | false => cases hx
    | true =>
      simp only at hx
      cases hy : fr.ev C.fl y with
      | none => rw [hy] at hx; cases hx
      | some yv =>
        rw [hy] at hx
        obtain ⟨z, w', h1, h2, h3⟩ := next_ok (P := P) (C := C) h (ev hy) hx o.type
        exact ⟨s, z, w', Env.le.rf s, .inl (next_to h1), h2, h3⟩
  case call c =>
    split at hx
    · rename_i b args hcal hargs
      have h1 := evs_ok h hf hargs
      have hm := map_ev (a := a) (ys := c.args) rfl
      unfold xbuiltin at hx
      split at hx
      · rename_i t u y z hts
        obtain ⟨v, vs, hvs, h2, v2, vs2, hvs2, h3, h5⟩ := h1
        rw [VRs] at h5; subst h5; subst hvs2
        obtain ⟨t', z', w', h6, h7, h8, h9⟩ := append_ok hC h h2 h3 hx o.type
        have h4 : c.argTypes = ⟨[t, u]⟩ := by apply Array.ext'; exact hts
        have h7' : (Builtin.append_ ⟨[t, u]⟩ o.type ⟨[v, v2]⟩).run P w = .ok z' w' := h7
        refine ⟨t', z', w', h6, .inl ?_, h8, h9⟩
        simp only [resolve, hcal, hm, hvs, invoke, builtin, Sem.run_bind, Sem.run_pure, Result.andThen_ok, h4, h7']
      · rename_i t u y z hts
        obtain ⟨v, vs, hvs, h2, v2, vs2, hvs2, h3, h5⟩ := h1
        rw [VRs] at h5; subst h5; subst hvs2
        obtain ⟨z', w', h7, h8, h9⟩ := copy_ok (u := u) hC h h2 h3 hx o.type
        have h4 : c.argTypes = ⟨[t, u]⟩ := by apply Array.ext'; exact hts
        have h7' : (Builtin.copy_ ⟨[t, u]⟩ o.type ⟨[v, v2]⟩).run P w = .ok z' w' := h7
        refine ⟨s, z', w', Env.le.rf s, .inl ?_, h8, h9⟩
        simp only [resolve, hcal, hm, hvs, invoke, builtin, Sem.run_bind, Sem.run_pure, Result.andThen_ok, h4, h7']
      · rename_i t y hts
        obtain ⟨v, vs, hvs, h2, h5⟩ := h1
        rw [VRs] at h5; subst h5
        cases hc : xclear C t y S with
        | none => rw [hc] at hx; cases hx
        | some S1 =>
          rw [hc] at hx; cases hx
          obtain ⟨w', h7, h9⟩ := clear_ok hC h h2 hc o.type
          have h4 : c.argTypes = ⟨[t]⟩ := by apply Array.ext'; exact hts
          have h7' : (Builtin.clear_ ⟨[t]⟩ o.type ⟨[v]⟩).run P w = .ok (.tuple #[]) w' := h7
          refine ⟨s, .tuple #[], w', Env.le.rf s, .inl ?_, ⟨[], rfl, rfl⟩, h9⟩
          simp only [resolve, hcal, hm, hvs, invoke, builtin, Sem.run_bind, Sem.run_pure, Result.andThen_ok, h4, h7']
      · cases hx
    · cases hx
end
end Go.Proofs.YtlibeobmdjeilaaGreatDoor.Ex
namespace Go.Proofs.YtlibeobmdjeilaaGreatDoor.Ex
open Go Go.RowKit
/-- A function that is called does what the executor says. -/
def CallsOk (P : Program) (C : Ctx) (call : CallK) : Prop := ∀ (q : Gq) (s : Env) (S : St) (w : World) (f : Nat) (args : List XV) (us : List Value) (x : XV) (S' : St),
  Rel ⟨C.fl, q⟩ s S w → VRs s args us → call f args S = some (x, S') →
    (∀ (as : Array Value) (w : World), (callFunc f as).run P w = .ok (.enter f as) w) ∧
    ∀ n, CallsIn Fence.wide n P f ⟨us⟩ w fun e w' => ∃ (t : Env) (v : Value), s.le t ∧ e = .returned v ∧ VR t x v ∧ Rel ⟨C.fl, q⟩ t S' w'
/-- A round does what the executor says. -/
def YldOk (P : Program) (C : Ctx) (yld : CallK) : Prop := ∀ (q : Gq) (s : Env) (S : St) (w : World) (l : Nat) (args : List XV) (us : List Value) (x : XV) (S' : St) (e : E),
  Rel ⟨C.fl, q⟩ s S w → VRs s args us → yld l args S = some (x, S') → s l = some e →
    ∃ (f : FuncId) (tmps : Array Value) (as body : Code), (Instr.yield e.blk ⟨us⟩).run P w = .ok (.round e.blk f tmps as body) w ∧
    ∀ n, RoundIn Fence.wide n P e.blk f tmps as body w fun en w' => ∃ (t : Env) (v : Value), s.le t ∧ en = .returned v ∧ VR t x v ∧ Rel ⟨C.fl, q⟩ t S' w'
def WideF (F : Fence) : Prop := F = Fence.wide ∨ ∃ l, F = Fence.wide.inRound l
section
variable {P : Program} {C : Ctx} {q : Gq} {s : Env} {S : St} {w : World} {fr : Fr} {a : Act} {call yld : CallK} {F : Fence} {n : Nat}
theorem WideF.fn (h : WideF F) (f : FuncId) : F.fn f := by
  rcases h with rfl | ⟨l, rfl⟩ <;> trivial
theorem WideF.dep (h : WideF F) : F.depth.isSome = true → 1 ≤ n := by
  rcases h with rfl | ⟨l, rfl⟩ <;> (intro h; cases h)
theorem WideF.calls (h : WideF F) {f : FuncId} {args : Array Value} {R : Ending → World → Prop} (hc : CallsIn Fence.wide n P f args w R) : CallsIn F n P f args w R := by
  rcases h with rfl | ⟨l, rfl⟩
  · exact hc
  · exact hc.inRound l
theorem WideF.round (h : WideF F) {l : Nat} {f : FuncId} {tmps : Array Value} {as body : Code} {R : Ending → World → Prop} (hc : RoundIn Fence.wide n P l f tmps as body w R) : RoundIn F n P l f tmps as body w R := by
  rcases h with rfl | ⟨l, rfl⟩
  · exact hc
  · exact hc
theorem put_size (a : Act) (d : Option Nat) (v : Value) : (a.put d v).tmps.size = a.tmps.size := by cases d <;> simp [Act.put]
theorem put_defers (a : Act) (d : Option Nat) (v : Value) : (a.put d v).defers = a.defers := by cases d <;> rfl
theorem FrR.mono {t : Env} (h : s.le t) {tm : Array Value} (k : FrR s fr tm) : FrR t fr tm := ⟨k.size, k.tm.mono h⟩
theorem FrR.put (h : FrR s fr a.tmps) {x : XV} {v : Value} (hv : VR s x v) (d : Option Nat) : FrR s (fr.set d (some x)) (a.put d v).tmps := by
  cases d with
  | none => exact h
  | some t =>
    unfold Fr.set
    dsimp only
    cases hb : Nat.blt t fr.n with
    | false =>
      have hnb : ¬ t < fr.n := fun q => by rw [blt_iff.2 q] at hb; cases hb
      have : (a.put (some t) v).tmps = a.tmps := by
        simp only [Act.put]
        rw [Array.setIfInBounds_eq_of_size_le (by rw [h.size]; omega)]
      rw [this]; exact h
    | true =>
      have hlt := blt_iff.1 hb
      refine ⟨by rw [put_size]; exact h.size, fun i y hy => ?_⟩
      simp only [T.get_set] at hy
      by_cases q : i = t
      · subst q
        rw [if_pos rfl] at hy; cases hy
        exact ⟨v, by simp [Act.put, h.size, hlt], hv⟩
      · rw [if_neg q] at hy
        obtain ⟨u, h1, h2⟩ := h.tm i y hy
        exact ⟨u, by simp only [Act.put]; rw [Array.getElem?_setIfInBounds_ne (Ne.symm q)]; exact h1, h2⟩
theorem FrR.erase (h : FrR s fr a.tmps) (d : Option Nat) : FrR s (fr.set d none) a.tmps := by
  cases d with
  | none => exact h
  | some t =>
    unfold Fr.set
    dsimp only
    cases hb : Nat.blt t fr.n with
    | false => exact h
    | true =>
      refine ⟨h.size, fun i y hy => ?_⟩
      simp only [T.get_set] at hy
      by_cases q : i = t
      · rw [if_pos q] at hy; cases hy
      · rw [if_neg q] at hy; exact h.tm i y hy
theorem wanted_ok (hf : FrR s fr a.tmps) {ops : Array Oper} {o : Oper} {b : Bool} (h : wantedB fr ops.toList o = some b) : Region.wanted o (yielded ops a.tmps) = b := by
  unfold wantedB at h
  unfold Region.wanted
  cases hg : o.guard with
  | none => rw [hg] at h; cases h; rfl
  | some q =>
    obtain ⟨j, want⟩ := q
    rw [hg] at h; dsimp only at h ⊢
    unfold yielded
    rw [Array.getElem?_toList] at h
    cases ho : ops[j]? with
    | none => rw [ho] at h; cases h; rfl
    | some o' =>
      rw [ho] at h; dsimp only at h
      cases hd : o'.dst with
      | none => rw [hd] at h; cases h; simp [hd]
      | some t =>
        rw [hd] at h; dsimp only at h
        cases hx : fr.tm.get t with
        | none => rw [hx] at h; cases h
        | some x =>
          rw [hx] at h
          obtain ⟨v, h1, h2⟩ := hf.tm t x hx
          simp only [Option.bind_some, hd, h1]
          cases x with
          | bool b' =>
            cases h
            rw [VR] at h2; subst h2
            cases b' <;> cases want <;> rfl
          | sl b1 o1 n1 c1 => cases h; cases c1 <;> (obtain ⟨e, _, rfl⟩ := h2; rfl)
          | ptr b1 o1 => cases h; obtain ⟨e, _, rfl⟩ := h2; rfl
          | map b1 => cases h; obtain ⟨e, _, rfl⟩ := h2; rfl
          | yld b1 => cases h; obtain ⟨e, _, rfl⟩ := h2; rfl
          | fn f p q => cases h; obtain ⟨va, vc, rfl, _⟩ := h2; rfl
          | agg l => cases h; obtain ⟨vs, rfl, _⟩ := h2; rfl
          | tup l => cases h; obtain ⟨vs, rfl, _⟩ := h2; rfl
          | int k m => cases h; rw [VR] at h2; subst h2; rfl
          | str l => cases h; rw [VR] at h2; subst h2; rfl
          | nilp => cases h; rw [VR] at h2; subst h2; rfl
          | nsl => cases h; rw [VR] at h2; subst h2; rfl
          | esl => cases h; obtain ⟨ad, c, rfl⟩ := h2; rfl
          | nmap => cases h; rw [VR] at h2; subst h2; rfl
          | nfn => cases h; rw [VR] at h2; subst h2; rfl
theorem xoper_ok (hC : CtxOk P C) (hcall : CallsOk P C call) (hyld : YldOk P C yld) (h : Rel ⟨C.fl, q⟩ s S w) (hf : FrR s fr a.tmps) (hF : WideF F) {o : Oper} {x : XV} {S' : St} (hx : xoper C call yld fr S o.op = some (x, S'))
    {next : Act → World → Prop} {Q : Exit → Act → World → Prop} (hn : ∀ (t : Env) (v : Value) (w' : World), s.le t → VR t x v → Rel ⟨C.fl, q⟩ t S' w' → next (a.put o.dst v) w') : o.wpIn F n P a w next Q := by
  refine ⟨fun f _ => hF.fn f, ?_⟩
  have hnd : ∀ c, o.op ≠ .defer c := by
    intro c hc
    rw [hc] at hx
    simp [xoper, isQ, xval] at hx
  rw [Oper.semAt_eq _ _ _ hnd]
  have fromAct : ActOk P a o w ⟨C.fl, q⟩ s x S' → o.uponIn F n P a next Q ((execOp a.eval o).run P w) := by
    rintro ⟨t, v, w', h1, h2 | ⟨h2, rfl⟩, h3, h4⟩
    · rw [h2]; exact hn t v w' h1 h3 h4
    · rw [h2]; exact hn t _ w' h1 h3 h4
  unfold xoper at hx
  cases hq : isQ o.op with
  | true =>
    rw [hq] at hx; dsimp only at hx
    cases hv : xval C fr S o.op with
    | none => rw [hv] at hx; cases hx
    | some y =>
      rw [hv] at hx; cases hx
      obtain ⟨v, h1, h2⟩ := xval_ok hC h hf hv
      rw [h1]
      exact hn s v w (Env.le.rf s) h2 h
  | false =>
    rw [hq] at hx; dsimp only at hx
    split at hx
    · rename_i c hc
      split at hx
      · rename_i b args hcal hargs
        refine fromAct (xact_ok hC h hf ?_)
        rw [hc]
        simp only [xact, hcal, hargs]
        exact hx
      · rename_i f args hcal hargs
        have hav := evs_ok h hf hargs
        have hm := map_ev (a := a) (ys := c.args) rfl
        cases hfv : fr.ev C.fl f with
        | none => rw [hfv] at hx; cases hx
        | some fv =>
          rw [hfv] at hx
          have hfr := ev_ok h hf hfv
          cases fv with
          | fn k first cap =>
            dsimp only at hx
            obtain ⟨va, vc, hfe, h1, h2⟩ := hfr
            obtain ⟨h3, h4⟩ := hcall q s S w k _ _ x S' h ((h1.append hav).append h2) hx
            have hrun : (execOp a.eval o).run P w = .ok (.enter k ⟨va ++ c.args.toList.map a.eval ++ vc⟩) w := by
              unfold execOp
              simp only [hc, resolve, hcal, hfe, Deferred.ofValue, invoke, Sem.run_bind, Sem.run_pure, Result.andThen_ok, hm, h3]
              have e1 : ∀ a b : List Value, (⟨a⟩ : Array Value) ++ ⟨b⟩ = ⟨a ++ b⟩ := fun a b => by apply Array.ext'; simp
              rw [e1, e1]
            rw [hrun]
            refine ⟨hF.dep, hF.calls ((h4 (n - 1)).mono ?_)⟩
            rintro e w' ⟨t, v, h5, rfl, h6, h7⟩
            exact hn t v w' h5 h6 h7
          | yld l =>
            dsimp only at hx
            obtain ⟨e, he, hfe⟩ := hfr
            obtain ⟨f', tmps, as, body, h3, h4⟩ := hyld q s S w l _ _ x S' e h hav hx he
            have hrun : (execOp a.eval o).run P w = .ok (.round e.blk f' tmps as body) w := by
              unfold execOp
              have e0 : (#[] : Array Value) ++ (⟨c.args.toList.map a.eval⟩ : Array Value) = ⟨c.args.toList.map a.eval⟩ := by apply Array.ext'; simp
              simp only [hc, resolve, hcal, hfe, Deferred.ofValue, invoke, Sem.run_bind, Sem.run_pure, Result.andThen_ok, hm, e0, h3]
            rw [hrun]
            refine ⟨hF.dep, hF.round ((h4 (n - 1)).mono ?_)⟩
            rintro en w' ⟨t, v, h5, rfl, h6, h7⟩
            exact hn t v w' h5 h6 h7
          | _ => cases hx
      · cases hx
    · split at hx
      · cases hfv : freshV C fr S.nx o.op with
        | none => rw [hfv] at hx; cases hx
        | some y =>
          obtain ⟨v0, ob⟩ := y
          rw [hfv] at hx; cases hx
          obtain ⟨u, obj, h1, h2⟩ := fresh_ok hC h hf hfv
          obtain ⟨t, h3, h4, h5⟩ := h.alloc ob obj 0 (fun t h3 h4 => (h2 t h3 h4).2)
          rw [h1]
          exact hn t u _ h3 (h2 t h3 h4).1 h5
      · exact fromAct (xact_ok hC h hf hx)
end
end Go.Proofs.YtlibeobmdjeilaaGreatDoor.Ex
namespace Go.Proofs.YtlibeobmdjeilaaGreatDoor.Ex
open Go Go.RowKit
/-- The marks that a frame's loops have left. -/
def DfR (s : Env) : List Nat → List Deferred → Prop
  | [], ds => ds = []
  | m :: ms, ds => ∃ e es, s m = some e ∧ ds = { target := .collected e.blk, args := #[] } :: es ∧ DfR s ms es
def RoR (s : Env) (ro : Option Nat) (F : Fence) : Prop := match ro with
  | none => F = Fence.wide
  | some l => ∃ e, s l = some e ∧ F = Fence.wide.inRound e.blk
def xexit : XE → Exit
  | .normal => .normal
  | .jump (.exit id) => .exit id
  | .jump (.goto l) => .goto l
  | .jump .ret => .ret
section
variable {P : Program} {C : Ctx} {q : Gq} {s : Env} {S : St} {w : World} {fr : Fr} {a : Act} {call yld : CallK} {F : Fence} {n : Nat}
theorem DfR.mono {t : Env} (h : s.le t) : ∀ {ms : List Nat} {ds : List Deferred}, DfR s ms ds → DfR t ms ds
  | [], _, k => k
  | _ :: _, _, ⟨e, es, h1, h2, h3⟩ => ⟨e, es, h _ _ h1, h2, DfR.mono h h3⟩
theorem RoR.mono {t : Env} (h : s.le t) {ro : Option Nat} (k : RoR s ro F) : RoR t ro F := by
  cases ro with
  | none => exact k
  | some l => obtain ⟨e, h1, h2⟩ := k; exact ⟨e, h _ _ h1, h2⟩
theorem RoR.wide {ro : Option Nat} (k : RoR s ro F) : WideF F := by
  cases ro with
  | none => exact .inl k
  | some l => obtain ⟨e, _, h2⟩ := k; exact .inr ⟨_, h2⟩
theorem stepR_scope {b : Frame} {k : List Item} {cs : List Frame} {c : Code} : step P (lone (b.atR a (.code (.scope c) :: k)) cs w) = .next (lone (b.atR a (.code c :: .inScope c :: k)) cs w) :=
  step_lone_go (by simp [stepG, stepG.exec, Frame.atR])
theorem stepR_inScope {b : Frame} {k : List Item} {cs : List Frame} {c : Code} : step P (lone (b.atR a (.inScope c :: k)) cs w) = .next (lone (b.atR a k) cs w) :=
  step_lone_go (by simp [stepG, stepG.exec, Frame.atR])
def noGo (Q : Exit → Act → World → Prop) : Exit → Act → World → Prop
  | .goto _, _, _ => False
  | e, a, w => Q e a w
theorem wpIn_scope_straight {c : Code} {Q : Exit → Act → World → Prop} (h : c.wpIn F n P (noGo Q) a w) : (Code.scope c).wpIn F n P Q a w := by
  intro b k cs hro hb hr
  have h0 : (lone (b.atR a (.code (.scope c) :: k)) cs w).fenced P F := fenced_calm hb hr rfl
  obtain ⟨e, a₁, w₁, hq, harr⟩ := h b (.inScope c :: k) cs hro hb hr
  have hx : ∀ id, exitTo id (.inScope c :: k) = exitTo id k := fun id => by simp [exitTo]
  cases e with
  | normal => exact ⟨.normal, a₁, w₁, hq, .head h0 stepR_scope (StepsIn.trans harr (.one (fenced_calm hb hr rfl) stepR_inScope))⟩
  | exit id =>
    exact ⟨.exit id, a₁, w₁, hq, fun k' hk => .head h0 stepR_scope (harr.1 k' (by rw [hx]; exact hk)),
      fun hr' hk => let ⟨k₁, h1, h2⟩ := harr.2 hr' (by rw [hx]; exact hk); ⟨k₁, h1, .head h0 stepR_scope h2⟩⟩
  | goto l => exact hq.elim
  | ret => exact ⟨_, a₁, w₁, hq, .of_steps (.one h0 stepR_scope) harr⟩
  | panic ch => exact ⟨_, a₁, w₁, hq, .of_steps (.one h0 stepR_scope) harr⟩
  | outgrown => exact ⟨_, a₁, w₁, hq, .of_steps (.one h0 stepR_scope) harr⟩
theorem exists_min {p : Nat → Prop} (h : ∃ n, p n) : ∃ n, p n ∧ ∀ m, p m → n ≤ m := by
  obtain ⟨n, hn⟩ := h
  induction n using Nat.strongRecOn with
  | _ n ih =>
    by_cases h : ∃ m, m < n ∧ p m
    · obtain ⟨m, h1, h2⟩ := h; exact ih m h1 h2
    · exact ⟨n, hn, fun m hm => Nat.le_of_not_lt fun hlt => h ⟨m, hlt, hm⟩⟩
/-- A loop, by the number of rounds that are left. -/
theorem wpIn_rounds {c : Code} {Q : Exit → Act → World → Prop} (J : Nat → Act → World → Prop) (h0 : ∃ m, J m a w) (hz : ∀ a w, ¬ J 0 a w)
    (round : ∀ m a w, J (m + 1) a w → c.wpIn F n P (Exit.then (fun a' w' => J m a' w') Q) a w) : (Code.loop c).wpIn F n P Q a w := by
  have hmin : ∃ μ : Act → World → Nat, ∀ a w, (∃ m, J m a w) → J (μ a w) a w ∧ ∀ m, J m a w → μ a w ≤ m := by
    refine ⟨fun a w => Classical.epsilon fun k => J k a w ∧ ∀ m, J m a w → k ≤ m, fun a w h => ?_⟩
    exact Classical.epsilon_spec (exists_min h)
  obtain ⟨μ, hμ⟩ := hmin
  refine wpIn_loop (fun a w => ∃ m, J m a w) μ h0 fun a w hI => ?_
  obtain ⟨h1, h2⟩ := hμ a w hI
  cases hm : μ a w with
  | zero => rw [hm] at h1; exact absurd h1 (hz a w)
  | succ m =>
    rw [hm] at h1
    refine wpIn_mono (round m a w h1) fun e a' w' hq => ?_
    cases e with
    | normal => exact ⟨⟨m, hq⟩, Nat.lt_succ_of_le ((hμ a' w' ⟨m, hq⟩).2 m hq)⟩
    | _ => exact hq
theorem getLoop_run {b : Nat} {r : Loop} (h : w.heap[b]? = some (.loop r)) : (Instr.getLoop b).run P w = .ok r w := by
  simp [Instr.getLoop, getObj, Sem.run, h]
theorem setLoop_run {b : Nat} {r : Loop} (o : Obj) (h : w.heap[b]? = some (.loop r)) : (setObj b o).run P w = .ok () { w with heap := w.heap.setIfInBounds b o } := by
  simp [setObj, Sem.run, h]
/-- A loop's record. -/
theorem Rel.loop {g : Gh} (h : Rel g s S w) {l : Nat} {L : XL} (hl : S.hp.get l = some (.loop L)) : ∃ e r, s l = some e ∧ w.heap[e.blk]? = some (.loop r) ∧ LR s L r := by
  obtain ⟨e, ob, h1, h2, r, rfl, h3⟩ := h.at hl
  exact ⟨e, r, h1, h2, h3⟩
theorem enter_ok (h : Rel ⟨C.fl, q⟩ s S w) (hd : DfR s fr.marks a.defers) {ro : Option Nat} (hro : RoR s ro F) {df : Nat} {fr' : Fr} {S1 : St} (hx : enterX ro fr S = some (df, fr', S1)) :
    ∃ (t : Env) (w1 : World) (mark : List Deferred) (db : E), s.le t ∧ Rel ⟨C.fl, q⟩ t S1 w1 ∧ t df = some db ∧ DfR t fr'.marks (mark ++ a.defers) ∧ fr'.tm = fr.tm ∧ fr'.n = fr.n ∧
      ∀ (fn : FuncId) (tmps : Array Value) (ps : Array Tmp) (as body : Code), (Instr.enterLoop fn tmps ps as body F.round).run P w = .ok (w1.heap.size, mark) (w1.alloc (.loop { state := .ready, pending := none, fn := fn, tmps := tmps, params := ps, assign := as, body := body, defers := db.blk })) := by
  cases ro with
  | none =>
    change F = Fence.wide at hro
    subst hro
    simp only [enterX] at hx; cases hx
    obtain ⟨t, h1, h2, h3⟩ := h.alloc (.defd true) (.deferred (some [])) 0 (fun t _ _ => rfl)
    refine ⟨t, _, [{ target := .collected w.heap.size, args := #[] }], ⟨w.heap.size, 0, 0⟩, h1, h3, h2, ⟨_, _, h2, rfl, hd.mono h1⟩, rfl, rfl, fun fn tmps ps as body => ?_⟩
    simp [Instr.enterLoop, Fence.wide]
  | some l =>
    obtain ⟨e, he, rfl⟩ := hro
    simp only [enterX] at hx
    cases hl : S.hp.get l with
    | none => rw [hl] at hx; cases hx
    | some o =>
      rw [hl] at hx
      cases o with
      | loop L =>
        cases hx
        obtain ⟨e', r, h1, h2, h3⟩ := h.loop hl
        rw [he] at h1; cases h1
        obtain ⟨ed, h4, h5⟩ := h3.defers
        refine ⟨s, w, [], ed, Env.le.rf s, h, h4, hd, rfl, rfl, fun fn tmps ps as body => ?_⟩
        simp [Instr.enterLoop, getLoop_run h2, h5]
      | _ => cases hx
theorem jump_ok {j : XJ} {Q : Exit → Act → World → Prop} (h : Q (xexit (.jump j)) a w) : (jcode j).wpIn F n P Q a w := by
  cases j with
  | exit id => exact wpIn_exit h
  | goto l => exact wpIn_goto h
  | ret => exact wpIn_ret h
/-- What a region is to do. -/
def RegOk (P : Program) (C : Ctx) (call yld : CallK) : Prop := ∀ (d : Bool) (id : Nat) (ops : Array Oper) (q : Gq) (s : Env) (S : St) (w : World) (fr fr' : Fr) (S' : St) (a : Act) (F : Fence) (n : Nat) (Q : Exit → Act → World → Prop),
  Rel ⟨C.fl, q⟩ s S w → FrR s fr a.tmps → WideF F → xregion C call yld ops.toList d fr S = some (fr', S') →
    (∀ (t : Env) (a' : Act) (w' : World), s.le t → Rel ⟨C.fl, q⟩ t S' w' → FrR t fr' a'.tmps → a'.defers = a.defers → Q .normal a' w') → (Code.region id ops d).wpIn F n P Q a w
theorem set_marks (fr : Fr) (d : Option Nat) (x : Option XV) : (fr.set d x).marks = fr.marks := by
  cases d with
  | none => rfl
  | some t =>
    unfold Fr.set
    dsimp only
    cases Nat.blt t fr.n <;> rfl
theorem setAll_marks : ∀ (ops : List Oper) (xs : List XV) (fr : Fr), (setAll ops xs fr).marks = fr.marks
  | [], _, _ => rfl
  | _ :: _, [], _ => rfl
  | o :: l, x :: xs, fr => by simp only [setAll]; rw [setAll_marks l xs, set_marks]
theorem plain_marks {all : List Oper} : ∀ {ops : List Oper} {fr : Fr} {S : St} {fr' : Fr} {S' : St}, xplain C call yld all ops fr S = some (fr', S') → fr'.marks = fr.marks
  | [], fr, S, fr', S', h => by cases h; rfl
  | o :: l, fr, S, fr', S', h => by
    change xplainN C call yld all o (xplain C call yld all l) fr S = some (fr', S') at h
    unfold xplainN at h
    rw [operF_eq] at h
    cases hw : wantedB fr all o with
    | none => rw [hw] at h; cases h
    | some b =>
      rw [hw] at h
      cases b with
      | true =>
        dsimp only at h
        cases ho : xoper C call yld fr S o.op with
        | none => rw [ho] at h; cases h
        | some r => rw [ho] at h; rw [plain_marks h, set_marks]
      | false => rw [plain_marks h, set_marks]
theorem region_marks {ops : List Oper} {d : Bool} {fr' : Fr} {S' : St} (h : xregion C call yld ops d fr S = some (fr', S')) : fr'.marks = fr.marks := by
  cases d with
  | false => exact plain_marks h
  | true =>
    simp only [xregion, xdraw] at h
    split at h
    · split at h
      · split at h
        · cases h; exact setAll_marks _ _ _
        · cases h
      · cases h
    · cases h
theorem xcode_ok (hC : CtxOk P C) (hcall : CallsOk P C call) (hreg : RegOk P C call yld) {lim : Nat} {ro : Option Nat} : ∀ (c : Code) {s : Env} {S : St} {w : World} {fr : Fr} {a : Act} {e : XE} {fr' : Fr} {S' : St} {Q : Exit → Act → World → Prop},
    Rel ⟨C.fl, q⟩ s S w → FrR s fr a.tmps → DfR s fr.marks a.defers → RoR s ro F → xcode C call yld lim ro c fr S = some (e, fr', S') →
    (∀ (t : Env) (a' : Act) (w' : World), s.le t → Rel ⟨C.fl, q⟩ t S' w' → FrR t fr' a'.tmps → DfR t fr'.marks a'.defers → Q (xexit e) a' w') → c.wpIn F n P Q a w := by
  intro c
  induction c with
  | skip => intro s S w fr a e fr' S' Q h hf hd hro hx hQ; simp only [xcode] at hx; cases hx; exact wpIn_skip (hQ s a w (Env.le.rf s) h hf hd)
  | label l => intro s S w fr a e fr' S' Q h hf hd hro hx hQ; simp only [xcode] at hx; cases hx; exact wpIn_label (hQ s a w (Env.le.rf s) h hf hd)
  | region id ops d =>
    intro s S w fr a e fr' S' Q h hf hd hro hx hQ
    simp only [xcode] at hx
    cases hr : xregion C call yld ops.toList d fr S with
    | none => rw [hr] at hx; cases hx
    | some q =>
      obtain ⟨fr1, S1⟩ := q
      rw [hr] at hx; cases hx
      have hmk := region_marks hr
      exact hreg d id ops q s S w fr _ _ a F n Q h hf hro.wide hr fun t a' w' h1 h2 h3 h4 => hQ t a' w' h1 h2 h3 (by rw [hmk, h4]; exact hd.mono h1)
  | seq x y ihx ihy =>
    intro s S w fr a e fr' S' Q h hf hd hro hx hQ
    simp only [xcode] at hx
    refine wpIn_seq ?_
    cases hr : xcode C call yld lim ro x fr S with
    | none => rw [hr] at hx; cases hx
    | some q =>
      obtain ⟨e1, fr1, S1⟩ := q
      rw [hr] at hx
      refine ihx h hf hd hro hr fun t a' w' h1 h2 h3 h4 => ?_
      cases e1 with
      | normal => exact ihy h2 h3 h4 (hro.mono h1) hx fun t' a'' w'' h5 h6 h7 h8 => hQ t' a'' w'' (h1.tr h5) h6 h7 h8
      | jump j =>
        cases hx
        have := hQ t a' w' h1 h2 h3 h4
        cases j <;> exact this
  | cond c x y ihx ihy =>
    intro s S w fr a e fr' S' Q h hf hd hro hx hQ
    simp only [xcode] at hx
    cases hc : fr.ev C.fl c with
    | none => rw [hc] at hx; cases hx
    | some v =>
      rw [hc] at hx
      have hv := ev_ok h hf hc
      cases v with
      | bool b =>
        rw [VR] at hv
        cases b with
        | true => exact wpIn_cond_true hv (ihx h hf hd hro hx hQ)
        | false => exact wpIn_cond_false hv (ihy h hf hd hro hx hQ)
      | _ => cases hx
  | block id c ih =>
    intro s S w fr a e fr' S' Q h hf hd hro hx hQ
    simp only [xcode] at hx
    refine wpIn_block ?_
    cases hr : xcode C call yld lim ro c fr S with
    | none => rw [hr] at hx; cases hx
    | some q =>
      obtain ⟨e1, fr1, S1⟩ := q
      rw [hr] at hx
      refine ih h hf hd hro hr fun t a' w' h1 h2 h3 h4 => ?_
      cases e1 with
      | normal => cases hx; exact hQ t a' w' h1 h2 h3 h4
      | jump j => cases j with
        | ret => cases hx; exact hQ t a' w' h1 h2 h3 h4
        | goto l => cases hx; exact hQ t a' w' h1 h2 h3 h4
        | exit j =>
          dsimp only at hx
          cases hb : Nat.beq j id with
          | true =>
            rw [hb] at hx; cases hx
            have := bnot_eq.1 hb; subst this
            simp only [xexit, Exit.inBlock, if_true]
            exact hQ t a' w' h1 h2 h3 h4
          | false =>
            rw [hb] at hx; cases hx
            simp only [xexit, Exit.inBlock, if_neg (bnot_ne.1 hb)]
            exact hQ t a' w' h1 h2 h3 h4
  | loop c ih =>
    intro s S w fr a e fr' S' Q h hf hd hro hx hQ
    simp only [xcode] at hx
    refine wpIn_rounds (fun m a w => ∃ (t : Env) (T : St) (f : Fr), s.le t ∧ Rel ⟨C.fl, q⟩ t T w ∧ FrR t f a.tmps ∧ DfR t f.marks a.defers ∧ xloop (xcode C call yld lim ro c) m f T = some (e, fr', S')) ⟨lim, s, S, fr, Env.le.rf s, h, hf, hd, hx⟩ ?_ ?_
    · rintro a w ⟨t, T, f, _, _, _, _, h5⟩
      cases h5
    · rintro m a w ⟨t, T, f, h1, h2, h3, h4, h5⟩
      simp only [xloop] at h5
      cases hr : xcode C call yld lim ro c f T with
      | none => rw [hr] at h5; cases h5
      | some q =>
        obtain ⟨e1, fr1, S1⟩ := q
        rw [hr] at h5
        refine ih h2 h3 h4 (hro.mono h1) hr fun t' a' w' h6 h7 h8 h9 => ?_
        cases e1 with
        | normal => exact ⟨t', S1, fr1, h1.tr h6, h7, h8, h9, h5⟩
        | jump j =>
          cases h5
          have := hQ t' a' w' (h1.tr h6) h7 h8 h9
          cases j <;> exact this
  | rangeFunc g ps as body iha ihb =>
    intro s S w fr a e fr' S' Q h hf hd hro hx hQ
    simp only [xcode] at hx
    cases hen : enterX ro fr S with
    | none => rw [hen] at hx; cases hx
    | some q =>
      obtain ⟨df, fr1, S1⟩ := q
      rw [hen] at hx; dsimp only at hx
      cases hg : fr.ev C.fl g with
      | none => rw [hg] at hx; cases hx
      | some gv =>
        rw [hg] at hx
        have hgv := ev_ok h hf hg
        cases gv with
        | fn f first cap =>
          dsimp only at hx
          obtain ⟨va, vc, hge, hva, hvc⟩ := hgv
          obtain ⟨t1, w1, mark, db, h1, h2, h3, h4, h5, h6, h7⟩ := enter_ok (P := P) (a := a) h hd hro hen
          have hf1 := hf.mono h1
          cases hc : call f (first ++ [.yld S1.nx] ++ cap) (S1.new (.loop ⟨.ready, none, fr.n, fr.tm, ps, as, body, df⟩)) with
          | none => rw [hc] at hx; cases hx
          | some q =>
            obtain ⟨x2, S2⟩ := q
            rw [hc] at hx; dsimp only at hx
            refine wpIn_rangeFunc fun fn _ => ?_
            have h8 := h7 fn a.tmps ps as body
            obtain ⟨t2, h9, h10, h11⟩ := h2.alloc (.loop ⟨.ready, none, fr.n, fr.tm, ps, as, body, df⟩) (.loop { state := .ready, pending := none, fn := fn, tmps := a.tmps, params := ps, assign := as, body := body, defers := db.blk }) 0
              (fun t ht _ => ⟨_, rfl, ⟨rfl, rfl, hf.size, hf1.tm.mono ht, rfl, rfl, rfl, ⟨db, ht _ _ h3, rfl⟩⟩⟩)
            have hyl : VRs t2 [.yld S1.nx] [Value.func (.yield w1.heap.size) #[] #[]] := ⟨_, [], rfl, ⟨_, h10, rfl⟩, rfl⟩
            have hargs : VRs t2 (first ++ [.yld S1.nx] ++ cap) (va ++ [Value.func (.yield w1.heap.size) #[] #[]] ++ vc) :=
              (((hva.mono h1).mono h9).append hyl).append ((hvc.mono h1).mono h9)
            obtain ⟨h12, h13⟩ := hcall q t2 _ _ f _ _ x2 S2 h11 hargs hc
            refine ⟨w1.heap.size, mark, w1.alloc (.loop { state := .ready, pending := none, fn := fn, tmps := a.tmps, params := ps, assign := as, body := body, defers := db.blk }), { target := .fn (.func f) ⟨vc⟩, args := ⟨va⟩ ++ #[Value.func (.yield w1.heap.size) #[] #[]] }, w1.alloc (.loop { state := .ready, pending := none, fn := fn, tmps := a.tmps, params := ps, assign := as, body := body, defers := db.blk }), f, ⟨va ++ [Value.func (.yield w1.heap.size) #[] #[]] ++ vc⟩, w1.alloc (.loop { state := .ready, pending := none, fn := fn, tmps := a.tmps, params := ps, assign := as, body := body, defers := db.blk }), h8, ?_, fun f' _ => hro.wide.fn f', ?_, hro.wide.dep, hro.wide.calls ((h13 (n - 1)).mono ?_)⟩
            · simp only [resolve, rangeCall, hge, Deferred.ofValue, Sem.run_pure]
              rw [show Array.map a.eval #[Operand.const (Value.func (Fn.yield w1.heap.size) #[] #[])] = #[Value.func (Fn.yield w1.heap.size) #[] #[]] from by simp [Act.eval]]
            · simp only [invoke]
              rw [h12]
              congr 2
              apply Array.ext'
              simp
            · rintro en w3 ⟨t3, v, h14, rfl, h15, h16⟩
              cases hl : S2.hp.get S1.nx with
              | none => rw [hl] at hx; cases hx
              | some o =>
                rw [hl] at hx
                cases o with
                | loop L =>
                  dsimp only at hx
                  obtain ⟨e4, r, h17, h18, h19⟩ := h16.loop hl
                  have h20 := h14 _ _ h10
                  rw [h20] at h17; cases h17
                  have hfin : L.st ≠ .busy → ∀ S3, S2.put C.fl S1.nx (.loop { L with st := .exhausted }) = some S3 →
                      ∃ w4, (Instr.endLoop w1.heap.size).run P w3 = .ok (L.pend.map jcode) w4 ∧ Rel ⟨C.fl, q⟩ t3 S3 w4 := by
                    intro hnb S3 hp
                    have hrel := h16.put hl rfl hp h20 (ob' := .loop { r with state := .exhausted }) ⟨_, rfl, ⟨rfl, h19.pend, h19.size, h19.tm, h19.params, h19.assign, h19.body, h19.defers⟩⟩
                    refine ⟨_, ?_, hrel⟩
                    have hst : (r.state == LoopState.busy) = false := by rw [h19.st]; cases hL : L.st <;> first | rfl | exact absurd hL hnb
                    unfold Instr.endLoop
                    rw [Sem.run_bind, getLoop_run h18, Result.andThen_ok]
                    simp only [hst, Bool.false_eq_true, if_false, Sem.run_bind, Sem.run_pure, Result.andThen_ok, setLoop_run _ h18, h19.pend]
                  have hnb : L.st ≠ .busy := fun q => by rw [q] at hx; cases hx
                  cases hp : S2.put C.fl S1.nx (.loop { L with st := .exhausted }) with
                  | none => cases hL : L.st <;> rw [hL, hp] at hx <;> cases hx
                  | some S3 =>
                    obtain ⟨w4, h21, h22⟩ := hfin hnb S3 hp
                    have hx' : (match L.pend with | none => some (XE.normal, fr1, S3) | some j => some (.jump j, fr1, S3)) = some (e, fr', S') := by
                      cases hL : L.st <;> rw [hL, hp] at hx <;> first | exact hx | exact absurd hL hnb
                    have hle := (h1.tr h9).tr h14
                    have hfr1 : FrR t3 fr1 a.tmps := ⟨by rw [h6]; exact hf.size, by rw [h5]; exact hf.tm.mono hle⟩
                    refine ⟨L.pend.map jcode, w4, h21, ?_⟩
                    cases hpd : L.pend with
                    | none =>
                      rw [hpd] at hx'; cases hx'
                      exact hQ t3 _ w4 hle h22 hfr1 ((h4.mono h9).mono h14)
                    | some j =>
                      rw [hpd] at hx'; cases hx'
                      exact jump_ok (hQ t3 { a with defers := mark ++ a.defers } w4 hle h22 hfr1 ((h4.mono h9).mono h14))
                | _ => cases hx
        | _ => cases hx
  | exit id => intro s S w fr a e fr' S' Q h hf hd hro hx hQ; simp only [xcode] at hx; cases hx; exact wpIn_exit (hQ s a w (Env.le.rf s) h hf hd)
  | scope c ih =>
    intro s S w fr a e fr' S' Q h hf hd hro hx hQ
    simp only [xcode] at hx
    refine wpIn_scope_straight ?_
    cases hr : xcode C call yld lim ro c fr S with
    | none => rw [hr] at hx; cases hx
    | some q =>
      obtain ⟨e1, fr1, S1⟩ := q
      rw [hr] at hx
      refine ih h hf hd hro hr fun t a' w' h1 h2 h3 h4 => ?_
      cases e1 with
      | normal => cases hx; exact hQ t a' w' h1 h2 h3 h4
      | jump j => cases j with
        | ret => cases hx; exact hQ t a' w' h1 h2 h3 h4
        | goto l => cases hx
        | exit j => cases hx; exact hQ t a' w' h1 h2 h3 h4
  | goto l => intro s S w fr a e fr' S' Q h hf hd hro hx hQ; simp only [xcode] at hx; cases hx
  | ret => intro s S w fr a e fr' S' Q h hf hd hro hx hQ; simp only [xcode] at hx; cases hx; exact wpIn_ret (hQ s a w (Env.le.rf s) h hf hd)
  | refuse y => intro s S w fr a e fr' S' Q h hf hd hro hx hQ; simp only [xcode] at hx; cases hx
end
end Go.Proofs.YtlibeobmdjeilaaGreatDoor.Ex
namespace Go.Proofs.YtlibeobmdjeilaaGreatDoor.Ex
open Go Go.RowKit
section
variable {P : Program} {C : Ctx} {q : Gq} {s : Env} {S : St} {w : World} {fr : Fr} {a : Act} {call yld : CallK} {F : Fence} {n : Nat}
theorem xplain_ok (hC : CtxOk P C) (hcall : CallsOk P C call) (hyld : YldOk P C yld) (hF : WideF F) {ops : Array Oper} {Q : Exit → Act → World → Prop} {fr' : Fr} {S' : St} : ∀ (l : List Oper) (i : Nat) {s : Env} {S : St} {w : World} {fr : Fr} {a : Act}, ops.toList.drop i = l → Rel ⟨C.fl, q⟩ s S w → FrR s fr a.tmps →
    xplain C call yld ops.toList l fr S = some (fr', S') → (∀ (t : Env) (a' : Act) (w' : World), s.le t → Rel ⟨C.fl, q⟩ t S' w' → FrR t fr' a'.tmps → a'.defers = a.defers → Q .normal a' w') → wpOpsIn F n P ops Q (List.range' i l.length) a w
  | [], i, s, S, w, fr, a, hl, h, hf, hx, hQ => by
    cases hx
    exact hQ s a w (Env.le.rf s) h hf rfl
  | o :: l, i, s, S, w, fr, a, hl, h, hf, hx, hQ => by
    have hi : ops[i]? = some o := by
      have h1 : (ops.toList.drop i)[0]? = some o := by rw [hl]; rfl
      rw [List.getElem?_drop, Array.getElem?_toList] at h1
      simpa using h1
    have hl' : ops.toList.drop (i + 1) = l := by
      rw [← List.drop_drop, hl]; rfl
    change xplainN C call yld ops.toList o (xplain C call yld ops.toList l) fr S = some (fr', S') at hx
    unfold xplainN at hx
    rw [operF_eq] at hx
    show wpOpsIn F n P ops Q (i :: List.range' (i + 1) l.length) a w
    rw [wpOpsIn_cons]
    unfold wpOpIn
    rw [hi]
    dsimp only
    cases hw : wantedB fr ops.toList o with
    | none => rw [hw] at hx; cases hx
    | some b =>
      rw [hw] at hx
      rw [wanted_ok hf hw]
      cases b with
      | true =>
        dsimp only at hx
        rw [if_pos rfl]
        cases hop : xoper C call yld fr S o.op with
        | none => rw [hop] at hx; cases hx
        | some q =>
          obtain ⟨x, S1⟩ := q
          rw [hop] at hx; dsimp only at hx
          refine xoper_ok hC hcall hyld h hf hF hop fun t v w' h1 h2 h3 => ?_
          exact xplain_ok hC hcall hyld hF l (i + 1) hl' h3 ((hf.mono h1).put h2 o.dst) hx fun t' a' w'' h4 h5 h6 h7 => hQ t' a' w'' (h1.tr h4) h5 h6 (h7.trans (put_defers _ _ _))
      | false =>
        dsimp only at hx
        rw [if_neg (by decide)]
        refine ⟨fun f _ => hF.fn f, ?_⟩
        exact xplain_ok hC hcall hyld hF l (i + 1) hl' h (hf.put undef_VR o.dst) hx fun t' a' w'' h4 h5 h6 h7 => hQ t' a' w'' h4 h5 h6 (h7.trans (put_defers _ _ _))
end
end Go.Proofs.YtlibeobmdjeilaaGreatDoor.Ex
