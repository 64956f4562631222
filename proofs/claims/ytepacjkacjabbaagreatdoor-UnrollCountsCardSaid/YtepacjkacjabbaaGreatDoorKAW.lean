import Derived.Test.YtepacjkacjabbaaGreatDoorKAV
import Derived.Test.YtepacjkacjabbaaGreatDoorKAU
import Derived.Maps.RangeWalk
namespace Go.Proofs.YtepacjkacjabbaaGreatDoor
open Go Go.RowKit Go.Maps
def StmtsOk (K : CkE) (J Jx : List (Int × Int) → World → Prop) (pm : Option Nat) (E : Env) (W0 : World) (sp : Sp) (l : List StmtV) : Prop :=
 ∀ (cs : List Int) (d : Nat) (w : World), Below K.n₀ W0 w → CkSt K J Jx pm E cs w → cs.length + (stmtsC K.p E l d).length ≤ 1000000 → d + (stmtsC K.p E l d).length ≤ 1000000 →
   Calls Tryz.prog 232 #[.pointer (some ⟨K.q, 0, none⟩), sp.val l.length, .int .i64 d] w fun o w' => o = .returned (.tuple #[]) ∧ Told K J Jx pm E (cs ++ stmtsC K.p E l d) w w'
theorem stmtsC_app (p : ProgV) (E : Env) (a b : List StmtV) (d : Nat) : stmtsC p E (a ++ b) d = stmtsC p E a d ++ stmtsC p E b d := by
 rw [stmtsC_eq, stmtsC_eq, stmtsC_eq, List.flatMap_append]
theorem exprsC_app (p : ProgV) (E : Env) (wh : Int) (a b : List ExprV) (d : Nat) : exprsC p E wh (a ++ b) d = exprsC p E wh a d ++ exprsC p E wh b d := by
 rw [exprsC_eq, exprsC_eq, exprsC_eq, List.flatMap_append]
theorem stmtsC_split (p : ProgV) (E : Env) (l : List StmtV) (d k : Nat) (h : k < l.length) : (stmtsC p E l d).length = (stmtsC p E (l.take k) d).length + (1 + (exprsC p E 0 l[k].exprs 1).length + (stmtsC p E l[k].thn (d + 1)).length + (stmtsC p E l[k].els (d + 1)).length) + (stmtsC p E (l.drop (k + 1)) d).length := by
 have e1 : l = (l.take k ++ [l[k]]) ++ l.drop (k + 1) := by rw [← List.take_succ_eq_append_getElem h, List.take_append_drop]
 conv => lhs; rw [e1]
 rw [stmtsC_app, stmtsC_app, List.length_append, List.length_append]
 have e2 : stmtsC p E [l[k]] d = stmtC p E l[k] d := by rw [stmtsC_eq]; simp
 rw [e2, stmtC_eq]
 simp only [List.length_cons, List.length_append]
 omega
theorem exprsC_split (p : ProgV) (E : Env) (wh : Int) (l : List ExprV) (d k : Nat) (h : k < l.length) : (exprsC p E wh l d).length = (exprsC p E wh (l.take k) d).length + (exprC p E wh l[k] d).length + (exprsC p E wh (l.drop (k + 1)) d).length := by
 have e1 : l = (l.take k ++ [l[k]]) ++ l.drop (k + 1) := by rw [← List.take_succ_eq_append_getElem h, List.take_append_drop]
 conv => lhs; rw [e1]
 rw [exprsC_app, exprsC_app, List.length_append, List.length_append]
 have e2 : exprsC p E wh [l[k]] d = exprC p E wh l[k] d := by rw [exprsC_eq]; simp
 rw [e2]
set_option maxRecDepth 1000000 in
set_option maxHeartbeats 8000000 in
theorem stmtsC_list {K : CkE} {J Jx : List (Int × Int) → World → Prop} (hJ : OwnC 246 K.B J) (hJx : OwnC 246 K.B Jx) (hT : TellOk K J Jx) (hH : heftP K.p ≤ 20000) {pm : Option Nat} {E : Env} (hE : E.within ≤ 1000000000) {W0 : World} {sp : Sp} {l : List StmtV}
   (row : RowOf K.n₀ W0 sp 6 StmtV.cells l) (hR : ∀ s ∈ l, RdT K.n₀ W0 s) (hQ : ∀ s ∈ l, StmtsOk K J Jx pm E W0 s.ts s.thn ∧ StmtsOk K J Jx pm E W0 s.os s.els) : StmtsOk K J Jx pm E W0 sp l := by
 intro cs d w hb hst hlen hd
 have hdd : d ≤ 1000000 := by omega
 obtain ⟨over, hk, -⟩ := hst.ex
 have hn0w : K.n₀ ≤ w.heap.size := by have := hk.lt; have := hk.q; have := hk.n0; omega
 have hqw : K.q < w.heap.size := hk.lt
 have HST := Lib.hid hst
 have HB := Lib.hid hb
 have HROW := Lib.hid row
 have HR := Lib.hid hR
 have HQ := Lib.hid hQ
 have HLEN := Lib.hid hlen
 have HD := Lib.hid hd
 have hll := row.few
 clear hst hb row hR hQ hlen hd hk
 simp only [Sp.val]
 go_enter Tryz.func232, Tryz.ntmps232
 go_wp2_with fail
 go_loopw [13] (fun v wr => ∃ k : Nat, k ≤ l.length ∧ v = .int .i64 k ∧ Told K J Jx pm E (cs ++ stmtsC K.p E (l.take k) d) w wr) (fun v _ => l.length - (intOf v).toNat)
 case atStart => exact ⟨0, Nat.zero_le _, rfl, by rw [List.take_zero, stmtsC, List.append_nil]; exact ⟨HST.out, KeepsQ.refl _ _⟩⟩
 case round =>
   obtain ⟨k, hk, rfl, htk⟩ := hrel
   have HTK := Lib.hid htk
   clear htk
   by_cases hlt : k < l.length
   · obtain ⟨b, off, eA, hbn, hcell⟩ := (HROW.out.below (HB.out.trans HTK.out.keeps.low)).row (by omega)
     have hmem : l[k] ∈ l := List.getElem_mem hlt
     have hts : l.take (k + 1) = l.take k ++ [l[k]] := List.take_succ_eq_append_getElem hlt
     have hsp := stmtsC_split K.p E l d k hlt
     have k0 : wr.cell? ⟨b, off + k * 6, none⟩ = some (.int .u8 l[k].kind) := hcell k hlt 0 _ rfl
     have k1 : wr.cell? ⟨b, off + k * 6 + 1, none⟩ = some (.string l[k].name) := hcell k hlt 1 _ rfl
     have k2 : wr.cell? ⟨b, off + k * 6 + 2, none⟩ = some (.slice l[k].es.at_ l[k].exprs.length l[k].es.cap) := hcell k hlt 2 _ rfl
     have k3 : wr.cell? ⟨b, off + k * 6 + 3, none⟩ = some (.int .i64 l[k].bound) := hcell k hlt 3 _ rfl
     have k4 : wr.cell? ⟨b, off + k * 6 + 4, none⟩ = some (.slice l[k].ts.at_ l[k].thn.length l[k].ts.cap) := hcell k hlt 4 _ rfl
     have k5 : wr.cell? ⟨b, off + k * 6 + 5, none⟩ = some (.slice l[k].os.at_ l[k].els.length l[k].os.cap) := hcell k hlt 5 _ rfl
     have HRT := Lib.hid (HR.out _ hmem)
     obtain ⟨hqt, hqe⟩ := HQ.out _ hmem
     have HQT := Lib.hid hqt
     have HQE := Lib.hid hqe
     have HTS := Lib.hid hts
     have HSP := Lib.hid hsp
     generalize l[k] = s at *
     obtain ⟨kk0, kk1⟩ := HRT.out.kk
     have hsw := HTK.out.keeps.size
     have hba : Below wr.heap.size wr (wr.alloc (.cells #[.int .u8 s.kind, .string s.name, .slice s.es.at_ s.exprs.length s.es.cap, .int .i64 s.bound, .slice s.ts.at_ s.thn.length s.ts.cap, .slice s.os.at_ s.els.length s.os.cap] 43)) := (Below.refl _ wr).alloc (Nat.le_refl _) _
     have hB5 := World.alloc_heap_new wr (.cells #[.int .u8 s.kind, .string s.name, .slice s.es.at_ s.exprs.length s.es.cap, .int .i64 s.bound, .slice s.ts.at_ s.thn.length s.ts.cap, .slice s.os.at_ s.els.length s.os.cap] 43)
     have hs5 : (wr.alloc (.cells #[.int .u8 s.kind, .string s.name, .slice s.es.at_ s.exprs.length s.es.cap, .int .i64 s.bound, .slice s.ts.at_ s.thn.length s.ts.cap, .slice s.os.at_ s.els.length s.os.cap] 43)).heap.size = wr.heap.size + 1 := by simp
     have hj0 : (0 : Int) ≤ (k : Int) := by omega
     have hj1 : (k : Int) < (l.length : Int) := by omega
     have hxl := HRT.out.xs.row.few
     have htl := HRT.out.then_.row.few
     have hel := HRT.out.else_.row.few
     have HF := Lib.hid fun W => form_any W s ⟨kk0, kk1⟩ hxl htl hel
     clear hcell hmem hts hsp hqt hqe
     rw [eA]
     clear eA
     simp only [StmtV.val, Sp.val] at HF
     go_upto_region 4 with fail
     have HBA := Lib.hid hba
     have HB5 := Lib.hid hB5
     have HS5 := Lib.hid hs5
     generalize wr.alloc (.cells #[.int .u8 s.kind, .string s.name, .slice s.es.at_ s.exprs.length s.es.cap, .int .i64 s.bound, .slice s.ts.at_ s.thn.length s.ts.cap, .slice s.os.at_ s.els.length s.os.cap] 43) = W5 at *
     clear hba hB5 hs5 k0 k1 k2 k3 k4 k5
     obtain ⟨c0, c1, c2, c3, c4, c5⟩ := six_cells HB5.out
     go_upto_if 18 with (first | (go_at_call 263; refine (HF.out _).mono ?_; rintro o6 w6 ⟨rfl, hb6⟩) | fail)
     obtain ⟨c0, c1, c2, c3, c4, c5⟩ := six_cells ((hb6.block _ (by have := HS5.out; omega)).trans HB5.out)
     have HB6 := Lib.hid hb6
     clear hb6
     generalize hfb : formB s = fB
     go_cut [8] (fun s8 wx => s8 = .int .i64 (if fB = true then wrongE K.p E s else 325) ∧ Below W5.heap.size W5 wx)
     case first => as_aux_lemma =>
       cases fB with
       | false =>
         clear hfb
         go_wp2_with fail
         go_meet
         case rel => exact ⟨by simp, HB6.out⟩
       | true =>
         have HWG : Hid (∀ W, Below W5.heap.size W5 W → Calls Tryz.prog 264 #[.pointer (some ⟨K.q, 0, none⟩), s.val] W fun o w' => o = .returned (.int .i64 (wrongE K.p E s)) ∧ Below W.heap.size W w') := Lib.hid fun W hW => by
           obtain ⟨over2, hk2, -⟩ := HTK.out.st.ex
           have e : Below wr.heap.size wr W := HBA.out.trans (hW.mono HBA.out.size)
           have es := e.size
           exact wrong_any W (hk2.new e) hH hE (HRT.out.stays ((HB.out.trans HTK.out.keeps.low).trans (e.mono (by omega)))) (by omega) hfb
         simp only [StmtV.val, Sp.val] at HWG
         clear hfb
         go_wp2_with (first | (go_at_call 264; refine (HWG.out _ HB6.out).mono ?_; rintro o7 w7 ⟨rfl, hb7⟩; have HB7 := Lib.hid hb7; clear hb7) | fail)
         go_meet
         case rel => exact ⟨by simp, HB6.out.trans (HB7.out.mono HB6.out.size)⟩
     case rest => as_aux_lemma =>
       obtain ⟨rfl, hb8⟩ := hcut
       have HB8 := Lib.hid hb8
       have hse : stmtE K.p E s d = if (decide ((if fB = true then wrongE K.p E s else 325) = 0) && decide (limitP K.p 32 1000 < (d : Int))) = true then 319 else (if fB = true then wrongE K.p E s else 325) := by
         unfold stmtE
         rw [hfb]
         cases fB with
         | false => simp
         | true =>
           by_cases h1 : wrongE K.p E s = 0
           · by_cases h2 : limitP K.p 32 1000 < (d : Int) <;> simp [h1, h2]
           · simp [h1]
       have HSE := Lib.hid hse
       have HWB : Hid (Below wr.heap.size wr wc) := Lib.hid (HBA.out.trans (hb8.mono HBA.out.size))
       clear hb8 hse c0 c1 c2 c3 c4 c5 HF HB6
       obtain ⟨e0, he0⟩ : ∃ e0, (if fB = true then wrongE K.p E s else 325) = e0 := ⟨_, rfl⟩
       rw [he0] at HSE
       rw [he0]
       obtain ⟨over2, hk2, -⟩ := HTK.out.st.ex
       have HLIM := Lib.hid (limit_any wc (hk2.new HWB.out) 32 1000)
       obtain ⟨lim, hlim⟩ : ∃ lim, limitP K.p 32 1000 = lim := ⟨_, rfl⟩
       rw [hlim] at HLIM HSE
       clear he0 hk2 hlim hfb
       go_upto_region 6 with fail
       go_cut [29] (fun s29 wx => s29 = .bool (decide (e0 = 0) && decide (lim < (d : Int))) ∧ wc = wx)
       case first => as_aux_lemma =>
         by_cases he : e0 = 0
         · subst he
           go_wp2_with (first | (go_at_call 253; refine HLIM.out.mono ?_; rintro o7 w7 ⟨rfl, rfl⟩) | fail)
           go_meet
           case rel => exact ⟨by simp, rfl⟩
         · have hne : (e0 == 0) = false := by simpa using he
           have HD2 := Lib.hid (decide_eq_false he)
           clear he
           go_wp2_with fail
           go_meet
           case rel => exact ⟨by rw [HD2.out]; rfl, rfl⟩
       case rest => as_aux_lemma =>
         obtain ⟨rfl, rfl⟩ := hcut
         obtain ⟨b29, hb29⟩ : ∃ b, (decide (e0 = 0) && decide (lim < (d : Int))) = b := ⟨_, rfl⟩
         rw [hb29]
         rw [hb29] at HSE
         clear hb29
         go_upto_if 29 with fail
         go_cut [8] (fun s8 wx => s8 = .int .i64 (stmtE K.p E s d) ∧ wc = wx)
         case first => as_aux_lemma =>
           cases b29
           all_goals
             go_wp2_with fail
             go_meet
             case rel => exact ⟨by rw [HSE.out]; simp, rfl⟩
         case rest => as_aux_lemma =>
           obtain ⟨rfl, rfl⟩ := hcut
           obtain ⟨wq, hwq⟩ : ∃ wq, wq = wr := ⟨_, rfl⟩
           subst hwq
           obtain ⟨se, hse⟩ : ∃ se, stmtE K.p E s d = se := ⟨_, rfl⟩
           rw [hse]
           obtain ⟨cs1, hcs1⟩ : ∃ cs1, cs ++ stmtsC K.p E (l.take k) d = cs1 := ⟨_, rfl⟩
           have hl1 : cs1.length = cs.length + (stmtsC K.p E (l.take k) d).length := by rw [← hcs1, List.length_append]
           have hst1 := HTK.out.st.new hJ hJx HWB.out
           have hkq := (HTK.out.keeps.trans (.of_below HWB.out (by have := HTK.out.keeps.size; omega)))
           rw [hcs1] at hst1
           have hlen := HLEN.out
           have hdl := HD.out
           have hspl := HSP.out
           have HTL := Lib.hid (hT pm E cs1 wc se hst1 (by omega))
           have hbox : wc.heap[wq.heap.size]? = some (.cells #[.int .u8 s.kind, .string s.name, .slice s.es.at_ s.exprs.length s.es.cap, .int .i64 s.bound, .slice s.ts.at_ s.thn.length s.ts.cap, .slice s.os.at_ s.els.length s.os.cap] 43 (0, 0)) :=
             (HB8.out.block _ (by have := HS5.out; omega)).trans HB5.out
           have HBOX := Lib.hid hbox
           have HKQ := Lib.hid hkq
           have HCS1 := Lib.hid hcs1
           have hstc : stmtC K.p E s d = se :: (exprsC K.p E 0 s.exprs 1 ++ (stmtsC K.p E s.thn (d + 1) ++ stmtsC K.p E s.els (d + 1))) := by rw [stmtC_eq, hse]
           have HSTC := Lib.hid hstc
           clear hse HSE HLIM hst1 hkq hbox hcs1 hstc HB8 HWB HBA HB5
           have AFTER : Hid (∀ X, KeepsQ K wc X → X.heap[wq.heap.size]? = some (.cells #[.int .u8 s.kind, .string s.name, .slice s.es.at_ s.exprs.length s.es.cap, .int .i64 s.bound, .slice s.ts.at_ s.thn.length s.ts.cap, .slice s.os.at_ s.els.length s.os.cap] 43 (0, 0))) :=
             Lib.hid fun X hX => hX.cells _ _ _ _ HBOX.out rfl (by omega)
           go_upto_region 9 with (first | (go_at_call 228; refine HTL.out.mono ?_; rintro o9 w9 ⟨rfl, ht9⟩; have HT9 := Lib.hid ht9; clear ht9) | fail)
           obtain ⟨c0, c1, c2, c3, c4, c5⟩ := six_cells (AFTER.out _ HT9.out.keeps)
           go_wp2_with fail
           go_loopw [36] (fun v wx => ∃ j : Nat, j ≤ s.exprs.length ∧ v = .int .i64 j ∧ Told K J Jx pm E (cs1 ++ se :: exprsC K.p E 0 (s.exprs.take j) 1) wc wx) (fun v _ => s.exprs.length - (intOf v).toNat)
           case atStart => exact ⟨0, Nat.zero_le _, rfl, by rw [List.take_zero, exprsC]; exact HT9.out⟩
           case round =>
             obtain ⟨j, hj, rfl, htj⟩ := hrel
             have HTJ := Lib.hid htj
             clear htj c0 c1 c2 c3 c4 c5
             by_cases hjl : j < s.exprs.length
             · have hsx := exprsC_split K.p E 0 s.exprs 1 j hjl
               have hbl := HB.out.trans (HKQ.out.low.trans HTJ.out.keeps.low)
               obtain ⟨b6, off6, eA, hbn6, hcell⟩ := (HRT.out.xs.row.below hbl).row (by omega)
               have hmem : s.exprs[j] ∈ s.exprs := List.getElem_mem hjl
               have hts : s.exprs.take (j + 1) = s.exprs.take j ++ [s.exprs[j]] := List.take_succ_eq_append_getElem hjl
               have k0 : wr.cell? ⟨b6, off6 + j * 6, none⟩ = some (.int .u8 s.exprs[j].kind) := hcell j hjl 0 _ rfl
               have k1 : wr.cell? ⟨b6, off6 + j * 6 + 1, none⟩ = some (.int .u8 s.exprs[j].op) := hcell j hjl 1 _ rfl
               have k2 : wr.cell? ⟨b6, off6 + j * 6 + 2, none⟩ = some (.int .u32 s.exprs[j].value) := hcell j hjl 2 _ rfl
               have k3 : wr.cell? ⟨b6, off6 + j * 6 + 3, none⟩ = some (.int .i64 s.exprs[j].width) := hcell j hjl 3 _ rfl
               have k4 : wr.cell? ⟨b6, off6 + j * 6 + 4, none⟩ = some (.string s.exprs[j].name) := hcell j hjl 4 _ rfl
               have k5 : wr.cell? ⟨b6, off6 + j * 6 + 5, none⟩ = some (.slice s.exprs[j].sp.at_ s.exprs[j].subs.length s.exprs[j].sp.cap) := hcell j hjl 5 _ rfl
               have hEX := expr_any hJ hJx hT (pm := pm) (E := E) (wh := 0) (HRT.out.xs.ok _ hmem)
               have HTJS := Lib.hid hts
               generalize s.exprs[j] = x at *
               have hsw2 := HTJ.out.keeps.size
               have hbn2 : Below wr.heap.size wr (wr.alloc (.cells #[.int .u8 x.kind, .int .u8 x.op, .int .u32 x.value, .int .i64 x.width, .string x.name, .slice x.sp.at_ x.subs.length x.sp.cap] 30)) := (Below.refl _ wr).alloc (Nat.le_refl _) _
               have hst2 := HTJ.out.st.new hJ hJx hbn2
               have hk0s := HKQ.out.size
               have hC := hEX _ 1 _ (hbl.trans (hbn2.mono (by omega))) hst2 (by simp only [List.length_append, List.length_cons]; omega) (by omega)
               simp only [ExprV.val, Sp.val, Int.natCast_one] at hC
               have HCX := Lib.hid hC
               have HBN2 := Lib.hid hbn2
               have hj20 : (0 : Int) ≤ (j : Int) := by omega
               have hj21 : (j : Int) < (s.exprs.length : Int) := by omega
               clear hcell hmem hts hbn2 hst2 hC hEX hbl hsx
               rw [eA]
               clear eA
               go_wp2_with fail
               refine HCX.out.mono ?_
               rintro o w2 ⟨rfl, ht2⟩
               have HT2 := Lib.hid (ht2.after (HTJ.out.keeps.trans (.of_below HBN2.out (by omega))))
               clear ht2 k0 k1 k2 k3 k4 k5
               go_wp2_with fail
               go_roundw
               case rel => exact ⟨j + 1, by omega, by go_num, by
                 rw [HTJS.out, exprsC_app]
                 have e2 : exprsC K.p E 0 [x] 1 = exprC K.p E 0 x 1 := by rw [exprsC_eq]; simp
                 rw [e2]
                 simpa using HT2.out⟩
               case measure => simp [intOf]; omega
             · obtain rfl : j = s.exprs.length := by omega
               have ht := HTJ.out
               rw [List.take_length] at ht
               have HTJ2 := Lib.hid ht
               obtain ⟨c0, c1, c2, c3, c4, c5⟩ := six_cells (AFTER.out _ ht.keeps)
               have hk0s := HKQ.out.size
               have hsw2 := ht.keeps.size
               have hb1 := HB.out.trans (HKQ.out.low.trans ht.keeps.low)
               have hCT := HQT.out _ (d + 1) _ hb1 ht.st (by simp only [List.length_append, List.length_cons]; omega) (by omega)
               have HCT := Lib.hid hCT
               have hcast : (((d + 1 : Nat)) : Int) = (d : Int) + 1 := by omega
               rw [hcast] at HCT
               simp only [Sp.val] at HCT
               clear hCT hcast ht hb1
               have HTH : Hid (∀ X, Told K J Jx pm E ((cs1 ++ se :: exprsC K.p E 0 s.exprs 1) ++ stmtsC K.p E s.thn (d + 1)) wr X → Calls Tryz.prog 232 #[.pointer (some ⟨K.q, 0, none⟩), .slice s.os.at_ s.els.length s.os.cap, .int .i64 ((d : Int) + 1)] X fun o w' => o = .returned (.tuple #[]) ∧ Told K J Jx pm E (((cs1 ++ se :: exprsC K.p E 0 s.exprs 1) ++ stmtsC K.p E s.thn (d + 1)) ++ stmtsC K.p E s.els (d + 1)) X w') := Lib.hid fun X hX => by
                 have hb2 := HB.out.trans (HKQ.out.low.trans (HTJ2.out.keeps.low.trans hX.keeps.low))
                 have := HQE.out _ (d + 1) X hb2 hX.st (by simp only [List.length_append, List.length_cons]; omega) (by omega)
                 have hcast : (((d + 1 : Nat)) : Int) = (d : Int) + 1 := by omega
                 rw [hcast] at this
                 exact this
               go_wp2_with fail
               refine HCT.out.mono ?_
               rintro o w2 ⟨rfl, ht2⟩
               have HT2 := Lib.hid ht2
               clear ht2 c0 c1 c2 c3 c4 c5
               obtain ⟨c0, c1, c2, c3, c4, c5⟩ := six_cells (AFTER.out _ (HTJ2.out.keeps.trans HT2.out.keeps))
               have HCE := Lib.hid (HTH.out _ HT2.out)
               go_wp2_with fail
               refine HCE.out.mono ?_
               rintro o w3 ⟨rfl, ht3⟩
               have HT3 := Lib.hid (ht3.after (HKQ.out.trans (HTJ2.out.keeps.trans HT2.out.keeps)))
               clear ht3 c0 c1 c2 c3 c4 c5
               go_wp2_with fail
               go_roundw
               case rel => exact ⟨k + 1, by omega, by go_num, by
                 have h9 := HT3.out
                 rw [← HCS1.out] at h9
                 rw [HTS.out, stmtsC_app]
                 have e2 : stmtsC K.p E [s] d = stmtC K.p E s d := by rw [stmtsC_eq]; simp
                 rw [e2, HSTC.out]
                 simpa using h9⟩
               case measure => simp [intOf]; omega
   · obtain rfl : k = l.length := by omega
     go_wp2_with fail
     go_returns
     have := HTK.out
     rw [List.take_length] at this
     exact ⟨rfl, this⟩
theorem stmtC_parts {K : CkE} {J Jx : List (Int × Int) → World → Prop} (hJ : OwnC 246 K.B J) (hJx : OwnC 246 K.B Jx) (hT : TellOk K J Jx) (hH : heftP K.p ≤ 20000) {pm : Option Nat} {E : Env} (hE : E.within ≤ 1000000000) {W0 : World} {s : StmtV} (h : RdT K.n₀ W0 s) :
   StmtsOk K J Jx pm E W0 s.ts s.thn ∧ StmtsOk K J Jx pm E W0 s.os s.els := by
 induction h with
 | mk s k b n er ex tr th orow el ih1 ih2 => exact ⟨stmtsC_list hJ hJx hT hH hE tr th ih1, stmtsC_list hJ hJx hT hH hE orow el ih2⟩
theorem stmtsC_any {K : CkE} {J Jx : List (Int × Int) → World → Prop} (hJ : OwnC 246 K.B J) (hJx : OwnC 246 K.B Jx) (hT : TellOk K J Jx) (hH : heftP K.p ≤ 20000) {pm : Option Nat} {E : Env} (hE : E.within ≤ 1000000000) {W0 : World} {sp : Sp} {l : List StmtV} (h : RdTs K.n₀ W0 sp l) :
   StmtsOk K J Jx pm E W0 sp l := stmtsC_list hJ hJx hT hH hE h.row h.ok (fun s hs => stmtC_parts hJ hJx hT hH hE (h.ok s hs))
end Go.Proofs.YtepacjkacjabbaaGreatDoor
namespace Go.Proofs.YtepacjkacjabbaaGreatDoor
open Go Go.RowKit Go.Maps
theorem KeepsQ.turned {K : CkE} {w X X' : World} {b : Nat} (h : KeepsQ K w X) (ht : X.mapTurned X' b) (hb : w.heap.size ≤ b) (hn : K.n₀ ≤ w.heap.size) : KeepsQ K w X' := by
 have hg := ht.grown
 have hs := h.size
 have hne : ∀ (k : Nat) (o : Obj), w.heap[k]? = some o → k ≠ b ∧ k < X.heap.size := fun k o ho => by have := (Array.getElem?_eq_some_iff.1 ho).1; omega
 refine ⟨Nat.le_trans hs hg.size, fun k o hB ho hc => ?_, fun k cs t fr ho hk hq => ?_, ?_⟩
 · obtain ⟨h1, h2⟩ := hne k _ ho
   exact (hg.block k h2 (by simpa using h1)).trans (h.same k o hB ho hc)
 · obtain ⟨h1, h2⟩ := hne k _ ho
   exact (hg.block k h2 (by simpa using h1)).trans (h.cells k cs t fr ho hk hq)
 · exact h.low.trans ⟨hg.os, hg.tape, hg.output, hg.size, fun k hk => hg.block k (by omega) (by intro e; cases e; omega)⟩
theorem CkSt.turned {K : CkE} {J Jx : List (Int × Int) → World → Prop} (hJ : OwnC 246 K.B J) (hJx : OwnC 246 K.B Jx) {pm : Option Nat} {E : Env} {cs : List Int} {X X' : World} {b : Nat} (h : CkSt K J Jx pm E cs X) (ht : X.mapTurned X' b) (hB : K.B ≤ b) (h1 : b ≠ K.mt) (h2 : b ≠ K.mp) (h3 : pm ≠ some b) : CkSt K J Jx pm E cs X' := by
 obtain ⟨over, hk, hs⟩ := h.ex
 have hg := ht.grown
 obtain ⟨es, cl, es', cl', hb0, he⟩ := id ht
 have hother : ∀ k, k ≠ b → k < X.heap.size → X'.heap[k]? = X.heap[k]? := fun k hk2 hlt => hg.block k hlt (by simpa using hk2)
 have hqm : K.q ≠ b := by
   intro e
   have := hk.box
   rw [e, hb0] at this
   cases this
 refine ⟨over, ⟨(hother _ hqm hk.lt).trans hk.box, ?_, ?_, ?_, hk.prog.below ⟨hg.os, hg.tape, hg.output, hg.size, fun k hk2 => hother k (by have := hk.n0; omega) (by have := hk.lt; have := hk.q; have := hk.n0; omega)⟩, hk.n0, hk.q, hk.mt, hk.mp⟩, hs.keep (fun l hl => hJ.turned hl hB ht) (fun l hl => hJx.turned hl hB ht)⟩
 · cases pm with
   | none => exact hk.params
   | some m =>
     obtain ⟨a1, k, a2⟩ := hk.params
     exact ⟨a1, k, a2.of_block (hother m (fun e => h3 (by rw [e])) a2.lt)⟩
 · obtain ⟨k, a2⟩ := hk.things
   exact ⟨k, a2.of_block (hother _ (Ne.symm h1) a2.lt)⟩
 · obtain ⟨k, a2⟩ := hk.procs
   exact ⟨k, a2.of_block (hother _ (Ne.symm h2) a2.lt)⟩
theorem CkSt.maps {K : CkE} {J Jx : List (Int × Int) → World → Prop} {pm : Option Nat} {E : Env} {cs : List Int} {X : World} (h : CkSt K J Jx pm E cs X) : K.mt < X.heap.size ∧ K.mp < X.heap.size ∧ ∀ m, pm = some m → m < X.heap.size := by
 obtain ⟨over, hk, hs⟩ := h.ex
 refine ⟨?_, ?_, fun m hm => ?_⟩
 · obtain ⟨k, a2⟩ := hk.things; exact a2.lt
 · obtain ⟨k, a2⟩ := hk.procs; exact a2.lt
 · subst hm
   obtain ⟨a1, k, a2⟩ := hk.params; exact a2.lt
theorem nodup_le {α : Type} [DecidableEq α] : ∀ (zs L : List α), zs.Nodup → (∀ x ∈ zs, x ∈ L) → zs.length ≤ L.length
 | [], _, _, _ => Nat.zero_le _
 | x :: zs, L, hn, hs => by
   obtain ⟨h1, h2⟩ := List.nodup_cons.1 hn
   have hx := hs x (List.mem_cons_self ..)
   have := nodup_le zs (L.erase x) h2 (fun y hy => (List.mem_erase_of_ne (fun e => h1 (by rw [← e]; exact hy))).2 (hs y (List.mem_cons_of_mem _ hy)))
   rw [List.length_erase_of_mem hx] at this
   have hp : 0 < L.length := List.length_pos_of_mem hx
   simp only [List.length_cons]
   omega
theorem declsC_snoc (p : ProgV) (a : Bool) : ∀ (l : List DeclV) (b : List ByteArray) (d : DeclV), declsC p a (l ++ [d]) b = declsC p a l b ++ [declE p (b ++ l.map DeclV.name) a d]
 | [], b, d => by simp [declsC]
 | x :: l, b, d => by
   rw [List.cons_append, declsC, declsC_snoc p a l, declsC]
   simp
theorem hasN_mem (l : List ByteArray) (s : ByteArray) : hasN l s = true ↔ s ∈ l := by
 unfold hasN; simp
theorem look_has {α : Type} (T : List (ByteArray × α)) (s : ByteArray) : (look T s).isSome = hasN (T.map (·.1)) s := by
 unfold look hasN
 rw [Bool.eq_iff_iff]
 simp [List.find?_isSome]
structure OwnSt (K : CkE) (n : Nat) (D : DataW Unit) (left : Lit → Bool) (zs : List ByteArray) : Prop where
 nodup : zs.Nodup
 sub : ∀ s ∈ zs, s ∈ thingNames K.p
 gone : ∀ s ∈ zs, left (skey s) = false
 rest : ∀ s, s ∈ thingNames K.p → s.size ≤ maxLen → s ∈ zs ∨ left (skey s) = true
 key : ∀ kl, left kl = true → Maps.has D kl = true
theorem OwnSt.step {K : CkE} {n : Nat} {D : DataW Unit} {left : Lit → Bool} {zs : List ByteArray} (h : OwnSt K n D left zs) {x : ByteArray} (hl : left (skey x) = true) (hx : x ∈ thingNames K.p) : OwnSt K n D (fun z => left z && !z.sameKey (skey x)) (zs ++ [x]) := by
 have hxz : x ∉ zs := fun hm => by rw [h.gone x hm] at hl; cases hl
 have hself : (skey x).sameKey (skey x) = true := WideAt.sameKey_self (by trivial)
 refine ⟨?_, ?_, ?_, ?_, ?_⟩
 · rw [List.nodup_append]
   refine ⟨h.nodup, by simp, fun a ha b hb e => ?_⟩
   rw [List.mem_singleton] at hb
   subst hb
   subst e
   exact hxz ha
 · intro s hs
   rcases List.mem_append.1 hs with hs | hs
   · exact h.sub s hs
   · rw [List.mem_singleton.1 hs]; exact hx
 · intro s hs
   rcases List.mem_append.1 hs with hs | hs
   · rw [h.gone s hs]; rfl
   · rw [List.mem_singleton.1 hs, hself]; simp
 · intro s hs hsz
   rcases h.rest s hs hsz with h1 | h1
   · exact .inl (List.mem_append_left _ h1)
   · by_cases e : s = x
     · exact .inl (by rw [e]; simp)
     · refine .inr ?_
       have hne : (skey s).sameKey (skey x) = false := Bool.eq_false_iff.2 fun h2 => e (skey_inj (WideAt.sameKey_eq h2))
       simp [h1, hne]
 · intro kl hk
   simp at hk
   exact h.key kl hk.1
theorem BefAt.names {W : World} {mb n n' : Nat} {l l' : List ByteArray} {f : ByteArray → Option Int} (h : BefAt W mb n l f) (hn : n ≤ n') (hl : ∀ s, (f s).isSome = true → hasN l' s = true) (hl2 : ∀ s, hasN l' s = true → hasN l s = true) : BefAt W mb n' l' f := by
 refine ⟨h.map.mono hn, fun s => ?_, fun s c hc => by have := h.few s c hc; omega⟩
 rw [Bool.eq_iff_iff]
 exact ⟨hl s, fun h2 => by rw [h.has]; exact hl2 s h2⟩
structure NamesOk (p : ProgV) : Prop where
 decls : ∀ d, d ∈ p.inputs ++ p.ghosts ++ p.vars ++ p.arrays → d.name.size ≤ 4294967200
 procs : ∀ q ∈ p.procs, q.name.size ≤ 4294967200 ∧ ∀ d ∈ q.params, d.name.size ≤ 4294967200
theorem thing_names {p : ProgV} (h : NamesOk p) : ∀ s ∈ thingNames p, s.size ≤ maxLen := by
 intro s hs
 have e : thingNames p = (p.inputs ++ p.ghosts ++ p.vars ++ p.arrays).map DeclV.name := by
   unfold thingNames thingsP
   simp [List.map_append, List.map_map, Function.comp_def]
 rw [e] at hs
 obtain ⟨d, hd, rfl⟩ := List.mem_map.1 hs
 have := h.decls d hd
 unfold maxLen
 omega
theorem thing_names_len (p : ProgV) : (thingNames p).length = p.inputs.length + p.ghosts.length + p.vars.length + p.arrays.length := by
 unfold thingNames thingsP
 simp
 omega
end Go.Proofs.YtepacjkacjabbaaGreatDoor
