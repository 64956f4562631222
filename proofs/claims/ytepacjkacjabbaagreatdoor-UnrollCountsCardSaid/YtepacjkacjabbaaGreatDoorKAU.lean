import Derived.Test.YtepacjkacjabbaaGreatDoorKAS
import Derived.Test.YtepacjkacjabbaaGreatDoorKAK
import Derived.Test.YtepacjkacjabbaaGreatDoorKAH
import Derived.Test.YtepacjkacjabbaaGreatDoorKAT
import Derived.Deep.LoopGhost
import Derived.Carry
import Derived.Deep.CutBlock
import Derived.Deep.CutRange
import Derived.Test.YtepacjkacjabbaaGreatDoorKAP
import Derived.Test.YtepacjkacjabbaaGreatDoorKAR
import Derived.Test.YtepacjkacjabbaaGreatDoorKAQ
namespace Go.Proofs.YtepacjkacjabbaaGreatDoor
open Go Go.RowKit Go.Maps
structure SeenF (seen : List Nat) (n : Nat) (f : Int → Option Int) : Prop where
 yes : ∀ i : Nat, i ∈ seen → ∃ c : Int, f i = some c ∧ 1 ≤ c ∧ c ≤ n
 no : ∀ i : Nat, i ∉ seen → f i = none
theorem SeenF.again {seen : List Nat} {n : Nat} {f : Int → Option Int} (h : SeenF seen n f) {x : Nat} {c : Int} (h0 : 0 ≤ c) (hc : c ≤ n) (hs : x ∈ seen) : SeenF seen (n + 1) (fun m => if m = (x : Int) then some (c + 1) else f m) := by
 refine ⟨fun i hi => ?_, fun i hi => ?_⟩
 · by_cases e : (i : Int) = x
   · exact ⟨c + 1, by simp [e], by omega, by omega⟩
   · obtain ⟨c', h1, h2, h3⟩ := h.yes i hi
     exact ⟨c', by simp [e, h1], h2, by omega⟩
 · have e : ¬ (i : Int) = x := fun e => hi (by rw [show i = x by omega]; exact hs)
   simp [e, h.no i hi]
theorem SeenF.first {seen : List Nat} {n : Nat} {f : Int → Option Int} (h : SeenF seen n f) {x : Nat} {c : Int} (h0 : 0 ≤ c) (hc : c ≤ n) : SeenF (x :: seen) (n + 1) (fun m => if m = (x : Int) then some (c + 1) else f m) := by
 refine ⟨fun i hi => ?_, fun i hi => ?_⟩
 · by_cases e : (i : Int) = x
   · exact ⟨c + 1, by simp [e], by omega, by omega⟩
   · obtain ⟨c', h1, h2, h3⟩ := h.yes i (by
       rcases List.mem_cons.1 hi with e2 | hi
       · exact absurd (by rw [e2]) e
       · exact hi)
     exact ⟨c', by simp [e, h1], h2, by omega⟩
 · have e : ¬ (i : Int) = x := fun e => hi (by rw [show i = x by omega]; exact List.mem_cons_self ..)
   simp [e, h.no i (fun h => hi (List.mem_cons_of_mem _ h))]
theorem wf_nat {x : Nat} (h : x ≤ 1000000000) : (Lit.int .i64 (x : Int)).wf = true := by
 have h1 : IntKind.i64.min = -9223372036854775808 := by decide
 have h2 : IntKind.i64.max = 9223372036854775807 := by decide
 show (decide (IntKind.i64.min ≤ (x : Int)) && decide ((x : Int) ≤ IntKind.i64.max)) = true
 rw [h1, h2, Bool.and_eq_true, decide_eq_true_eq, decide_eq_true_eq]
 omega
theorem Ckr.lookN {K : CkE} {pm : Option Nat} {E : Env} {n : Int} {over : Bool} {W : World} (h : Ckr K pm E n over W) {s : ByteArray} (hs : s.size ≤ maxLen) :
   (Instr.lookup 119 (.map (some K.mp)) (.string s) true).run Tryz.prog W = .ok (.tuple #[.int .i64 ((look (procsAt K.p) s).getD 0), .bool (look (procsAt K.p) s).isSome]) W := by
 obtain ⟨k, hm⟩ := h.procs
 have := hm.look_ok lawS Tryz.underlying119 (keyS hs)
 rw [onStr_skey] at this
 exact this
theorem rdTs_names {n₀ : Nat} {W : World} {s : Sp} {l : List StmtV} (h : RdTs n₀ W s l) : ∀ t ∈ l.flatMap StmtV.pre, t.name.size ≤ maxLen := by
 intro t ht
 obtain ⟨y, hy, ht⟩ := List.mem_flatMap.1 ht
 have := rdT_pre (h.ok y hy) t ht
 cases this; assumption
structure LeadSt (p : ProgV) (q : Nat) (from_ tgt : Nat) (gk : Nat) (v : Value) (w wr : World) (seen todo : List Nat) (n : Nat) (f : Int → Option Int) : Prop where
 row : QRow (q + 1) wr v todo
 map : MapF numC 3 wr q n (onInt f)
 seenF : SeenF seen n f
 below : Below q w wr
 eq : leadsB p from_ tgt = leadsF p tgt gk seen todo
 fuel : 1 + todo.length + restF p seen ≤ gk
 few : n + gk ≤ fuelP p
 ok : ∀ x ∈ todo, x < p.procs.length
set_option maxRecDepth 1000000 in
set_option maxHeartbeats 4000000 in
theorem leads_any {K : CkE} {pm : Option Nat} {E : Env} {n : Int} {over : Bool} (w : World) (hk : Ckr K pm E n over w) (hH : heftP K.p ≤ 20000) (i : Nat) (hi : i < K.p.procs.length) (tgt : Nat) (htg : tgt ≤ 1000000000) :
   Calls Tryz.prog 277 #[.pointer (some ⟨K.q, 0, none⟩), .int .i64 i, .int .i64 tgt] w fun o w' => o = .returned (.bool (leadsB K.p i tgt)) ∧ Below w.heap.size w w' := by
 have hmm := @run_makeMap Tryz.prog
 have HFU := Lib.hid (fuel_light hH)
 have HPR := Lib.hid (heft_procs hH)
 have hba0 : Below w.heap.size w (w.alloc (.map #[] 0)) := (Below.refl _ w).alloc (Nat.le_refl _) _
 have hba1 : Below w.heap.size w ((w.alloc (.map #[] 0)).alloc (.cells #[.int .i64 i] 3)) := hba0.alloc hba0.size _
 have hq0 : QRow (w.heap.size + 1) ((w.alloc (.map #[] 0)).alloc (.cells #[.int .i64 i] 3)) (.slice (some ⟨w.heap.size + 1, 0, none⟩) 1 1) [i] := by
   have := QRow.first (q := w.heap.size + 1) (W := w.alloc (.map #[] 0)) i (by simp)
   rwa [World.size_alloc] at this
 have hm0 : MapF numC 3 ((w.alloc (.map #[] 0)).alloc (.cells #[.int .i64 i] 3)) w.heap.size 0 (onInt fun _ => none) :=
   ((MapF.made numC 3 w).below (B := w.heap.size + 1) ((Below.refl _ _).alloc (by simp) _) (by omega)).congr fun l _ => by unfold onInt; split <;> rfl
 have hst : LeadSt K.p w.heap.size i tgt (fuelP K.p) (.slice (some ⟨w.heap.size + 1, 0, none⟩) 1 1) w ((w.alloc (.map #[] 0)).alloc (.cells #[.int .i64 i] 3)) [] [i] 0 (fun _ => none) :=
   ⟨hq0, hm0, ⟨fun i h => absurd h (by simp), fun _ _ => rfl⟩, hba1, rfl, by rw [fuelP_eq]; simp, by omega, fun x hx => by simp at hx; omega⟩
 have HST := Lib.hid hst
 have HK := Lib.hid hk
 have HH := Lib.hid hH
 have HI := Lib.hid hi
 clear hba0 hba1 hq0 hm0 hst hk hH hi
 go_enter Tryz.func277, Tryz.ntmps277
 go_wp2_with fail
 go_loopg [8] (fuelP K.p) (fun gk v wr => ∃ seen todo n f, LeadSt K.p w.heap.size i tgt gk v w wr seen todo n f)
 case atStart => exact ⟨_, _, _, _, HST.out⟩
 case round =>
   obtain ⟨seen, todo, n, f, hst⟩ := hrel
   have hq := hst.row
   have HS := Lib.hid hst
   clear hst HST
   cases todo with
   | nil =>
     obtain ⟨ao, cap, rfl, -⟩ := hq.ex
     have hfin : leadsB K.p i tgt = false := by rw [HS.out.eq, leadsF_nil]
     have HF := Lib.hid hfin
     simp only [List.length_nil]
     clear hfin hq
     go_wp2_with fail
     go_ret
     exact ⟨by rw [HF.out]; rfl, HS.out.below⟩
   | cons x todo =>
     obtain ⟨g, off, cap, rfl, hcap1, hcap2, hc0, hq1⟩ := hq.front
     obtain ⟨ao, hao⟩ : ∃ ao, (if cap = 0 then some (⟨g, off, none⟩ : Addr) else some ⟨g, off + 1, none⟩) = ao := ⟨_, rfl⟩
     rw [hao] at hq1
     have HQ1 := Lib.hid hq1
     have hgk : ∃ m, gk = m + 1 := ⟨gk - 1, by have := HS.out.fuel; simp at this; omega⟩
     obtain ⟨m, rfl⟩ := hgk
     have hdl : decide (0 < todo.length + 1) = true := by simp
     have hxp := HS.out.ok x (List.mem_cons_self ..)
     have hpr := HPR.out
     have hfu := HFU.out
     have hfw := HS.out.few
     have hfl := HS.out.fuel
     simp only [List.length_cons] at hfl ⊢
     clear hq1 hq
     by_cases hx : x = tgt
     · subst hx
       have hfin : leadsB K.p i x = true := by rw [HS.out.eq, leadsF_hit]
       have HF := Lib.hid hfin
       clear hfin
       go_wp2_with fail
       go_ret
       exact ⟨by rw [HF.out]; rfl, HS.out.below⟩
     · have hne : ((x : Int) == (tgt : Int)) = false := by simp; omega
       have HX := Lib.hid hx
       have hwf : (Lit.int .i64 (x : Int)).wf = true := wf_nat (by omega)
       have hki := keyI hwf
       have hl1 := HS.out.map.look lawI Tryz.underlying185 hki
       obtain ⟨c, hc⟩ : ∃ c : Int, (f x).getD 0 = c := ⟨_, rfl⟩
       have hc' : (onInt f (.int .i64 (x : Int))).getD numC.zero = c := hc
       rw [hc'] at hl1
       have hcb : 0 ≤ c ∧ c ≤ n ∧ (1 ≤ c ↔ x ∈ seen) := by
         by_cases hs : x ∈ seen
         · obtain ⟨c', h1, h2, h3⟩ := HS.out.seenF.yes x hs
           rw [h1] at hc; simp at hc; subst hc
           exact ⟨by omega, h3, by simp [hs, h2]⟩
         · rw [HS.out.seenF.no x hs] at hc; simp at hc; subst hc
           exact ⟨by omega, by omega, by simp [hs]⟩
       obtain ⟨hcb0, hcb1, hcb2⟩ := hcb
       obtain ⟨w8, hrun, hmap8, hturn8⟩ := HS.out.map.store lawI Tryz.underlying185 (by unfold maxLen; omega) hki (c + 1)
       have hl2 := hmap8.look lawI Tryz.underlying185 hki
       have hp8 : (putF (onInt f) (.int .i64 (x : Int)) (c + 1) (.int .i64 (x : Int))).getD numC.zero = c + 1 := by
         rw [putF_onInt]; simp [onInt]
       rw [hp8] at hl2
       rw [putF_onInt] at hmap8
       replace hrun : (Instr.mapUpdate 185 (.map (some w.heap.size)) (.int .i64 (x : Int)) (.int .i64 (c + 1))).run Tryz.prog wr = .ok () w8 := hrun
       replace hl1 : (Instr.lookup 185 (.map (some w.heap.size)) (.int .i64 (x : Int)) false).run Tryz.prog wr = .ok (.int .i64 c) wr := hl1
       replace hl2 : (Instr.lookup 185 (.map (some w.heap.size)) (.int .i64 (x : Int)) false).run Tryz.prog w8 = .ok (.int .i64 (c + 1)) w8 := hl2
       have hq8 := HQ1.out.turned hturn8
       have hb8 : Below w.heap.size w w8 := HS.out.below.grown hturn8.grown HS.out.below.size (fun q hq => by cases hq; exact Nat.le_refl _)
       have HM8 := Lib.hid hmap8
       have HQ8 := Lib.hid hq8
       have HB8 := Lib.hid hb8
       have HCB := Lib.hid hcb2
       have HC := Lib.hid hc
       clear hki hc hc' hmap8 hturn8 hq8 hb8 hcb2 hp8 hx hwf HQ1
       by_cases hs : x ∈ seen
       · have hgt : decide (1 < c + 1) = true := decide_eq_true (by have := HCB.out.2 hs; omega)
         have HSE := Lib.hid hs
         clear hs
         go_wp2_with (refine wpList_mapRun rfl _ _ _ 185 rfl rfl rfl rfl hrun ?_)
         go_roundg m
         case measure => omega
         case rel => exact ⟨seen, todo, n + 1, _, HQ8.out, HM8.out, HS.out.seenF.again hcb0 hcb1 HSE.out, HB8.out, by rw [HS.out.eq, leadsF_skip _ _ _ _ _ _ HX.out HSE.out], by omega, by omega, fun y hy => HS.out.ok y (List.mem_cons_of_mem _ hy)⟩
       · have hc0 : c = 0 := by
           have h1 := HCB.out
           by_cases h2 : 1 ≤ c
           · exact absurd (h1.1 h2) hs
           · omega
         subst hc0
         have HSE := Lib.hid hs
         have hk8 := HK.out.new HB8.out
         have c13 := hk8.c13
         have hq := hk8.prog.procs _ (List.getElem_mem hxp)
         obtain ⟨b, off2, eA, hbn, hcell⟩ := hk8.prog.prow.row (by omega)
         have hpc : w8.cell? ⟨b, off2 + x * 3 + 2, none⟩ = some (.slice K.p.procs[x].bs.at_ K.p.procs[x].body.length K.p.procs[x].bs.cap) := hcell x hxp 2 _ rfl
         rw [eA] at c13
         have hxj0 : (0 : Int) ≤ (x : Int) := by omega
         have hxj1 : (x : Int) < (K.p.procs.length : Int) := by omega
         have hn8 : K.n₀ ≤ w8.heap.size := by have := hk8.lt; have := hk8.q; have := hk8.n0; omega
         have hbody := hq.body.more hn8
         have hHH := HH.out
         have hL := heft_body hHH (List.getElem_mem hxp)
         have hpl := nextP_len K.p x hxp
         have hpe := nextP_eq K.p x hxp
         have hfin := heftT_len (K.p.procs[x].body.flatMap StmtV.pre)
         have hlt := cntT_light (K.p.procs[x].body.flatMap StmtV.pre) 0 (Int.le_refl 0) hL
         have hCA := calls_any w8 _ _ hbody hL (by omega)
         have hnm := callsN_mem K.p.procs[x].body (fun s => s.size ≤ maxLen) (rdTs_names hbody)
         simp only [Sp.val] at hCA
         have hcn := callsN_len K.p.procs[x].body
         have hnl : (callsN K.p.procs[x].body).length ≤ 20000 := by omega
         have HCA := Lib.hid hCA
         have HPE := Lib.hid hpe
         generalize callsN K.p.procs[x].body = L at *
         generalize K.p.procs[x] = pq at *
         have HNM := Lib.hid hnm
         have hgt : decide ((1 : Int) < 0 + 1) = false := by decide
         clear hnm hq hcell hpl hpe hfin hlt hcn hL hCA hbody hk8 hs
         go_wp2_with (first | (refine wpList_mapRun rfl _ _ _ 185 rfl rfl rfl rfl hrun ?_) | (go_at_call 52; refine HCA.out.mono ?_; rintro o9 w9 ⟨v9, rfl, hown9, hb9⟩; obtain ⟨A9, c9, rfl⟩ := ownN_form hown9; have HO9 := Lib.hid hown9; have HB9 := Lib.hid hb9; clear hown9 hb9) | fail)
         clear hrun hl1 hl2 hgt hc0 hpc c13
         have hb09 : Below w.heap.size w w9 := HB8.out.trans (HB9.out.mono HB8.out.size)
         have hq9 := HQ8.out.new HB9.out
         have HB09 := Lib.hid hb09
         have HQ9 := Lib.hid hq9
         have hs8 := HB8.out.size
         have hs8m := HM8.out.lt
         have hs9 := HB9.out.size
         clear hb09 hq9
         go_loopw [8, 47] (fun v8 v47 wx => ∃ k : Nat, k ≤ L.length ∧ v47 = .int .i64 k ∧ QRow (w.heap.size + 1) wx v8 (todo ++ stepsN K.p (L.take k)) ∧ Below (w.heap.size + 1) w9 wx ∧ KeepsO (w.heap.size + 1) w9 wx) (fun _ v47 _ => L.length - (intOf v47).toNat)
         case atStart => exact ⟨0, Nat.zero_le _, rfl, by simpa [stepsN] using HQ9.out, Below.refl _ _, fun _ _ _ h _ => h⟩
         case round =>
           obtain ⟨k, hk, rfl, hqr, hbx, hkx⟩ := hrel
           have HBX := Lib.hid hbx
           have HKX := Lib.hid hkx
           have HQR := Lib.hid hqr
           clear hbx hkx
           by_cases hlk : k < L.length
           · have hcl1 := (rdN_of_own (ownN_at HO9.out (w' := wr) (fun g hg => by
               obtain ⟨h1, cs, h2⟩ := own_cells HO9.out g hg
               exact (HKX.out g _ (by omega) h2 (by intro cs fr h; cases h)).trans h2.symm)))
             obtain ⟨A', c', e1, hcl2⟩ := hcl1
             cases e1
             obtain ⟨b7, off7, rfl, hcl⟩ := hcl2 (by omega)
             have hk7 := hcl k hlk
             have hsn := stepsN_snoc K.p (L.take k) L[k]
             have hts : L.take (k + 1) = L.take k ++ [L[k]] := List.take_succ_eq_append_getElem hlk
             rw [← hts] at hsn
             have hmx := HNM.out _ (List.getElem_mem hlk)
             have hlen : (todo ++ stepsN K.p (L.take k)).length ≤ 100000 := by
               have h1 : (stepsN K.p (L.take k)).length ≤ (L.take k).length := List.length_filterMap_le _ _
               have h2 : (L.take k).length ≤ k := List.length_take_le _ _
               rw [List.length_append]; omega
             have hbw : Below w.heap.size w wr := HB09.out.trans (HBX.out.mono (Nat.le_succ _))
             have hkr := HK.out.new hbw
             have hlkn := hkr.lookN hmx
             have c23 := hkr.c23
             have HSN := Lib.hid hsn
             generalize L[k] = s at *
             have hj0 : (0 : Int) ≤ (k : Int) := by omega
             have hj1 : (k : Int) < (L.length : Int) := by omega
             have hwr : w.heap.size + 1 ≤ wr.heap.size := by have := HBX.out.size; omega
             clear hcl hcl2 hsn hts hbw hkr
             cases hlp : look (procsAt K.p) s with
             | none =>
               rw [hlp] at hlkn HSN
               simp only [Option.getD_none, Option.isSome_none] at hlkn
               clear hqr
               go_wp2_with fail
               go_roundw
               case rel => exact ⟨k + 1, by omega, by go_num, by rw [HSN.out, List.append_nil]; exact HQR.out, HBX.out, HKX.out⟩
               case measure => simp [intOf]; omega
             | some kx =>
               rw [hlp] at hlkn HSN
               simp only [Option.getD_some, Option.isSome_some] at hlkn
               obtain ⟨e1, e2, e3⟩ := look_procs hlp
               obtain ⟨y, rfl⟩ : ∃ y : Nat, kx = y := ⟨kx.toNat, e3.symm⟩
               simp only [Int.toNat_natCast] at HSN
               clear hlp e1 e2 e3
               have hqa : QRow (w.heap.size + 1) (wr.alloc (.cells #[.int .i64 (y : Int)] 3)) _ _ := HQR.out.new ((Below.refl _ _).alloc (Nat.le_refl _) _)
               obtain ⟨ao5, cap5, rfl, -⟩ := hqr.ex
               have HQA := Lib.hid hqa
               have hcell5 := cell_one_new wr (.int .i64 (y : Int)) 3 0 _ rfl
               have hszA : w.heap.size + 1 ≤ (wr.alloc (.cells #[.int .i64 (y : Int)] 3)).heap.size := by simp; omega
               have HBA := Lib.hid ((Below.refl wr.heap.size wr).alloc (Nat.le_refl _) (.cells #[.int .i64 (y : Int)] 3))
               clear hqr hqa
               go_wp2_with (first | (at_builtin; refine wpList_append_q rfl _ _ rfl (w.heap.size + 1) _ _ y rfl HQA.out (by omega) hszA ⟨wr.heap.size, 0, none⟩ 1 rfl hcell5 ?_; intro v8 w8' hq8' hb8' hk8'; obtain ⟨ao6, cap6, rfl, -⟩ := id hq8'.ex; have HQ8' := Lib.hid hq8'; have HB8' := Lib.hid hb8'; have HK8' := Lib.hid hk8'; clear hq8' hb8' hk8') | fail)
               go_roundw
               case rel => exact ⟨k + 1, by omega, by go_num, by
                 have e : (todo ++ stepsN K.p (L.take k) ++ [y]).length = todo.length + ((stepsN K.p (L.take k)).length + 1) := by simp
                 have h9 := HQ8'.out
                 rw [e] at h9
                 rw [HSN.out, ← List.append_assoc]
                 exact h9, HBX.out.trans ((HBA.out.mono hwr).trans HB8'.out), HKX.out.trans ((KeepsO.of_new HBA.out).trans HK8'.out)⟩
               case measure => simp [intOf]; omega
           · obtain rfl : k = L.length := by omega
             have hres := restF_step K.p seen x HSE.out hxp
             obtain ⟨es, cl, hm9⟩ := HM8.out.obj
             have hmr : MapF numC 3 wr w.heap.size (n + 1) _ := HM8.out.of_block (((HBX.out.block w.heap.size (by omega)).trans (HB9.out.block w.heap.size (by omega))))
             have HMR := Lib.hid hmr
             clear hmr hm9 hqr
             rw [List.take_length, ← HPE.out] at HQR
             go_wp2_with fail
             go_roundg m
             case measure => omega
             case rel => exact ⟨x :: seen, todo ++ nextP K.p x, n + 1, _, HQR.out, HMR.out, HS.out.seenF.first hcb0 hcb1, HB09.out.trans (HBX.out.mono (Nat.le_succ _)), by rw [HS.out.eq, leadsF_go _ _ _ _ _ _ HX.out HSE.out], by rw [List.length_append]; omega, by omega, fun y hy => by
               rcases List.mem_append.1 hy with hy | hy
               · exact HS.out.ok y (List.mem_cons_of_mem _ hy)
               · rw [HPE.out] at hy; exact stepsN_ok _ _ y hy⟩
end Go.Proofs.YtepacjkacjabbaaGreatDoor
namespace Go.Proofs.YtepacjkacjabbaaGreatDoor
open Go Go.RowKit Go.Maps
structure BefAt (W : World) (mb n : Nat) (l : List ByteArray) (f : ByteArray → Option Int) : Prop where
 map : MapF numC 9 W mb n (onStr f)
 has : ∀ s, (f s).isSome = hasN l s
 few : ∀ s c, f s = some c → 0 ≤ c ∧ c ≤ n
theorem BefAt.of_block {W W' : World} {mb n : Nat} {l : List ByteArray} {f : ByteArray → Option Int} (h : BefAt W mb n l f) (hb : W'.heap[mb]? = W.heap[mb]?) : BefAt W' mb n l f := ⟨h.map.of_block hb, h.has, h.few⟩
theorem BefAt.new {W W' : World} {mb n : Nat} {l : List ByteArray} {f : ByteArray → Option Int} (h : BefAt W mb n l f) (hb : Below W.heap.size W W') : BefAt W' mb n l f := h.of_block (hb.block _ h.map.lt)
theorem BefAt.keeps {K : CkE} {W W' : World} {mb n : Nat} {l : List ByteArray} {f : ByteArray → Option Int} (h : BefAt W mb n l f) (hk : KeepsQ K W W') (hB : K.B ≤ mb) : BefAt W' mb n l f := by
 obtain ⟨es, cl, h3⟩ := h.map.obj
 exact h.of_block ((hk.same _ _ hB h3 rfl).trans h3.symm)
theorem BefAt.made (W : World) : BefAt (W.alloc (.map #[] 0)) W.heap.size 0 [] (fun _ => none) :=
 ⟨(MapF.made numC 9 W).congr fun l _ => by cases l <;> rfl, fun _ => rfl, fun _ _ h => by cases h⟩
theorem BefAt.look {W : World} {mb n : Nat} {l : List ByteArray} {f : ByteArray → Option Int} (h : BefAt W mb n l f) {s : ByteArray} (hs : s.size ≤ maxLen) :
   (Instr.lookup 119 (.map (some mb)) (.string s) true).run Tryz.prog W = .ok (.tuple #[.int .i64 ((f s).getD 0), .bool (hasN l s)]) W := by
 have := h.map.look_ok lawS Tryz.underlying119 (keyS hs)
 rw [onStr_skey, h.has] at this
 exact this
theorem BefAt.look1 {W : World} {mb n : Nat} {l : List ByteArray} {f : ByteArray → Option Int} (h : BefAt W mb n l f) {s : ByteArray} (hs : s.size ≤ maxLen) :
   (Instr.lookup 119 (.map (some mb)) (.string s) false).run Tryz.prog W = .ok (.int .i64 ((f s).getD 0)) W := by
 have := h.map.look lawS Tryz.underlying119 (keyS hs)
 rw [onStr_skey] at this
 exact this
theorem hasN_snoc (l : List ByteArray) (a s : ByteArray) : hasN (l ++ [a]) s = (hasN l s || decide (a = s)) := by
 unfold hasN; simp
theorem BefAt.store {W : World} {mb n : Nat} {l : List ByteArray} {f : ByteArray → Option Int} (h : BefAt W mb n l f) {s : ByteArray} (hs : s.size ≤ maxLen) (hn : n ≤ 1000000) :
   ∃ w', (Instr.mapUpdate 119 (.map (some mb)) (.string s) (.int .i64 ((f s).getD 0 + 1))).run Tryz.prog W = .ok () w' ∧ BefAt w' mb (n + 1) (l ++ [s]) (fun t => if t = s then some ((f s).getD 0 + 1) else f t) ∧ W.mapTurned w' mb := by
 obtain ⟨w', h1, h2, h3⟩ := h.map.store lawS Tryz.underlying119 (by unfold maxLen; omega) (keyS hs) ((f s).getD 0 + 1)
 rw [putF_onStr] at h2
 refine ⟨w', h1, ⟨h2, fun t => ?_, fun t c hc => ?_⟩, h3⟩
 · rw [hasN_snoc]
   by_cases e : t = s
   · subst e; simp
   · simp [e, h.has, Ne.symm e]
 · have hb : 0 ≤ (f s).getD 0 ∧ (f s).getD 0 ≤ n := by
     cases hf : f s with
     | none => simp
     | some c => simpa using h.few s c hf
   by_cases e : t = s
   · simp [e] at hc; omega
   · simp [e] at hc
     have := h.few t c hc; omega
theorem BefAt.bound {W : World} {mb n : Nat} {l : List ByteArray} {f : ByteArray → Option Int} (h : BefAt W mb n l f) (s : ByteArray) : 0 ≤ (f s).getD 0 ∧ (f s).getD 0 ≤ n := by
 cases hf : f s with
 | none => simp
 | some c => simpa using h.few s c hf
theorem declE_cases (p : ProgV) (l : List ByteArray) (a : Bool) (d : DeclV) : declE p l a d = if (hasN l d.name || !nameB p d.name.data.toList) = true then 321 else if wideW d.width = false then 322 else if (if a = true then decide (1 ≤ d.size ∧ d.size ≤ 16) else decide (d.size = 0)) = false then 323 else 0 := by
 unfold declE
 cases hasN l d.name <;> cases nameB p d.name.data.toList <;> simp
set_option maxRecDepth 1000000 in
set_option maxHeartbeats 4000000 in
theorem decl_any {K : CkE} {J Jx : List (Int × Int) → World → Prop} (hJ : OwnC 246 K.B J) (hJx : OwnC 246 K.B Jx) (hT : TellOk K J Jx) {pm : Option Nat} {E : Env} {cs : List Int} (w : World) (hst : CkSt K J Jx pm E cs w) (hlen : cs.length < 1000000) (hmx : MxAt w)
   {mb n : Nat} {l : List ByteArray} {f : ByteArray → Option Int} (hm : BefAt w mb n l f) (d : DeclV) (hd : DeclOk d) (hs : d.name.size ≤ 4294967200) (isA : Bool) :
   Calls Tryz.prog 224 #[.pointer (some ⟨K.q, 0, none⟩), d.val, .map (some mb), .bool isA] w fun o w' => o = .returned (.tuple #[]) ∧ Told K J Jx pm E (cs ++ [declE K.p l isA d]) w w' := by
 obtain ⟨over, hk, -⟩ := hst.ex
 have hn0w : K.n₀ ≤ w.heap.size := by have := hk.lt; have := hk.q; have := hk.n0; omega
 have hw0 : 0 < w.heap.size := by have := hk.lt; omega
 have hb1 : Below w.heap.size w (w.alloc (.cells #[.string d.name, .int .i64 d.width, .int .i64 d.size] 50)) := (Below.refl _ _).alloc (Nat.le_refl _) _
 have hB1 := World.alloc_heap_new w (.cells #[.string d.name, .int .i64 d.width, .int .i64 d.size] 50)
 have hde := declE_cases K.p l isA d
 obtain ⟨de, hde0⟩ : ∃ de, declE K.p l isA d = de := ⟨_, rfl⟩
 rw [hde0] at hde ⊢
 have HDE := Lib.hid hde
 have HTELL : Hid (∀ (c : Int) (X : World), Below (w.alloc (.cells #[.string d.name, .int .i64 d.width, .int .i64 d.size] 50)).heap.size (w.alloc (.cells #[.string d.name, .int .i64 d.width, .int .i64 d.size] 50)) X → Calls Tryz.prog 228 #[.pointer (some ⟨K.q, 0, none⟩), .int .i64 c] X fun o w' => o = .returned (.tuple #[]) ∧ Told K J Jx pm E (cs ++ [c]) w w') := Lib.hid fun c X hX => by
   have hbx : Below w.heap.size w X := hb1.trans (hX.mono hb1.size)
   refine (hT pm E cs X c (hst.new hJ hJx hbx) hlen).mono ?_
   rintro o w' ⟨rfl, ht⟩
   exact ⟨rfl, ht.after (.of_below hbx hn0w)⟩
 have hNM := name_check _ (hk.new hb1) d.name hs (hmx.below hb1 hw0)
 have hmb := hm.new hb1
 have hlk := hmb.look hd.1
 clear hde hde0 hst hk hm hmb hmx hb1
 simp only [DeclV.val]
 go_enter Tryz.func224, Tryz.ntmps224
 go_upto_region 1 with fail
 have HNM := Lib.hid hNM
 have HB1 := Lib.hid hB1
 clear hNM
 generalize w.alloc (.cells #[.string d.name, .int .i64 d.width, .int .i64 d.size] 50) = W1 at *
 obtain ⟨c0, c1, c2⟩ := three_cells HB1.out
 generalize hwd : d.width = wd at *
 generalize hsz : d.size = sz at *
 generalize hnn : nameB K.p d.name.data.toList = nn at *
 generalize hha : hasN l d.name = ha at *
 obtain ⟨so, hso⟩ : ∃ so, (if isA = true then decide (1 ≤ sz ∧ sz ≤ 16) else decide (sz = 0)) = so := ⟨_, rfl⟩
 rw [hso] at HDE
 have HSO := Lib.hid hso
 clear hso hwd hsz hnn hha
 obtain ⟨z0, hz0⟩ : ∃ z, (sz == 0) = z := ⟨_, rfl⟩
 have hz1 : decide (sz = 0) = z0 := by rw [← hz0]; rfl
 rw [hz1] at HSO
 have HZ1 := Lib.hid hz1
 clear hz1
 go_upto_if 14 with fail
 go_cut [8] (fun s8 wx => s8 = .bool so ∧ W1 = wx)
 case first =>
   cases isA with
   | false =>
     clear HNM hlk HTELL
     go_wp2_with fail
     go_meet
     case rel => exact ⟨congrArg Value.bool (by rw [← HSO.out]; simp), rfl⟩
   | true =>
     clear HNM hlk HTELL
     by_cases h1 : 1 ≤ sz
     · by_cases h2 : sz ≤ 16
       all_goals
         go_wp2_with fail
         go_meet
         case rel => exact ⟨congrArg Value.bool (by rw [← HSO.out]; simp [h1, h2]), rfl⟩
     · go_wp2_with fail
       go_meet
       case rel => exact ⟨congrArg Value.bool (by rw [← HSO.out]; simp; omega), rfl⟩
 case rest =>
   obtain ⟨rfl, rfl⟩ := hcut
   clear HSO HZ1 hz0
   have HWI := Lib.hid (fun W => wide_any wd W)
   cases ha with
   | true =>
     have hres : de = 321 := by rw [HDE.out]; rfl
     have HRES := Lib.hid hres
     clear hres HNM
     go_wp2_with (first | (go_at_call 228; refine (HTELL.out _ _ (Below.refl _ _)).mono ?_; rintro o9 w9 ⟨rfl, ht9⟩) | fail)
     go_returns
     exact ⟨rfl, by rw [HRES.out]; exact ht9⟩
   | false =>
     cases nn with
     | false =>
       have hres : de = 321 := by rw [HDE.out]; rfl
       have HRES := Lib.hid hres
       clear hres
       go_wp2_with (first | (go_at_call 255; refine HNM.out.mono ?_; rintro o8 w8 ⟨rfl, hb8⟩; have HB8 := Lib.hid hb8; clear hb8) | (go_at_call 228; refine (HTELL.out _ _ HB8.out).mono ?_; rintro o9 w9 ⟨rfl, ht9⟩) | fail)
       go_returns
       exact ⟨rfl, by rw [HRES.out]; exact ht9⟩
     | true =>
       go_upto_region 8 with (first | (go_at_call 255; refine HNM.out.mono ?_; rintro o8 w8 ⟨rfl, hb8⟩; have HB8 := Lib.hid hb8; clear hb8) | fail)
       clear c0 c1 c2 hlk
       obtain ⟨c0, c1, c2⟩ := three_cells ((HB8.out.block _ (Array.getElem?_eq_some_iff.1 HB1.out).1).trans HB1.out)
       cases hwi : wideW wd with
       | false =>
         rw [hwi] at HWI HDE
         have hres : de = 322 := by rw [HDE.out]; rfl
         have HRES := Lib.hid hres
         clear hres hwi
         go_wp2_with (first | (go_at_call 254; refine (HWI.out _).mono ?_; rintro o7 w7 ⟨rfl, rfl⟩) | (go_at_call 228; refine (HTELL.out _ _ HB8.out).mono ?_; rintro o9 w9 ⟨rfl, ht9⟩) | fail)
         go_returns
         exact ⟨rfl, by rw [HRES.out]; exact ht9⟩
       | true =>
         rw [hwi] at HWI HDE
         clear hwi
         cases so with
         | false =>
           have hres : de = 323 := by rw [HDE.out]; rfl
           have HRES := Lib.hid hres
           clear hres
           go_wp2_with (first | (go_at_call 254; refine (HWI.out _).mono ?_; rintro o7 w7 ⟨rfl, rfl⟩) | (go_at_call 228; refine (HTELL.out _ _ HB8.out).mono ?_; rintro o9 w9 ⟨rfl, ht9⟩) | fail)
           go_returns
           exact ⟨rfl, by rw [HRES.out]; exact ht9⟩
         | true =>
           have hres : de = 0 := by rw [HDE.out]; rfl
           have HRES := Lib.hid hres
           clear hres
           go_wp2_with (first | (go_at_call 254; refine (HWI.out _).mono ?_; rintro o7 w7 ⟨rfl, rfl⟩) | (go_at_call 228; refine (HTELL.out _ _ HB8.out).mono ?_; rintro o9 w9 ⟨rfl, ht9⟩) | fail)
           go_returns
           exact ⟨rfl, by rw [HRES.out]; exact ht9⟩
end Go.Proofs.YtepacjkacjabbaaGreatDoor
namespace Go.Proofs.YtepacjkacjabbaaGreatDoor
open Go Go.RowKit Go.Maps
set_option maxRecDepth 100000 in
set_option maxHeartbeats 4000000 in
theorem args_any {K : CkE} {pm : Option Nat} {E : Env} {n : Int} {over : Bool} (w : World) (hk : Ckr K pm E n over w) (i : Nat) (hi : i < K.p.procs.length) {m : Nat} {s : Sp} {l : List ExprV} (hl : RdXs m w s l) (hm : m ≤ w.heap.size) :
   Calls Tryz.prog 276 #[.pointer (some ⟨K.q, 0, none⟩), .int .i64 i, s.val l.length] w fun o w' => o = .returned (.bool (argsB K.p E i l)) ∧ Below w.heap.size w w' := by
 have hq := hk.prog.procs _ (List.getElem_mem hi)
 have hpf := hk.prog.prow.few
 obtain ⟨b, off, eA, hbn, hcell⟩ := hk.prog.prow.row (by omega)
 have hpc : w.cell? ⟨b, off + i * 3 + 1, none⟩ = some (.slice K.p.procs[i].ps.at_ K.p.procs[i].params.length K.p.procs[i].ps.cap) := hcell i hi 1 _ rfl
 have hab : argsB K.p E i l = if K.p.procs[i].params.length ≠ l.length then true else argsL K.p E K.p.procs[i].params l := by
   unfold argsB; rw [List.getElem?_eq_getElem hi]
 have c13 := hk.c13
 rw [eA] at c13
 have hn0 : K.n₀ ≤ w.heap.size := by have := hk.lt; have := hk.q; have := hk.n0; omega
 have HAB := Lib.hid hab
 have HQ := Lib.hid hq.params
 generalize K.p.procs[i] = pq at *
 have hpl := HQ.out.row.few
 have hll := hl.row.few
 have hi0 : (0 : Int) ≤ (i : Int) := by omega
 have hi1 : (i : Int) < (K.p.procs.length : Int) := by omega
 have HK := Lib.hid hk
 have HL := Lib.hid hl
 clear hk hq hcell hab hl eA
 simp only [Sp.val]
 by_cases hne : pq.params.length = l.length
 · have g1 : ((pq.params.length : Int) == (l.length : Int)) = true := by simp [hne]
   have g2 : ((pq.params.length : Int) != (l.length : Int)) = false := by simp [hne]
   have HNE := Lib.hid hne
   clear hne
   go_enter Tryz.func276, Tryz.ntmps276
   go_wp2_with fail
   go_loopw [26] (fun v wr => ∃ k : Nat, k ≤ l.length ∧ v = .int .i64 k ∧ argsL K.p E pq.params l = argsL K.p E (pq.params.drop k) (l.drop k) ∧ Below w.heap.size w wr) (fun v _ => l.length - (intOf v).toNat)
   case atStart => exact ⟨0, Nat.zero_le _, rfl, rfl, Below.refl _ _⟩
   case round =>
     obtain ⟨k, hk, rfl, har, hb⟩ := hrel
     have HAR := Lib.hid har
     have HBR := Lib.hid hb
     clear har hb c13 hpc
     by_cases hlt2 : k < l.length
     · obtain ⟨b2, off2, eA, hbn2, hcell⟩ := (HQ.out.row.below (HBR.out.mono hn0)).row (by have := HNE.out; omega)
       obtain ⟨be, oe, eE, hbe, hce⟩ := (HL.out.row.below (HBR.out.mono hm)).row (by omega)
       have hx : k < pq.params.length := by have := HNE.out; omega
       have k0 : wr.cell? ⟨b2, off2 + k * 3, none⟩ = some (.string pq.params[k].name) := hcell k hx 0 _ rfl
       have k1 : wr.cell? ⟨b2, off2 + k * 3 + 1, none⟩ = some (.int .i64 pq.params[k].width) := hcell k hx 1 _ rfl
       have k2 : wr.cell? ⟨b2, off2 + k * 3 + 2, none⟩ = some (.int .i64 pq.params[k].size) := hcell k hx 2 _ rfl
       have hce2 := hce k hlt2
       have hrx := HL.out.ok _ (List.getElem_mem hlt2)
       have hst : argsL K.p E (pq.params.drop k) (l.drop k) = (differW (widthE K.p E l[k]) pq.params[k].width || argsL K.p E (pq.params.drop (k + 1)) (l.drop (k + 1))) := by
         rw [List.drop_eq_getElem_cons hx, List.drop_eq_getElem_cons hlt2]; rfl
       have HST := Lib.hid hst
       generalize pq.params[k] = x at *
       generalize l[k] = y at *
       have hba : Below wr.heap.size wr (wr.alloc (.cells #[.string x.name, .int .i64 x.width, .int .i64 x.size] 50)) := (Below.refl _ wr).alloc (Nat.le_refl _) _
       have hB5 := World.alloc_heap_new wr (.cells #[.string x.name, .int .i64 x.width, .int .i64 x.size] 50)
       have hszr := HBR.out.size
       have hs5 : (wr.alloc (.cells #[.string x.name, .int .i64 x.width, .int .i64 x.size] 50)).heap.size = wr.heap.size + 1 := by simp
       have hk0 : (0 : Int) ≤ (k : Int) := by omega
       have hk1 : (k : Int) < (l.length : Int) := by omega
       have hk2 : (k : Int) < (pq.params.length : Int) := by omega
       have hk3 : decide (k < pq.params.length) = true := decide_eq_true hx
       clear hcell hce hst hx
       rw [eA, eE]
       clear eA eE
       go_upto_region 7 with fail
       generalize wr.alloc (.cells #[.string x.name, .int .i64 x.width, .int .i64 x.size] 50) = W5 at *
       have HC : Hid (∀ W, Below W5.heap.size W5 W → W.cell? ⟨be, oe + k * 6, none⟩ = some (.int .u8 y.kind) ∧ W.cell? ⟨be, oe + k * 6 + 1, none⟩ = some (.int .u8 y.op) ∧ W.cell? ⟨be, oe + k * 6 + 2, none⟩ = some (.int .u32 y.value) ∧ W.cell? ⟨be, oe + k * 6 + 3, none⟩ = some (.int .i64 y.width) ∧ W.cell? ⟨be, oe + k * 6 + 4, none⟩ = some (.string y.name) ∧ W.cell? ⟨be, oe + k * 6 + 5, none⟩ = some (.slice y.sp.at_ y.subs.length y.sp.cap) ∧ W.cell? ⟨wr.heap.size, 1, none⟩ = some (.int .i64 x.width)) := Lib.hid fun W hW => by
         have e := hba.trans (hW.mono hba.size)
         exact ⟨(e.cell (p := ⟨be, _, none⟩) (by dsimp only; omega)).trans (hce2 0 _ rfl), (e.cell (p := ⟨be, _, none⟩) (by dsimp only; omega)).trans (hce2 1 _ rfl), (e.cell (p := ⟨be, _, none⟩) (by dsimp only; omega)).trans (hce2 2 _ rfl), (e.cell (p := ⟨be, _, none⟩) (by dsimp only; omega)).trans (hce2 3 _ rfl), (e.cell (p := ⟨be, _, none⟩) (by dsimp only; omega)).trans (hce2 4 _ rfl), (e.cell (p := ⟨be, _, none⟩) (by dsimp only; omega)).trans (hce2 5 _ rfl), (three_cells ((hW.block _ (by omega)).trans hB5)).2.1⟩
       have HW : Hid (∀ W, Below W5.heap.size W5 W → Calls Tryz.prog 230 #[.pointer (some ⟨K.q, 0, none⟩), y.val] W fun o w' => o = .returned (.int .i64 (widthE K.p E y)) ∧ Below W.heap.size W w') := Lib.hid fun W hW => by
         have e : Below w.heap.size w W := HBR.out.trans ((hba.trans (hW.mono hba.size)).mono hszr)
         exact width_any hrx W (e.mono hm) (by have := e.size; omega) (HK.out.new e)
       simp only [ExprV.val, Sp.val] at HW
       have hb5 : Below w.heap.size w W5 := HBR.out.trans (hba.mono hszr)
       have HB5 := Lib.hid hb5
       obtain ⟨v0, v1, v2, v3, v4, v5, v6⟩ := HC.out W5.drew (Below.refl _ _).drew
       have hbd : Below W5.heap.size W5 W5.drew := (Below.refl _ _).drew
       have hsw : w.heap.size ≤ W5.heap.size := hb5.size
       clear hce2 hrx hba hB5 k0 k1 k2 hb5 hs5
       generalize widthE K.p E y = wy at *
       cases hdf : differW wy x.width
       all_goals
         rw [hdf] at HST
         have HDF := Lib.hid (fun W => (hdf ▸ differ_any wy x.width W : Calls Tryz.prog 229 #[.int .i64 wy, .int .i64 x.width] W fun o w' => o = .returned (.bool _) ∧ W = w'))
         clear hdf
         go_region_held3 (fun W => W.cell? ⟨be, oe + k * 6, none⟩ = some (.int .u8 y.kind) ∧ W.cell? ⟨be, oe + k * 6 + 1, none⟩ = some (.int .u8 y.op) ∧ W.cell? ⟨be, oe + k * 6 + 2, none⟩ = some (.int .u32 y.value) ∧ W.cell? ⟨be, oe + k * 6 + 3, none⟩ = some (.int .i64 y.width) ∧ W.cell? ⟨be, oe + k * 6 + 4, none⟩ = some (.string y.name) ∧ W.cell? ⟨be, oe + k * 6 + 5, none⟩ = some (.slice y.sp.at_ y.subs.length y.sp.cap) ∧ W.cell? ⟨wr.heap.size, 1, none⟩ = some (.int .i64 x.width) ∧ Below W5.heap.size W5 W) (simp [*])
           (first
             | (go_at_call 230; refine (HW.out _ (by assumption)).mono ?_; rintro o8 w8 ⟨rfl, hb8⟩; have hb9 := Below.trans (by assumption : Below W5.heap.size W5 _) (hb8.mono (Below.size (by assumption))); obtain ⟨z0, z1, z2, z3, z4, z5, z6⟩ := HC.out _ hb9)
             | (go_at_call 229; refine (HDF.out _).mono ?_; rintro o6 w6 ⟨rfl, rfl⟩)
             | fail)
       · go_wp2_with fail
         go_roundw
         case rel => first | exact ⟨k + 1, by omega, by go_num, HAR.out.trans (HST.out.trans (Bool.false_or _)), HB5.out.trans ((by assumption : Below W5.heap.size W5 _).mono hsw)⟩ | ((repeat apply Exists.intro); exact ⟨⟨k + 1, by omega, by go_num, HAR.out.trans (HST.out.trans (Bool.false_or _)), HB5.out.trans ((by assumption : Below W5.heap.size W5 _).mono hsw)⟩, rfl⟩)
         case measure => simp [intOf]; omega
       · go_wp2_with fail
         go_ret
         exact ⟨by rw [HAB.out, if_neg (by have := HNE.out; omega), HAR.out, HST.out]; simp, HB5.out.trans ((by assumption : Below W5.heap.size W5 _).mono hsw)⟩
     · obtain rfl : k = l.length := by omega
       have hfin : argsB K.p E i l = false := by
         rw [HAB.out, if_neg (by have := HNE.out; omega), HAR.out, List.drop_length, List.drop_eq_nil_of_le (by have := HNE.out; omega)]; rfl
       have hk3 : decide (l.length < pq.params.length) = false := decide_eq_false (by have := HNE.out; omega)
       have HFN := Lib.hid hfin
       clear hfin
       go_wp2_with fail
       go_ret
       exact ⟨by rw [HFN.out]; rfl, HBR.out⟩
 · have g1 : ((pq.params.length : Int) == (l.length : Int)) = false := by simp; omega
   have g2 : ((pq.params.length : Int) != (l.length : Int)) = true := by simp; omega
   have hfin : argsB K.p E i l = true := by rw [HAB.out, if_pos hne]
   rw [hfin]
   clear hne hfin
   go_enter Tryz.func276, Tryz.ntmps276
   go_wp2_with fail
   go_ret
   exact ⟨rfl, Below.refl _ _⟩
end Go.Proofs.YtepacjkacjabbaaGreatDoor
