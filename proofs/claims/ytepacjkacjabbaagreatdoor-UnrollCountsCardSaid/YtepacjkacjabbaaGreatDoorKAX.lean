import Derived.Test.YtepacjkacjabbaaGreatDoorKAW
import Derived.Deep.DeepCutAuto
import Derived.Test.YtepacjkacjabbaaGreatDoorKAK
import Derived.Deep.CutBlock
import Derived.Deep.CutRange
import Derived.Laws.Rows
namespace Go.Proofs.YtepacjkacjabbaaGreatDoor
open Go Go.RowKit Go.Maps
theorem procE_cases (p : ProgV) (l : List ByteArray) (q : ProcV) : procE p l q = if (hasN l q.name || !nameB p q.name.data.toList) = true then 321 else if decide (8 < q.params.length) = true then 327 else 0 := by
 unfold procE
 cases hasN l q.name <;> cases nameB p q.name.data.toList <;> simp
set_option maxRecDepth 1000000 in
set_option maxHeartbeats 8000000 in
theorem proc_any {K : CkE} {J Jx : List (Int × Int) → World → Prop} (hJ : OwnC 246 K.B J) (hJx : OwnC 246 K.B Jx) (hT : TellOk K J Jx) (hH : heftP K.p ≤ 20000) (hN : NamesOk K.p) (hn0 : 0 < K.n₀) {pm : Option Nat} {E : Env} {cs : List Int} (w : World) (hst : CkSt K J Jx pm E cs w) (hmx : MxAt w)
   (i : Nat) (hi : i < K.p.procs.length) (hlen : cs.length + (procC K.p [] i K.p.procs[i]).length ≤ 900000) {mb n : Nat} {l : List ByteArray} {f : ByteArray → Option Int} (hm : BefAt w mb n l f) :
   Calls Tryz.prog 231 #[.pointer (some ⟨K.q, 0, none⟩), .int .i64 i, .map (some mb)] w fun o w' => o = .returned (.tuple #[]) ∧ Entered K J Jx outside (cs ++ procC K.p l i K.p.procs[i]) w w' := by
 obtain ⟨over, hk, -⟩ := hst.ex
 have hn0w : K.n₀ ≤ w.heap.size := by have := hk.lt; have := hk.q; have := hk.n0; omega
 have hw0 : 0 < w.heap.size := by have := hk.lt; omega
 have hqw := hk.lt
 have hq := hk.prog.procs _ (List.getElem_mem hi)
 obtain ⟨b, off, eA, hbn, hcell⟩ := hk.prog.prow.row (by omega)
 have k0 : w.cell? ⟨b, off + i * 3, none⟩ = some (.string K.p.procs[i].name) := hcell i hi 0 _ rfl
 have k1 : w.cell? ⟨b, off + i * 3 + 1, none⟩ = some (.slice K.p.procs[i].ps.at_ K.p.procs[i].params.length K.p.procs[i].ps.cap) := hcell i hi 1 _ rfl
 have k2 : w.cell? ⟨b, off + i * 3 + 2, none⟩ = some (.slice K.p.procs[i].bs.at_ K.p.procs[i].body.length K.p.procs[i].bs.cap) := hcell i hi 2 _ rfl
 have c13 := hk.c13
 rw [eA] at c13
 have hi0 : (0 : Int) ≤ (i : Int) := by omega
 have hi1 : (i : Int) < (K.p.procs.length : Int) := by omega
 obtain ⟨hnq, hnd⟩ := hN.procs _ (List.getElem_mem hi)
 have hin : inside K.p i = inside K.p i := rfl
 have hpc : procC K.p l i K.p.procs[i] = procE K.p l K.p.procs[i] :: (declsC K.p false K.p.procs[i].params (thingNames K.p) ++ stmtsC K.p (inside K.p i) K.p.procs[i].body 1) := rfl
 have hpl : (procC K.p [] i K.p.procs[i]).length = 1 + (K.p.procs[i].params.length + (stmtsC K.p (inside K.p i) K.p.procs[i].body 1).length) := by
   show (_ :: (_ ++ _)).length = _
   rw [List.length_cons, List.length_append, declsC_len]
   omega
 have hpr := heft_procs hH
 have HPC := Lib.hid hpc
 have HQ := Lib.hid hq
 have HEI : Hid (Calls Tryz.prog 262 #[.pointer (some ⟨K.q, 0, none⟩), .int .i64 i] w fun _ _ => True) := Lib.hid ((enter_any hJ hJx w hst i hi).mono fun _ _ _ => trivial)
 have HENT := fun (pm' : Option Nat) (E' : Env) (cs' : List Int) (X : World) (h : CkSt K J Jx pm' E' cs' X) => enter_any hJ hJx X h i hi
 have HENT2 := Lib.hid HENT
 rw [hpl] at hlen
 rw [hpc]
 generalize K.p.procs[i] = x at *
 have hpf := HQ.out.params.row.few
 have hb1 : Below w.heap.size w (w.alloc (.cells #[.string x.name, .slice x.ps.at_ x.params.length x.ps.cap, .slice x.bs.at_ x.body.length x.bs.cap] 54)) := (Below.refl _ _).alloc (Nat.le_refl _) _
 have hB1 := World.alloc_heap_new w (.cells #[.string x.name, .slice x.ps.at_ x.params.length x.ps.cap, .slice x.bs.at_ x.body.length x.bs.cap] 54)
 have hNM := name_check _ (hk.new hb1) x.name hnq (hmx.below hb1 hw0)
 have hmb := hm.new hb1
 have hlk := hmb.look (s := x.name) (by unfold maxLen; omega)
 have hpe := procE_cases K.p l x
 obtain ⟨pe, hpe0⟩ : ∃ pe, procE K.p l x = pe := ⟨_, rfl⟩
 rw [hpe0] at hpe ⊢
 have HPE := Lib.hid hpe
 have HST := Lib.hid hst
 have HMX := Lib.hid hmx
 have HLEN := Lib.hid hlen
 have HND := Lib.hid hnd
 clear hpe hpe0 hst hk hm hmb hmx hcell hq hpc hpl hlen HENT HEI hin HPC hnd
 go_enter Tryz.func231, Tryz.ntmps231
 go_upto_region 1 with fail
 have HB1 := Lib.hid hB1
 have HBW1 := Lib.hid hb1
 have HNM := Lib.hid hNM
 clear hNM hb1 hB1
 generalize w.alloc (.cells #[.string x.name, .slice x.ps.at_ x.params.length x.ps.cap, .slice x.bs.at_ x.body.length x.bs.cap] 54) = W1 at *
 obtain ⟨c0, c1, c2⟩ := three_cells HB1.out
 clear k0 k1 k2 c13
 generalize hnn : nameB K.p x.name.data.toList = nn at *
 generalize hha : hasN l x.name = ha at *
 clear hnn hha
 have HTELL : Hid (∀ (c : Int) (X : World), Below W1.heap.size W1 X → Calls Tryz.prog 228 #[.pointer (some ⟨K.q, 0, none⟩), .int .i64 c] X fun o w' => o = .returned (.tuple #[]) ∧ Told K J Jx pm E (cs ++ [c]) w w' ∧ w'.heap[w.heap.size]? = some (.cells #[.string x.name, .slice x.ps.at_ x.params.length x.ps.cap, .slice x.bs.at_ x.body.length x.bs.cap] 54 (0, 0))) := Lib.hid fun c X hX => by
   have hbx : Below w.heap.size w X := HBW1.out.trans (hX.mono HBW1.out.size)
   have hx1 : X.heap[w.heap.size]? = some (.cells #[.string x.name, .slice x.ps.at_ x.params.length x.ps.cap, .slice x.bs.at_ x.body.length x.bs.cap] 54 (0, 0)) := (hX.block _ (Array.getElem?_eq_some_iff.1 HB1.out).1).trans HB1.out
   refine (hT pm E cs X c (HST.out.new hJ hJx hbx) (by have := HLEN.out; omega)).mono ?_
   rintro o w' ⟨rfl, ht⟩
   obtain ⟨over2, hk2, -⟩ := HST.out.ex
   exact ⟨rfl, ht.after (.of_below hbx hn0w), ht.keeps.cells _ _ _ _ hx1 rfl (by have := hk2.lt; omega)⟩
 go_upto_block 0 with fail
 go_cut [] (fun wx => Told K J Jx pm E (cs ++ [pe]) w wx ∧ wx.heap[w.heap.size]? = some (.cells #[.string x.name, .slice x.ps.at_ x.params.length x.ps.cap, .slice x.bs.at_ x.body.length x.bs.cap] 54 (0, 0)))
 case first =>
   cases ha with
   | true =>
     have hres : pe = 321 := by rw [HPE.out]; rfl
     have HRES := Lib.hid hres
     clear hres HNM
     go_wp2_with (first | (go_at_call 228; refine (HTELL.out _ _ (Below.refl _ _)).mono ?_; rintro o9 w9 ⟨rfl, ht9, hx9⟩; have HT9 := Lib.hid ht9; have HX9 := Lib.hid hx9; clear ht9 hx9) | fail)
     go_meet
     case rel => exact ⟨by rw [HRES.out]; exact HT9.out, HX9.out⟩
   | false =>
     cases nn with
     | false =>
       have hres : pe = 321 := by rw [HPE.out]; rfl
       have HRES := Lib.hid hres
       clear hres
       go_wp2_with (first | (go_at_call 255; refine HNM.out.mono ?_; rintro o8 w8 ⟨rfl, hb8⟩; have HB8 := Lib.hid hb8; clear hb8) | (go_at_call 228; refine (HTELL.out _ _ HB8.out).mono ?_; rintro o9 w9 ⟨rfl, ht9, hx9⟩; have HT9 := Lib.hid ht9; have HX9 := Lib.hid hx9; clear ht9 hx9) | fail)
       go_meet
       case rel => exact ⟨by rw [HRES.out]; exact HT9.out, HX9.out⟩
     | true =>
       go_upto_region 5 with (first | (go_at_call 255; refine HNM.out.mono ?_; rintro o8 w8 ⟨rfl, hb8⟩; have HB8 := Lib.hid hb8; clear hb8) | fail)
       clear c0 c1 c2 hlk
       obtain ⟨c0, c1, c2⟩ := three_cells ((HB8.out.block _ (Array.getElem?_eq_some_iff.1 HB1.out).1).trans HB1.out)
       by_cases h8 : 8 < x.params.length
       · have e8 : decide (8 < x.params.length) = true := decide_eq_true h8
         have f8 : decide ((8 : Int) < (x.params.length : Int)) = true := decide_eq_true (by omega)
         have hres : pe = 327 := by rw [HPE.out, e8]; rfl
         have HRES := Lib.hid hres
         clear hres h8
         go_wp2_with (first | (go_at_call 228; refine (HTELL.out _ _ HB8.out).mono ?_; rintro o9 w9 ⟨rfl, ht9, hx9⟩; have HT9 := Lib.hid ht9; have HX9 := Lib.hid hx9; clear ht9 hx9) | fail)
         go_meet
         case rel => exact ⟨by rw [HRES.out]; exact HT9.out, HX9.out⟩
       · have e8 : decide (8 < x.params.length) = false := decide_eq_false h8
         have f8 : decide ((8 : Int) < (x.params.length : Int)) = false := decide_eq_false (by omega)
         have hres : pe = 0 := by rw [HPE.out, e8]; rfl
         have HRES := Lib.hid hres
         clear hres h8
         go_wp2_with (first | (go_at_call 228; refine (HTELL.out _ _ HB8.out).mono ?_; rintro o9 w9 ⟨rfl, ht9, hx9⟩; have HT9 := Lib.hid ht9; have HX9 := Lib.hid hx9; clear ht9 hx9) | fail)
         go_meet
         case rel => exact ⟨by rw [HRES.out]; exact HT9.out, HX9.out⟩
 case rest =>
   obtain ⟨ht, hx⟩ := hcut
   clear HNM HTELL HPE hlk c0 c1 c2 HB1 HBW1
   have HT := Lib.hid ht
   have HX := Lib.hid hx
   obtain ⟨hmt, hmp, hpm⟩ := ht.st.maps
   obtain ⟨over2, hk2, -⟩ := ht.st.ex
   have hsz := ht.keeps.size
   have hmm := @run_makeMap Tryz.prog
   have hb2 : Below wc.heap.size wc (wc.alloc (.map #[] 0)) := (Below.refl _ _).alloc (Nat.le_refl _) _
   have hk3 := hk2.new hb2
   have c22 := hk3.c22
   obtain ⟨nT, hmT⟩ := hk3.things
   obtain ⟨D, hoD, hD⟩ := hmT.ex
   have hbef := BefAt.made wc
   have hso : OwnSt K nT D (Maps.has D) [] := ⟨List.nodup_nil, fun s h => absurd h (by simp), fun s h => absurd h (by simp), fun s hs hsz => .inr (by
     have h1 := (hD (skey s) (by trivial)).1
     rw [h1, onStr_skey, look_has]
     exact (hasN_mem _ _).2 hs), fun _ h => h⟩
   have HD := Lib.hid hD
   have HB2 := Lib.hid hb2
   have HBEF := Lib.hid hbef
   have HSO := Lib.hid hso
   have HPM := Lib.hid hpm
   have hbq := hk2.q
   have hlq := hk2.lt
   have hmtB := hk2.mt
   have hmpB := hk2.mp
   clear ht hx hk2 hk3 hb2 hmT hD hbef hso hpm
   have hs2 : (wc.alloc (.map #[] 0)).heap.size = wc.heap.size + 1 := by simp
   go_wp2_with (first | (at_range; refine wpList_range_own _ rfl _ 244 rfl 9 264 lawS Tryz.underlying244 thC.read K.mt nT D rfl hoD ?_; intro w0 hrg0 hg0 hs0) | fail)
   go_frame
   have hb0 : Below wc.heap.size wc w0 := HB2.out.trans ⟨hg0.os, hg0.tape, hg0.output, hg0.size, fun k hk => hg0.block k (by omega) (by simp)⟩
   have hbef0 : BefAt w0 wc.heap.size 0 [] (fun _ => none) := HBEF.out.of_block (hg0.block wc.heap.size (by omega) (by simp))
   have HBEF0 := Lib.hid hbef0
   have HB0 := Lib.hid hb0
   rw [hs2] at hrg0 hs0
   have hS2 := Lib.hid hs2
   clear hg0 hoD c22 hbef0 hb0 HBEF hs2
   rw [hS2.out]
   go_loopw [10] (fun _ wr => ∃ (zs : List ByteArray) (f' : ByteArray → Option Int) (left : Lit → Bool) (cnt : Nat), wr.ranges Tryz.prog 9 thC.read K.mt (wc.heap.size + 1) nT D left cnt ∧ BefAt wr wc.heap.size zs.length zs f' ∧ Hid (OwnSt K nT D left zs) ∧ Below wc.heap.size wc wr) (fun _ wr => wr.rangeLeft K.mt (wc.heap.size + 1))
   case atStart => exact ⟨[], _, _, _, hrg0, HBEF0.out, HSO, HB0.out⟩
   case round =>
     obtain ⟨zs, f', left, cnt, hrg, hbf, HOS, hbw⟩ := hrel
     have HBF := Lib.hid hbf
     have HBW := Lib.hid hbw
     clear hbf hbw hrg0
     go_wp2_with (first | (at_next; refine wpList_next_ranges _ rfl _ rfl 9 lawS thC.read Value.string Thing.val (fun key kl hkey => by obtain ⟨s, rfl, _⟩ := Go.WideMaps.string_of_keyOf Tryz.underlying9 hkey; exact ⟨s, rfl⟩) (fun v y hv => by obtain ⟨c, rfl, _⟩ := thC.inv v y hv; exact ⟨c, rfl⟩) K.mt (wc.heap.size + 1) nT D left cnt rfl hrg ?_ ?_) | fail)
     · intro hc0 hl0
       have hzl := nodup_le zs _ HOS.out.nodup HOS.out.sub
       have hbf2 := HBF.out.names (l' := thingNames K.p) hzl (fun s hs => by
         rw [HBF.out.has] at hs
         exact (hasN_mem _ _).2 (HOS.out.sub s ((hasN_mem _ _).1 hs))) (fun s hs => by
         have hs2 := (hasN_mem _ _).1 hs
         rcases HOS.out.rest s hs2 (thing_names hN s hs2) with h | h
         · exact (hasN_mem _ _).2 h
         · rw [hl0] at h; cases h)
       have HBF2 := Lib.hid hbf2
       have hnl := thing_names_len K.p
       have hhp : (thingNames K.p).length ≤ 20000 := by rw [hnl]; unfold heftP at hH; omega
       obtain ⟨wq, hwq⟩ : ∃ wq, wq = wr := ⟨_, rfl⟩
       subst hwq
       have hbx := (HBW.out.block w.heap.size (Nat.lt_of_lt_of_le (Array.getElem?_eq_some_iff.1 HX.out).1 (Nat.le_refl _))).trans HX.out
       obtain ⟨c0, c1, c2⟩ := three_cells hbx
       have HBX := Lib.hid hbx
       have hszq := HBW.out.size
       have hT0 : Told K J Jx pm E (cs ++ [pe]) w wq := ⟨HT.out.st.new hJ hJx HBW.out, HT.out.keeps.trans (.of_below HBW.out (by omega))⟩
       have HT0 := Lib.hid hT0
       clear hbf2 hrg hbx HBF HOS hzl hl0 hT0 hnl
       go_wp2_with fail
       go_loopw [65] (fun v wx => ∃ (k : Nat) (f2 : ByteArray → Option Int), k ≤ x.params.length ∧ v = .int .i64 k ∧ Told K J Jx pm E ((cs ++ [pe]) ++ declsC K.p false (x.params.take k) (thingNames K.p)) w wx ∧ BefAt wx wc.heap.size ((thingNames K.p).length + k) (thingNames K.p ++ (x.params.take k).map DeclV.name) f2 ∧ wx.heap[w.heap.size]? = some (.cells #[.string x.name, .slice x.ps.at_ x.params.length x.ps.cap, .slice x.bs.at_ x.body.length x.bs.cap] 54 (0, 0))) (fun v _ => x.params.length - (intOf v).toNat)
       case atStart => exact ⟨0, f', Nat.zero_le _, rfl, by simpa [declsC] using HT0.out, by simpa using HBF2.out, HBX.out⟩
       case round =>
         obtain ⟨k, f2, hk, rfl, htk, hbk, hbxk⟩ := hrel
         have HTK := Lib.hid htk
         have HBK := Lib.hid hbk
         have HBXK := Lib.hid hbxk
         clear htk hbk hbxk c0 c1 c2
         by_cases hlt2 : k < x.params.length
         · obtain ⟨b2, off2, eA2, hbn2, hcell⟩ := (HQ.out.params.row.below HTK.out.keeps.low).row (by omega)
           have hmem := List.getElem_mem hlt2
           have hok := HQ.out.params.ok _ hmem
           have hdn := HND.out _ hmem
           have k0 : wr.cell? ⟨b2, off2 + k * 3, none⟩ = some (.string x.params[k].name) := hcell k hlt2 0 _ rfl
           have k1 : wr.cell? ⟨b2, off2 + k * 3 + 1, none⟩ = some (.int .i64 x.params[k].width) := hcell k hlt2 1 _ rfl
           have k2 : wr.cell? ⟨b2, off2 + k * 3 + 2, none⟩ = some (.int .i64 x.params[k].size) := hcell k hlt2 2 _ rfl
           have hts : x.params.take (k + 1) = x.params.take k ++ [x.params[k]] := List.take_succ_eq_append_getElem hlt2
           have HTS := Lib.hid hts
           generalize x.params[k] = d at *
           have hsw := HTK.out.keeps.size
           have hba : Below wr.heap.size wr (wr.alloc (.cells #[.string d.name, .int .i64 d.width, .int .i64 d.size] 50)) := (Below.refl _ wr).alloc (Nat.le_refl _) _
           have hB5 := World.alloc_heap_new wr (.cells #[.string d.name, .int .i64 d.width, .int .i64 d.size] 50)
           have hlt3 : (declsC K.p false (x.params.take k) (thingNames K.p)).length ≤ x.params.length := by rw [declsC_len]; exact List.length_take_le' _ _
           have hl0 := HLEN.out
           have hDC := decl_any hJ hJx hT _ (HTK.out.st.new hJ hJx hba) (by simp only [List.length_append, List.length_cons, List.length_nil]; omega) (HMX.out.below (HTK.out.keeps.low.trans (hba.mono (by omega))) hn0) (HBK.out.new hba) d hok hdn false
           simp only [DeclV.val] at hDC
           have HDC := Lib.hid hDC
           have HBA := Lib.hid hba
           have HB5 := Lib.hid hB5
           have hj0 : (0 : Int) ≤ (k : Int) := by omega
           have hj1 : (k : Int) < (x.params.length : Int) := by omega
           clear hcell hts hDC hba hB5 hmem
           rw [eA2]
           have HEA2 := Lib.hid eA2
           clear eA2
           go_upto_region 16 with (first | (go_at_call 224; refine HDC.out.mono ?_; rintro o6 w6 ⟨rfl, ht6⟩; have HT6 := Lib.hid ht6; clear ht6) | fail)
           clear k0 k1 k2
           have hmlt := HBK.out.map.lt
           have hB6 := HT6.out.keeps.cells _ _ _ _ HB5.out rfl (by omega)
           obtain ⟨c0, c1, c2⟩ := three_cells hB6
           have hbk6 := (HBK.out.new HBA.out).keeps HT6.out.keeps (by omega)
           have hl1 := hbk6.look1 (s := d.name) (by unfold maxLen; omega)
           obtain ⟨hcb0, hcb1⟩ := hbk6.bound d.name
           obtain ⟨w8, hrun, hbk8, hturn⟩ := hbk6.store (s := d.name) (by unfold maxLen; omega) (by omega)
           have hst8 := HT6.out.st.turned hJ hJx hturn (by omega) (by omega) (by omega) (fun e => by have := HPM.out _ e; omega)
           have hkp8 : KeepsQ K w w8 := ((HTK.out.keeps.trans (.of_below HBA.out (by omega))).trans HT6.out.keeps).turned hturn (by omega) hn0w
           have hxlt := (Array.getElem?_eq_some_iff.1 HX.out).1
           have hbx8 : w8.heap[w.heap.size]? = _ := (hturn.grown.block _ (by have := (Array.getElem?_eq_some_iff.1 HBXK.out).1; have := HBA.out.size; have := HT6.out.keeps.size; omega) (by intro e; have := Option.some.inj e; have := (Array.getElem?_eq_some_iff.1 HX.out).1; omega)).trans (HT6.out.keeps.cells _ _ _ _ ((HBA.out.block _ (Array.getElem?_eq_some_iff.1 HBXK.out).1).trans HBXK.out) rfl (by omega))
           generalize (f2 d.name).getD 0 = c at *
           have HST8 := Lib.hid hst8
           have HKP8 := Lib.hid hkp8
           have HBX8 := Lib.hid hbx8
           have HBK8 := Lib.hid hbk8
           clear hbk6 hbk8 hturn hst8 hkp8 hbx8 hB6
           go_wp2_with (refine wpList_mapRun rfl _ _ _ 119 rfl rfl rfl rfl hrun ?_)
           go_roundw
           case rel => exact ⟨k + 1, _, by omega, by go_num, by
             rw [HTS.out, declsC_snoc, ← List.append_assoc]
             exact ⟨HST8.out, HKP8.out⟩, by
             rw [HTS.out, List.map_append, ← List.append_assoc]
             exact HBK8.out, by have h := HBX8.out; rw [HEA2.out] at h; exact h⟩
           case measure => simp [intOf]; omega
         · obtain rfl : k = x.params.length := by omega
           rw [List.take_length] at HTK
           obtain ⟨c0, c1, c2⟩ := three_cells HBXK.out
           have HEN := Lib.hid (HENT2.out _ _ _ wr HTK.out.st)
           have HSB : Hid (∀ (pm' : Option Nat) (X : World), Below K.n₀ w X → CkSt K J Jx pm' (inside K.p i) ((cs ++ [pe]) ++ declsC K.p false x.params (thingNames K.p)) X → Calls Tryz.prog 232 #[.pointer (some ⟨K.q, 0, none⟩), x.bs.val x.body.length, .int .i64 1] X fun o w' => o = .returned (.tuple #[]) ∧ Told K J Jx pm' (inside K.p i) (((cs ++ [pe]) ++ declsC K.p false x.params (thingNames K.p)) ++ stmtsC K.p (inside K.p i) x.body 1) X w') := Lib.hid fun pm' X hX hs => by
             have hl0 := HLEN.out
             have hl2 : (declsC K.p false x.params (thingNames K.p)).length = x.params.length := declsC_len _ _ _ _
             have := stmtsC_any hJ hJx hT hH (pm := pm') (E := inside K.p i) (by show (i : Int) ≤ 1000000000; omega) HQ.out.body _ 1 X hX hs (by simp only [List.length_append, List.length_cons, List.length_nil]; omega) (by omega)
             simpa using this
           simp only [Sp.val] at HSB
           clear HBK
           go_wp2_with fail
           refine HEN.out.mono ?_
           rintro o w5 ⟨rfl, hen5⟩
           obtain ⟨pm5, hst5, -⟩ := hen5.st
           have hlow5 := HTK.out.keeps.low.trans hen5.keeps.low
           have hbx5 := hen5.keeps.cells _ _ _ _ HBXK.out rfl (by omega)
           clear c0 c1 c2
           obtain ⟨c0, c1, c2⟩ := three_cells hbx5
           have HS5 := Lib.hid (HSB.out pm5 w5 hlow5 hst5)
           have HE5 := Lib.hid hen5
           clear hst5 hlow5 hbx5 hen5
           go_wp2_with fail
           refine HS5.out.mono ?_
           rintro o w6 ⟨rfl, ht6⟩
           have HL6 := Lib.hid (leave_any hJ hJx w6 ht6.st)
           have HT6 := Lib.hid ht6
           clear ht6 c0 c1 c2
           go_wp2_with fail
           refine HL6.out.mono ?_
           rintro o w7 ⟨rfl, he7⟩
           have HE7 := Lib.hid he7
           clear he7
           go_wp2_with fail
           go_returns
           refine ⟨rfl, ⟨?_, ((HTK.out.keeps.trans HE5.out.keeps).trans HT6.out.keeps).trans HE7.out.keeps⟩⟩
           obtain ⟨pm7, h9, h10⟩ := HE7.out.st
           have hz1 := HTK.out.keeps.size
           have hz2 := HE5.out.keeps.size
           have hz3 := HT6.out.keeps.size
           exact ⟨pm7, by simpa using h9, fun m e => by have := h10 m e; omega⟩
     · intro s th kl y1 y2 w1 cnt1 hkey hlx hR hat hrg1 hlt hg1 hs1 hen
       obtain ⟨s', e1, rfl, hss⟩ := Go.WideMaps.string_of_keyOf Tryz.underlying9 hkey
       cases e1
       have hmemT : s ∈ thingNames K.p := by
         have h1 := HOS.out.key _ hlx
         have h2 := (HD.out (skey s) (by trivial)).1
         rw [onStr_skey, look_has] at h2
         exact (hasN_mem _ _).1 (h2.symm.trans h1)
       have hzl := nodup_le zs _ HOS.out.nodup HOS.out.sub
       have hnl := thing_names_len K.p
       have hhp : (thingNames K.p).length ≤ 20000 := by rw [hnl]; unfold heftP at hH; omega
       have hbf1 := HBF.out.of_block (W' := w1) (hg1.block _ (by have := HBW.out.size; have := HBF.out.map.lt; omega) (by intro e; have := Option.some.inj e; omega))
       have hl1 := hbf1.look1 hss
       obtain ⟨hcb0, hcb1⟩ := hbf1.bound s
       obtain ⟨w8, hrun, hbk8, hturn⟩ := hbf1.store hss (by omega)
       have hos8 := HOS.out.step hlx hmemT
       have hb8 : Below wc.heap.size wc w8 := (HBW.out.grown hg1 HBW.out.size (fun q hq => by cases hq; omega)).grown hturn.grown (by have := HBW.out.size; omega) (fun q hq => by cases hq; omega)
       have hrg8 := hrg1.kept hturn.grown (by intro e; have := Option.some.inj e; omega) (by intro e; have := Option.some.inj e; omega)
       have hcb2 : (f' s).getD 0 ≤ 20000 := by omega
       generalize (f' s).getD 0 = c at *
       have hle8 : zs.length + 1 = (zs ++ [s]).length := by simp
       rw [hle8] at hbk8
       clear hle8
       have HOS8 := Lib.hid hos8
       have HB8 := Lib.hid hb8
       have HBK8 := Lib.hid hbk8
       have HRG8 := Lib.hid hrg8
       have HLT := Lib.hid hlt
       have HLE := Lib.hid hrg.left_eq
       clear hkey hlx hR hat hmemT hzl hnl hbf1 hos8 hb8 hrg8 hbk8 hturn hrg1 hrg hlt hg1 hs1
       go_wp2_with (refine wpList_mapRun rfl _ _ _ 119 rfl rfl rfl rfl hrun ?_)
       go_roundw
       case rel =>
         repeat apply Exists.intro
         exact ⟨⟨zs ++ [s], _, _, cnt1, HRG8.out, HBK8.out, HOS8, HB8.out⟩, rfl⟩
       case measure => rw [HRG8.out.left_eq, HLE.out]; exact HLT.out
end Go.Proofs.YtepacjkacjabbaaGreatDoor
namespace Go.Proofs.YtepacjkacjabbaaGreatDoor
open Go Go.RowKit
set_option maxRecDepth 1000000 in
set_option maxHeartbeats 2000000 in
theorem lightP_any (w : World) (p : ProgV) (h : RdP w.heap.size w p) (hwt : weightP p ≤ 1125899906842624) :
   Calls Tryz.prog 112 #[p.val] w fun o w' => o = .returned (.bool (decide (countP p ≤ 20000))) ∧ Below w.heap.size w w' := by
 have hb := (Below.refl _ w).alloc (Nat.le_refl _) (.cells #[.int .i64 p.blocks, .int .i64 p.width, .slice p.is.at_ p.inputs.length p.is.cap, .slice p.gs.at_ p.ghosts.length p.gs.cap, .slice p.vs.at_ p.vars.length p.vs.cap, .slice p.as.at_ p.arrays.length p.as.cap, .int .u8 p.require.kind, .int .u8 p.require.op, .int .u32 p.require.value, .int .i64 p.require.width, .string p.require.name, .slice p.require.sp.at_ p.require.subs.length p.require.sp.cap, .slice p.ns.at_ p.inits.length p.ns.cap, .slice p.rs.at_ p.procs.length p.rs.cap, .slice p.ws.at_ p.work.length p.ws.cap, .slice p.cs.at_ p.recover.length p.cs.cap, .int .u8 p.invariant.kind, .int .u8 p.invariant.op, .int .u32 p.invariant.value, .int .i64 p.invariant.width, .string p.invariant.name, .slice p.invariant.sp.at_ p.invariant.subs.length p.invariant.sp.cap] 35)
 have hC := count_any (w.alloc (.cells #[.int .i64 p.blocks, .int .i64 p.width, .slice p.is.at_ p.inputs.length p.is.cap, .slice p.gs.at_ p.ghosts.length p.gs.cap, .slice p.vs.at_ p.vars.length p.vs.cap, .slice p.as.at_ p.arrays.length p.as.cap, .int .u8 p.require.kind, .int .u8 p.require.op, .int .u32 p.require.value, .int .i64 p.require.width, .string p.require.name, .slice p.require.sp.at_ p.require.subs.length p.require.sp.cap, .slice p.ns.at_ p.inits.length p.ns.cap, .slice p.rs.at_ p.procs.length p.rs.cap, .slice p.ws.at_ p.work.length p.ws.cap, .slice p.cs.at_ p.recover.length p.cs.cap, .int .u8 p.invariant.kind, .int .u8 p.invariant.op, .int .u32 p.invariant.value, .int .i64 p.invariant.width, .string p.invariant.name, .slice p.invariant.sp.at_ p.invariant.subs.length p.invariant.sp.cap] 35)) p ((h.below hb).more hb.size) hwt
 simp only [ProgV.val, Sp.val] at hC ⊢
 have HC := Lib.hid hC
 have HB := Lib.hid hb
 have hbox : BoxP (w.alloc (.cells #[.int .i64 p.blocks, .int .i64 p.width, .slice p.is.at_ p.inputs.length p.is.cap, .slice p.gs.at_ p.ghosts.length p.gs.cap, .slice p.vs.at_ p.vars.length p.vs.cap, .slice p.as.at_ p.arrays.length p.as.cap, .int .u8 p.require.kind, .int .u8 p.require.op, .int .u32 p.require.value, .int .i64 p.require.width, .string p.require.name, .slice p.require.sp.at_ p.require.subs.length p.require.sp.cap, .slice p.ns.at_ p.inits.length p.ns.cap, .slice p.rs.at_ p.procs.length p.rs.cap, .slice p.ws.at_ p.work.length p.ws.cap, .slice p.cs.at_ p.recover.length p.cs.cap, .int .u8 p.invariant.kind, .int .u8 p.invariant.op, .int .u32 p.invariant.value, .int .i64 p.invariant.width, .string p.invariant.name, .slice p.invariant.sp.at_ p.invariant.subs.length p.invariant.sp.cap] 35)) w.heap.size p := ⟨World.alloc_heap_new _ _⟩
 have HBX := Lib.hid hbox
 clear hC hb h hwt hbox
 go_enter Tryz.func112, Tryz.ntmps112
 go_upto_region 1 with (fail)
 generalize w.alloc (.cells #[.int .i64 p.blocks, .int .i64 p.width, .slice p.is.at_ p.inputs.length p.is.cap, .slice p.gs.at_ p.ghosts.length p.gs.cap, .slice p.vs.at_ p.vars.length p.vs.cap, .slice p.as.at_ p.arrays.length p.as.cap, .int .u8 p.require.kind, .int .u8 p.require.op, .int .u32 p.require.value, .int .i64 p.require.width, .string p.require.name, .slice p.require.sp.at_ p.require.subs.length p.require.sp.cap, .slice p.ns.at_ p.inits.length p.ns.cap, .slice p.rs.at_ p.procs.length p.rs.cap, .slice p.ws.at_ p.work.length p.ws.cap, .slice p.cs.at_ p.recover.length p.cs.cap, .int .u8 p.invariant.kind, .int .u8 p.invariant.op, .int .u32 p.invariant.value, .int .i64 p.invariant.width, .string p.invariant.name, .slice p.invariant.sp.at_ p.invariant.subs.length p.invariant.sp.cap] 35) = wB at *
 go_wp2_with (refine wpList_load_row rfl 35 _ rfl w.heap.size rfl 35 _ (0, 0) _ HBX.out.heap Tryz.underlying35 rfl (by kernel_rfl) ?_)
 refine HC.out.mono ?_
 rintro o w1 ⟨rfl, hb1⟩
 go_wp2_with fail
 refine (light_any _ _).mono ?_
 rintro o w2 ⟨rfl, rfl⟩
 go_wp2_with fail
 go_ret
 exact ⟨rfl, HB.out.trans (hb1.mono HB.out.size)⟩
set_option maxRecDepth 1000000 in
set_option maxHeartbeats 2000000 in
theorem sizeP_any (w : World) (p : ProgV) (h : RdP w.heap.size w p) (hwt : weightP p ≤ 1125899906842624) :
   Calls Tryz.prog 53 #[p.val] w fun o w' => o = .returned (.int .i64 (sizedN (countP p))) ∧ Below w.heap.size w w' := by
 have hb := (Below.refl _ w).alloc (Nat.le_refl _) (.cells #[.int .i64 p.blocks, .int .i64 p.width, .slice p.is.at_ p.inputs.length p.is.cap, .slice p.gs.at_ p.ghosts.length p.gs.cap, .slice p.vs.at_ p.vars.length p.vs.cap, .slice p.as.at_ p.arrays.length p.as.cap, .int .u8 p.require.kind, .int .u8 p.require.op, .int .u32 p.require.value, .int .i64 p.require.width, .string p.require.name, .slice p.require.sp.at_ p.require.subs.length p.require.sp.cap, .slice p.ns.at_ p.inits.length p.ns.cap, .slice p.rs.at_ p.procs.length p.rs.cap, .slice p.ws.at_ p.work.length p.ws.cap, .slice p.cs.at_ p.recover.length p.cs.cap, .int .u8 p.invariant.kind, .int .u8 p.invariant.op, .int .u32 p.invariant.value, .int .i64 p.invariant.width, .string p.invariant.name, .slice p.invariant.sp.at_ p.invariant.subs.length p.invariant.sp.cap] 35)
 have hC := count_any (w.alloc (.cells #[.int .i64 p.blocks, .int .i64 p.width, .slice p.is.at_ p.inputs.length p.is.cap, .slice p.gs.at_ p.ghosts.length p.gs.cap, .slice p.vs.at_ p.vars.length p.vs.cap, .slice p.as.at_ p.arrays.length p.as.cap, .int .u8 p.require.kind, .int .u8 p.require.op, .int .u32 p.require.value, .int .i64 p.require.width, .string p.require.name, .slice p.require.sp.at_ p.require.subs.length p.require.sp.cap, .slice p.ns.at_ p.inits.length p.ns.cap, .slice p.rs.at_ p.procs.length p.rs.cap, .slice p.ws.at_ p.work.length p.ws.cap, .slice p.cs.at_ p.recover.length p.cs.cap, .int .u8 p.invariant.kind, .int .u8 p.invariant.op, .int .u32 p.invariant.value, .int .i64 p.invariant.width, .string p.invariant.name, .slice p.invariant.sp.at_ p.invariant.subs.length p.invariant.sp.cap] 35)) p ((h.below hb).more hb.size) hwt
 simp only [ProgV.val, Sp.val] at hC ⊢
 have HC := Lib.hid hC
 have HB := Lib.hid hb
 have hbox : BoxP (w.alloc (.cells #[.int .i64 p.blocks, .int .i64 p.width, .slice p.is.at_ p.inputs.length p.is.cap, .slice p.gs.at_ p.ghosts.length p.gs.cap, .slice p.vs.at_ p.vars.length p.vs.cap, .slice p.as.at_ p.arrays.length p.as.cap, .int .u8 p.require.kind, .int .u8 p.require.op, .int .u32 p.require.value, .int .i64 p.require.width, .string p.require.name, .slice p.require.sp.at_ p.require.subs.length p.require.sp.cap, .slice p.ns.at_ p.inits.length p.ns.cap, .slice p.rs.at_ p.procs.length p.rs.cap, .slice p.ws.at_ p.work.length p.ws.cap, .slice p.cs.at_ p.recover.length p.cs.cap, .int .u8 p.invariant.kind, .int .u8 p.invariant.op, .int .u32 p.invariant.value, .int .i64 p.invariant.width, .string p.invariant.name, .slice p.invariant.sp.at_ p.invariant.subs.length p.invariant.sp.cap] 35)) w.heap.size p := ⟨World.alloc_heap_new _ _⟩
 have HBX := Lib.hid hbox
 clear hC hb h hwt hbox
 go_enter Tryz.func53, Tryz.ntmps53
 go_upto_region 1 with (fail)
 generalize w.alloc (.cells #[.int .i64 p.blocks, .int .i64 p.width, .slice p.is.at_ p.inputs.length p.is.cap, .slice p.gs.at_ p.ghosts.length p.gs.cap, .slice p.vs.at_ p.vars.length p.vs.cap, .slice p.as.at_ p.arrays.length p.as.cap, .int .u8 p.require.kind, .int .u8 p.require.op, .int .u32 p.require.value, .int .i64 p.require.width, .string p.require.name, .slice p.require.sp.at_ p.require.subs.length p.require.sp.cap, .slice p.ns.at_ p.inits.length p.ns.cap, .slice p.rs.at_ p.procs.length p.rs.cap, .slice p.ws.at_ p.work.length p.ws.cap, .slice p.cs.at_ p.recover.length p.cs.cap, .int .u8 p.invariant.kind, .int .u8 p.invariant.op, .int .u32 p.invariant.value, .int .i64 p.invariant.width, .string p.invariant.name, .slice p.invariant.sp.at_ p.invariant.subs.length p.invariant.sp.cap] 35) = wB at *
 go_wp2_with (refine wpList_load_row rfl 35 _ rfl w.heap.size rfl 35 _ (0, 0) _ HBX.out.heap Tryz.underlying35 rfl (by kernel_rfl) ?_)
 refine HC.out.mono ?_
 rintro o w1 ⟨rfl, hb1⟩
 go_wp2_with fail
 refine (sized_any _ _).mono ?_
 rintro o w2 ⟨rfl, rfl⟩
 go_wp2_with fail
 go_ret
 exact ⟨rfl, HB.out.trans (hb1.mono HB.out.size)⟩
end Go.Proofs.YtepacjkacjabbaaGreatDoor
