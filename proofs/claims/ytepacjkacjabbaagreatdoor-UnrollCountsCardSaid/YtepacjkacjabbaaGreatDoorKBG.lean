import Derived.Test.YtepacjkacjabbaaGreatDoorKBA
import Derived.Test.YtepacjkacjabbaaGreatDoorKAG
import Derived.Laws.Rows
import Derived.Laws.Tables
import Derived.Laws.CopyOwn
import Derived.Test.YtepacjkacjabbaaGreatDoorKBB
import Derived.Test.YtepacjkacjabbaaGreatDoorKAK
import Derived.Deep.RegionWith
import Derived.WalkMore
namespace Go.Proofs.YtepacjkacjabbaaGreatDoor
open Go Go.RowKit Go.Maps
set_option maxRecDepth 100000 in
theorem right_any (w : World) (p : ProgV) (hp : RdP w.heap.size w p) (hn0 : 0 < w.heap.size) (hN : NamesOk p) (hwt : weightP p ≤ 1125899906842624) (hmx : MxAt w) :
   Calls Tryz.prog 51 #[.agg p.arr] w fun o w' => o = .returned (.bool (decide ((checkP p).2 = 0))) ∧ Below w.heap.size w w' := by
 have hb1 : Below w.heap.size w (w.alloc (.cells p.arr 35)) := (Below.refl _ _).alloc (Nat.le_refl _) _
 have hB := World.alloc_heap_new w (.cells p.arr 35)
 have hCK := check_any _ p (hp.on hb1) (Nat.lt_of_lt_of_le hn0 hb1.size) hN hwt (hmx.below hb1 hn0)
 have harrs := arr_size p
 rw [arr_val] at hCK
 generalize checkP p = ck at *
 have HCK := Lib.hid hCK
 have HB := Lib.hid hB
 have HB1 := Lib.hid hb1
 clear hCK hB hb1
 generalize p.arr = arr at *
 by_cases e : ck.2 = 0
 · have hd : decide (ck.2 = 0) = true := decide_eq_true e
   have he : (ck.2 == 0) = true := by simpa using e
   rw [hd]
   clear hd e
   go_enter Tryz.func51, Tryz.ntmps51
   go_wp2_with (first | (refine wpList_load_row rfl 35 _ rfl w.heap.size rfl 35 _ (0, 0) _ HB.out Tryz.underlying35 rfl harrs ?_) | (go_at_call 108; refine HCK.out.mono ?_; rintro o2 w2 ⟨rfl, hb2⟩; have HB2 := Lib.hid hb2; clear hb2) | fail)
   go_ret
   exact ⟨rfl, HB1.out.trans (HB2.out.mono HB1.out.size)⟩
 · have hd : decide (ck.2 = 0) = false := decide_eq_false e
   have he : (ck.2 == 0) = false := by simpa using e
   rw [hd]
   clear hd e
   go_enter Tryz.func51, Tryz.ntmps51
   go_wp2_with (first | (refine wpList_load_row rfl 35 _ rfl w.heap.size rfl 35 _ (0, 0) _ HB.out Tryz.underlying35 rfl harrs ?_) | (go_at_call 108; refine HCK.out.mono ?_; rintro o2 w2 ⟨rfl, hb2⟩; have HB2 := Lib.hid hb2; clear hb2) | fail)
   go_ret
   exact ⟨rfl, HB1.out.trans (HB2.out.mono HB1.out.size)⟩
end Go.Proofs.YtepacjkacjabbaaGreatDoor
namespace Go.Proofs.YtepacjkacjabbaaGreatDoor
open Go Go.RowKit Go.Maps
theorem len_zero (n : Nat) : ((n : Int) == 0) = decide (n = 0) := by
 rw [Bool.eq_iff_iff, beq_iff_eq, decide_eq_true_eq]
 omega
set_option maxRecDepth 100000 in
theorem rightU_any (w : World) (p : ProgV) (hp : RdP w.heap.size w p) (hn0 : 0 < w.heap.size) (hN : NamesOk p) (hwt : weightP p ≤ 1125899906842624) (hmx : MxAt w) :
   Calls Tryz.prog 102 #[.agg p.arr] w fun o w' => o = .returned (.bool (decide ((checkP p).2 = 0 ∧ p.procs.length = 0))) ∧ Below w.heap.size w w' := by
 have hb1 : Below w.heap.size w (w.alloc (.cells p.arr 35)) := (Below.refl _ _).alloc (Nat.le_refl _) _
 have hB := World.alloc_heap_new w (.cells p.arr 35)
 have hCK := right_any _ p (hp.on hb1) (Nat.lt_of_lt_of_le hn0 hb1.size) hN hwt (hmx.below hb1 hn0)
 have h13 : p.arr[13]? = some (.slice p.rs.at_ p.procs.length p.rs.cap) := rfl
 have harrs := arr_size p
 generalize checkP p = ck at *
 have HCK := Lib.hid hCK
 have HB := Lib.hid hB
 have HB1 := Lib.hid hb1
 clear hCK hB hb1
 generalize p.arr = arr at *
 by_cases e : ck.2 = 0
 · have hd : decide (ck.2 = 0) = true := decide_eq_true e
   have he : decide (ck.2 = 0 ∧ p.procs.length = 0) = decide (p.procs.length = 0) := by simp [e]
   rw [he]
   rw [hd] at HCK
   clear hd e he
   go_enter Tryz.func102, Tryz.ntmps102
   go_wp2_with (first | (refine wpList_load_row rfl 35 _ rfl w.heap.size rfl 35 _ (0, 0) _ HB.out Tryz.underlying35 rfl harrs ?_) | fail)
   refine HCK.out.mono ?_
   rintro o2 w2 ⟨rfl, hb2⟩
   have HB2 := Lib.hid hb2
   have hbx := (hb2.block _ (Array.getElem?_eq_some_iff.1 HB.out).1).trans HB.out
   have c13 : w2.cell? ⟨w.heap.size, 13, none⟩ = some (.slice p.rs.at_ p.procs.length p.rs.cap) := by simp [World.cell?, hbx, h13]
   clear hb2 hbx
   go_wp2_with fail
   go_ret
   exact ⟨congrArg (fun b => Ending.returned (.bool b)) (len_zero p.procs.length), HB1.out.trans (HB2.out.mono HB1.out.size)⟩
 · have hd : decide (ck.2 = 0) = false := decide_eq_false e
   have he : decide (ck.2 = 0 ∧ p.procs.length = 0) = false := by simp [e]
   rw [he]
   rw [hd] at HCK
   clear hd e he
   go_enter Tryz.func102, Tryz.ntmps102
   go_wp2_with (first | (refine wpList_load_row rfl 35 _ rfl w.heap.size rfl 35 _ (0, 0) _ HB.out Tryz.underlying35 rfl harrs ?_) | fail)
   refine HCK.out.mono ?_
   rintro o2 w2 ⟨rfl, hb2⟩
   have HB2 := Lib.hid hb2
   clear hb2
   go_wp2_with fail
   go_ret
   exact ⟨rfl, HB1.out.trans (HB2.out.mono HB1.out.size)⟩
end Go.Proofs.YtepacjkacjabbaaGreatDoor
namespace Go.Proofs.YtepacjkacjabbaaGreatDoor
open Go Go.RowKit Go.Maps
theorem wrap_small {x : Int} (h : -2000000 ≤ x ∧ x ≤ 2000000) : IntKind.i64.wrap x = x := by
 unfold IntKind.wrap
 simp [IntKind.bits, IntKind.signed]
 omega
theorem dpTs_ge : ∀ (l : List StmtV) (n : Int), n ≤ dpTs l n
 | [], n => by rw [dpTs]; omega
 | s :: l, n => by
   rw [dpTs]
   have := dpTs_ge l (max n (dpT s))
   omega
theorem dpT_pos (s : StmtV) (h : LoopOk s) : 0 ≤ dpT s ∧ dpT s ≤ 1017 := by
 obtain ⟨k, n, es, ex, b, ts, th, os, el⟩ := s
 have h1 := dpTs_ge th 0
 have h2 := dpTs_ge el 0
 rw [dpT]
 cases hl : loopB (.mk k n es ex b ts th os el) with
 | true =>
   obtain ⟨h3, h4, _⟩ := h (loopB_of hl)
   change 1 ≤ b at h3
   change b ≤ 16 at h4
   rw [if_pos rfl]
   omega
 | false =>
   rw [if_neg (by decide)]
   omega
def DepOk (n0 : Nat) (W0 : World) (sp : Sp) (l : List StmtV) : Prop := ∀ W, Below n0 W0 W → n0 ≤ W.heap.size →
 Calls Tryz.prog 104 #[.slice sp.at_ l.length sp.cap] W fun o w' => o = .returned (.int .i64 (min (dpTs l 0) 1001)) ∧ Below W.heap.size W w'
inductive DArgs (s : StmtV) : Array Value → Bool → Prop
 | th : DArgs s #[.slice s.ts.at_ s.thn.length s.ts.cap] true
 | el : DArgs s #[.slice s.os.at_ s.els.length s.os.cap] false
set_option maxRecDepth 1000000 in
set_option maxHeartbeats 1600000 in
theorem dep_step {n0 : Nat} {W0 : World} {sp : Sp} {l : List StmtV} (hr : RdTs n0 W0 sp l) (hw : heftL l ≤ 20000) (hlo : ∀ s ∈ l, LoopOk s) (ih : ∀ s ∈ l, DepOk n0 W0 s.ts s.thn ∧ DepOk n0 W0 s.os s.els) : DepOk n0 W0 sp l := by
 intro w hw0 hn0
 have HR := Lib.hid ((hr.below hw0).more hn0)
 have HIH := Lib.hid fun (i : Nat) (hi : i < l.length) => ih _ (List.getElem_mem hi)
 have HLO := Lib.hid fun (i : Nat) (hi : i < l.length) => hlo _ (List.getElem_mem hi)
 have HWT := Lib.hid fun (i : Nat) (hi : i < l.length) => Nat.le_trans (heft_leM l _ (List.getElem_mem hi)) hw
 have HW0 := Lib.hid hw0
 have hfew := hr.row.few
 have hcap := hr.row.cap
 have hbig := hr.row.big
 clear hr hw hlo ih hw0
 go_enter Tryz.func104, Tryz.ntmps104
 go_wp2_with fail
 go_loopw [9, 3] (fun s9 s3 wr => ∃ (k : Nat) (n : Int), k ≤ l.length ∧ s9 = .int .i64 k ∧ s3 = .int .i64 n ∧ 0 ≤ n ∧ n ≤ 1017 ∧ dpTs l 0 = dpTs (l.drop k) n ∧ Below w.heap.size w wr) (fun s9 _ _ => l.length - (intOf s9).toNat)
 case atStart => exact ⟨0, 0, Nat.zero_le _, rfl, rfl, by decide, by decide, rfl, Below.refl _ _⟩
 case round =>
   obtain ⟨k, n, hk, rfl, rfl, hn, hn2, hd, hb⟩ := hrel
   have HD := Lib.hid hd
   have HB := Lib.hid hb
   clear hd hb
   by_cases hlt : k < l.length
   · obtain ⟨g, o, eA, hg, hc⟩ := (HR.out.row.below HB.out).row (by omega)
     have hc2 := hc k hlt
     have HST : Hid (dpTs (l.drop k) n = dpTs (l.drop (k + 1)) (max n (dpT l[k]))) := Lib.hid (by rw [List.drop_eq_getElem_cons hlt, dpTs])
     have HS := Lib.hid (HR.out.ok _ (List.getElem_mem hlt))
     have HTH := Lib.hid fun (W : World) (hW : Below w.heap.size w W) => (HIH.out k hlt).1 W (HW0.out.trans (hW.mono hn0)) (Nat.le_trans hn0 hW.size)
     have HEL := Lib.hid fun (W : World) (hW : Below w.heap.size w W) => (HIH.out k hlt).2 W (HW0.out.trans (hW.mono hn0)) (Nat.le_trans hn0 hW.size)
     have HLK := Lib.hid (HLO.out k hlt)
     have HWK := Lib.hid (HWT.out k hlt)
     clear hc
     generalize l[k] = s at *
     have k0 := hc2 0 _ rfl
     rw [Nat.add_zero] at k0
     have k1 := hc2 1 _ rfl
     have k2 : wr.cell? ⟨g, o + k * 6 + 2, none⟩ = some (.slice s.es.at_ s.exprs.length s.es.cap) := hc2 2 _ rfl
     have k3 := hc2 3 _ rfl
     have k4 : wr.cell? ⟨g, o + k * 6 + 4, none⟩ = some (.slice s.ts.at_ s.thn.length s.ts.cap) := hc2 4 _ rfl
     have k5 : wr.cell? ⟨g, o + k * 6 + 5, none⟩ = some (.slice s.os.at_ s.els.length s.os.cap) := hc2 5 _ rfl
     have hba : Below wr.heap.size wr (wr.alloc (.cells #[.int .u8 s.kind, .string s.name, .slice s.es.at_ s.exprs.length s.es.cap, .int .i64 s.bound, .slice s.ts.at_ s.thn.length s.ts.cap, .slice s.os.at_ s.els.length s.os.cap] 43)) := (Below.refl _ wr).alloc (Nat.le_refl _) _
     have hxa := World.alloc_heap_new wr (.cells #[.int .u8 s.kind, .string s.name, .slice s.es.at_ s.exprs.length s.es.cap, .int .i64 s.bound, .slice s.ts.at_ s.thn.length s.ts.cap, .slice s.os.at_ s.els.length s.os.cap] 43)
     have hlow := HB.out.trans (hba.mono HB.out.size)
     have hk0 : (0 : Int) ≤ (k : Int) := by omega
     have hk1 : (k : Int) < (l.length : Int) := by omega
     clear hc2
     rw [eA]
     have EA := Lib.hid eA
     clear eA
     go_upto_region 5 with fail
     clear k0 k1 k2 k3 k4 k5 hba
     generalize wr.alloc (.cells #[.int .u8 s.kind, .string s.name, .slice s.es.at_ s.exprs.length s.es.cap, .int .i64 s.bound, .slice s.ts.at_ s.thn.length s.ts.cap, .slice s.os.at_ s.els.length s.os.cap] 43) = W5 at *
     generalize wr.heap.size = bx at *
     have HLW := Lib.hid (hlow.trans (Below.refl _ _).drew)
     have HXB := Lib.hid (((Below.refl W5.heap.size W5).drew.block _ (Array.getElem?_eq_some_iff.1 hxa).1).trans hxa)
     obtain ⟨x0, x1, x2, x3, x4, x5⟩ := six_cells hxa
     obtain ⟨A, hA⟩ : ∃ x, min (dpTs s.thn 0) 1001 = x := ⟨_, rfl⟩
     obtain ⟨B, hB⟩ : ∃ x, min (dpTs s.els 0) 1001 = x := ⟨_, rfl⟩
     have a0 := dpTs_ge s.thn 0
     have a1 := dpTs_ge s.els 0
     have hA0 : 0 ≤ A ∧ A ≤ 1001 := by omega
     have hB0 : 0 ≤ B ∧ B ≤ 1001 := by omega
     rw [hA] at HTH
     rw [hB] at HEL
     have HA := Lib.hid hA
     have HBB := Lib.hid hB
     clear hA hB a0 a1 hlow hxa
     have HALL : Hid (∀ W, Below w.heap.size w W → ∀ args b, DArgs s args b → Calls Tryz.prog 104 args W fun o w' => o = .returned (.int .i64 (if b = true then A else B)) ∧ Below W.heap.size W w') := Lib.hid fun W hW args b h => by
       cases h with
       | th => exact HTH.out W hW
       | el => exact HEL.out W hW
     have hw1 : IntKind.i64.wrap (1 + max A B) = 1 + max A B := wrap_small (by omega)
     have HLOOP := Lib.hid fun (W : World) (hW : Below w.heap.size w W) => loop_any W s ((HS.out.stays hW).more hW.size) HWK.out
     have hdp : dpT s = if loopB s = true then s.bound + max (max A B) 2 else 1 + max A B := by
       rw [← HA.out, ← HBB.out]
       cases s
       rw [dpT]
       rfl
     have HDP := Lib.hid hdp
     clear HTH HEL hdp
     go_region_with (first
       | (go_at_call 104; refine (HALL.out _ HLW.out _ true (by with_reducible exact .th)).mono ?_; rintro o W6 ⟨rfl, hb⟩; have HLn := Lib.hid (HLW.out.trans (hb.mono HLW.out.size)); have HXn := Lib.hid ((hb.block _ (Array.getElem?_eq_some_iff.1 HXB.out).1).trans HXB.out); clear HLW HXB; have HLW := HLn; have HXB := HXn; clear HLn HXn hb x0 x1 x2 x3 x4 x5; obtain ⟨x0, x1, x2, x3, x4, x5⟩ := six_cells HXB.out)
       | (go_at_call 104; refine (HALL.out _ HLW.out _ false (by with_reducible exact .el)).mono ?_; rintro o W6 ⟨rfl, hb⟩; have HLn := Lib.hid (HLW.out.trans (hb.mono HLW.out.size)); have HXn := Lib.hid ((hb.block _ (Array.getElem?_eq_some_iff.1 HXB.out).1).trans HXB.out); clear HLW HXB; have HLW := HLn; have HXB := HXn; clear HLn HXn hb x0 x1 x2 x3 x4 x5; obtain ⟨x0, x1, x2, x3, x4, x5⟩ := six_cells HXB.out)
       | fail)
     all_goals
       go_wp2_with fail
       refine (HLOOP.out _ HLW.out).mono ?_
       rintro o W7 ⟨rfl, hb7⟩
       have HL7 := Lib.hid (HLW.out.trans (hb7.mono HLW.out.size))
       have hx7 := (hb7.block _ (Array.getElem?_eq_some_iff.1 HXB.out).1).trans HXB.out
       clear x0 x1 x2 x3 x4 x5 hb7 HLW HXB
       obtain ⟨x0, x1, x2, x3, x4, x5⟩ := six_cells hx7
       clear hx7
       obtain ⟨bl, hbl⟩ : ∃ b, loopB s = b := ⟨_, rfl⟩
       rw [hbl]
       cases bl with
       | true =>
         obtain ⟨b1, b2, _⟩ := HLK.out (loopB_of hbl)
         have hdp2 : s.bound + max (1 + max A B - 1) 2 = dpT s := by
           rw [HDP.out, if_pos hbl]
           omega
         have HD2 := Lib.hid hdp2
         clear hdp2
         go_wp2_with fail
         have hp := dpT_pos s HLK.out
         refine ⟨⟨k + 1, max n (dpT s), hlt, rfl, by rw [HD2.out], by omega, by omega, by rw [HD.out, HST.out], HL7.out⟩, by simp only [intOf]; omega⟩
       | false =>
         have HD2 : Hid (1 + max A B = dpT s) := Lib.hid (by rw [HDP.out, hbl]; rfl)
         go_wp2_with fail
         have hp := dpT_pos s HLK.out
         refine ⟨⟨k + 1, max n (dpT s), hlt, rfl, by rw [HD2.out], by omega, by omega, by rw [HD.out, HST.out], HL7.out⟩, by simp only [intOf]; omega⟩
   · obtain rfl : k = l.length := by omega
     have e0 : dpTs l 0 = n := by
       rw [HD.out, List.drop_length, dpTs]
     have E0 := Lib.hid e0
     clear hlt e0 hk
     go_wp2_with fail
     go_ret
     exact ⟨by rw [E0.out]; rfl, HB.out⟩
theorem depth_any {n0 : Nat} {W0 : World} (sp : Sp) (l : List StmtV) (hr : RdTs n0 W0 sp l) (hw : heftL l ≤ 20000) (hlo : ∀ x ∈ l.flatMap StmtV.pre, LoopOk x) : DepOk n0 W0 sp l := by
 have one : ∀ s : StmtV, RdT n0 W0 s → heftL [s] ≤ 20000 → (∀ x ∈ s.pre, LoopOk x) → DepOk n0 W0 s.ts s.thn ∧ DepOk n0 W0 s.os s.els := fun s hr => by
   induction hr with
   | mk s k b n er ex tr th orow el ih1 ih2 =>
     intro hl hx
     rw [heftL_M] at hl
     exact ⟨dep_step ⟨tr, th⟩ (by omega) (fun t ht => LoopOk.own (LoopOk.thn hx t ht)) fun t ht => ih1 t ht (Nat.le_trans (heft_leM _ t ht) (by omega)) (LoopOk.thn hx t ht), dep_step ⟨orow, el⟩ (by omega) (fun t ht => LoopOk.own (LoopOk.els hx t ht)) fun t ht => ih2 t ht (Nat.le_trans (heft_leM _ t ht) (by omega)) (LoopOk.els hx t ht)⟩
 have hp : ∀ s ∈ l, ∀ x ∈ s.pre, LoopOk x := fun s hs x hx => hlo x (List.mem_flatMap.2 ⟨s, hs, hx⟩)
 exact dep_step hr hw (fun s hs => LoopOk.own (hp s hs)) fun s hs => one s (hr.ok s hs) (Nat.le_trans (heft_leM l s hs) hw) (hp s hs)
end Go.Proofs.YtepacjkacjabbaaGreatDoor
namespace Go.Proofs.YtepacjkacjabbaaGreatDoor
open Go Go.RowKit Go.Maps
theorem wtTs_bounds : ∀ (l : List StmtV) (n : Int), 0 ≤ n → n ≤ 20001 → (∀ s ∈ l, 0 ≤ wtT s) → 0 ≤ wtTs l n ∧ wtTs l n ≤ 20001
 | [], n, h0, h1, _ => by rw [wtTs]; omega
 | s :: l, n, h0, h1, h => by
   rw [wtTs]
   have hs := h s (List.mem_cons_self ..)
   by_cases hb : n + wtT s > 20000
   · rw [if_pos hb]; omega
   · rw [if_neg hb]
     exact wtTs_bounds l _ (by omega) (by omega) fun t ht => h t (List.mem_cons_of_mem _ ht)
theorem wt_nonneg (s : StmtV) (h : ∀ x ∈ s.pre, LoopOk x) : 0 ≤ wtT s := by
 rcases wtT_near s h with e | e <;> omega
def WtOk (n0 : Nat) (W0 : World) (sp : Sp) (l : List StmtV) : Prop := ∀ W, Below n0 W0 W → n0 ≤ W.heap.size →
 Calls Tryz.prog 103 #[.slice sp.at_ l.length sp.cap] W fun o w' => o = .returned (.int .i64 (wtTs l 0)) ∧ Below W.heap.size W w'
theorem size_pass {p : StmtV} (h : bareT p = passT) : sizedN (cntT ([p].flatMap StmtV.pre) 0) = 2 := by
 have e : heftL [p] = 2 := by rw [← heftL_bare, List.map_cons, List.map_nil, h, heftL_step, heftL_nil, hf_pass]
 have e2 : cntT ([p].flatMap StmtV.pre) 0 = 2 := by
   rw [cntT_of _ 0 (by unfold heftL at e; omega)]
   unfold heftL at e
   omega
 rw [e2]
 rfl
theorem size_expr {e : ExprV} (h : e.pre.length ≤ 20000) : sizedN (cntN e.pre.length 0) = e.pre.length := by
 rw [cntN_of (by omega), Int.zero_add]
 unfold sizedN
 rw [if_pos (by omega)]
theorem heftX_take (l : List ExprV) (k : Nat) (hk : k < l.length) : heftX (l.take (k + 1)) = heftX (l.take k) + (l[k]).pre.length := by
 unfold heftX
 rw [List.take_succ_eq_append_getElem hk, List.map_append, List.sum_append]
 simp
theorem heftX_take_le (l : List ExprV) (k : Nat) : heftX (l.take k) ≤ heftX l := by
 unfold heftX
 conv => rhs; rw [← List.take_append_drop k l]
 rw [List.map_append, List.sum_append]
 omega
theorem size_one (W : World) (p : StmtV) (hp : bareT p = passT) (hn : NowT W p) : Calls Tryz.prog 164 #[.slice (some ⟨W.heap.size, 0, none⟩) 1 1] (W.alloc (.cells #[.int .u8 p.kind, .string p.name, .slice p.es.at_ p.exprs.length p.es.cap, .int .i64 p.bound, .slice p.ts.at_ p.thn.length p.ts.cap, .slice p.os.at_ p.els.length p.os.cap] 43)) fun o w' => o = .returned (.int .i64 2) ∧ Below (W.alloc (.cells #[.int .u8 p.kind, .string p.name, .slice p.es.at_ p.exprs.length p.es.cap, .int .i64 p.bound, .slice p.ts.at_ p.thn.length p.ts.cap, .slice p.os.at_ p.els.length p.os.cap] 43)).heap.size (W.alloc (.cells #[.int .u8 p.kind, .string p.name, .slice p.es.at_ p.exprs.length p.es.cap, .int .i64 p.bound, .slice p.ts.at_ p.thn.length p.ts.cap, .slice p.os.at_ p.els.length p.os.cap] 43)) w' := by
 have hb : Below W.heap.size W (W.alloc (.cells #[.int .u8 p.kind, .string p.name, .slice p.es.at_ p.exprs.length p.es.cap, .int .i64 p.bound, .slice p.ts.at_ p.thn.length p.ts.cap, .slice p.os.at_ p.els.length p.os.cap] 43)) := (Below.refl _ _).alloc (Nat.le_refl _) _
 have h := sizeStmts_any (W.alloc (.cells #[.int .u8 p.kind, .string p.name, .slice p.es.at_ p.exprs.length p.es.cap, .int .i64 p.bound, .slice p.ts.at_ p.thn.length p.ts.cap, .slice p.os.at_ p.els.length p.os.cap] 43)) ⟨some ⟨W.heap.size, 0, none⟩, 1⟩ [p] ⟨row_one (enc := StmtV.cells) (x := p) (World.alloc_heap_new W _), fun t ht => by
   rw [List.mem_singleton.1 ht]
   exact (hn.stays hb).more hb.size⟩
 rw [size_pass hp] at h
 exact h
set_option maxRecDepth 1000000 in
set_option maxHeartbeats 1600000 in
theorem wt_step {n0 : Nat} {W0 : World} {sp : Sp} {l : List StmtV} (hr : RdTs n0 W0 sp l) (hw : heftL l ≤ 20000) (hlo : ∀ s ∈ l, ∀ x ∈ s.pre, LoopOk x) (ih : ∀ s ∈ l, WtOk n0 W0 s.ts s.thn ∧ WtOk n0 W0 s.os s.els) : WtOk n0 W0 sp l := by
 intro w hw0 hn0
 have HR := Lib.hid ((hr.below hw0).more hn0)
 have HIH := Lib.hid fun (i : Nat) (hi : i < l.length) => ih _ (List.getElem_mem hi)
 have HLO := Lib.hid fun (i : Nat) (hi : i < l.length) => hlo _ (List.getElem_mem hi)
 have HWT := Lib.hid fun (i : Nat) (hi : i < l.length) => Nat.le_trans (heft_leM l _ (List.getElem_mem hi)) hw
 have HW0 := Lib.hid hw0
 have hfew := hr.row.few
 have hcap := hr.row.cap
 have hbig := hr.row.big
 clear hr hw hlo ih hw0
 go_enter Tryz.func103, Tryz.ntmps103
 go_wp2_with fail
 refine Go.wp_scope_straight ?_
 go_wp2_with fail
 refine Go.wp_label ?_
 go_wp2_with fail
 go_loopw [12, 3] (fun s12 s3 wr => ∃ (k : Nat) (n : Int), k ≤ l.length ∧ s12 = .int .i64 k ∧ s3 = .int .i64 n ∧ 0 ≤ n ∧ n ≤ 20000 ∧ wtTs l 0 = wtTs (l.drop k) n ∧ Below w.heap.size w wr) (fun s12 _ _ => l.length - (intOf s12).toNat)
 case atStart => exact ⟨0, 0, Nat.zero_le _, rfl, rfl, by decide, by decide, rfl, Below.refl _ _⟩
 case round =>
   obtain ⟨k, n, hk, rfl, rfl, hn, hn2, hd, hb⟩ := hrel
   have HD := Lib.hid hd
   have HB := Lib.hid hb
   clear hd hb
   by_cases hlt : k < l.length
   · obtain ⟨g, o, eA, hg, hc⟩ := (HR.out.row.below HB.out).row (by omega)
     have hc2 := hc k hlt
     have HST : Hid (wtTs (l.drop k) n = if n + wtT l[k] > 20000 then 20001 else wtTs (l.drop (k + 1)) (n + wtT l[k])) := Lib.hid (by rw [List.drop_eq_getElem_cons hlt, wtTs])
     have HS := Lib.hid (HR.out.ok _ (List.getElem_mem hlt))
     have HTH := Lib.hid fun (W : World) (hW : Below w.heap.size w W) => (HIH.out k hlt).1 W (HW0.out.trans (hW.mono hn0)) (Nat.le_trans hn0 hW.size)
     have HEL := Lib.hid fun (W : World) (hW : Below w.heap.size w W) => (HIH.out k hlt).2 W (HW0.out.trans (hW.mono hn0)) (Nat.le_trans hn0 hW.size)
     have HLK := Lib.hid (HLO.out k hlt)
     have HWK := Lib.hid (HWT.out k hlt)
     clear hc
     generalize l[k] = s at *
     have k0 := hc2 0 _ rfl
     rw [Nat.add_zero] at k0
     have k1 := hc2 1 _ rfl
     have k2 : wr.cell? ⟨g, o + k * 6 + 2, none⟩ = some (.slice s.es.at_ s.exprs.length s.es.cap) := hc2 2 _ rfl
     have k3 := hc2 3 _ rfl
     have k4 : wr.cell? ⟨g, o + k * 6 + 4, none⟩ = some (.slice s.ts.at_ s.thn.length s.ts.cap) := hc2 4 _ rfl
     have k5 : wr.cell? ⟨g, o + k * 6 + 5, none⟩ = some (.slice s.os.at_ s.els.length s.os.cap) := hc2 5 _ rfl
     have hba : Below wr.heap.size wr (wr.alloc (.cells #[.int .u8 s.kind, .string s.name, .slice s.es.at_ s.exprs.length s.es.cap, .int .i64 s.bound, .slice s.ts.at_ s.thn.length s.ts.cap, .slice s.os.at_ s.els.length s.os.cap] 43)) := (Below.refl _ wr).alloc (Nat.le_refl _) _
     have hxa := World.alloc_heap_new wr (.cells #[.int .u8 s.kind, .string s.name, .slice s.es.at_ s.exprs.length s.es.cap, .int .i64 s.bound, .slice s.ts.at_ s.thn.length s.ts.cap, .slice s.os.at_ s.els.length s.os.cap] 43)
     have hlow := HB.out.trans (hba.mono HB.out.size)
     have hk0 : (0 : Int) ≤ (k : Int) := by omega
     have hk1 : (k : Int) < (l.length : Int) := by omega
     clear hc2
     rw [eA]
     have EA := Lib.hid eA
     clear eA
     go_upto_region 5 with fail
     clear k0 k1 k2 k3 k4 k5 hba
     generalize wr.alloc (.cells #[.int .u8 s.kind, .string s.name, .slice s.es.at_ s.exprs.length s.es.cap, .int .i64 s.bound, .slice s.ts.at_ s.thn.length s.ts.cap, .slice s.os.at_ s.els.length s.os.cap] 43) = W5 at *
     generalize wr.heap.size = bx at *
     obtain ⟨x0, x1, x2, x3, x4, x5⟩ := six_cells hxa
     have HXA := Lib.hid hxa
     have HLW := Lib.hid hlow
     have hxf := HS.out.xs.row.few
     have HXW : Hid (heftX s.exprs ≤ 20000) := Lib.hid (by have h1 := HWK.out; rw [heftL_M] at h1; omega)
     clear hxa hlow
     go_upto_region 7 with fail
     clear x0 x1 x2 x3 x4 x5
     go_loopw [19, 6] (fun s19 s6 wx => ∃ k2 : Nat, k2 ≤ s.exprs.length ∧ s19 = .int .i64 (k2 : Nat) ∧ s6 = .int .i64 (1 + (heftX (s.exprs.take k2) : Int)) ∧ Below w.heap.size w wx ∧ wx.heap[bx]? = some (.cells #[.int .u8 s.kind, .string s.name, .slice s.es.at_ s.exprs.length s.es.cap, .int .i64 s.bound, .slice s.ts.at_ s.thn.length s.ts.cap, .slice s.os.at_ s.els.length s.os.cap] 43 (0, 0))) (fun s19 _ _ => s.exprs.length - (intOf s19).toNat)
     case atStart => exact ⟨0, Nat.zero_le _, rfl, rfl, HLW.out, HXA.out⟩
     case round =>
       obtain ⟨k2, hk2, rfl, rfl, hlx, hbx⟩ := hrel
       by_cases hlt2 : k2 < s.exprs.length
       · obtain ⟨ge, oe, eE, hge, hce⟩ := (HS.out.xs.row.below hlx).row (by omega)
         have hce2 := hce k2 hlt2
         have HTK := Lib.hid (heftX_take s.exprs k2 hlt2)
         have hbt := heftX_take_le s.exprs k2
         have hbe := expr_leM (List.getElem_mem hlt2)
         have HEX := Lib.hid (HS.out.xs.ok _ (List.getElem_mem hlt2))
         generalize s.exprs[k2] = e at *
         have k0 := hce2 0 _ rfl
         rw [Nat.add_zero] at k0
         have k1 := hce2 1 _ rfl
         have k2' := hce2 2 _ rfl
         have k3 := hce2 3 _ rfl
         have k4 := hce2 4 _ rfl
         have k5 : wr.cell? ⟨ge, oe + k2 * 6 + 5, none⟩ = some (.slice e.sp.at_ e.subs.length e.sp.cap) := hce2 5 _ rfl
         have hba : Below wr.heap.size wr (wr.alloc (.cells #[.int .u8 e.kind, .int .u8 e.op, .int .u32 e.value, .int .i64 e.width, .string e.name, .slice e.sp.at_ e.subs.length e.sp.cap] 30)) := (Below.refl _ wr).alloc (Nat.le_refl _) _
         have hlow := hlx.trans (hba.mono hlx.size)
         have hbx2 := (hba.block _ (Array.getElem?_eq_some_iff.1 hbx).1).trans hbx
         have hxw := HXW.out
         have hb1 : (heftX (s.exprs.take k2) : Int) ≤ 20000 := by omega
         have hb2 : (e.pre.length : Int) ≤ 20000 := by omega
         have hxc := World.alloc_heap_new wr (.cells #[.int .u8 e.kind, .int .u8 e.op, .int .u32 e.value, .int .i64 e.width, .string e.name, .slice e.sp.at_ e.subs.length e.sp.cap] 30)
         have hSZ : ∀ W, Below w.heap.size w W → Calls Tryz.prog 163 #[.agg #[.int .u8 e.kind, .int .u8 e.op, .int .u32 e.value, .int .i64 e.width, .string e.name, .slice e.sp.at_ e.subs.length e.sp.cap]] W fun o w' => o = .returned (.int .i64 (e.pre.length : Nat)) ∧ Below W.heap.size W w' := fun W hW => by
           have := sizeExpr_any W e ((HEX.out.stays hW).more hW.size)
           rw [size_expr (by omega)] at this
           exact this
         have HSZ := Lib.hid hSZ
         have HBX2 := Lib.hid hbx2
         have hq0 : (0 : Int) ≤ (k2 : Int) := by omega
         have hq1 : (k2 : Int) < (s.exprs.length : Int) := by omega
         clear hce hce2 hba hlx hbx hbx2 hSZ hbt hbe hxw
         rw [eE]
         have EE := Lib.hid eE
         clear eE
         go_upto_region 9 with fail
         clear k0 k1 k2' k3 k4 k5
         generalize wr.alloc (.cells #[.int .u8 e.kind, .int .u8 e.op, .int .u32 e.value, .int .i64 e.width, .string e.name, .slice e.sp.at_ e.subs.length e.sp.cap] 30) = W8 at *
         generalize wr.heap.size = by8 at *
         obtain ⟨x0, x1, x2, x3, x4, x5⟩ := six_cells hxc
         clear hxc
         go_wp2_with fail
         refine (HSZ.out _ hlow).mono ?_
         rintro o w9 ⟨rfl, hb9⟩
         have HL9 := Lib.hid (hlow.trans (hb9.mono hlow.size))
         have HX9 := Lib.hid ((hb9.block _ (Array.getElem?_eq_some_iff.1 HBX2.out).1).trans HBX2.out)
         clear hb9 hlow x0 x1 x2 x3 x4 x5
         go_wp2_with fail
         rw [← EE.out]
         exact ⟨⟨k2 + 1, hlt2, rfl, by rw [HTK.out]; congr 1; omega, HL9.out, HX9.out⟩, by simp only [intOf]; omega⟩
       · obtain rfl : k2 = s.exprs.length := by omega
         rw [List.take_length]
         have HLX := Lib.hid hlx
         have HBX := Lib.hid hbx
         obtain ⟨x0, x1, x2, x3, x4, x5⟩ := six_cells hbx
         have hxw := HXW.out
         have hX : (heftX s.exprs : Int) ≤ 20000 := by omega
         clear hlx hbx hxw hlt2 hk2
         go_wp2_with fail
         refine (HTH.out _ HLX.out).mono ?_
         rintro o w7 ⟨rfl, hb7⟩
         have HL7 := Lib.hid (HLX.out.trans (hb7.mono HLX.out.size))
         have HX7 := Lib.hid ((hb7.block _ (Array.getElem?_eq_some_iff.1 HBX.out).1).trans HBX.out)
         have hA := wtTs_bounds s.thn 0 (by decide) (by decide) fun t ht => wt_nonneg t (LoopOk.thn HLK.out t ht)
         have hB := wtTs_bounds s.els 0 (by decide) (by decide) fun t ht => wt_nonneg t (LoopOk.els HLK.out t ht)
         have hdp : wtT s = if loopB s = true then s.bound * (1 + (heftX s.exprs : Int) + wtTs s.thn 0) + (1 + (heftX s.exprs : Int)) + 2 else 1 + (heftX s.exprs : Int) + wtTs s.thn 0 + wtTs s.els 0 := by
           cases s
           rw [wtT]
           rfl
         obtain ⟨X, hXe⟩ : ∃ x : Int, (heftX s.exprs : Int) = x := ⟨_, rfl⟩
         have hX0 : 0 ≤ X := by omega
         rw [hXe] at hX hdp ⊢
         obtain ⟨A, hAe⟩ : ∃ x, wtTs s.thn 0 = x := ⟨_, rfl⟩
         obtain ⟨B, hBe⟩ : ∃ x, wtTs s.els 0 = x := ⟨_, rfl⟩
         rw [hAe] at hA hdp ⊢
         rw [hBe] at hB hdp HEL
         have HDP := Lib.hid hdp
         clear hb7 HLX HBX x0 x1 x2 x3 x4 x5 hdp HTH hXe hAe hBe
         obtain ⟨x0, x1, x2, x3, x4, x5⟩ := six_cells HX7.out
         go_wp2_with fail
         refine (loop_any _ s ((HS.out.stays HL7.out).more HL7.out.size) HWK.out).mono ?_
         rintro o w8 ⟨rfl, hb8⟩
         have HL8 := Lib.hid (HL7.out.trans (hb8.mono HL7.out.size))
         have HX8 := Lib.hid ((hb8.block _ (Array.getElem?_eq_some_iff.1 HX7.out).1).trans HX7.out)
         clear hb8 HL7 HX7 x0 x1 x2 x3 x4 x5
         obtain ⟨x0, x1, x2, x3, x4, x5⟩ := six_cells HX8.out
         obtain ⟨bl, hbl⟩ : ∃ b, loopB s = b := ⟨_, rfl⟩
         rw [hbl]
         cases bl with
         | true =>
           obtain ⟨b1, b2, _⟩ := LoopOk.own HLK.out (loopB_of hbl)
           have hd2 : wtT s = s.bound * (1 + X + A) + (1 + X) + 2 := by rw [HDP.out, if_pos hbl]
           have p1 : s.bound * (1 + X + A) ≤ 16 * 40002 := Int.mul_le_mul b2 (by omega) (by omega) (by decide)
           have p0 : 0 ≤ s.bound * (1 + X + A) := Int.mul_nonneg (by omega) (by omega)
           have w1 : IntKind.i64.wrap (1 + X + A) = 1 + X + A := wrap_small (by omega)
           obtain ⟨P, hP⟩ : ∃ x, s.bound * (1 + X + A) = x := ⟨_, rfl⟩
           rw [hP] at hd2 p0 p1
           have w2 : IntKind.i64.wrap (s.bound * (1 + X + A)) = P := by
             rw [hP]
             exact wrap_small (by omega)
           have w3 : IntKind.i64.wrap (P + (1 + X)) = P + (1 + X) := wrap_small (by omega)
           have w4 : IntKind.i64.wrap (P + (1 + X) + 2) = P + (1 + X) + 2 := wrap_small (by omega)
           have w5 : IntKind.i64.wrap (n + (P + (1 + X) + 2)) = n + (P + (1 + X) + 2) := wrap_small (by omega)
           have HD2 := Lib.hid hd2
           clear hd2 hbl hP
           go_upto_region 13 with fail
           have HLW2 := Lib.hid (HL8.out.trans (Below.refl _ _).drew)
           have HXB := Lib.hid (((Below.refl w8.heap.size w8).drew.block _ (Array.getElem?_eq_some_iff.1 HX8.out).1).trans HX8.out)
           clear HL8 HX8
           go_region_with (first
             | (go_at_call 30; refine (pass_any _).mono ?_; rintro o W6 ⟨p, rfl, hp, hnp, hb⟩; have HPP := Lib.hid hp; have HNP := Lib.hid hnp; clear hp hnp; have hlxx := Nat.lt_of_lt_of_le (Array.getElem?_eq_some_iff.1 HXB.out).1 hb.size; have HLn := Lib.hid (HLW2.out.trans (hb.mono HLW2.out.size)); have HXn := Lib.hid ((hb.block _ (Array.getElem?_eq_some_iff.1 HXB.out).1).trans HXB.out); clear HLW2 HXB; have HLW2 := HLn; have HXB := HXn; clear HLn HXn hb x0 x1 x2 x3 x4 x5; obtain ⟨x0, x1, x2, x3, x4, x5⟩ := six_cells HXB.out)
             | (go_at_call 164; refine (size_one _ _ HPP.out HNP.out).mono ?_; rintro o W9 ⟨rfl, hb9⟩; have hbn := ((Below.refl _ _).alloc (Nat.le_refl _) _).trans (hb9.mono (by simp)); have hb := hbn; clear hb9 hbn; have HLn := Lib.hid (HLW2.out.trans (hb.mono HLW2.out.size)); have HXn := Lib.hid ((hb.block _ (Array.getElem?_eq_some_iff.1 HXB.out).1).trans HXB.out); clear HLW2 HXB; have HLW2 := HLn; have HXB := HXn; clear HLn HXn hb x0 x1 x2 x3 x4 x5; obtain ⟨x0, x1, x2, x3, x4, x5⟩ := six_cells HXB.out)
             | fail)
           all_goals
             go_wp2_with fail
             all_goals (first | ((try simp only [Exit.noGoto_ret]); go_ret; exact ⟨by rw [HD.out, HST.out, HD2.out, if_pos (by omega)]; rfl, HLW2.out⟩) | exact ⟨⟨k + 1, n + (P + (1 + X) + 2), hlt, rfl, by first | rfl | (congr 1; omega), by omega, by omega, by rw [HD.out, HST.out, HD2.out, if_neg (by omega)], HLW2.out⟩, by simp only [intOf]; omega⟩)
         | false =>
           have HD2 : Hid (wtT s = 1 + X + A + B) := Lib.hid (by rw [HDP.out, hbl]; rfl)
           clear hbl
           go_wp2_with fail
           refine (HEL.out _ HL8.out).mono ?_
           rintro o w9 ⟨rfl, hb9⟩
           have HL9 := Lib.hid (HL8.out.trans (hb9.mono HL8.out.size))
           clear hb9 x0 x1 x2 x3 x4 x5
           go_wp2_with fail
           all_goals (first | ((try simp only [Exit.noGoto_ret]); go_ret; exact ⟨by rw [HD.out, HST.out, HD2.out, if_pos (by omega)]; rfl, HL9.out⟩) | exact ⟨⟨k + 1, n + (1 + X + A + B), hlt, rfl, by first | rfl | (congr 1; omega), by omega, by omega, by rw [HD.out, HST.out, HD2.out, if_neg (by omega)], HL9.out⟩, by simp only [intOf]; omega⟩)
   · obtain rfl : k = l.length := by omega
     have e0 : wtTs l 0 = n := by
       rw [HD.out, List.drop_length, wtTs]
     have E0 := Lib.hid e0
     clear hlt e0 hk
     go_wp2_with fail
     (try simp only [Exit.noGoto_ret])
     go_ret
     exact ⟨by rw [E0.out]; rfl, HB.out⟩
theorem weight_any {n0 : Nat} {W0 : World} (sp : Sp) (l : List StmtV) (hr : RdTs n0 W0 sp l) (hw : heftL l ≤ 20000) (hlo : ∀ x ∈ l.flatMap StmtV.pre, LoopOk x) : WtOk n0 W0 sp l := by
 have one : ∀ s : StmtV, RdT n0 W0 s → heftL [s] ≤ 20000 → (∀ x ∈ s.pre, LoopOk x) → WtOk n0 W0 s.ts s.thn ∧ WtOk n0 W0 s.os s.els := fun s hr => by
   induction hr with
   | mk s k b n er ex tr th orow el ih1 ih2 =>
     intro hl hx
     rw [heftL_M] at hl
     exact ⟨wt_step ⟨tr, th⟩ (by omega) (LoopOk.thn hx) fun t ht => ih1 t ht (Nat.le_trans (heft_leM _ t ht) (by omega)) (LoopOk.thn hx t ht), wt_step ⟨orow, el⟩ (by omega) (LoopOk.els hx) fun t ht => ih2 t ht (Nat.le_trans (heft_leM _ t ht) (by omega)) (LoopOk.els hx t ht)⟩
 have hp : ∀ s ∈ l, ∀ x ∈ s.pre, LoopOk x := fun s hs x hx => hlo x (List.mem_flatMap.2 ⟨s, hs, hx⟩)
 exact wt_step hr hw hp fun s hs => one s (hr.ok s hs) (Nat.le_trans (heft_leM l s hs) hw) (hp s hs)
end Go.Proofs.YtepacjkacjabbaaGreatDoor
