import Derived.Test.YtepacjkacjabbaaGreatDoorKAE
import Derived.Sort.CutIn
import Derived.Laws.EntriesVeiled
import Derived.Test.YtepacjkacjabbaaGreatDoorKAG
import Derived.Test.YtepacjkacjabbaaGreatDoorKBH
import Derived.Maps.OwnIn
import Derived.WalkMore
namespace Go.Proofs.YtepacjkacjabbaaGreatDoor
open Go Go.RowKit
def TW (t : TypeId) : Bool := TT t || t == 201
def EachOk (n₀ : Nat) (W0 : World) (sp : Sp) (l : List StmtV) : Prop :=
 ∀ (all pre post : List StmtV) (lr Be By B : Nat) (J Jx : List StmtV → World → Prop) (W : World), all = pre ++ (l.flatMap StmtV.pre ++ post) → OwnFrom B J → OwnFrom B Jx →
   (∀ q x W1, J q W1 → q.length < all.length → q ++ [x] <+: all → YieldAt Fence.wide 4 Tryz.prog lr #[x.val] W1 fun e W' =>
     (e = .returned (.bool true) ∧ J (q ++ [x]) W' ∧ KeepsT TW B W1 W' ∧ Below n₀ W1 W') ∨ (e = .returned (.bool false) ∧ Jx (q ++ [x]) W' ∧ KeepsT TW B W1 W')) →
   W.heap[Be]? = some (.cells #[.func (.func 166) #[] #[.pointer (some ⟨By, 0, none⟩), .pointer (some ⟨Be, 0, none⟩)]] 201 (0, 0)) →
   W.heap[By]? = some (.cells #[.func (.yield lr) #[] #[]] 58 (0, 0)) → B ≤ W.heap.size → n₀ ≤ W.heap.size → Below n₀ W0 W → J pre W →
   Calls Tryz.prog 166 #[.slice sp.at_ l.length sp.cap, .pointer (some ⟨By, 0, none⟩), .pointer (some ⟨Be, 0, none⟩)] W fun e W' =>
     (e = .returned (.bool true) ∧ J (pre ++ l.flatMap StmtV.pre) W' ∧ KeepsT TW B W W' ∧ Below n₀ W W') ∨ (e = .returned (.bool false) ∧ (∃ q, q <+: all ∧ Jx q W') ∧ KeepsT TW B W W')
set_option maxRecDepth 1000000 in
set_option maxHeartbeats 8000000 in
theorem each_list {n₀ : Nat} {W0 : World} (sp : Sp) (l : List StmtV) (hr : RdTs n₀ W0 sp l) (ih : ∀ s, s ∈ l → EachOk n₀ W0 s.ts s.thn ∧ EachOk n₀ W0 s.os s.els) : EachOk n₀ W0 sp l := by
 intro all pre post lr Be By B J Jx W hall hJ hJx hY hBe hBy hBW hnW hlow hpre
 have HY := Lib.hid hY
 have HALL := Lib.hid hall
 have HPRE := Lib.hid hpre
 have HBE := Lib.hid hBe
 have HBY := Lib.hid hBy
 have HLOW := Lib.hid hlow
 have HRD := Lib.hid hr
 have HIH := Lib.hid fun (i : Nat) (hi : i < l.length) => ih _ (List.getElem_mem hi)
 have hcap := hr.row.cap
 have hbig := hr.row.big
 clear hY hall hpre hBe hBy hlow hr ih
 refine (callsIn_wide (n := 5)).1 ?_
 refine callsIn_of_wp_marks Tryz.func166 rfl trivial ?_ rfl
 simp only [Tryz.ntmps166, List.size_toArray, List.length_cons, List.length_nil, Nat.reduceAdd, Nat.reduceSub, Array.replicate_succ, Array.replicate_zero, List.push_toArray, List.append_toArray, List.nil_append, List.cons_append]
 gi_wp2
 gi_loopw [9] (fun s9 wr => ∃ k : Nat, k ≤ l.length ∧ s9 = .int .i64 k ∧ J (pre ++ (l.take k).flatMap StmtV.pre) wr ∧ KeepsT TW B W wr ∧ Below n₀ W wr) (fun s9 _ => l.length - (intOf s9).toNat)
 case atStart => exact ⟨0, Nat.zero_le _, rfl, by simpa using HPRE.out, KeepsT.refl _ _ _, Below.refl _ _⟩
 case round =>
   obtain ⟨k, hk, rfl, hj, hkr, hbr⟩ := hrel
   clear HPRE
   by_cases hlt : k < l.length
   · obtain ⟨b, off, eA, hbn, hcell⟩ := (HRD.out.row.below (HLOW.out.trans hbr)).row (by omega)
     have hts : l.take (k + 1) = l.take k ++ [l[k]] := List.take_succ_eq_append_getElem hlt
     have hsp : (l.take k).flatMap StmtV.pre ++ ((l[k]).pre ++ (l.drop (k + 1)).flatMap StmtV.pre) = l.flatMap StmtV.pre := by
       rw [← List.append_assoc, ← List.flatMap_singleton (f := StmtV.pre) (l[k]), ← List.flatMap_append, ← hts, ← List.flatMap_append, List.take_append_drop]
     have k0 : wr.cell? ⟨b, off + k * 6, none⟩ = some (.int .u8 l[k].kind) := hcell k hlt 0 _ rfl
     have k1 : wr.cell? ⟨b, off + k * 6 + 1, none⟩ = some (.string l[k].name) := hcell k hlt 1 _ rfl
     have k2 : wr.cell? ⟨b, off + k * 6 + 2, none⟩ = some (.slice l[k].es.at_ l[k].exprs.length l[k].es.cap) := hcell k hlt 2 _ rfl
     have k3 : wr.cell? ⟨b, off + k * 6 + 3, none⟩ = some (.int .i64 l[k].bound) := hcell k hlt 3 _ rfl
     have k4 : wr.cell? ⟨b, off + k * 6 + 4, none⟩ = some (.slice l[k].ts.at_ l[k].thn.length l[k].ts.cap) := hcell k hlt 4 _ rfl
     have k5 : wr.cell? ⟨b, off + k * 6 + 5, none⟩ = some (.slice l[k].os.at_ l[k].els.length l[k].os.cap) := hcell k hlt 5 _ rfl
     have HIHk := Lib.hid (HIH.out k hlt)
     have HTS := Lib.hid hts
     have HSP := Lib.hid hsp
     generalize l[k] = s at *
     have hpe := StmtV.pre_eq s
     have hba : Below wr.heap.size wr (wr.alloc (.cells #[.int .u8 s.kind, .string s.name, .slice s.es.at_ s.exprs.length s.es.cap, .int .i64 s.bound, .slice s.ts.at_ s.thn.length s.ts.cap, .slice s.os.at_ s.els.length s.os.cap] 43)) := (Below.refl _ _).alloc (Nat.le_refl _) _
     have hbx := World.alloc_heap_new wr (.cells #[.int .u8 s.kind, .string s.name, .slice s.es.at_ s.exprs.length s.es.cap, .int .i64 s.bound, .slice s.ts.at_ s.thn.length s.ts.cap, .slice s.os.at_ s.els.length s.os.cap] 43)
     have hszr := hkr.size
     have hj5 : J (pre ++ (l.take k).flatMap StmtV.pre) (wr.alloc (.cells #[.int .u8 s.kind, .string s.name, .slice s.es.at_ s.exprs.length s.es.cap, .int .i64 s.bound, .slice s.ts.at_ s.thn.length s.ts.cap, .slice s.os.at_ s.els.length s.os.cap] 43)) := (ownUp hJ (by omega)).alloc _ hj
     have HK5 := Lib.hid (hkr.trans (KeepsT.of_below hba))
     have HB5 := Lib.hid (hbr.trans (hba.mono (by omega)))
     have HX5 := Lib.hid hbx
     have HJ5 := Lib.hid hj5
     have EA := Lib.hid eA
     have HPE := Lib.hid hpe
     have hj0 : (0 : Int) ≤ (k : Int) := by omega
     have hjm : (k : Int) + 1 ≤ 9223372036854775807 := by simp only [maxLen] at hbig; omega
     have hj1 : (k : Int) < (l.length : Int) := by omega
     have hallk : all = (pre ++ (l.take k).flatMap StmtV.pre) ++ (s :: (s.thn.flatMap StmtV.pre ++ (s.els.flatMap StmtV.pre ++ ((l.drop (k + 1)).flatMap StmtV.pre ++ post)))) := by
       rw [HALL.out, ← HSP.out, HPE.out]
       simp [List.append_assoc]
     have HA := Lib.hid hallk
     clear hcell hts hsp hba hbx hj hj5 hkr hbr hpe hallk
     rw [eA]
     clear eA
     gi_upto_region 4 with (fail)
     clear k0 k1 k2 k3 k4 k5
     generalize wr.alloc (.cells #[.int .u8 s.kind, .string s.name, .slice s.es.at_ s.exprs.length s.es.cap, .int .i64 s.bound, .slice s.ts.at_ s.thn.length s.ts.cap, .slice s.os.at_ s.els.length s.os.cap] 43) = W5 at *
     obtain ⟨c0, c1, c2, c3, c4, c5⟩ := six_cells HX5.out
     have d0 := one_cell (HK5.out.cells _ _ _ _ HBY.out rfl)
     obtain ⟨fn, tmps, assign, body, hy, hR⟩ := HY.out _ s W5 HJ5.out (by rw [HA.out]; simp) (by rw [HA.out]; exact ⟨_, by simp [List.append_assoc]; rfl⟩)
     dsimp only [StmtV.val, Sp.val] at hy
     gi_wp2
     refine hR.mono ?_
     clear hR hy c0 c1 c2 c3 c4 c5 d0
     have hs5 := HK5.out.size
     rintro o3 W3 (⟨rfl, hJ3, hk3, hb3⟩ | ⟨rfl, hJ3, hk3⟩)
     · have hK3 := HK5.out.trans hk3
       have hB3 := HB5.out.trans hb3
       have hX3 := hk3.cells _ _ _ _ HX5.out rfl
       have hE3 := hK3.cells _ _ _ _ HBE.out rfl
       have hY3 := hK3.cells _ _ _ _ HBY.out rfl
       have hs3 := hK3.size
       have hC1 := HIHk.out.1 all ((pre ++ (l.take k).flatMap StmtV.pre) ++ [s]) (s.els.flatMap StmtV.pre ++ ((l.drop (k + 1)).flatMap StmtV.pre ++ post)) lr Be By B J Jx W3 (by rw [HA.out]; simp [List.append_assoc]) hJ hJx HY.out hE3 hY3 (by omega) (by omega) (HLOW.out.trans hB3) hJ3
       obtain ⟨c0, c1, c2, c3, c4, c5⟩ := six_cells hX3
       have d3 := one_cell hE3
       have HC1 := Lib.hid hC1
       have HX3 := Lib.hid hX3
       have HK3 := Lib.hid hK3
       have HB3 := Lib.hid hB3
       clear hC1 hX3 hE3 hY3 hK3 hB3 hJ3 hk3 hb3 HK5 HB5 HX5 HJ5
       gi_wp2
       refine ⟨trivial, ?_⟩
       refine (callsIn_wide.2 HC1.out).mono ?_
       clear HC1 c0 c1 c2 c3 c4 c5 d3
       rintro o4 W4 (⟨rfl, hJ4, hk4, hb4⟩ | ⟨rfl, ⟨q, hq, hJ4⟩, hk4⟩)
       · have hK4 := HK3.out.trans hk4
         have hB4 := HB3.out.trans hb4
         have hX4 := hk4.cells _ _ _ _ HX3.out rfl
         have hE4 := hK4.cells _ _ _ _ HBE.out rfl
         have hY4 := hK4.cells _ _ _ _ HBY.out rfl
         have hs4 := hK4.size
         have hC2 := HIHk.out.2 all (((pre ++ (l.take k).flatMap StmtV.pre) ++ [s]) ++ s.thn.flatMap StmtV.pre) ((l.drop (k + 1)).flatMap StmtV.pre ++ post) lr Be By B J Jx W4 (by rw [HA.out]; simp [List.append_assoc]) hJ hJx HY.out hE4 hY4 (by omega) (by omega) (HLOW.out.trans hB4) hJ4
         obtain ⟨c0, c1, c2, c3, c4, c5⟩ := six_cells hX4
         have d4 := one_cell hE4
         have HC2 := Lib.hid hC2
         have HK4 := Lib.hid hK4
         have HB4 := Lib.hid hB4
         clear hC2 hX4 hE4 hY4 hK4 hB4 hJ4 hk4 hb4 HK3 HB3 HX3
         gi_wp2
         refine ⟨trivial, ?_⟩
         refine (callsIn_wide.2 HC2.out).mono ?_
         clear HC2 c0 c1 c2 c3 c4 c5 d4
         rintro o5 W5 (⟨rfl, hJ5, hk5, hb5⟩ | ⟨rfl, ⟨q, hq, hJ5⟩, hk5⟩)
         · have HJ5 : Hid (J (pre ++ (l.take (k + 1)).flatMap StmtV.pre) W5) := Lib.hid (by
             rw [HTS.out, List.flatMap_append, List.flatMap_singleton, HPE.out]
             simpa [List.append_assoc] using hJ5)
           have HK5 := Lib.hid (HK4.out.trans hk5)
           have HB5 := Lib.hid (HB4.out.trans hb5)
           clear hJ5 hk5 hb5
           gi_wp2
           go_roundw
           case rel => exact ⟨k + 1, by omega, by go_num, HJ5.out, HK5.out, HB5.out⟩
           case measure => simp [intOf]; omega
         · have HQ := Lib.hid (And.intro hq hJ5)
           have HK5 := Lib.hid (HK4.out.trans hk5)
           clear hq hJ5 hk5 hs4 hs3 hs5 HK4 HB4 hszr hj0 hjm hj1 
           gi_wp2
           exact ⟨_, results_tmp rfl _ _ _, .inr ⟨rfl, ⟨q, HQ.out.1, HQ.out.2⟩, HK5.out⟩⟩
       · have HQ := Lib.hid (And.intro hq hJ4)
         have HK4 := Lib.hid (HK3.out.trans hk4)
         clear hq hJ4 hk4
         dsimp only
         repeat (first | go_values | gi_guarded | gi_step | gi_upon)
         refine ⟨fun _ _ => trivial, ?_⟩
         gi_wp2
         exact ⟨_, results_tmp rfl _ _ _, .inr ⟨rfl, ⟨q, HQ.out.1, HQ.out.2⟩, HK4.out⟩⟩
     · have HJ3 := Lib.hid hJ3
       have HK3 := Lib.hid (HK5.out.trans hk3)
       clear hJ3 hk3
       dsimp only
       repeat (first | go_values | gi_guarded | gi_step | gi_upon)
       refine ⟨fun _ _ => trivial, ?_⟩
       repeat (first | go_values | gi_guarded | gi_step | gi_upon)
       refine ⟨fun _ _ => trivial, ?_⟩
       gi_wp2
       exact ⟨_, results_tmp rfl _ _ _, .inr ⟨rfl, ⟨_, by rw [HA.out]; exact ⟨_, by simp [List.append_assoc]; rfl⟩, HJ3.out⟩, HK3.out⟩⟩
   · obtain rfl : k = l.length := by omega
     rw [List.take_length] at hj
     have HJ := Lib.hid hj
     have HK := Lib.hid hkr
     have HB := Lib.hid hbr
     clear hj hkr hbr
     gi_wp2
     exact ⟨_, results_tmp rfl _ _ _, .inl ⟨rfl, HJ.out, HK.out, HB.out⟩⟩
theorem each_stmt {n₀ : Nat} {W0 : World} (s : StmtV) (hr : RdT n₀ W0 s) : EachOk n₀ W0 s.ts s.thn ∧ EachOk n₀ W0 s.os s.els := by
 induction hr with
 | mk s k b n er ex tr th orow el ih1 ih2 => exact ⟨each_list s.ts s.thn ⟨tr, th⟩ ih1, each_list s.os s.els ⟨orow, el⟩ ih2⟩
theorem each_any {n₀ : Nat} {W0 : World} (sp : Sp) (l : List StmtV) (hr : RdTs n₀ W0 sp l) : EachOk n₀ W0 sp l := each_list sp l hr fun s hs => each_stmt s (hr.ok s hs)
set_option maxRecDepth 1000000 in
set_option maxHeartbeats 4000000 in
theorem within_seq {n₀ : Nat} {W0 : World} (sp : Sp) (l : List StmtV) (hr : RdTs n₀ W0 sp l) (n : Nat) (w : World) (Bs : Nat) (hb0 : Below n₀ W0 w) (hn₀ : n₀ ≤ w.heap.size) (hBs : w.heap[Bs]? = some (.cells #[.slice sp.at_ l.length sp.cap] 33 (0, 0))) :
   SeqN Fence.wide n Tryz.prog 165 #[.pointer (some ⟨Bs, 0, none⟩)] (fun x : StmtV => #[x.val]) TW n₀ (fun ys => ys = l.flatMap StmtV.pre) (fun q => q <+: l.flatMap StmtV.pre) (l.flatMap StmtV.pre).length w := by
 intro lr J Jx W hW hJ hJx hY h0
 have hBW : W.heap[Bs]? = some (.cells #[.slice sp.at_ l.length sp.cap] 33 (0, 0)) := (hW.block Bs (Array.getElem?_eq_some_iff.1 hBs).1).trans hBs
 have hEA := each_any sp l hr (l.flatMap StmtV.pre) [] [] lr (W.heap.size + 1) W.heap.size W.heap.size J Jx
 have HEA := Lib.hid hEA
 have HY : Hid (∀ q x W1, J q W1 → q.length < (l.flatMap StmtV.pre).length → q ++ [x] <+: l.flatMap StmtV.pre → YieldAt Fence.wide 4 Tryz.prog lr #[x.val] W1 fun e W' =>
     (e = .returned (.bool true) ∧ J (q ++ [x]) W' ∧ KeepsT TW W.heap.size W1 W' ∧ Below n₀ W1 W') ∨ (e = .returned (.bool false) ∧ Jx (q ++ [x]) W' ∧ KeepsT TW W.heap.size W1 W')) := Lib.hid fun q x W1 h1 h2 h3 => YieldAt.any 4 (hY q x W1 h1 h2 h3)
 have HB0 := Lib.hid (hb0.trans (hW.mono hn₀))
 have HBW := Lib.hid hBW
 have hsz := hW.size
 have hbl := (Array.getElem?_eq_some_iff.1 hBW).1
 obtain ⟨hy1, hz1, hs1, hb1⟩ := alloc2 W (.cells #[.func (.yield lr) #[] #[]] 58) (.cells #[.nilFunc] 201)
 have z0 := one_cell hz1
 have zf : ((W.alloc (.cells #[.func (.yield lr) #[] #[]] 58)).alloc (.cells #[.nilFunc] 201)).frozen? ⟨W.heap.size + 1, 0, none⟩ = false := by unfold World.frozen?; rw [hz1]; rfl
 obtain ⟨hy2, hz2, hs2, hb2⟩ := alloc2 W (.cells #[.func (.yield lr) #[] #[]] 58) (.cells #[.func (.func 166) #[] #[.pointer (some ⟨W.heap.size, 0, none⟩), .pointer (some ⟨W.heap.size + 1, 0, none⟩)]] 201)
 have c0 := one_cell ((hb2.block Bs hbl).trans hBW)
 have HC := Lib.hid (HEA.out _ (by simp) hJ hJx HY.out hz2 hy2 (by omega) (by omega) (HB0.out.trans (hb2.mono (by omega))) (hJ.alloc _ (hJ.alloc _ h0)))
 clear hY hEA hb0 hBs hy2 hz2 hs2 hy1 hz1 hs1 hb1
 refine callsIn_of_wp_marks Tryz.func165 rfl trivial ?_ rfl
 simp only [Tryz.ntmps165, List.size_toArray, List.length_cons, List.length_nil, Nat.reduceAdd, Nat.reduceSub, Array.replicate_succ, Array.replicate_zero, List.push_toArray, List.append_toArray, List.nil_append, List.cons_append]
 gi_wp2
 refine ⟨trivial, fun h => (by cases h), ?_⟩
 refine (callsIn_wide.2 HC.out).mono ?_
 rintro o W4 (⟨rfl, hJ4, hk4, hb4⟩ | ⟨rfl, ⟨q, hq, hJ4⟩, hk4⟩)
 · have HJ4 := Lib.hid hJ4
   clear hJ4 hk4 hb4
   gi_wp2
   exact ⟨_, results_none rfl _ _ _, ⟨_, rfl⟩, .inl ⟨_, rfl, by simpa using HJ4.out⟩⟩
 · have HQ := Lib.hid (And.intro hq hJ4)
   clear hq hJ4 hk4
   gi_wp2
   exact ⟨_, results_none rfl _ _ _, ⟨_, rfl⟩, .inr ⟨q, HQ.out.1, HQ.out.2⟩⟩
theorem within_any (sp : Sp) (n : Nat) (w : World) :
   Calls Tryz.prog 105 #[.slice sp.at_ n sp.cap] w fun o w' => o = .returned (.func (.func 165) #[] #[.pointer (some ⟨w.heap.size, 0, none⟩)]) ∧ w' = w.alloc (.cells #[.slice sp.at_ n sp.cap] 33) := by
 go_enter Tryz.func105, Tryz.ntmps105
 go_wp2
 go_ret
 exact ⟨rfl, rfl⟩
end Go.Proofs.YtepacjkacjabbaaGreatDoor
namespace Go.Proofs.YtepacjkacjabbaaGreatDoor
open Go Go.RowKit Go.Maps
attribute [local go_sem] Oper.semAt_some
theorem KeepsT.grownU {T : TypeId → Bool} {B : Nat} {W W' : World} {row : Option Nat} {t : TypeId} (hg : W.grownBy W' row) (hr : ∀ r, row = some r → ∃ cs fr, W.heap[r]? = some (.cells cs t fr)) (ht : T t = false) : KeepsT T B W W' :=
 ⟨hg.size, fun k o _ hk ho => (hg.block k (Array.getElem?_eq_some_iff.1 hk).1 (fun e => by
   obtain ⟨cs, fr, h⟩ := hr k e.symm
   rw [h] at hk; cases hk; cases ho)).trans hk, fun k cs t' fr hk h2 => (hg.block k (Array.getElem?_eq_some_iff.1 hk).1 (fun e => by
   obtain ⟨cs', fr', h⟩ := hr k e.symm
   rw [h] at hk; cases hk; rw [ht] at h2; cases h2)).trans hk⟩
theorem u8_inf : (Tryz.prog.info? 5).map (fun i => (i.zero, i.size, i.bytes)) = some (some (.int .u8 0), 1, 1) := by kernel_rfl
def encK (x : Int) : List Value := [.int .u8 x]
def opsF (l : List StmtV) : List Int := (l.filter fun s => decide (s.kind = 3 ∨ s.kind = 4 ∨ s.kind = 5)).map StmtV.kind
theorem opsF_eq (l : List StmtV) : opsF (l.flatMap StmtV.pre) = opsK l := rfl
theorem opsF_yes {l : List StmtV} {s : StmtV} (h : s.kind = 3 ∨ s.kind = 4 ∨ s.kind = 5) : opsF (l ++ [s]) = opsF l ++ [s.kind] := by
 unfold opsF
 rw [List.filter_append, List.map_append]
 simp [h]
theorem opsF_no {l : List StmtV} {s : StmtV} (h : ¬(s.kind = 3 ∨ s.kind = 4 ∨ s.kind = 5)) : opsF (l ++ [s]) = opsF l := by
 unfold opsF
 rw [List.filter_append, List.map_append]
 simp [h]
theorem opsF_len (l : List StmtV) : (opsF l).length ≤ l.length := by
 unfold opsF
 rw [List.length_map]
 exact List.length_filter_le _ _
theorem un_few {p : ProgV} (hr : ReadyP p) (hw : weightU p ≤ 20000) : heftL (unTs p.work) ≤ 20000 ∧ heftL (unTs p.recover) ≤ 20000 := by
 have hl := hr.right.loops
 have h1 := wt_few p.work hl.1
 have h2 := wt_few p.recover hl.2
 unfold weightU at hw
 rcases wt_list hl.1 with ⟨e1, k1⟩ | ⟨e1, k1⟩ <;> rcases wt_list hl.2 with ⟨e2, k2⟩ | ⟨e2, k2⟩ <;> omega
theorem flat_few (l : List StmtV) : (l.flatMap StmtV.pre).length ≤ heftL l := by
 have h1 := nodes_le (l.flatMap StmtV.pre)
 have h2 : (l.flatMap StmtV.pre).length ≤ nodesT (l.flatMap StmtV.pre) := by
   unfold nodesT
   exact len_le_sum _ (fun s => by omega) _
 unfold heftL
 omega
set_option maxRecDepth 10000000 in
set_option maxHeartbeats 64000000 in
theorem ops_any (w : World) (p : ProgV) (hp : RdP w.heap.size w p) (hn0 : 0 < w.heap.size) (hmx : MxAt w) (hr : ReadyP p) (hi : p.inits = []) (hwt : weightU p ≤ 20000) (hdt : depthU p ≤ 1000) :
   Calls Tryz.prog 46 #[.agg p.arr] w fun o w' => ∃ sp : Sp, o = .returned (.tuple #[.slice sp.at_ (opsK (unTs p.work)).length sp.cap, .int .i64 0]) ∧ RowOf w'.heap.size w' sp 1 encK (opsK (unTs p.work)) ∧ Below w.heap.size w w' := by
 have hb1 : Below w.heap.size w (w.alloc (.cells p.arr 35)) := (Below.refl _ _).alloc (Nat.le_refl _) _
 have hB := World.alloc_heap_new w (.cells p.arr 35)
 have HUN := Lib.hid (unroll_any _ p (hp.on hb1) (Nat.lt_of_lt_of_le hn0 hb1.size) (hmx.below hb1 hn0) hr hi hwt hdt)
 have HFW := Lib.hid (un_few hr hwt)
 have harrs := arr_size p
 have HB := Lib.hid hB
 have HB1 := Lib.hid hb1
 clear hB hb1 hp hmx hr hi hwt hdt
 generalize p.arr = arr at *
 refine (callsIn_wide (n := 5)).1 ?_
 refine callsIn_of_wp_marks Tryz.func46 rfl trivial ?_ rfl
 simp only [Tryz.ntmps46, List.size_toArray, List.length_cons, List.length_nil, Nat.reduceAdd, Nat.reduceSub, Array.replicate_succ, Array.replicate_zero, List.push_toArray, List.append_toArray, List.nil_append, List.cons_append]
 refine wpIn_wide.2 ?_
 go_wp2_with (first | (refine wpList_load_row rfl 35 _ rfl w.heap.size rfl 35 _ (0, 0) _ HB.out Tryz.underlying35 rfl harrs ?_) | fail)
 refine HUN.out.mono ?_
 rintro o w2 ⟨q, rfl, hbare, hrd, hb2⟩
 have hq0 := World.alloc_heap_new w2 (.cells zeroP.arr 35)
 have HQ0 := Lib.hid hq0
 have HA2 : Hid (Below w2.heap.size w2 (w2.alloc (.cells zeroP.arr 35))) := Lib.hid ((Below.refl _ _).alloc (Nat.le_refl _) _)
 have HBARE := Lib.hid hbare
 have HRD := Lib.hid hrd
 have HB2 := Lib.hid (HB1.out.trans (hb2.mono HB1.out.size))
 clear hq0 hbare hrd hb2 HUN
 go_upto_region 4 with (first
   | (refine wpList_allocRow (t := 35) rfl rfl (run_zeroP _) ?_)
   | (refine wpList_store_row rfl 35 _ _ rfl w2.heap.size q.arr (by rfl) (by rfl) 35 zeroP.arr HQ0.out (arr_size _) (by kernel_rfl) (arr_one _) ?_)
   | fail)
 have hb3 : Below w2.heap.size w2 ((w2.alloc (.cells zeroP.arr 35)).setRow w2.heap.size q.arr) := below_setRow HA2.out (Nat.le_refl _)
 have hq3 : Bx w2.heap.size ((w2.alloc (.cells zeroP.arr 35)).setRow w2.heap.size q.arr) q := setRow_heap _ _ _ _ _ _ HQ0.out
 have hs3 : ((w2.alloc (.cells zeroP.arr 35)).setRow w2.heap.size q.arr).heap.size = w2.heap.size + 1 := by rw [size_setRow]; simp
 generalize (w2.alloc (.cells zeroP.arr 35)).setRow w2.heap.size q.arr = w3 at *
 have hb4 : Below w3.heap.size w3 (w3.alloc (.cells #[.slice none 0 0] 22)) := (Below.refl _ _).alloc (Nat.le_refl _) _
 have hx4 : Boxed (w3.alloc (.cells #[.slice none 0 0] 22)) w3.heap.size 22 (.slice none 0 0) := Boxed.new w3 _ _
 have hq4 : Bx w2.heap.size (w3.alloc (.cells #[.slice none 0 0] 22)) q := hq3.on hb4
 have c14 := hq4.cell 14 rfl
 simp only [Sp.val] at c14
 have hs4 : (w3.alloc (.cells #[.slice none 0 0] 22)).heap.size = w3.heap.size + 1 := by simp
 have HX4 := Lib.hid hx4
 have HB4 := Lib.hid (hb3.trans (hb4.mono (by omega)))
 clear hb3 hq3 hb4 hx4 hq4
 go_wp2_with fail
 generalize w3.alloc (.cells #[.slice none 0 0] 22) = w4 at *
 refine (within_any q.ws q.work.length w4).mono ?_
 rintro o w5 ⟨rfl, rfl⟩
 have hb5 : Below w4.heap.size w4 (w4.alloc (.cells #[.slice q.ws.at_ q.work.length q.ws.cap] 33)) := (Below.refl _ _).alloc (Nat.le_refl _) _
 have hx5 := World.alloc_heap_new w4 (.cells #[.slice q.ws.at_ q.work.length q.ws.cap] 33)
 have hs5 : (w4.alloc (.cells #[.slice q.ws.at_ q.work.length q.ws.cap] 33)).heap.size = w4.heap.size + 1 := by simp
 have HX5 := Lib.hid hx5
 have HB5 := Lib.hid (HB4.out.trans (hb5.mono (by omega)))
 have HV5 := Lib.hid (HX4.out.alloc (.cells #[.slice q.ws.at_ q.work.length q.ws.cap] 33))
 clear hb5 hx5 HX4 HB4 c14
 generalize hw5 : w4.alloc (.cells #[.slice q.ws.at_ q.work.length q.ws.cap] 33) = w5 at *
 go_wp2_with fail
 have hbw : q.work.map bareT = (unTs p.work).map bareT := congrArg ProgV.work HBARE.out
 have hfw : (q.work.flatMap StmtV.pre).length ≤ 20000 := by
   have h1 := flat_few q.work
   have h2 : heftL q.work = heftL (unTs p.work) := by rw [← heftL_bare, hbw, heftL_bare]
   have h3 := HFW.out.1
   omega
 have HOPS : Hid (opsK q.work = opsK (unTs p.work)) := Lib.hid (opsK_same hbw)
 have HSEQ := Lib.hid fun n => within_seq q.ws q.work HRD.out.work n w5 (w2.heap.size + 1 + 1) HB5.out (by have := HB5.out.size; omega) (by have h := HX5.out; rw [hs4, hs3] at h; exact h)
 have hsz5 : w5.heap.size = w2.heap.size + 3 := by rw [hs5, hs4, hs3]
 have HV5' : Hid (Boxed w5 (w2.heap.size + 1) 22 (.slice none 0 0)) := Lib.hid (by have h := HV5.out; rw [hs3] at h; exact h)
 obtain ⟨i0, hi, hz0, hz1, hz2⟩ := info_of u8_inf
 clear HX5 HV5 hbw hw5 hs3 hs4 hs5
 refine (wpIn_wide (n := 5)).1 ?_
 refine wpIn_rangeFunc_net (T := TW) (n₀ := w2.heap.size) rfl (fun h => by cases h) (gf := 165) (lb := #[.pointer (some ⟨w2.heap.size + 1 + 1, 0, none⟩)]) rfl trivial (enters_of Tryz.func165 (by kernel_rfl) rfl)
   (HSEQ.out _) (by omega) (Below.refl _ _) (fun _ => rfl)
   (fun pre W => ∃ v, Boxed W (w2.heap.size + 1) 22 v ∧ OwnL w2.heap.size W 5 1 encK v (opsF pre) ∧ Below w2.heap.size w2 W ∧ w5.heap.size ≤ W.heap.size)
   (fun _ _ _ => False)
   ?hI ?hIx ⟨_, HV5'.out, OwnL.nil, HB5.out, Nat.le_refl _⟩
   (fun y a' W => ∃ b7, W.heap[b7]? = some (.cells #[.int .u8 y.kind, .string y.name, .slice y.es.at_ y.exprs.length y.es.cap, .int .i64 y.bound, .slice y.ts.at_ y.thn.length y.ts.cap, .slice y.os.at_ y.els.length y.os.cap] 43 (0, 0)) ∧ a' = { tmps := #[.agg arr, .pointer (some ⟨w.heap.size, 0, none⟩), .slice none 0 0, .int .i64 0, .pointer (some ⟨w2.heap.size, 0, none⟩), .int .i64 0, .pointer (some ⟨w2.heap.size + 1, 0, none⟩), .pointer (some ⟨b7, 0, none⟩), .tuple #[.agg q.arr, .int .i64 0], .agg arr, .tuple #[.agg q.arr, .int .i64 0], .agg q.arr, .int .i64 0, .int .i64 0, .bool false, undef, .pointer (some ⟨w2.heap.size, 14, none⟩), .slice q.ws.at_ q.work.length q.ws.cap, .func (.func 165) #[] #[.pointer (some ⟨w2.heap.size + 1 + 1, 0, none⟩)], .agg #[.int .u8 y.kind, .string y.name, .slice y.es.at_ y.exprs.length y.es.cap, .int .i64 y.bound, .slice y.ts.at_ y.thn.length y.ts.cap, .slice y.os.at_ y.els.length y.os.cap], undef, undef, undef, undef, undef, undef, undef, undef, undef, undef, undef, undef], defers := [] })
   ?hAx ?assign ?body ?done ?stop
 case hI =>
   rintro s X' Y rw ⟨v, h1, h2, h3, h4⟩ hg hr
   have hcl : ∀ (k : Nat) (cs : Array Value) (t : TypeId) (fr : Nat × Nat), X'.heap[k]? = some (Obj.cells cs t fr) → Y.heap[k]? = X'.heap[k]? := fun k cs t fr hk => hg.block k (Array.getElem?_eq_some_iff.1 hk).1 (fun e => by
     obtain ⟨_, o, ho, hc⟩ := hr k e.symm
     rw [hk] at ho
     cases ho
     cases hc)
   exact ⟨v, (hcl _ _ _ _ h1).trans h1, h2.kept fun k cs fr _ hk => hcl k cs _ fr hk, h3.grown hg h3.size (fun q hq => by have := (hr q hq).1; omega), Nat.le_trans h4 hg.size⟩
 case hIx => rintro c s X' Y rw h; cases h
 case hAx =>
   rintro y a' _ X' Y rw ⟨b7, h1, h2⟩ hg hr
   refine ⟨b7, (hg.block b7 (Array.getElem?_eq_some_iff.1 h1).1 (fun e' => ?_)).trans h1, h2⟩
   obtain ⟨_, o', ho, hc⟩ := hr b7 e'.symm
   rw [h1] at ho
   cases ho
   cases hc
 case assign =>
   rintro l2 pre y Wc K ⟨v, h1, h2, h3, h4⟩ hK
   simp only [StmtV.val, Sp.val] at hK ⊢
   have hba : Below Wc.heap.size Wc (Wc.alloc (.cells #[.int .u8 y.kind, .string y.name, .slice y.es.at_ y.exprs.length y.es.cap, .int .i64 y.bound, .slice y.ts.at_ y.thn.length y.ts.cap, .slice y.os.at_ y.els.length y.os.cap] 43)) := (Below.refl _ Wc).alloc (Nat.le_refl _) _
   gi_wp2
   exact hK _ _ (KeepsT.of_below hba) (hba.mono (by omega)) ⟨v, (hba.block _ (Array.getElem?_eq_some_iff.1 h1).1).trans h1, h2.on hba, h3.trans (hba.mono (by omega)), Nat.le_trans h4 hba.size⟩ ⟨_, World.alloc_heap_new _ _, rfl⟩
 case body =>
   rintro l2 pre y a' Wc hl2 ⟨v, h1, h2, h3, h4⟩ ⟨b7, hb7, rfl⟩ hlen hsp
   obtain ⟨q0, q1, q2, q3, q4, q5⟩ := six_cells hb7
   obtain ⟨A, cc, rfl⟩ := h2.form
   have cB := one_cell h1
   have hol := opsF_len pre
   have hpl : pre.length ≤ 20000 := by omega
   have hba : Below Wc.heap.size Wc (Wc.alloc (.cells #[.int .u8 y.kind] 5)) := (Below.refl _ Wc).alloc (Nat.le_refl _) _
   have hnew := World.alloc_heap_new Wc (.cells #[.int .u8 y.kind] 5)
   have HCELL : Hid (∀ j u, (encK y.kind)[j]? = some u → (Wc.alloc (.cells #[.int .u8 y.kind] 5)).cell? ((⟨Wc.heap.size, 0, none⟩ : Addr).add j) = some u) := Lib.hid fun j u hj => by
     rw [Addr.add_lit]
     simp only [World.cell?, Nat.zero_add, hnew]
     have e2 : (#[Value.int .u8 y.kind] : Array Value)[j]? = some u := by simpa [encK] using hj
     exact e2
   have HONE : Hid (∀ u ∈ encK y.kind, u.oneCell' = true) := Lib.hid (by intro u hu; simp [encK] at hu; rw [hu]; rfl)
   have HSZ : Hid (w2.heap.size ≤ Wc.heap.size) := Lib.hid (by omega)
   have HR2 := Lib.hid (h2.on hba)
   have HBX := Lib.hid ((hba.block _ (Array.getElem?_eq_some_iff.1 h1).1).trans h1)
   have HBA2 := Lib.hid hba
   have H3 := Lib.hid h3
   have H2 := Lib.hid h2
   have H1 := Lib.hid h1
   have H4 := Lib.hid h4
   by_cases hm : y.kind = 3 ∨ y.kind = 4 ∨ y.kind = 5
   · have HM := Lib.hid hm
     clear h1 h2 h3 hb7 hba hnew hlen hsp q1 q2 q3 q4 q5 h4
     rcases hm with k | k | k
     · have g3 : (y.kind == 3) = true := by simp [k]
       clear k
       gi_wp2_with (first | (gi_at_builtin; refine wpListIn_append_own_at _ rfl _ _ 22 rfl w2.heap.size 5 i0 (.int .u8 0) 1 1 Tryz.underlying22 hi hz0 hz1 hz2 rfl (by decide) _ _ _ rfl HR2.out ⟨Wc.heap.size, 0, none⟩ 1 1 (encK y.kind) rfl rfl HCELL.out HONE.out (by simp only [maxLen]; omega) (by omega) (by have := HSZ.out; simp; omega) ?_) | fail)
       intro v2 wz hown2 hg2 hnil hat
       have how : OwnL w2.heap.size wz 5 1 encK v2 (opsF (pre ++ [y])) := by
         rw [opsF_yes HM.out]
         unfold OwnL
         rw [List.length_append, List.flatMap_append]
         exact hown2
       obtain ⟨A2, c2, rfl⟩ := how.form
       have HOW := Lib.hid how
       have hne : some (w2.heap.size + 1) ≠ (Value.slice A (opsF pre).length cc).ownBlock := fun e => by
         obtain ⟨_, cs, fr, hh⟩ := HR2.out.own_type e.symm
         rw [HBX.out] at hh; cases hh
       have hlt := (Array.getElem?_eq_some_iff.1 HBX.out).1
       have hbz := (hg2.block _ hlt hne).trans HBX.out
       have hk2 : KeepsT TW w5.heap.size Wc wz := (KeepsT.of_below HBA2.out).trans (KeepsT.grownU hg2 (fun r e => (HR2.out.own_type e).2) rfl)
       have hl2 : Below w2.heap.size Wc wz := HR2.out.below hg2 (Nat.le_refl _) (HBA2.out.mono HSZ.out) (Nat.le_trans HSZ.out HBA2.out.size)
       have f2 : wz.frozen? ⟨w2.heap.size + 1, 0, none⟩ = false := by simp [World.frozen?, hbz]
       have cz := one_cell hbz
       have HK2 := Lib.hid hk2
       have HL2 := Lib.hid hl2
       have HBZ := Lib.hid hbz
       have HSG := Lib.hid hg2.size
       clear how hown2 hg2 hnil hat hne hbz hk2 hl2
       gi_wp2
       exact ⟨HK2.out.trans (KeepsT.set (a := ⟨w2.heap.size + 1, 0, none⟩) HBZ.out rfl _), HL2.out.setCell (p := ⟨w2.heap.size + 1, 0, none⟩) (by show w2.heap.size ≤ w2.heap.size + 1; omega) _, _, (show Boxed wz (w2.heap.size + 1) 22 _ from HBZ.out).set _,
         HOW.out.kept (fun k cs fr _ hk => Below.heap_setCell _ _ _ k (fun e => by
           have e2 : k = w2.heap.size + 1 := e
           rw [e2, HBZ.out] at hk; cases hk)),
         H3.out.trans (HL2.out.setCell (p := ⟨w2.heap.size + 1, 0, none⟩) (by show w2.heap.size ≤ w2.heap.size + 1; omega) _), by have := HSG.out; have := HBA2.out.size; have := H4.out; simp only [World.size_setCell]; omega⟩
     · have g3 : (y.kind == 3) = false := by simp [k]
       have g4 : (y.kind == 4) = true := by simp [k]
       clear k
       gi_wp2_with (first | (gi_at_builtin; refine wpListIn_append_own_at _ rfl _ _ 22 rfl w2.heap.size 5 i0 (.int .u8 0) 1 1 Tryz.underlying22 hi hz0 hz1 hz2 rfl (by decide) _ _ _ rfl HR2.out ⟨Wc.heap.size, 0, none⟩ 1 1 (encK y.kind) rfl rfl HCELL.out HONE.out (by simp only [maxLen]; omega) (by omega) (by have := HSZ.out; simp; omega) ?_) | fail)
       intro v2 wz hown2 hg2 hnil hat
       have how : OwnL w2.heap.size wz 5 1 encK v2 (opsF (pre ++ [y])) := by
         rw [opsF_yes HM.out]
         unfold OwnL
         rw [List.length_append, List.flatMap_append]
         exact hown2
       obtain ⟨A2, c2, rfl⟩ := how.form
       have HOW := Lib.hid how
       have hne : some (w2.heap.size + 1) ≠ (Value.slice A (opsF pre).length cc).ownBlock := fun e => by
         obtain ⟨_, cs, fr, hh⟩ := HR2.out.own_type e.symm
         rw [HBX.out] at hh; cases hh
       have hlt := (Array.getElem?_eq_some_iff.1 HBX.out).1
       have hbz := (hg2.block _ hlt hne).trans HBX.out
       have hk2 : KeepsT TW w5.heap.size Wc wz := (KeepsT.of_below HBA2.out).trans (KeepsT.grownU hg2 (fun r e => (HR2.out.own_type e).2) rfl)
       have hl2 : Below w2.heap.size Wc wz := HR2.out.below hg2 (Nat.le_refl _) (HBA2.out.mono HSZ.out) (Nat.le_trans HSZ.out HBA2.out.size)
       have f2 : wz.frozen? ⟨w2.heap.size + 1, 0, none⟩ = false := by simp [World.frozen?, hbz]
       have cz := one_cell hbz
       have HK2 := Lib.hid hk2
       have HL2 := Lib.hid hl2
       have HBZ := Lib.hid hbz
       have HSG := Lib.hid hg2.size
       clear how hown2 hg2 hnil hat hne hbz hk2 hl2
       gi_wp2
       exact ⟨HK2.out.trans (KeepsT.set (a := ⟨w2.heap.size + 1, 0, none⟩) HBZ.out rfl _), HL2.out.setCell (p := ⟨w2.heap.size + 1, 0, none⟩) (by show w2.heap.size ≤ w2.heap.size + 1; omega) _, _, (show Boxed wz (w2.heap.size + 1) 22 _ from HBZ.out).set _,
         HOW.out.kept (fun k cs fr _ hk => Below.heap_setCell _ _ _ k (fun e => by
           have e2 : k = w2.heap.size + 1 := e
           rw [e2, HBZ.out] at hk; cases hk)),
         H3.out.trans (HL2.out.setCell (p := ⟨w2.heap.size + 1, 0, none⟩) (by show w2.heap.size ≤ w2.heap.size + 1; omega) _), by have := HSG.out; have := HBA2.out.size; have := H4.out; simp only [World.size_setCell]; omega⟩
     · have g3 : (y.kind == 3) = false := by simp [k]
       have g4 : (y.kind == 4) = false := by simp [k]
       have g5 : (y.kind == 5) = true := by simp [k]
       clear k
       gi_wp2_with (first | (gi_at_builtin; refine wpListIn_append_own_at _ rfl _ _ 22 rfl w2.heap.size 5 i0 (.int .u8 0) 1 1 Tryz.underlying22 hi hz0 hz1 hz2 rfl (by decide) _ _ _ rfl HR2.out ⟨Wc.heap.size, 0, none⟩ 1 1 (encK y.kind) rfl rfl HCELL.out HONE.out (by simp only [maxLen]; omega) (by omega) (by have := HSZ.out; simp; omega) ?_) | fail)
       intro v2 wz hown2 hg2 hnil hat
       have how : OwnL w2.heap.size wz 5 1 encK v2 (opsF (pre ++ [y])) := by
         rw [opsF_yes HM.out]
         unfold OwnL
         rw [List.length_append, List.flatMap_append]
         exact hown2
       obtain ⟨A2, c2, rfl⟩ := how.form
       have HOW := Lib.hid how
       have hne : some (w2.heap.size + 1) ≠ (Value.slice A (opsF pre).length cc).ownBlock := fun e => by
         obtain ⟨_, cs, fr, hh⟩ := HR2.out.own_type e.symm
         rw [HBX.out] at hh; cases hh
       have hlt := (Array.getElem?_eq_some_iff.1 HBX.out).1
       have hbz := (hg2.block _ hlt hne).trans HBX.out
       have hk2 : KeepsT TW w5.heap.size Wc wz := (KeepsT.of_below HBA2.out).trans (KeepsT.grownU hg2 (fun r e => (HR2.out.own_type e).2) rfl)
       have hl2 : Below w2.heap.size Wc wz := HR2.out.below hg2 (Nat.le_refl _) (HBA2.out.mono HSZ.out) (Nat.le_trans HSZ.out HBA2.out.size)
       have f2 : wz.frozen? ⟨w2.heap.size + 1, 0, none⟩ = false := by simp [World.frozen?, hbz]
       have cz := one_cell hbz
       have HK2 := Lib.hid hk2
       have HL2 := Lib.hid hl2
       have HBZ := Lib.hid hbz
       have HSG := Lib.hid hg2.size
       clear how hown2 hg2 hnil hat hne hbz hk2 hl2
       gi_wp2
       exact ⟨HK2.out.trans (KeepsT.set (a := ⟨w2.heap.size + 1, 0, none⟩) HBZ.out rfl _), HL2.out.setCell (p := ⟨w2.heap.size + 1, 0, none⟩) (by show w2.heap.size ≤ w2.heap.size + 1; omega) _, _, (show Boxed wz (w2.heap.size + 1) 22 _ from HBZ.out).set _,
         HOW.out.kept (fun k cs fr _ hk => Below.heap_setCell _ _ _ k (fun e => by
           have e2 : k = w2.heap.size + 1 := e
           rw [e2, HBZ.out] at hk; cases hk)),
         H3.out.trans (HL2.out.setCell (p := ⟨w2.heap.size + 1, 0, none⟩) (by show w2.heap.size ≤ w2.heap.size + 1; omega) _), by have := HSG.out; have := HBA2.out.size; have := H4.out; simp only [World.size_setCell]; omega⟩
   · have HM := Lib.hid hm
     have g3 : (y.kind == 3) = false := by simp; omega
     have g4 : (y.kind == 4) = false := by simp; omega
     have g5 : (y.kind == 5) = false := by simp; omega
     clear h1 h2 h3 hb7 hba hnew hlen hsp q1 q2 q3 q4 q5 h4 hm HR2 HBX
     gi_wp2
     exact ⟨KeepsT.refl _ _ _, Below.refl _ _, _, H1.out, by rw [opsF_no HM.out]; exact H2.out, H3.out, H4.out⟩
 case done =>
   rintro Dq ys Wd hD rfl ⟨v, h1, h2, h3, h4⟩ hK
   have cB := one_cell h1
   obtain ⟨A, cc, rfl⟩ := h2.form
   have HKD := Lib.hid hK
   have H2 := Lib.hid h2
   have H3 := Lib.hid h3
   clear hK h1 h2 h3
   go_wp2_with fail
   refine ⟨by simp, .inl ⟨_, _, rfl, run_takeDeferred HKD.out, ?_⟩⟩
   have own := H2.out.kept (W' := Wd.putObj Dq (.deferred none)) (fun k cs fr _ hk => World.putObj_heap_other (fun e => by rw [e, HKD.out] at hk; cases hk))
   have hfl := opsF_len (q.work.flatMap StmtV.pre)
   obtain ⟨sp, e, hrw, _⟩ := own.row (fun _ => rfl) (by omega)
   have hops := HOPS.out
   rw [← opsF_eq] at hops
   unfold Sp.val at e
   refine ⟨_, results_tmp2 rfl _ _ _, sp, ?_, ?_, HB2.out.trans ((H3.out.trans (below_put _ _ (by omega))).mono HB2.out.size)⟩
   · rw [← hops]
     exact congrArg (fun v => Ending.returned (.tuple #[v, .int .i64 0])) e
   · rw [← hops]
     exact hrw
 case stop => rintro Dq c pre Wd hD _ h; cases h
end Go.Proofs.YtepacjkacjabbaaGreatDoor
