import Derived.Test.YtepacjkacjabbaaGreatDoorKAG
import Derived.Test.YtepacjkacjabbaaGreatDoorKAF
import Derived.RegionTactic
import Derived.BigQuiet
import Derived.Deep.QuietTactic
import Derived.Deep.CutRange
import Derived.Deep.CutBlock
import Derived.Deep.DeepCutAuto
import Derived.Deep.RegionWith
import Derived.StillTailTactics
import Derived.Outline
import Derived.Carry
import Derived.Test.YtepacjkacjabbaaGreatDoorKAE
import Derived.Test.YtepacjkacjabbaaGreatDoorKAK
import Derived.Laws.Rows
import Derived.Laws.Tables
import Derived.Laws.CopyOwn
namespace Go.Proofs.YtepacjkacjabbaaGreatDoor
open Go
mutual
def eqX : ExprV → ExprV → Bool
 | .mk k o v w n _ l, b => decide (k = b.kind ∧ o = b.op ∧ v = b.value ∧ w = b.width ∧ n = b.name) && eqXs l b.subs
def eqXs : List ExprV → List ExprV → Bool
 | [], l => l.isEmpty
 | a :: l, m => match m with
   | b :: m => eqX a b && eqXs l m
   | [] => false
end
mutual
def eqT : StmtV → StmtV → Bool
 | .mk k n _ ex bd _ th _ el, b => decide (k = b.kind ∧ n = b.name ∧ bd = b.bound) && (eqXs ex b.exprs && (eqTs th b.thn && eqTs el b.els))
def eqTs : List StmtV → List StmtV → Bool
 | [], l => l.isEmpty
 | a :: l, m => match m with
   | b :: m => eqT a b && eqTs l m
   | [] => false
end
theorem eqXs_of {l : List ExprV} (ih : ∀ a ∈ l, ∀ b, eqX a b = true ↔ bareX a = bareX b) : ∀ m, eqXs l m = true ↔ l.map bareX = m.map bareX := by
 induction l with
 | nil => intro m; rw [eqXs]; cases m <;> simp
 | cons a l ihl =>
   intro m
   cases m with
   | nil => simp [eqXs]
   | cons b m =>
     rw [eqXs, Bool.and_eq_true, ih a (List.mem_cons_self ..), ihl fun x hx => ih x (List.mem_cons_of_mem _ hx), List.map_cons, List.map_cons, List.cons.injEq]
theorem eqX_iff (a : ExprV) : ∀ b, eqX a b = true ↔ bareX a = bareX b := by
 induction a using ExprV.ind with
 | h k o v w n sp l ih =>
   intro b
   rw [eqX, Bool.and_eq_true, decide_eq_true_eq, eqXs_of ih]
   obtain ⟨k', o', v', w', n', sp', l'⟩ := b
   rw [bareX_mk, bareX_mk]
   show (k = k' ∧ o = o' ∧ v = v' ∧ w = w' ∧ n = n') ∧ l.map bareX = l'.map bareX ↔ _
   rw [ExprV.mk.injEq]
   constructor
   · rintro ⟨⟨rfl, rfl, rfl, rfl, rfl⟩, h⟩; exact ⟨rfl, rfl, rfl, rfl, rfl, rfl, h⟩
   · rintro ⟨rfl, rfl, rfl, rfl, rfl, _, h⟩; exact ⟨⟨rfl, rfl, rfl, rfl, rfl⟩, h⟩
theorem eqXs_iff (l m : List ExprV) : eqXs l m = true ↔ l.map bareX = m.map bareX := eqXs_of (fun a _ => eqX_iff a) m
theorem eqTs_of {l : List StmtV} (ih : ∀ a ∈ l, ∀ b, eqT a b = true ↔ bareT a = bareT b) : ∀ m, eqTs l m = true ↔ l.map bareT = m.map bareT := by
 induction l with
 | nil => intro m; rw [eqTs]; cases m <;> simp
 | cons a l ihl =>
   intro m
   cases m with
   | nil => simp [eqTs]
   | cons b m =>
     rw [eqTs, Bool.and_eq_true, ih a (List.mem_cons_self ..), ihl fun x hx => ih x (List.mem_cons_of_mem _ hx), List.map_cons, List.map_cons, List.cons.injEq]
theorem eqT_iff (a : StmtV) : ∀ b, eqT a b = true ↔ bareT a = bareT b := by
 induction a using StmtV.ind with
 | h k n es ex bd ts th os el i1 i2 =>
   intro b
   rw [eqT, Bool.and_eq_true, Bool.and_eq_true, Bool.and_eq_true, decide_eq_true_eq, eqXs_iff, eqTs_of i1, eqTs_of i2]
   obtain ⟨k', n', es', ex', bd', ts', th', os', el'⟩ := b
   rw [bareT_mk, bareT_mk]
   show (k = k' ∧ n = n' ∧ bd = bd') ∧ ex.map bareX = ex'.map bareX ∧ th.map bareT = th'.map bareT ∧ el.map bareT = el'.map bareT ↔ _
   rw [StmtV.mk.injEq]
   constructor
   · rintro ⟨⟨rfl, rfl, rfl⟩, h1, h2, h3⟩; exact ⟨rfl, rfl, rfl, h1, rfl, rfl, h2, rfl, h3⟩
   · rintro ⟨rfl, rfl, _, h1, rfl, _, h2, _, h3⟩; exact ⟨⟨rfl, rfl, rfl⟩, h1, h2, h3⟩
theorem eqTs_iff (l m : List StmtV) : eqTs l m = true ↔ l.map bareT = m.map bareT := eqTs_of (fun a _ => eqT_iff a) m
def eqI (x y : InitV) : Bool := decide (x.block = y.block) && eqX x.value y.value
def eqL {α : Type} (f : α → α → Bool) : List α → List α → Bool
 | [], [] => true
 | a :: l, b :: m => f a b && eqL f l m
 | _, _ => false
def eqD (x y : DeclV) : Bool := decide (x.name = y.name ∧ x.width = y.width ∧ x.size = y.size)
def eqQ (x y : ProcV) : Bool := decide (x.name = y.name) && (eqL eqD x.params y.params && eqTs x.body y.body)
end Go.Proofs.YtepacjkacjabbaaGreatDoor
namespace Go.Proofs.YtepacjkacjabbaaGreatDoor
open Go Go.RowKit Go.Maps
def SamXOk (n0 : Nat) (W0 : World) (a b : ExprV) : Prop := ∀ W, Below n0 W0 W → n0 ≤ W.heap.size →
 Calls Tryz.prog 114 #[.agg #[.int .u8 a.kind, .int .u8 a.op, .int .u32 a.value, .int .i64 a.width, .string a.name, .slice a.sp.at_ a.subs.length a.sp.cap], .agg #[.int .u8 b.kind, .int .u8 b.op, .int .u32 b.value, .int .i64 b.width, .string b.name, .slice b.sp.at_ b.subs.length b.sp.cap]] W fun o w' => o = .returned (.bool (eqX a b)) ∧ Below W.heap.size W w'
def SamXsOk (n0 : Nat) (W0 : World) (sa sb : Sp) (la lb : List ExprV) : Prop := ∀ W, Below n0 W0 W → n0 ≤ W.heap.size →
 Calls Tryz.prog 155 #[.slice sa.at_ la.length sa.cap, .slice sb.at_ lb.length sb.cap, .func (.func 114) #[] #[]] W fun o w' => o = .returned (.bool (eqXs la lb)) ∧ Below W.heap.size W w'
theorem eqXs_step (la lb : List ExprV) (h : la.length = lb.length) (k : Nat) (hk : k < la.length) : eqXs (la.drop k) (lb.drop k) = (eqX la[k] (lb[k]'(by omega)) && eqXs (la.drop (k + 1)) (lb.drop (k + 1))) := by
 rw [List.drop_eq_getElem_cons hk, List.drop_eq_getElem_cons (by omega : k < lb.length), eqXs]
theorem eqXs_len {la lb : List ExprV} (h : la.length ≠ lb.length) : eqXs la lb = false := by
 cases e : eqXs la lb with
 | false => rfl
 | true => exact absurd (by simpa using congrArg List.length ((eqXs_iff la lb).1 e)) h
set_option maxRecDepth 1000000 in
set_option maxHeartbeats 8000000 in
theorem same_list {n0 : Nat} {W0 : World} {sa sb : Sp} {la lb : List ExprV} (ra : RowOf n0 W0 sa 6 ExprV.cells la) (rb : RowOf n0 W0 sb 6 ExprV.cells lb) (ih : ∀ a ∈ la, ∀ b ∈ lb, SamXOk n0 W0 a b) : SamXsOk n0 W0 sa sb la lb := by
 intro w hw hn
 have HRA := Lib.hid ((ra.below hw).more hn)
 have HRB := Lib.hid ((rb.below hw).more hn)
 have HIH := Lib.hid fun (i : Nat) (hi : i < la.length) (hj : i < lb.length) (W : World) (hW : Below w.heap.size w W) => ih _ (List.getElem_mem hi) _ (List.getElem_mem hj) W (hw.trans (hW.mono hn)) (Nat.le_trans hn hW.size)
 have ca := ra.cap
 have ba := ra.big
 have fa := ra.few
 have cb := rb.cap
 have bb := rb.big
 have fb := rb.few
 clear ra rb ih hw
 go_enter Tryz.func155, Tryz.ntmps155
 by_cases hl : la.length = lb.length
 · have hd : ((la.length : Int) == (lb.length : Int)) = true := by simp [hl]
   have hd2 : ((la.length : Int) != (lb.length : Int)) = false := by simp [hl]
   have HL := Lib.hid hl
   clear hl
   go_wp2_with fail
   go_loopw [17] (fun v wr => ∃ k : Nat, k ≤ la.length ∧ v = .int .i64 k ∧ eqXs la lb = eqXs (la.drop k) (lb.drop k) ∧ Below w.heap.size w wr) (fun v _ => la.length - (intOf v).toNat)
   case atStart => exact ⟨0, Nat.zero_le _, rfl, rfl, Below.refl _ _⟩
   case round =>
     obtain ⟨k, hk, rfl, har, hb⟩ := hrel
     have HAR := Lib.hid har
     have HBR := Lib.hid hb
     clear har hb
     by_cases hlt : k < la.length
     · have hlb : k < lb.length := by have := HL.out; omega
       obtain ⟨ga, oa, eA, hga, hca⟩ := (HRA.out.below HBR.out).row (by omega)
       obtain ⟨gb, ob, eB, hgb, hcb⟩ := (HRB.out.below HBR.out).row (by omega)
       have hca2 := hca k hlt
       have hcb2 := hcb k hlb
       have HST := Lib.hid (HAR.out.trans (eqXs_step la lb HL.out k hlt))
       have HCALL := Lib.hid (HIH.out k hlt hlb)
       clear hca hcb
       generalize la[k] = x at *
       generalize lb[k] = y at *
       have a0 := hca2 0 _ rfl
       rw [Nat.add_zero] at a0
       have a1 := hca2 1 _ rfl
       have a2 := hca2 2 _ rfl
       have a3 := hca2 3 _ rfl
       have a4 := hca2 4 _ rfl
       have a5 : wr.cell? ⟨ga, oa + k * 6 + 5, none⟩ = some (.slice x.sp.at_ x.subs.length x.sp.cap) := hca2 5 _ rfl
       have b0 := hcb2 0 _ rfl
       rw [Nat.add_zero] at b0
       have b1 := hcb2 1 _ rfl
       have b2 := hcb2 2 _ rfl
       have b3 := hcb2 3 _ rfl
       have b4 := hcb2 4 _ rfl
       have b5 : wr.cell? ⟨gb, ob + k * 6 + 5, none⟩ = some (.slice y.sp.at_ y.subs.length y.sp.cap) := hcb2 5 _ rfl
       have hk0 : (0 : Int) ≤ (k : Int) := by omega
       have hk1 : (k : Int) < (la.length : Int) := by omega
       have hk2 : (k : Int) < (lb.length : Int) := by omega
       have hk3 : decide (k < lb.length) = true := decide_eq_true hlb
       clear hca2 hcb2
       rw [eA, eB]
       clear eA eB
       go_upto_region 6 with fail
       have hba : Below wr.heap.size wr (wr.alloc (.cells #[.int .u8 x.kind, .int .u8 x.op, .int .u32 x.value, .int .i64 x.width, .string x.name, .slice x.sp.at_ x.subs.length x.sp.cap] 30)) := (Below.refl _ wr).alloc (Nat.le_refl _) _
       have hxa := World.alloc_heap_new wr (.cells #[.int .u8 x.kind, .int .u8 x.op, .int .u32 x.value, .int .i64 x.width, .string x.name, .slice x.sp.at_ x.subs.length x.sp.cap] 30)
       have hszw := HBR.out.size
       have hgb2 : gb < wr.heap.size := by omega
       replace b0 := (hba.cell (p := ⟨gb, ob + k * 6, none⟩) hgb2).trans b0
       replace b1 := (hba.cell (p := ⟨gb, ob + k * 6 + 1, none⟩) hgb2).trans b1
       replace b2 := (hba.cell (p := ⟨gb, ob + k * 6 + 2, none⟩) hgb2).trans b2
       replace b3 := (hba.cell (p := ⟨gb, ob + k * 6 + 3, none⟩) hgb2).trans b3
       replace b4 := (hba.cell (p := ⟨gb, ob + k * 6 + 4, none⟩) hgb2).trans b4
       replace b5 := (hba.cell (p := ⟨gb, ob + k * 6 + 5, none⟩) hgb2).trans b5
       generalize wr.alloc (.cells #[.int .u8 x.kind, .int .u8 x.op, .int .u32 x.value, .int .i64 x.width, .string x.name, .slice x.sp.at_ x.subs.length x.sp.cap] 30) = W5 at *
       have hsz5 := hba.size
       generalize wr.heap.size = bx at *
       obtain ⟨x0, x1, x2, x3, x4, x5⟩ := six_cells hxa
       have HXA := Lib.hid hxa
       have HBA := Lib.hid hba
       clear a0 a1 a2 a3 a4 a5 hxa hba
       go_upto_region 7 with fail
       have hbc : Below W5.heap.size W5 (W5.alloc (.cells #[.int .u8 y.kind, .int .u8 y.op, .int .u32 y.value, .int .i64 y.width, .string y.name, .slice y.sp.at_ y.subs.length y.sp.cap] 30)) := (Below.refl _ W5).alloc (Nat.le_refl _) _
       have hyc := World.alloc_heap_new W5 (.cells #[.int .u8 y.kind, .int .u8 y.op, .int .u32 y.value, .int .i64 y.width, .string y.name, .slice y.sp.at_ y.subs.length y.sp.cap] 30)
       have hxc := (hbc.block bx (Array.getElem?_eq_some_iff.1 HXA.out).1).trans HXA.out
       have HLO0 := HBR
       have hlow := HLO0.out.trans ((HBA.out.trans (hbc.mono hsz5)).mono hszw)
       clear x0 x1 x2 x3 x4 x5 b0 b1 b2 b3 b4 b5 HXA HBA
       generalize W5.alloc (.cells #[.int .u8 y.kind, .int .u8 y.op, .int .u32 y.value, .int .i64 y.width, .string y.name, .slice y.sp.at_ y.subs.length y.sp.cap] 30) = W7 at *
       generalize W5.heap.size = bx2 at *
       obtain ⟨x0, x1, x2, x3, x4, x5⟩ := six_cells hxc
       obtain ⟨y0, y1, y2, y3, y4, y5⟩ := six_cells hyc
       have HLOW := Lib.hid hlow
       have hend := HLOW.out.size
       clear hxc hyc hbc hlow
       obtain ⟨bv, hbv⟩ : ∃ b, eqX x y = b := ⟨_, rfl⟩
       have HBV := Lib.hid hbv
       rw [hbv] at HCALL
       clear hbv
       cases bv with
       | false =>
         go_wp2_with (go_at_call 114; refine (HCALL.out W7 HLOW.out).mono ?_; rintro o W8 ⟨rfl, hb8⟩; have HB8 := Lib.hid hb8; clear hb8)
         go_ret
         exact ⟨by rw [HST.out, HBV.out]; rfl, HLOW.out.trans (HB8.out.mono hend)⟩
       | true =>
         go_wp2_with (go_at_call 114; refine (HCALL.out W7 HLOW.out).mono ?_; rintro o W8 ⟨rfl, hb8⟩; have HB8 := Lib.hid hb8; clear hb8)
         exact ⟨⟨k + 1, hlt, rfl, by rw [HST.out, HBV.out]; rfl, HLOW.out.trans (HB8.out.mono hend)⟩, by simp only [intOf]; omega⟩
     · obtain rfl : k = la.length := by omega
       have e0 : eqXs la lb = true := by
         rw [HAR.out, List.drop_length, HL.out, List.drop_length]
         rfl
       have E0 := Lib.hid e0
       clear hlt e0
       go_wp2_with fail
       go_ret
       exact ⟨by rw [E0.out]; rfl, HBR.out⟩
 · have hd : ((la.length : Int) == (lb.length : Int)) = false := by simp; omega
   have hd2 : ((la.length : Int) != (lb.length : Int)) = true := by simp; omega
   rw [eqXs_len hl]
   clear hl
   go_wp2_with fail
   go_ret
   exact ⟨rfl, Below.refl _ _⟩
set_option maxRecDepth 1000000 in
set_option maxHeartbeats 8000000 in
theorem same_expr_step {n0 : Nat} {W0 : World} {a b : ExprV} (ih : SamXsOk n0 W0 a.sp b.sp a.subs b.subs) : SamXOk n0 W0 a b := by
 intro w hw hn
 have HIH := Lib.hid fun (W : World) (hW : Below w.heap.size w W) => ih W (hw.trans (hW.mono hn)) (Nat.le_trans hn hW.size)
 have HB2 : Hid (∀ x y, Below w.heap.size w ((w.alloc x).alloc y)) := Lib.hid fun x y => ((Below.refl _ _).alloc (Nat.le_refl _) _).alloc (by simp) _
 clear ih hw
 obtain ⟨k, o, v, wd, n, sp, l⟩ := a
 obtain ⟨k', o', v', wd', n', sp', l'⟩ := b
 have e0 : eqX (.mk k o v wd n sp l) (.mk k' o' v' wd' n' sp' l') = (decide (k = k' ∧ o = o' ∧ v = v' ∧ wd = wd' ∧ n = n') && eqXs l l') := by rw [eqX]; rfl
 rw [e0]
 simp only [ExprV.kind, ExprV.op, ExprV.value, ExprV.width, ExprV.name, ExprV.sp, ExprV.subs] at *
 go_enter Tryz.func114, Tryz.ntmps114
 by_cases h1 : k = k'
 · by_cases h2 : o = o'
   · by_cases h3 : v = v'
     · by_cases h4 : wd = wd'
       · by_cases h5 : n = n'
         · subst h1 h2 h3 h4 h5
           go_wp2_with (go_at_call 155; refine (HIH.out _ (HB2.out _ _)).mono ?_; rintro o W8 ⟨rfl, hb8⟩; have HB8 := Lib.hid ((HB2.out _ _).trans (hb8.mono (HB2.out _ _).size)); clear hb8)
           go_ret
           exact ⟨by simp, HB8.out⟩
         · have hd : (n.toList == n'.toList) = false := beq_eq_false_iff_ne.2 fun e => h5 (toList_inj e)
           have e1 : (decide (k = k' ∧ o = o' ∧ v = v' ∧ wd = wd' ∧ n = n') && eqXs l l') = false := by simp [h5]
           rw [e1]
           subst h1 h2 h3 h4
           clear h5 e1 e0
           go_wp2_with fail
           go_ret
           exact ⟨rfl, HB2.out _ _⟩
       · have hd : (wd == wd') = false := by simp [h4]
         have e1 : (decide (k = k' ∧ o = o' ∧ v = v' ∧ wd = wd' ∧ n = n') && eqXs l l') = false := by simp [h4]
         rw [e1]
         subst h1 h2 h3
         clear h4 e1 e0
         go_wp2_with fail
         go_ret
         exact ⟨rfl, HB2.out _ _⟩
     · have hd : (v == v') = false := by simp [h3]
       have e1 : (decide (k = k' ∧ o = o' ∧ v = v' ∧ wd = wd' ∧ n = n') && eqXs l l') = false := by simp [h3]
       rw [e1]
       subst h1 h2
       clear h3 e1 e0
       go_wp2_with fail
       go_ret
       exact ⟨rfl, HB2.out _ _⟩
   · have hd : (o == o') = false := by simp [h2]
     have e1 : (decide (k = k' ∧ o = o' ∧ v = v' ∧ wd = wd' ∧ n = n') && eqXs l l') = false := by simp [h2]
     rw [e1]
     subst h1
     clear h2 e1 e0
     go_wp2_with fail
     go_ret
     exact ⟨rfl, HB2.out _ _⟩
 · have hd : (k == k') = false := by simp [h1]
   have e1 : (decide (k = k' ∧ o = o' ∧ v = v' ∧ wd = wd' ∧ n = n') && eqXs l l') = false := by simp [h1]
   rw [e1]
   clear h1 e1 e0
   go_wp2_with fail
   go_ret
   exact ⟨rfl, HB2.out _ _⟩
theorem same_expr {n0 : Nat} {W0 : World} (a : ExprV) : ∀ b, RdX n0 W0 a → RdX n0 W0 b → SamXOk n0 W0 a b := by
 induction a using ExprV.ind with
 | h k o v w n sp l ih =>
   intro b ha hb
   exact same_expr_step (same_list ha.row hb.row fun x hx y hy => ih x hx y (ha.sub x hx) (hb.sub y hy))
end Go.Proofs.YtepacjkacjabbaaGreatDoor
namespace Go.Proofs.YtepacjkacjabbaaGreatDoor
open Go Go.RowKit Go.Maps
def SamTOk (n0 : Nat) (W0 : World) (a b : StmtV) : Prop := ∀ W, Below n0 W0 W → n0 ≤ W.heap.size →
 Calls Tryz.prog 96 #[.agg #[.int .u8 a.kind, .string a.name, .slice a.es.at_ a.exprs.length a.es.cap, .int .i64 a.bound, .slice a.ts.at_ a.thn.length a.ts.cap, .slice a.os.at_ a.els.length a.os.cap], .agg #[.int .u8 b.kind, .string b.name, .slice b.es.at_ b.exprs.length b.es.cap, .int .i64 b.bound, .slice b.ts.at_ b.thn.length b.ts.cap, .slice b.os.at_ b.els.length b.os.cap]] W fun o w' => o = .returned (.bool (eqT a b)) ∧ Below W.heap.size W w'
def SamTsOk (n0 : Nat) (W0 : World) (sa sb : Sp) (la lb : List StmtV) : Prop := ∀ W, Below n0 W0 W → n0 ≤ W.heap.size →
 Calls Tryz.prog 95 #[.slice sa.at_ la.length sa.cap, .slice sb.at_ lb.length sb.cap, .func (.func 96) #[] #[]] W fun o w' => o = .returned (.bool (eqTs la lb)) ∧ Below W.heap.size W w'
theorem eqTs_step (la lb : List StmtV) (h : la.length = lb.length) (k : Nat) (hk : k < la.length) : eqTs (la.drop k) (lb.drop k) = (eqT la[k] (lb[k]'(by omega)) && eqTs (la.drop (k + 1)) (lb.drop (k + 1))) := by
 rw [List.drop_eq_getElem_cons hk, List.drop_eq_getElem_cons (by omega : k < lb.length), eqTs]
theorem eqTs_len {la lb : List StmtV} (h : la.length ≠ lb.length) : eqTs la lb = false := by
 cases e : eqTs la lb with
 | false => rfl
 | true => exact absurd (by simpa using congrArg List.length ((eqTs_iff la lb).1 e)) h
set_option maxRecDepth 1000000 in
set_option maxHeartbeats 8000000 in
theorem same_stmts {n0 : Nat} {W0 : World} {sa sb : Sp} {la lb : List StmtV} (ra : RowOf n0 W0 sa 6 StmtV.cells la) (rb : RowOf n0 W0 sb 6 StmtV.cells lb) (ih : ∀ a ∈ la, ∀ b ∈ lb, SamTOk n0 W0 a b) : SamTsOk n0 W0 sa sb la lb := by
 intro w hw hn
 have HRA := Lib.hid ((ra.below hw).more hn)
 have HRB := Lib.hid ((rb.below hw).more hn)
 have HIH := Lib.hid fun (i : Nat) (hi : i < la.length) (hj : i < lb.length) (W : World) (hW : Below w.heap.size w W) => ih _ (List.getElem_mem hi) _ (List.getElem_mem hj) W (hw.trans (hW.mono hn)) (Nat.le_trans hn hW.size)
 have ca := ra.cap
 have ba := ra.big
 have fa := ra.few
 have cb := rb.cap
 have bb := rb.big
 have fb := rb.few
 clear ra rb ih hw
 go_enter Tryz.func95, Tryz.ntmps95
 by_cases hl : la.length = lb.length
 · have hd : ((la.length : Int) == (lb.length : Int)) = true := by simp [hl]
   have hd2 : ((la.length : Int) != (lb.length : Int)) = false := by simp [hl]
   have HL := Lib.hid hl
   clear hl
   go_wp2_with fail
   go_loopw [17] (fun v wr => ∃ k : Nat, k ≤ la.length ∧ v = .int .i64 k ∧ eqTs la lb = eqTs (la.drop k) (lb.drop k) ∧ Below w.heap.size w wr) (fun v _ => la.length - (intOf v).toNat)
   case atStart => exact ⟨0, Nat.zero_le _, rfl, rfl, Below.refl _ _⟩
   case round =>
     obtain ⟨k, hk, rfl, har, hb⟩ := hrel
     have HAR := Lib.hid har
     have HBR := Lib.hid hb
     clear har hb
     by_cases hlt : k < la.length
     · have hlb : k < lb.length := by have := HL.out; omega
       obtain ⟨ga, oa, eA, hga, hca⟩ := (HRA.out.below HBR.out).row (by omega)
       obtain ⟨gb, ob, eB, hgb, hcb⟩ := (HRB.out.below HBR.out).row (by omega)
       have hca2 := hca k hlt
       have hcb2 := hcb k hlb
       have HST := Lib.hid (HAR.out.trans (eqTs_step la lb HL.out k hlt))
       have HCALL := Lib.hid (HIH.out k hlt hlb)
       clear hca hcb
       generalize la[k] = x at *
       generalize lb[k] = y at *
       have a0 := hca2 0 _ rfl
       rw [Nat.add_zero] at a0
       have a1 := hca2 1 _ rfl
       have a2 : wr.cell? ⟨ga, oa + k * 6 + 2, none⟩ = some (.slice x.es.at_ x.exprs.length x.es.cap) := hca2 2 _ rfl
       have a3 := hca2 3 _ rfl
       have a4 : wr.cell? ⟨ga, oa + k * 6 + 4, none⟩ = some (.slice x.ts.at_ x.thn.length x.ts.cap) := hca2 4 _ rfl
       have a5 : wr.cell? ⟨ga, oa + k * 6 + 5, none⟩ = some (.slice x.os.at_ x.els.length x.os.cap) := hca2 5 _ rfl
       have b0 := hcb2 0 _ rfl
       rw [Nat.add_zero] at b0
       have b1 := hcb2 1 _ rfl
       have b2 : wr.cell? ⟨gb, ob + k * 6 + 2, none⟩ = some (.slice y.es.at_ y.exprs.length y.es.cap) := hcb2 2 _ rfl
       have b3 := hcb2 3 _ rfl
       have b4 : wr.cell? ⟨gb, ob + k * 6 + 4, none⟩ = some (.slice y.ts.at_ y.thn.length y.ts.cap) := hcb2 4 _ rfl
       have b5 : wr.cell? ⟨gb, ob + k * 6 + 5, none⟩ = some (.slice y.os.at_ y.els.length y.os.cap) := hcb2 5 _ rfl
       have hk0 : (0 : Int) ≤ (k : Int) := by omega
       have hk1 : (k : Int) < (la.length : Int) := by omega
       have hk2 : (k : Int) < (lb.length : Int) := by omega
       have hk3 : decide (k < lb.length) = true := decide_eq_true hlb
       clear hca2 hcb2
       rw [eA, eB]
       clear eA eB
       go_upto_region 6 with fail
       have hba : Below wr.heap.size wr (wr.alloc (.cells #[.int .u8 x.kind, .string x.name, .slice x.es.at_ x.exprs.length x.es.cap, .int .i64 x.bound, .slice x.ts.at_ x.thn.length x.ts.cap, .slice x.os.at_ x.els.length x.os.cap] 43)) := (Below.refl _ wr).alloc (Nat.le_refl _) _
       have hxa := World.alloc_heap_new wr (.cells #[.int .u8 x.kind, .string x.name, .slice x.es.at_ x.exprs.length x.es.cap, .int .i64 x.bound, .slice x.ts.at_ x.thn.length x.ts.cap, .slice x.os.at_ x.els.length x.os.cap] 43)
       have hszw := HBR.out.size
       have hgb2 : gb < wr.heap.size := by omega
       replace b0 := (hba.cell (p := ⟨gb, ob + k * 6, none⟩) hgb2).trans b0
       replace b1 := (hba.cell (p := ⟨gb, ob + k * 6 + 1, none⟩) hgb2).trans b1
       replace b2 := (hba.cell (p := ⟨gb, ob + k * 6 + 2, none⟩) hgb2).trans b2
       replace b3 := (hba.cell (p := ⟨gb, ob + k * 6 + 3, none⟩) hgb2).trans b3
       replace b4 := (hba.cell (p := ⟨gb, ob + k * 6 + 4, none⟩) hgb2).trans b4
       replace b5 := (hba.cell (p := ⟨gb, ob + k * 6 + 5, none⟩) hgb2).trans b5
       generalize wr.alloc (.cells #[.int .u8 x.kind, .string x.name, .slice x.es.at_ x.exprs.length x.es.cap, .int .i64 x.bound, .slice x.ts.at_ x.thn.length x.ts.cap, .slice x.os.at_ x.els.length x.os.cap] 43) = W5 at *
       have hsz5 := hba.size
       generalize wr.heap.size = bx at *
       obtain ⟨x0, x1, x2, x3, x4, x5⟩ := six_cells hxa
       have HXA := Lib.hid hxa
       have HBA := Lib.hid hba
       clear a0 a1 a2 a3 a4 a5 hxa hba
       go_upto_region 7 with fail
       have hbc : Below W5.heap.size W5 (W5.alloc (.cells #[.int .u8 y.kind, .string y.name, .slice y.es.at_ y.exprs.length y.es.cap, .int .i64 y.bound, .slice y.ts.at_ y.thn.length y.ts.cap, .slice y.os.at_ y.els.length y.os.cap] 43)) := (Below.refl _ W5).alloc (Nat.le_refl _) _
       have hyc := World.alloc_heap_new W5 (.cells #[.int .u8 y.kind, .string y.name, .slice y.es.at_ y.exprs.length y.es.cap, .int .i64 y.bound, .slice y.ts.at_ y.thn.length y.ts.cap, .slice y.os.at_ y.els.length y.os.cap] 43)
       have hxc := (hbc.block bx (Array.getElem?_eq_some_iff.1 HXA.out).1).trans HXA.out
       have HLO0 := HBR
       have hlow := HLO0.out.trans ((HBA.out.trans (hbc.mono hsz5)).mono hszw)
       clear x0 x1 x2 x3 x4 x5 b0 b1 b2 b3 b4 b5 HXA HBA
       generalize W5.alloc (.cells #[.int .u8 y.kind, .string y.name, .slice y.es.at_ y.exprs.length y.es.cap, .int .i64 y.bound, .slice y.ts.at_ y.thn.length y.ts.cap, .slice y.os.at_ y.els.length y.os.cap] 43) = W7 at *
       generalize W5.heap.size = bx2 at *
       obtain ⟨x0, x1, x2, x3, x4, x5⟩ := six_cells hxc
       obtain ⟨y0, y1, y2, y3, y4, y5⟩ := six_cells hyc
       have HLOW := Lib.hid hlow
       have hend := HLOW.out.size
       clear hxc hyc hbc hlow
       obtain ⟨bv, hbv⟩ : ∃ b, eqT x y = b := ⟨_, rfl⟩
       have HBV := Lib.hid hbv
       rw [hbv] at HCALL
       clear hbv
       cases bv with
       | false =>
         go_wp2_with (go_at_call 96; refine (HCALL.out W7 HLOW.out).mono ?_; rintro o W8 ⟨rfl, hb8⟩; have HB8 := Lib.hid hb8; clear hb8)
         go_ret
         exact ⟨by rw [HST.out, HBV.out]; rfl, HLOW.out.trans (HB8.out.mono hend)⟩
       | true =>
         go_wp2_with (go_at_call 96; refine (HCALL.out W7 HLOW.out).mono ?_; rintro o W8 ⟨rfl, hb8⟩; have HB8 := Lib.hid hb8; clear hb8)
         exact ⟨⟨k + 1, hlt, rfl, by rw [HST.out, HBV.out]; rfl, HLOW.out.trans (HB8.out.mono hend)⟩, by simp only [intOf]; omega⟩
     · obtain rfl : k = la.length := by omega
       have e0 : eqTs la lb = true := by
         rw [HAR.out, List.drop_length, HL.out, List.drop_length]
         rfl
       have E0 := Lib.hid e0
       clear hlt e0
       go_wp2_with fail
       go_ret
       exact ⟨by rw [E0.out]; rfl, HBR.out⟩
 · have hd : ((la.length : Int) == (lb.length : Int)) = false := by simp; omega
   have hd2 : ((la.length : Int) != (lb.length : Int)) = true := by simp; omega
   rw [eqTs_len hl]
   clear hl
   go_wp2_with fail
   go_ret
   exact ⟨rfl, Below.refl _ _⟩
set_option maxRecDepth 1000000 in
set_option maxHeartbeats 8000000 in
theorem same_stmt_step {n0 : Nat} {W0 : World} {a b : StmtV} (ihx : SamXsOk n0 W0 a.es b.es a.exprs b.exprs) (iht : SamTsOk n0 W0 a.ts b.ts a.thn b.thn) (ihe : SamTsOk n0 W0 a.os b.os a.els b.els) : SamTOk n0 W0 a b := by
 intro w hw hn
 have HX := Lib.hid fun (W : World) (hW : Below w.heap.size w W) => ihx W (hw.trans (hW.mono hn)) (Nat.le_trans hn hW.size)
 have HT := Lib.hid fun (W : World) (hW : Below w.heap.size w W) => iht W (hw.trans (hW.mono hn)) (Nat.le_trans hn hW.size)
 have HE := Lib.hid fun (W : World) (hW : Below w.heap.size w W) => ihe W (hw.trans (hW.mono hn)) (Nat.le_trans hn hW.size)
 obtain ⟨k, n, es, ex, bd, ts, th, os, el⟩ := a
 obtain ⟨k', n', es', ex', bd', ts', th', os', el'⟩ := b
 have hb2 : Below w.heap.size w ((w.alloc (.cells #[.int .u8 k, .string n, .slice es.at_ ex.length es.cap, .int .i64 bd, .slice ts.at_ th.length ts.cap, .slice os.at_ el.length os.cap] 43)).alloc (.cells #[.int .u8 k', .string n', .slice es'.at_ ex'.length es'.cap, .int .i64 bd', .slice ts'.at_ th'.length ts'.cap, .slice os'.at_ el'.length os'.cap] 43)) := ((Below.refl _ _).alloc (Nat.le_refl _) _).alloc (by simp) _
 have e0 : eqT (.mk k n es ex bd ts th os el) (.mk k' n' es' ex' bd' ts' th' os' el') = (decide (k = k' ∧ n = n' ∧ bd = bd') && (eqXs ex ex' && (eqTs th th' && eqTs el el'))) := by rw [eqT]; rfl
 rw [e0]
 clear ihx iht ihe hw
 simp only [StmtV.kind, StmtV.name, StmtV.bound, StmtV.es, StmtV.exprs, StmtV.ts, StmtV.thn, StmtV.os, StmtV.els] at *
 go_enter Tryz.func96, Tryz.ntmps96
 obtain ⟨hx2, hz2, hs2, _⟩ := alloc2 w (.cells #[.int .u8 k, .string n, .slice es.at_ ex.length es.cap, .int .i64 bd, .slice ts.at_ th.length ts.cap, .slice os.at_ el.length os.cap] 43) (.cells #[.int .u8 k', .string n', .slice es'.at_ ex'.length es'.cap, .int .i64 bd', .slice ts'.at_ th'.length ts'.cap, .slice os'.at_ el'.length os'.cap] 43)
 have HB2 := Lib.hid hb2
 have HSZ := Lib.hid hb2.size
 have HX2 := Lib.hid hx2
 have HZ2 := Lib.hid hz2
 clear hb2 hx2 hz2 hs2
 by_cases h1 : k = k'
 · by_cases h2 : n = n'
   · by_cases h3 : bd = bd'
     · subst h1 h2 h3
       have e2 : (decide (k = k ∧ n = n ∧ bd = bd) && (eqXs ex ex' && (eqTs th th' && eqTs el el'))) = (eqXs ex ex' && (eqTs th th' && eqTs el el')) := by simp
       rw [e2]
       clear e0 e2
       go_wp2_with fail
       refine (HX.out _ HB2.out).mono ?_
       rintro o W8 ⟨rfl, hb8⟩
       obtain ⟨bx, hbx⟩ : ∃ b, eqXs ex ex' = b := ⟨_, rfl⟩
       have HBX := Lib.hid hbx
       rw [hbx]
       clear hbx
       have HB8 := Lib.hid (HB2.out.trans (hb8.mono HSZ.out))
       have hx8 := (hb8.block _ (Array.getElem?_eq_some_iff.1 HX2.out).1).trans HX2.out
       have hz8 := (hb8.block _ (Array.getElem?_eq_some_iff.1 HZ2.out).1).trans HZ2.out
       obtain ⟨x0, x1, x2, x3, x4, x5⟩ := six_cells hx8
       obtain ⟨y0, y1, y2, y3, y4, y5⟩ := six_cells hz8
       have HX8 := Lib.hid hx8
       have HZ8 := Lib.hid hz8
       clear hb8 HX hx8 hz8 HX2 HZ2
       cases bx with
       | false =>
         go_wp2_with fail
         go_ret
         exact ⟨by rw [HBX.out]; rfl, HB8.out⟩
       | true =>
         go_wp2_with fail
         refine (HT.out _ HB8.out).mono ?_
         rintro o W9 ⟨rfl, hb9⟩
         obtain ⟨bt, hbt⟩ : ∃ b, eqTs th th' = b := ⟨_, rfl⟩
         have HBT := Lib.hid hbt
         rw [hbt]
         clear hbt
         have HB9 := Lib.hid (HB8.out.trans (hb9.mono HB8.out.size))
         have hx9 := (hb9.block _ (Array.getElem?_eq_some_iff.1 HX8.out).1).trans HX8.out
         have hz9 := (hb9.block _ (Array.getElem?_eq_some_iff.1 HZ8.out).1).trans HZ8.out
         clear x0 x1 x2 x3 x4 x5 y0 y1 y2 y3 y4 y5
         obtain ⟨x0, x1, x2, x3, x4, x5⟩ := six_cells hx9
         obtain ⟨y0, y1, y2, y3, y4, y5⟩ := six_cells hz9
         clear hb9 HT hx9 hz9 HX8 HZ8
         cases bt with
         | false =>
           go_wp2_with fail
           go_ret
           exact ⟨by rw [HBX.out, HBT.out]; rfl, HB9.out⟩
         | true =>
           go_wp2_with fail
           refine (HE.out _ HB9.out).mono ?_
           rintro o W10 ⟨rfl, hb10⟩
           have HB10 := Lib.hid (HB9.out.trans (hb10.mono HB9.out.size))
           clear hb10 HE
           go_wp2_with fail
           go_ret
           exact ⟨by rw [HBX.out, HBT.out]; rfl, HB10.out⟩
     · have hd : (bd == bd') = false := by simp [h3]
       have e1 : (decide (k = k' ∧ n = n' ∧ bd = bd') && (eqXs ex ex' && (eqTs th th' && eqTs el el'))) = false := by simp [h3]
       rw [e1]
       subst h1 h2
       clear h3 e1 e0
       go_wp2_with fail
       go_ret
       exact ⟨rfl, HB2.out⟩
   · have hd : (n.toList == n'.toList) = false := beq_eq_false_iff_ne.2 fun e => h2 (toList_inj e)
     have e1 : (decide (k = k' ∧ n = n' ∧ bd = bd') && (eqXs ex ex' && (eqTs th th' && eqTs el el'))) = false := by simp [h2]
     rw [e1]
     subst h1
     clear h2 e1 e0
     go_wp2_with fail
     go_ret
     exact ⟨rfl, HB2.out⟩
 · have hd : (k == k') = false := by simp [h1]
   have e1 : (decide (k = k' ∧ n = n' ∧ bd = bd') && (eqXs ex ex' && (eqTs th th' && eqTs el el'))) = false := by simp [h1]
   rw [e1]
   clear h1 e1 e0
   go_wp2_with fail
   go_ret
   exact ⟨rfl, HB2.out⟩
theorem same_stmt {n0 : Nat} {W0 : World} (a : StmtV) : ∀ b, RdT n0 W0 a → RdT n0 W0 b → SamTOk n0 W0 a b := by
 induction a using StmtV.ind with
 | h k n es ex bd ts th os el i1 i2 =>
   intro b ha hb
   exact same_stmt_step (same_list ha.xs.row hb.xs.row fun x hx y hy => same_expr x y (ha.xs.ok x hx) (hb.xs.ok y hy)) (same_stmts ha.then_.row hb.then_.row fun x hx y hy => i1 x hx y (ha.then_.ok x hx) (hb.then_.ok y hy)) (same_stmts ha.else_.row hb.else_.row fun x hx y hy => i2 x hx y (ha.else_.ok x hx) (hb.else_.ok y hy))
theorem same_lists {n0 : Nat} {W0 : World} {sa sb : Sp} {la lb : List StmtV} (ha : RdTs n0 W0 sa la) (hb : RdTs n0 W0 sb lb) : SamTsOk n0 W0 sa sb la lb := same_stmts ha.row hb.row fun x hx y hy => same_stmt x y (ha.ok x hx) (hb.ok y hy)
end Go.Proofs.YtepacjkacjabbaaGreatDoor
namespace Go.Proofs.YtepacjkacjabbaaGreatDoor
open Go
def passT : StmtV := .mk 7 ⟨#[]⟩ Sp.none [.mk 1 0 1 1 ⟨#[]⟩ Sp.none []] 1 Sp.none [] Sp.none []
def isPass (s : StmtV) : Bool := eqT s passT
def loopB (s : StmtV) : Bool := decide (s.kind = 7) && !isPass s
theorem isPass_bare (s : StmtV) : isPass (bareT s) = isPass s := by
 have hb : bareT (bareT s) = bareT s := by
   induction s using StmtV.ind with
   | h k n es ex b ts th os el i1 i2 =>
     have hx : ∀ e : ExprV, bareX (bareX e) = bareX e := fun e => by
       induction e using ExprV.ind with
       | h k o v w n sp l ih => rw [bareX_mk, bareX_mk, List.map_map, map_congr_mem (f := bareX ∘ bareX) (g := bareX) ih]
     rw [bareT_mk, bareT_mk, List.map_map, List.map_map, List.map_map, map_congr_mem (f := bareX ∘ bareX) (g := bareX) fun e _ => hx e, map_congr_mem (f := bareT ∘ bareT) (g := bareT) i1, map_congr_mem (f := bareT ∘ bareT) (g := bareT) i2]
 unfold isPass
 rw [Bool.eq_iff_iff, eqT_iff, eqT_iff, hb]
theorem loopB_bare (s : StmtV) : loopB (bareT s) = loopB s := by unfold loopB; rw [bareT_kind, isPass_bare]
mutual
def wtT : StmtV → Int
 | .mk k n es ex b ts th os el => if loopB (.mk k n es ex b ts th os el) = true then b * (1 + (heftX ex : Int) + wtTs th 0) + (1 + (heftX ex : Int)) + 2 else 1 + (heftX ex : Int) + wtTs th 0 + wtTs el 0
def wtTs : List StmtV → Int → Int
 | [], n => n
 | s :: l, n => if n + wtT s > 20000 then 20001 else wtTs l (n + wtT s)
end
mutual
def dpT : StmtV → Int
 | .mk k n es ex b ts th os el => if loopB (.mk k n es ex b ts th os el) = true then b + max (max (min (dpTs th 0) 1001) (min (dpTs el 0) 1001)) 2 else 1 + max (min (dpTs th 0) 1001) (min (dpTs el 0) 1001)
def dpTs : List StmtV → Int → Int
 | [], n => n
 | s :: l, n => dpTs l (max n (dpT s))
end
def whenT (e : List ExprV) (th : List StmtV) : StmtV := .mk 6 ⟨#[]⟩ Sp.none (e.take 1) 0 Sp.none th Sp.none []
def iterN {α : Type} (f : α → α) : Nat → α → α
 | 0, x => x
 | n + 1, x => iterN f n (f x)
mutual
def unT : StmtV → StmtV
 | .mk k n es ex b ts th os el => if loopB (.mk k n es ex b ts th os el) = true then iterN (fun last => whenT ex (unTs th ++ [last])) b.toNat (whenT ex [passT]) else .mk k n Sp.none ex b Sp.none (unTs th) Sp.none (unTs el)
def unTs : List StmtV → List StmtV
 | [] => []
 | s :: l => unT s :: unTs l
end
theorem unTs_eq : ∀ l : List StmtV, unTs l = l.map unT
 | [] => by rw [unTs]; rfl
 | e :: l => by rw [unTs, unTs_eq l]; rfl
def opsK (l : List StmtV) : List Int := ((l.flatMap StmtV.pre).filter fun s => decide (s.kind = 3 ∨ s.kind = 4 ∨ s.kind = 5)).map StmtV.kind
def passesN (l : List StmtV) : Nat := (l.flatMap StmtV.pre).countP isPass
def freeB (l : List StmtV) : Bool := (l.flatMap StmtV.pre).all fun s => !loopB s
end Go.Proofs.YtepacjkacjabbaaGreatDoor
namespace Go.Proofs.YtepacjkacjabbaaGreatDoor
open Go Go.RowKit Go.Maps
set_option maxRecDepth 1000000 in
set_option maxHeartbeats 4000000 in
theorem sameStmts_any (w : World) (sa sb : Sp) (la lb : List StmtV) (ha : RdTs w.heap.size w sa la) (hb : RdTs w.heap.size w sb lb) (wa : heftL la ≤ 20000) (wb : heftL lb ≤ 20000) :
   Calls Tryz.prog 38 #[.slice sa.at_ la.length sa.cap, .slice sb.at_ lb.length sb.cap] w fun o w' => o = .returned (.bool (eqTs la lb)) ∧ Below w.heap.size w w' := by
 have HA := Lib.hid (countStmts_any w sa la 0 ha (by omega))
 have hB : ∀ W, Below w.heap.size w W → Calls Tryz.prog 94 #[.slice sb.at_ lb.length sb.cap, .int .i64 0] W fun o w' => o = .returned (.int .i64 (cntT (lb.flatMap StmtV.pre) 0)) ∧ Below W.heap.size W w' := fun W hW => countStmts_any W sb lb 0 ((hb.below hW).more hW.size) (by omega)
 have HB := Lib.hid hB
 have HS := Lib.hid (same_lists ha hb)
 have ca : cntT (la.flatMap StmtV.pre) 0 ≤ 20000 := by
   rw [cntT_of _ 0 (by unfold heftL at wa; omega)]
   unfold heftL at wa
   omega
 have cb : cntT (lb.flatMap StmtV.pre) 0 ≤ 20000 := by
   rw [cntT_of _ 0 (by unfold heftL at wb; omega)]
   unfold heftL at wb
   omega
 have da := decide_eq_true ca
 have db := decide_eq_true cb
 have HLA := Lib.hid fun W => light_any (cntT (la.flatMap StmtV.pre) 0) W
 have HLB := Lib.hid fun W => light_any (cntT (lb.flatMap StmtV.pre) 0) W
 rw [da] at HLA
 rw [db] at HLB
 simp only [Sp.val] at HA
 clear ha hb ca cb da db hB wa wb
 go_enter Tryz.func38, Tryz.ntmps38
 go_wp2_with fail
 refine HA.out.mono ?_
 rintro o w1 ⟨rfl, hb1⟩
 go_wp2_with fail
 refine (HLA.out _).mono ?_
 rintro o w2 ⟨rfl, rfl⟩
 go_wp2_with fail
 refine (HB.out _ hb1).mono ?_
 rintro o w2 ⟨rfl, hb2⟩
 go_wp2_with fail
 refine (HLB.out _).mono ?_
 rintro o w3 ⟨rfl, rfl⟩
 have hb3 := hb1.trans (hb2.mono hb1.size)
 go_wp2_with fail
 refine (HS.out _ hb3 hb3.size).mono ?_
 rintro o w4 ⟨rfl, hb4⟩
 go_wp2_with fail
 go_ret
 exact ⟨rfl, hb3.trans (hb4.mono hb3.size)⟩
set_option maxHeartbeats 1000000 in
theorem pass_any (w : World) : Calls Tryz.prog 30 #[] w fun o w' => ∃ s : StmtV, o = .returned (.agg #[.int .u8 s.kind, .string s.name, .slice s.es.at_ s.exprs.length s.es.cap, .int .i64 s.bound, .slice s.ts.at_ s.thn.length s.ts.cap, .slice s.os.at_ s.els.length s.os.cap]) ∧ bareT s = passT ∧ NowT w' s ∧ Below w.heap.size w w' := by
 go_enter Tryz.func30, Tryz.ntmps30
 go_wp2_with fail
 obtain ⟨h1, h2, h3, h4⟩ := alloc2 w (.cells #[.int .u8 7, .string ⟨#[]⟩, .slice (some ⟨w.heap.size + 1, 0, none⟩) 1 1, .int .i64 1, .slice none 0 0, .slice none 0 0] 43) (.cells #[.int .u8 1, .int .u8 0, .int .u32 1, .int .i64 1, .string ⟨#[]⟩, .slice none 0 0] 30)
 refine bodyPost_ret (results_cell_row rfl _ _ w.heap.size 43 _ (0, 0) _ rfl h1 Tryz.underlying43 rfl (by kernel_rfl)) rfl ⟨.mk 7 ⟨#[]⟩ ⟨some ⟨w.heap.size + 1, 0, none⟩, 1⟩ [numE 1 1] 1 Sp.none [] Sp.none [], rfl, rfl, ?_, h4⟩
 exact .mk _ (show (0 : Int) ≤ 7 ∧ (7 : Int) ≤ 255 by decide) (show (Lit.int .i64 1).wf = true by decide) (show (0 : Nat) ≤ maxLen by decide) (row_one (enc := ExprV.cells) (x := numE 1 1) h2) (fun y hy => by
   have : y = numE 1 1 := by simpa [StmtV.exprs] using hy
   rw [this]; exact num_now _ 1 1 (by decide) (by decide)) RowOf.nil (fun _ h => absurd h (by simp [StmtV.thn])) RowOf.nil (fun _ h => absurd h (by simp [StmtV.els]))
end Go.Proofs.YtepacjkacjabbaaGreatDoor
