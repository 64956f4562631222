import Derived.Test.YtepacjkacjabbaaGreatDoorKAA
import Derived.Test.YtepacjkacjabbaaGreatDoorKAB
import Derived.Test.YtepacjkacjabbaaGreatDoorProg
import Derived.Lib.Hide
import Derived.Scope
import Derived.WalkMore
import Derived.RangeFuncBox
import Derived.IntWalk
namespace Go.Proofs.YtepacjkacjabbaaGreatDoor
open Go Go.RowKit
attribute [local go_sem] Oper.semAt_some
theorem roomW (k : Nat) : Fence.wide.room k := fun d h => by cases h
theorem roundAny {m : Nat} (m' l2 : Nat) {P : Program} {l : Nat} {f : FuncId} {tmps : Array Value} {assign body : Code} {w : World} {R : Ending → World → Prop} (h : RoundIn Fence.wide m P l f tmps assign body w R) :
   RoundIn (Fence.wide.inRound l2) m' P l f tmps assign body w R := ⟨h.1, fun c cs _ => h.2 c cs (roomW _)⟩
theorem YieldAt.any {m : Nat} (m' : Nat) {P : Program} {l : Nat} {args : Array Value} {W : World} {R : Ending → World → Prop} (h : YieldAt Fence.wide m P l args W R) : YieldAt Fence.wide m' P l args W R := by
 obtain ⟨fn, tmps, assign, body, hy, hR⟩ := h
 exact ⟨fn, tmps, assign, body, hy, hR.1, fun c cs _ => hR.2 c cs (roomW _)⟩
def TT (t : TypeId) : Bool := t == 30 || t == 33 || t == 43 || t == 194 || t == 58
theorem ownUp {β : Type} {B C : Nat} {I : β → World → Prop} (h : OwnFrom B I) (hBC : B ≤ C) : OwnFrom C I := fun s W W' row hs hg hr => h s W W' row hs hg (fun r e => ⟨by have := (hr r e).1; omega, (hr r e).2⟩)
theorem exprs_any (e : ExprV) (w : World) :
   Calls Tryz.prog 87 #[e.val] w fun o w' => o = .returned (.func (.func 152) #[] #[.pointer (some ⟨w.heap.size, 0, none⟩)]) ∧ w' = w.alloc (.cells e.cells.toArray 30) := by
 simp only [ExprV.val, ExprV.cells, Sp.val]
 go_enter Tryz.func87, Tryz.ntmps87
 go_wp2
 go_ret
 exact ⟨rfl, rfl⟩
theorem six_cells {W : World} {b : Nat} {t : TypeId} {fr : Nat × Nat} {v0 v1 v2 v3 v4 v5 : Value} (h : W.heap[b]? = some (.cells #[v0, v1, v2, v3, v4, v5] t fr)) :
   W.cell? ⟨b, 0, none⟩ = some v0 ∧ W.cell? ⟨b, 1, none⟩ = some v1 ∧ W.cell? ⟨b, 2, none⟩ = some v2 ∧ W.cell? ⟨b, 3, none⟩ = some v3 ∧ W.cell? ⟨b, 4, none⟩ = some v4 ∧ W.cell? ⟨b, 5, none⟩ = some v5 := by
 simp [World.cell?, h]
theorem one_cell {W : World} {b : Nat} {t : TypeId} {fr : Nat × Nat} {v0 : Value} (h : W.heap[b]? = some (.cells #[v0] t fr)) : W.cell? ⟨b, 0, none⟩ = some v0 := by
 simp [World.cell?, h]
set_option maxRecDepth 1000000 in
set_option maxHeartbeats 2000000 in
theorem exprs_seq {n₀ : Nat} {W0 : World} {e : ExprV} (h : RdX n₀ W0 e) : ∀ (n : Nat) (w : World) (Bs : Nat), Below n₀ W0 w → n₀ ≤ w.heap.size → w.heap[Bs]? = some (.cells e.cells.toArray 30 (0, 0)) →
   SeqN Fence.wide n Tryz.prog 152 #[.pointer (some ⟨Bs, 0, none⟩)] (fun x : ExprV => #[x.val]) TT n₀ (fun ys => ys = e.pre) (fun pre => pre <+: e.pre) e.pre.length w := by
 induction h with
 | mk e k o v wd nm row subs ih =>
   intro n w Bs hb0 hn₀ hBs l J Jx W hW hJ hJx hY h0
   have IH := Lib.hid ih
   have SUBS := Lib.hid subs
   clear ih subs
   have hpre := ExprV.pre_eq e
   simp only [ExprV.cells, Sp.val] at hBs
   have HY : Hid (∀ pre x W1, J pre W1 → pre.length < e.pre.length → pre ++ [x] <+: e.pre → YieldAt Fence.wide (n - 1) Tryz.prog l #[x.val] W1 fun o W' =>
     (o = .returned (.bool true) ∧ J (pre ++ [x]) W' ∧ KeepsT TT W.heap.size W1 W' ∧ Below n₀ W1 W') ∨ (o = .returned (.bool false) ∧ Jx (pre ++ [x]) W' ∧ KeepsT TT W.heap.size W1 W')) := Lib.hid hY
   clear hY
   have hBW : W.heap[Bs]? = some (.cells #[.int .u8 e.kind, .int .u8 e.op, .int .u32 e.value, .int .i64 e.width, .string e.name, .slice e.sp.at_ e.subs.length e.sp.cap] 30 (0, 0)) := (hW.block Bs (Array.getElem?_eq_some_iff.1 hBs).1).trans hBs
   have hbl := (Array.getElem?_eq_some_iff.1 hBW).1
   have hB1 := (Below.heap_alloc W (.cells #[.func (.yield l) #[] #[]] 194) Bs hbl).trans hBW
   have hy1 := World.alloc_heap_new W (.cells #[.func (.yield l) #[] #[]] 194)
   have hb01 : Below n₀ W0 (W.alloc (.cells #[.func (.yield l) #[] #[]] 194)) := (hb0.trans (hW.mono hn₀)).alloc (by have := hW.size; omega) _
   obtain ⟨c0, c1, c2, c3, c4, c5⟩ := six_cells hB1
   have d0 := one_cell hy1
   obtain ⟨fn, tmps, assign, body, hy, hR⟩ := HY.out [] e (W.alloc (.cells #[.func (.yield l) #[] #[]] 194)) (hJ.alloc _ h0) (by rw [hpre]; simp) (by rw [hpre]; exact ⟨_, rfl⟩)
   dsimp only [ExprV.val, Sp.val] at hy
   have HB1 := Lib.hid hB1
   have HY1 := Lib.hid hy1
   have HPRE := Lib.hid hpre
   clear hB1 hy1 hBW hBs hpre
   refine callsIn_of_wp_marks Tryz.func152 rfl trivial ?_ rfl
   simp only [Tryz.ntmps152, List.size_toArray, List.length_cons, List.length_nil, Nat.reduceAdd, Nat.reduceSub, Array.replicate_succ, Array.replicate_zero, List.push_toArray, List.append_toArray, List.nil_append, List.cons_append]
   gi_wp2
   refine ⟨fun h => by (cases h), ?_⟩
   refine hR.mono ?_
   clear hR hy c0 c1 c2 c3 c4 c5 d0
   have hszW : (W.alloc (.cells #[.func (.yield l) #[] #[]] 194)).heap.size = W.heap.size + 1 := by simp
   rintro o3 W3 (⟨rfl, hJ3, hk3, hb3⟩ | ⟨rfl, hJ3, hk3⟩)
   · have hB3 := hk3.cells _ _ _ _ HB1.out rfl
     have hy3 := hk3.cells _ _ _ _ HY1.out rfl
     obtain ⟨c0, c1, c2, c3, c4, c5⟩ := six_cells hB3
     have HY3 := Lib.hid hy3
     have hb03 := hb01.trans hb3
     have HJ3 := Lib.hid hJ3
     have hsz3 := hk3.size
     clear hB3 hy3 hk3 hb3 hJ3 HB1 HY1 hb01
     gi_wp2
     refine wpIn_loop (fun a wr => ∃ (j : Nat) (u4 u5 u14 u15 u16 u17 u18 u20 u21 u22 u23 u24 : Value) (ds : List Deferred), a = { tmps := #[.func (.yield l) #[] #[], .pointer (some ⟨Bs, 0, none⟩), .pointer (some ⟨W.heap.size, 0, none⟩), undef, u4, u5, .func (.yield l) #[] #[], .agg #[.int .u8 e.kind, .int .u8 e.op, .int .u32 e.value, .int .i64 e.width, .string e.name, .slice e.sp.at_ e.subs.length e.sp.cap], .bool true, .bool false, .pointer (some ⟨Bs, 5, none⟩), .slice e.sp.at_ e.subs.length e.sp.cap, .int .i64 e.subs.length, .int .i64 j, u14, u15, u16, u17, u18, undef, u20, u21, u22, u23, u24], defers := ds } ∧
       j ≤ e.subs.length ∧ J (e :: (e.subs.take j).flatMap ExprV.pre) wr ∧ Below n₀ W0 wr ∧ W.heap.size < wr.heap.size ∧ wr.heap[W.heap.size]? = some (.cells #[.func (.yield l) #[] #[]] 194 (0, 0)) ∧ MarksAt W.heap.size ds wr)
       (fun a _ => e.subs.length - (intOf (a.tmps.getD 13 undef)).toNat) ?atStart ?round
     case atStart => exact ⟨0, _, _, _, _, _, _, _, _, _, _, _, _, [], rfl, Nat.zero_le _, by simpa using HJ3.out, hb03, by omega, HY3.out, trivial⟩
     case round =>
       rintro a wr ⟨j, u4, u5, u14, u15, u16, u17, u18, u20, u21, u22, u23, u24, ds, rfl, hj, hJj, hbj, hszj, hyj, hmj⟩
       have HJJ := Lib.hid hJj
       have HYJ := Lib.hid hyj
       have HMJ := Lib.hid hmj
       clear hJj hyj hmj HJ3 HY3 c0 c1 c2 c3 c4 c5
       by_cases hlt : j < e.subs.length
       · obtain ⟨b, off, eA, hbn, hcell⟩ := (row.below hbj).row (by omega)
         have hxs : e.subs.take (j + 1) = e.subs.take j ++ [e.subs[j]] := List.take_succ_eq_append_getElem hlt
         have hmem : e.subs[j] ∈ e.subs := List.getElem_mem hlt
         have k0 : wr.cell? ⟨b, off + j * 6, none⟩ = some (.int .u8 e.subs[j].kind) := hcell j hlt 0 _ rfl
         have k1 : wr.cell? ⟨b, off + j * 6 + 1, none⟩ = some (.int .u8 e.subs[j].op) := hcell j hlt 1 _ rfl
         have k2 : wr.cell? ⟨b, off + j * 6 + 2, none⟩ = some (.int .u32 e.subs[j].value) := hcell j hlt 2 _ rfl
         have k3 : wr.cell? ⟨b, off + j * 6 + 3, none⟩ = some (.int .i64 e.subs[j].width) := hcell j hlt 3 _ rfl
         have k4 : wr.cell? ⟨b, off + j * 6 + 4, none⟩ = some (.string e.subs[j].name) := hcell j hlt 4 _ rfl
         have k5 : wr.cell? ⟨b, off + j * 6 + 5, none⟩ = some (.slice e.subs[j].sp.at_ e.subs[j].subs.length e.subs[j].sp.cap) := hcell j hlt 5 _ rfl
         have HXS := Lib.hid hxs
         have HIX := Lib.hid (IH.out _ hmem)
         generalize e.subs[j] = x at *
         have hE := exprs_any x
         simp only [ExprV.val, Sp.val, ExprV.cells] at hE
         have hj0 : (0 : Int) ≤ (j : Int) := by omega
         have hjm : (j : Int) + 1 ≤ 9223372036854775807 := by
           have h1 := row.cap
           have h2 := row.big
           simp only [maxLen] at h2
           omega
         have hj1 : (j : Int) < (e.subs.length : Int) := by omega
         have HE := Lib.hid hE
         have EA := Lib.hid eA
         clear hcell hxs hmem hE
         rw [eA]
         clear eA
         gi_wp2_with (refine ⟨trivial, fun h => (by cases h), ?_⟩; gi_at_call 87; refine (callsIn_wide.2 (HE.out _)).mono ?_; rintro o4 w4 ⟨rfl, rfl⟩)
         have hbw5 : Below wr.heap.size wr ((wr.alloc (.cells #[.int .u8 x.kind, .int .u8 x.op, .int .u32 x.value, .int .i64 x.width, .string x.name, .slice x.sp.at_ x.subs.length x.sp.cap] 30)).alloc (.cells #[.int .u8 x.kind, .int .u8 x.op, .int .u32 x.value, .int .i64 x.width, .string x.name, .slice x.sp.at_ x.subs.length x.sp.cap] 30)) := ((Below.refl _ wr).alloc (Nat.le_refl _) _).alloc (by simp) _
         have hB5 := World.alloc_heap_new (wr.alloc (.cells #[.int .u8 x.kind, .int .u8 x.op, .int .u32 x.value, .int .i64 x.width, .string x.name, .slice x.sp.at_ x.subs.length x.sp.cap] 30)) (.cells #[.int .u8 x.kind, .int .u8 x.op, .int .u32 x.value, .int .i64 x.width, .string x.name, .slice x.sp.at_ x.subs.length x.sp.cap] 30)
         rw [World.size_alloc] at hB5
         have hJ5 : J (e :: (e.subs.take j).flatMap ExprV.pre) ((wr.alloc (.cells #[.int .u8 x.kind, .int .u8 x.op, .int .u32 x.value, .int .i64 x.width, .string x.name, .slice x.sp.at_ x.subs.length x.sp.cap] 30)).alloc (.cells #[.int .u8 x.kind, .int .u8 x.op, .int .u32 x.value, .int .i64 x.width, .string x.name, .slice x.sp.at_ x.subs.length x.sp.cap] 30)) := hJ.alloc _ (hJ.alloc _ HJJ.out)
         generalize (wr.alloc (.cells #[.int .u8 x.kind, .int .u8 x.op, .int .u32 x.value, .int .i64 x.width, .string x.name, .slice x.sp.at_ x.subs.length x.sp.cap] 30)).alloc (.cells #[.int .u8 x.kind, .int .u8 x.op, .int .u32 x.value, .int .i64 x.width, .string x.name, .slice x.sp.at_ x.subs.length x.sp.cap] 30) = w5 at *
         have hs5 := hbw5.size
         have hs0 := hW.size
         have hb5 : Below n₀ W0 w5 := hbj.trans (hbw5.mono (by omega))
         have hY5 := (hbw5.block W.heap.size hszj).trans HYJ.out
         have hM5 : MarksAt W.heap.size ds w5 := HMJ.out.keeps (fun D _ hD => (hbw5.block D (Array.getElem?_eq_some_iff.1 hD).1).trans hD)
         have HLT : Hid (∀ d ∈ ds, ∀ D, d.target = .collected D → D < w5.heap.size) := Lib.hid fun d hd D hD => by
           obtain ⟨D', e', hlt'⟩ := hM5.lt d hd
           rw [hD] at e'
           cases e'
           exact hlt'
         clear k0 k1 k2 k3 k4 k5 HE
         have hxl : x.pre.length + (e :: (e.subs.take j).flatMap ExprV.pre).length ≤ e.pre.length := by
           rw [HPRE.out]
           have h1 : e.subs.take (j + 1) <+: e.subs := List.take_prefix _ _
           obtain ⟨r, hr⟩ := h1
           have h2 : (e.subs.flatMap ExprV.pre).length = ((e.subs.take (j + 1)).flatMap ExprV.pre).length + (r.flatMap ExprV.pre).length := by
             rw [← List.length_append, ← List.flatMap_append, hr]
           rw [HXS.out, List.flatMap_append, List.length_append] at h2
           simp only [List.flatMap_cons, List.flatMap_nil, List.append_nil] at h2
           simp only [List.length_cons]
           omega
         have hpfx : ∀ pre, pre <+: x.pre → (e :: (e.subs.take j).flatMap ExprV.pre) ++ pre <+: e.pre := by
           intro pre hpre
           rw [HPRE.out]
           obtain ⟨r1, hr1⟩ := hpre
           obtain ⟨r, hr⟩ : e.subs.take (j + 1) <+: e.subs := List.take_prefix _ _
           refine ⟨r1 ++ r.flatMap ExprV.pre, ?_⟩
           conv => rhs; rw [← hr, HXS.out]
           simp only [List.flatMap_append, List.flatMap_cons, List.flatMap_nil, List.cons_append, List.append_assoc]
           rw [← hr1]
           simp [List.append_assoc]
         refine wpIn_rangeFunc_net (T := TT) rfl (fun h => by cases h) (gf := 152) (lb := #[.pointer (some ⟨wr.heap.size + 1, 0, none⟩)]) rfl trivial (enters_of Tryz.func152 (by kernel_rfl) rfl)
           (HIX.out (n - 1) w5 (wr.heap.size + 1) hb5 (by omega) hB5) (by omega) (Below.refl _ _) (fun _ => rfl)
           (fun pre W' => (J ((e :: (e.subs.take j).flatMap ExprV.pre) ++ pre) W' ∧ W'.heap[W.heap.size]? = some (.cells #[.func (.yield l) #[] #[]] 194 (0, 0)) ∧ MarksAt W.heap.size ds W') ∧ Below n₀ W0 W' ∧ w5.heap.size ≤ W'.heap.size)
           (fun c pre W' => c = .ret ∧ Jx ((e :: (e.subs.take j).flatMap ExprV.pre) ++ pre) W' ∧ MarksAt W.heap.size ds W')
           ?hI ?hIx ⟨⟨by simpa using hJ5, hY5, hM5⟩, hb5, Nat.le_refl _⟩
           (fun y a' W' => ∃ by5, W'.heap[by5]? = some (.cells y.cells.toArray 30 (0, 0)) ∧ a' = { tmps := #[.func (.yield l) #[] #[], .pointer (some ⟨Bs, 0, none⟩), .pointer (some ⟨W.heap.size, 0, none⟩), undef, .pointer (some ⟨wr.heap.size, 0, none⟩), .pointer (some ⟨by5, 0, none⟩), .func (.yield l) #[] #[], .agg #[.int .u8 e.kind, .int .u8 e.op, .int .u32 e.value, .int .i64 e.width, .string e.name, .slice (some ⟨b, off, none⟩) e.subs.length e.sp.cap], .bool true, .bool false, .pointer (some ⟨Bs, 5, none⟩), .slice (some ⟨b, off, none⟩) e.subs.length e.sp.cap, .int .i64 e.subs.length, .int .i64 j, .bool true, .pointer (some ⟨b, off + j * 6, none⟩), .agg #[.int .u8 x.kind, .int .u8 x.op, .int .u32 x.value, .int .i64 x.width, .string x.name, .slice x.sp.at_ x.subs.length x.sp.cap], .agg #[.int .u8 x.kind, .int .u8 x.op, .int .u32 x.value, .int .i64 x.width, .string x.name, .slice x.sp.at_ x.subs.length x.sp.cap], .func (.func 152) #[] #[.pointer (some ⟨wr.heap.size + 1, 0, none⟩)], y.val, u20, u21, u22, u23, u24], defers := [] })
           ?hAx ?assign ?body ?done ?stop
         case hI =>
           rintro s X Y rw ⟨⟨h1, h2, h3⟩, h4, h5⟩ hg hr
           refine ⟨⟨ownUp hJ (by omega) _ X Y rw h1 hg hr, (hg.block W.heap.size (by omega) (fun e' => by have := (hr _ e'.symm).1; omega)).trans h2, h3.keepsIn (fun d hd D hD _ hX => (hg.block D (Array.getElem?_eq_some_iff.1 hX).1 (fun e' => ?_)).trans hX)⟩, h4.grown hg (by omega) (fun q hq => by have := (hr q hq).1; omega), Nat.le_trans h5 hg.size⟩
           have h6 := (hr _ e'.symm).1
           have h7 := HLT.out d hd D hD
           omega
         case hIx =>
           rintro c s X Y rw ⟨hc, h1, h3⟩ hg hr
           refine ⟨hc, ownUp hJx (by omega) _ X Y rw h1 hg hr, h3.keepsIn (fun d hd D hD _ hX => (hg.block D (Array.getElem?_eq_some_iff.1 hX).1 (fun e' => ?_)).trans hX)⟩
           have h6 := (hr _ e'.symm).1
           have h7 := HLT.out d hd D hD
           omega
         case hAx =>
           rintro y a' _ X Y rw ⟨by5, h1, h2⟩ hg hr
           refine ⟨by5, (hg.block by5 (Array.getElem?_eq_some_iff.1 h1).1 (fun e' => ?_)).trans h1, h2⟩
           obtain ⟨_, o', ho, hc⟩ := hr by5 e'.symm
           rw [h1] at ho
           cases ho
           cases hc
         case assign =>
           rintro l2 pre y Wc K ⟨⟨h1, h2, h3⟩, h4, h5⟩ hK
           have H1 := Lib.hid h1
           have H2 := Lib.hid h2
           have H3 := Lib.hid h3
           clear h1 h2 h3
           simp only [ExprV.val, Sp.val] at hK ⊢
           gi_wp2
           have hba : Below Wc.heap.size Wc (Wc.alloc (.cells #[.int .u8 y.kind, .int .u8 y.op, .int .u32 y.value, .int .i64 y.width, .string y.name, .slice y.sp.at_ y.subs.length y.sp.cap] 30)) := (Below.refl _ Wc).alloc (Nat.le_refl _) _
           exact hK _ _ (KeepsT.of_below hba) (hba.mono (by omega)) ⟨⟨hJ.alloc _ H1.out, (hba.block W.heap.size (by omega)).trans H2.out, H3.out.keeps (fun D _ hD => (hba.block D (Array.getElem?_eq_some_iff.1 hD).1).trans hD)⟩, h4.trans (hba.mono (by omega)), by have := hba.size; omega⟩ ⟨_, World.alloc_heap_new _ _, rfl⟩
         case body =>
           rintro l2 pre y a' Wc hl2 ⟨⟨h1, h2, h3⟩, h4, h5⟩ ⟨by5, hby, rfl⟩ hlen hsp
           simp only [ExprV.cells, Sp.val] at hby
           have d0 := one_cell h2
           obtain ⟨q0, q1, q2, q3, q4, q5⟩ := six_cells hby
           obtain ⟨fn2, tmps2, assign2, body2, hy, hR⟩ := HY.out _ y Wc h1 (by rw [List.length_append]; omega) (by rw [List.append_assoc]; exact hpfx _ hsp)
           dsimp only [ExprV.val, Sp.val] at hy
           have H1 := Lib.hid h1
           have H2 := Lib.hid h2
           have H3 := Lib.hid h3
           clear h1 h2 h3 hby
           simp only [ExprV.val, Sp.val]
           gi_wp2
           refine ⟨fun h => by (cases h), (roundAny _ _ hR).mono ?_⟩
           clear hR hy
           rintro o6 W6 (⟨rfl, hJ6, hk6, hb6⟩ | ⟨rfl, hJ6, hk6⟩)
           · have HJ6 := Lib.hid hJ6
             clear hJ6
             gi_wp2
             exact ⟨hk6.up (by omega), hb6, ⟨by rw [← List.append_assoc]; exact HJ6.out, hk6.cells _ _ _ _ H2.out rfl, H3.out.keeps (fun D hB hD => hk6.same D _ hB hD rfl)⟩, h4.trans hb6, Nat.le_trans h5 hk6.size⟩
           · have HJ6 := Lib.hid hJ6
             clear hJ6
             gi_wp2
             exact ⟨hk6.up (by omega), rfl, by rw [← List.append_assoc]; exact HJ6.out, H3.out.keeps (fun D hB hD => hk6.same D _ hB hD rfl)⟩
         case done =>
           rintro Dq ys Wd hD rfl ⟨⟨h1, h2, h3⟩, h4, h5⟩ hK
           have H1 := Lib.hid h1
           have H2 := Lib.hid h2
           have H3 := Lib.hid h3
           have HKq := Lib.hid hK
           clear h1 h2 h3 hK
           gi_wp2
           refine ⟨⟨j + 1, _, _, _, _, _, _, _, _, _, _, _, _, { target := .collected Dq, args := #[] } :: ds, rfl, by omega, ?_, h4, by omega, H2.out, Dq, rfl, by omega, HKq.out, fun d' hd' e' => by have := HLT.out d' hd' Dq e'; omega, H3.out⟩, by simp [intOf]; omega⟩
           rw [HXS.out, List.flatMap_append]
           simpa using H1.out
         case stop =>
           rintro Dq c pre Wd hD hp ⟨rfl, h1, h3⟩ hK
           have H1 := Lib.hid h1
           have H3 := Lib.hid h3
           have HKq := Lib.hid hK
           clear h1 h3 hK
           gi_wp2
           refine leaves_marks (B := W.heap.size) (fun W' => Jx ((e :: (e.subs.take j).flatMap ExprV.pre) ++ pre) W') (fun W' l' o' o'' h hB hl hc => hJx.putObj o'' h hB hl hc) (fun W' h => ⟨_, results_none rfl _ _ _, ⟨_, rfl⟩, .inr ⟨_, hpfx pre hp, h⟩⟩) _ Wd ⟨Dq, rfl, by omega, HKq.out, fun d' hd' e' => by have := HLT.out d' hd' Dq e'; omega, H3.out⟩ H1.out
       · obtain rfl : j = e.subs.length := by omega
         gi_wp2
         refine leaves_marks (B := W.heap.size) (fun W' => J e.pre W') (fun W' l' o' o'' h hB hl hc => hJ.putObj o'' h hB hl hc) (fun W' h => ⟨_, results_none rfl _ _ _, ⟨_, rfl⟩, .inl ⟨_, rfl, h⟩⟩) ds wr HMJ.out ?_
         have := HJJ.out
         rw [List.take_length, ← HPRE.out] at this
         exact this
   · gi_wp2
     exact ⟨_, results_none rfl _ _ _, ⟨_, rfl⟩, .inr ⟨[e], by rw [HPRE.out]; exact ⟨_, rfl⟩, hJ3⟩⟩
end Go.Proofs.YtepacjkacjabbaaGreatDoor
namespace Go.Proofs.YtepacjkacjabbaaGreatDoor
open Go Go.RowKit
attribute [local go_sem] Oper.semAt_some
def cntN (n : Nat) (b : Int) : Int := if b + n ≤ 20000 then b + n else max (b + 1) 20001
theorem pre_pos (e : ExprV) : 0 < e.pre.length := by rw [ExprV.pre_eq]; simp
set_option maxRecDepth 1000000 in
set_option maxHeartbeats 2000000 in
theorem countExpr_any (w : World) (e : ExprV) (b : Int) (h : RdX w.heap.size w e) (hb : 0 ≤ b ∧ b ≤ 4611686018427387904) :
   Calls Tryz.prog 86 #[e.val, .int .i64 b] w fun o w' => o = .returned (.int .i64 (cntN e.pre.length b)) ∧ Below w.heap.size w w' := by
 refine (callsIn_wide (n := 5)).1 ?_
 have hE := exprs_any e
 simp only [ExprV.val, Sp.val, ExprV.cells] at hE ⊢
 have HE := Lib.hid hE
 clear hE
 refine callsIn_of_wp_marks Tryz.func86 rfl trivial ?_ rfl
 simp only [Tryz.ntmps86, List.size_toArray, List.length_cons, List.length_nil, Nat.reduceAdd, Nat.reduceSub, Array.replicate_succ, Array.replicate_zero, List.push_toArray, List.append_toArray, List.nil_append, List.cons_append]
 gi_wp2
 refine wpIn_wide.2 (wp_scope_straight (wpIn_wide (n := 5).1 ?_))
 refine wpIn_seq (wpIn_label ?_)
 gi_wp2_with (refine ⟨trivial, ?_⟩; gi_at_call 87; refine (callsIn_wide.2 (HE.out _)).mono ?_; rintro o4 w4 ⟨rfl, rfl⟩)
 have hbw : Below w.heap.size w (((w.alloc (.cells #[.int .u8 e.kind, .int .u8 e.op, .int .u32 e.value, .int .i64 e.width, .string e.name, .slice e.sp.at_ e.subs.length e.sp.cap] 30)).alloc (.cells #[.int .i64 b] 3)).alloc (.cells #[.int .u8 e.kind, .int .u8 e.op, .int .u32 e.value, .int .i64 e.width, .string e.name, .slice e.sp.at_ e.subs.length e.sp.cap] 30)) := (((Below.refl _ w).alloc (Nat.le_refl _) _).alloc (by simp) _).alloc (by simp; omega) _
 have hB5 := World.alloc_heap_new ((w.alloc (.cells #[.int .u8 e.kind, .int .u8 e.op, .int .u32 e.value, .int .i64 e.width, .string e.name, .slice e.sp.at_ e.subs.length e.sp.cap] 30)).alloc (.cells #[.int .i64 b] 3)) (.cells #[.int .u8 e.kind, .int .u8 e.op, .int .u32 e.value, .int .i64 e.width, .string e.name, .slice e.sp.at_ e.subs.length e.sp.cap] 30)
 have hbx : Boxed (((w.alloc (.cells #[.int .u8 e.kind, .int .u8 e.op, .int .u32 e.value, .int .i64 e.width, .string e.name, .slice e.sp.at_ e.subs.length e.sp.cap] 30)).alloc (.cells #[.int .i64 b] 3)).alloc (.cells #[.int .u8 e.kind, .int .u8 e.op, .int .u32 e.value, .int .i64 e.width, .string e.name, .slice e.sp.at_ e.subs.length e.sp.cap] 30)) (w.heap.size + 1) 3 (.int .i64 b) := by
   have := (Boxed.new (w.alloc (.cells #[.int .u8 e.kind, .int .u8 e.op, .int .u32 e.value, .int .i64 e.width, .string e.name, .slice e.sp.at_ e.subs.length e.sp.cap] 30)) 3 (.int .i64 b)).alloc (.cells #[.int .u8 e.kind, .int .u8 e.op, .int .u32 e.value, .int .i64 e.width, .string e.name, .slice e.sp.at_ e.subs.length e.sp.cap] 30)
   rwa [World.size_alloc] at this
 have hs3 : w.heap.size + 3 ≤ (((w.alloc (.cells #[.int .u8 e.kind, .int .u8 e.op, .int .u32 e.value, .int .i64 e.width, .string e.name, .slice e.sp.at_ e.subs.length e.sp.cap] 30)).alloc (.cells #[.int .i64 b] 3)).alloc (.cells #[.int .u8 e.kind, .int .u8 e.op, .int .u32 e.value, .int .i64 e.width, .string e.name, .slice e.sp.at_ e.subs.length e.sp.cap] 30)).heap.size := by simp
 simp only [World.size_alloc] at hB5
 generalize ((w.alloc (.cells #[.int .u8 e.kind, .int .u8 e.op, .int .u32 e.value, .int .i64 e.width, .string e.name, .slice e.sp.at_ e.subs.length e.sp.cap] 30)).alloc (.cells #[.int .i64 b] 3)).alloc (.cells #[.int .u8 e.kind, .int .u8 e.op, .int .u32 e.value, .int .i64 e.width, .string e.name, .slice e.sp.at_ e.subs.length e.sp.cap] 30) = w3 at *
 refine wpIn_rangeFunc_net (T := TT) rfl (fun h => by cases h) (gf := 152) (lb := #[.pointer (some ⟨w.heap.size + 1 + 1, 0, none⟩)]) rfl trivial (enters_of Tryz.func152 (by kernel_rfl) rfl)
   (exprs_seq h _ w3 (w.heap.size + 1 + 1) hbw (by omega) hB5) (by omega) (Below.refl _ _) (fun _ => rfl)
   (fun pre W' => (Boxed W' (w.heap.size + 1) 3 (.int .i64 (b + (pre.length : Int))) ∧ (pre.length = 0 ∨ b + (pre.length : Int) ≤ 20000)) ∧ Below w.heap.size w W' ∧ w3.heap.size ≤ W'.heap.size)
   (fun c pre W' => c = .exit 0 ∧ Boxed W' (w.heap.size + 1) 3 (.int .i64 (b + (pre.length : Int))) ∧ 20000 < b + (pre.length : Int) ∧ 0 < pre.length ∧ (pre.length = 1 ∨ b + (pre.length : Int) = 20001) ∧ Below w.heap.size w W' ∧ w3.heap.size ≤ W'.heap.size)
   ?hI ?hIx ⟨⟨by simpa using hbx, .inl rfl⟩, hbw, Nat.le_refl _⟩
   (fun _ a' _ => ∃ v7, a' = { tmps := #[.agg #[.int .u8 e.kind, .int .u8 e.op, .int .u32 e.value, .int .i64 e.width, .string e.name, .slice e.sp.at_ e.subs.length e.sp.cap], .int .i64 b, .pointer (some ⟨w.heap.size, 0, none⟩), .pointer (some ⟨w.heap.size + 1, 0, none⟩), .int .i64 0, .agg #[.int .u8 e.kind, .int .u8 e.op, .int .u32 e.value, .int .i64 e.width, .string e.name, .slice e.sp.at_ e.subs.length e.sp.cap], .func (.func 152) #[] #[.pointer (some ⟨w.heap.size + 1 + 1, 0, none⟩)], v7, undef, undef, undef, undef, undef], defers := [] })
   ?hAx ?assign ?body ?done ?stop
 case hI =>
   rintro s X' Y rw ⟨⟨h1, h2⟩, h4, h5⟩ hg hr
   exact ⟨⟨h1.kept hg (fun e' => by have := (hr _ e'.symm).1; omega), h2⟩, h4.grown hg (by omega) (fun q hq => by have := (hr q hq).1; omega), Nat.le_trans h5 hg.size⟩
 case hIx =>
   rintro c s X' Y rw ⟨hc, h1, h2, h0, h3, h4, h5⟩ hg hr
   exact ⟨hc, h1.kept hg (fun e' => by have := (hr _ e'.symm).1; omega), h2, h0, h3, h4.grown hg (by omega) (fun q hq => by have := (hr q hq).1; omega), Nat.le_trans h5 hg.size⟩
 case hAx =>
   rintro y a' _ X' Y rw h hg hr
   exact h
 case assign =>
   rintro l2 pre y Wc K hi hK
   gi_wp2
   exact hK _ _ (KeepsT.refl _ _ _) (Below.refl _ _) hi ⟨y.val, by simp⟩
 case body =>
   rintro l2 pre y a' Wc hl2 ⟨⟨h1, h2⟩, h4, h5⟩ ⟨v7, rfl⟩ hlen _
   have hc := h1.cell
   have hf := h1.frozen
   have hwr : wrap64 (b + (pre.length : Int) + 1) = b + (pre.length : Int) + 1 := IntWalk.wrap64_in _ (by omega)
   have hk : KeepsT TT w3.heap.size Wc (Wc.setCell ⟨w.heap.size + 1, 0, none⟩ (.int .i64 (b + (pre.length : Int) + 1))) := KeepsT.set (a := ⟨w.heap.size + 1, 0, none⟩) h1 rfl _
   have hbb : Below w.heap.size Wc (Wc.setCell ⟨w.heap.size + 1, 0, none⟩ (.int .i64 (b + (pre.length : Int) + 1))) := (Below.refl _ Wc).setCell (p := ⟨w.heap.size + 1, 0, none⟩) (by simp) _
   have hst : Boxed (Wc.setCell ⟨w.heap.size + 1, 0, none⟩ (.int .i64 (b + (pre.length : Int) + 1))) (w.heap.size + 1) 3 (.int .i64 (b + (((pre ++ [y]).length : Nat) : Int))) := by
     rw [show b + (((pre ++ [y]).length : Nat) : Int) = b + (pre.length : Int) + 1 by simp; omega]
     exact h1.set _
   have hl1 : (pre ++ [y]).length = pre.length + 1 := by simp
   by_cases hgt : 20000 < b + (pre.length : Int) + 1
   · have x1 : 20000 < b + (((pre ++ [y]).length : Nat) : Int) := by omega
     have x2 : 0 < (pre ++ [y]).length := by omega
     have x3 : (pre ++ [y]).length = 1 ∨ b + (((pre ++ [y]).length : Nat) : Int) = 20001 := by omega
     have X := Lib.hid (And.intro x1 (And.intro x2 x3))
     clear x1 x2 x3 hl1
     gi_wp2
     exact ⟨hk, rfl, hst, X.out.1, X.out.2.1, X.out.2.2, h4.trans hbb, Nat.le_trans h5 hk.size⟩
   · have x1 : b + (((pre ++ [y]).length : Nat) : Int) ≤ 20000 := by omega
     have X := Lib.hid x1
     clear x1 hl1
     gi_wp2
     exact ⟨hk, hbb, ⟨hst, .inr X.out⟩, h4.trans hbb, Nat.le_trans h5 hk.size⟩
 case done =>
   rintro Dq ys Wd hD rfl ⟨⟨h1, h2⟩, h4, h5⟩ hK
   have hc := h1.cell
   have hp := pre_pos e
   gi_wp2
   refine ⟨by simp, .inl ⟨_, _, rfl, run_takeDeferred hK, ?_⟩⟩
   have e1 : cntN e.pre.length b = b + (e.pre.length : Int) := by unfold cntN; rw [if_pos (by omega)]
   exact ⟨_, results_tmp rfl _ _ _, by rw [e1]; rfl, h4.trans (below_put _ _ (by omega))⟩
 case stop =>
   rintro Dq c pre Wd hD hp ⟨rfl, h1, h2, h0, h3, h4, h5⟩ hK
   have hc := h1.cell
   have hle := hp.length_le
   gi_wp2
   refine ⟨by simp, .inl ⟨_, _, rfl, run_takeDeferred hK, ?_⟩⟩
   have e1 : cntN e.pre.length b = b + (pre.length : Int) := by unfold cntN; rw [if_neg (by omega)]; omega
   exact ⟨_, results_tmp rfl _ _ _, by rw [e1]; rfl, h4.trans (below_put _ _ (by omega))⟩
end Go.Proofs.YtepacjkacjabbaaGreatDoor
