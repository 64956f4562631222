import Derived.Test.YtepacjkacjabbaaGreatDoorKAO
import Derived.Test.YtepacjkacjabbaaGreatDoorKBA
import Derived.Test.YtepacjkacjabbaaGreatDoorKAJ
import Derived.Test.YtepacjkacjabbaaGreatDoorKAG
import Derived.Test.YtepacjkacjabbaaGreatDoorKAK
import Derived.Test.YtepacjkacjabbaaGreatDoorKAE
namespace Go.Proofs.YtepacjkacjabbaaGreatDoor
open Go
def LoopOk (x : StmtV) : Prop := x.kind = 7 → 1 ≤ x.bound ∧ x.bound ≤ 16 ∧ x.exprs.length = 1 ∧ x.els = []
theorem unT_loop {s : StmtV} (h : loopB s = true) : unT s = iterN (fun last => whenT s.exprs (unTs s.thn ++ [last])) s.bound.toNat (whenT s.exprs [passT]) := by
 cases s
 rw [unT, if_pos h]
 rfl
theorem unT_no {s : StmtV} (h : loopB s = false) : unT s = .mk s.kind s.name Sp.none s.exprs s.bound Sp.none (unTs s.thn) Sp.none (unTs s.els) := by
 cases s
 rw [unT, if_neg (by rw [h]; decide)]
 rfl
theorem iterN_ind {α : Type} (P : Nat → α → Prop) (f : α → α) (step : ∀ k y, P k y → P (k + 1) (f y)) : ∀ (n k : Nat) (x : α), P k x → P (k + n) (iterN f n x)
 | 0, k, x, h => h
 | n + 1, k, x, h => by
   rw [iterN, show k + (n + 1) = (k + 1) + n by omega]
   exact iterN_ind P f step n (k + 1) (f x) (step k x h)
theorem loopB_kind {s : StmtV} (h : s.kind ≠ 7) : loopB s = false := by unfold loopB; rw [decide_eq_false h]; rfl
theorem loopB_of {s : StmtV} (h : loopB s = true) : s.kind = 7 := by
 unfold loopB at h
 rw [Bool.and_eq_true] at h
 exact of_decide_eq_true h.1
def hfT (s : StmtV) : Nat := 1 + heftX s.exprs + heftL s.thn + heftL s.els
theorem heftL_step (s : StmtV) (l : List StmtV) : heftL (s :: l) = hfT s + heftL l := heftL_cons s l
theorem heftL_nil : heftL [] = 0 := rfl
theorem hf_pass : hfT passT = 2 := by
 show 1 + heftX [.mk 1 0 1 1 ⟨#[]⟩ Sp.none []] + heftL [] + heftL [] = 2
 rw [heftL_nil]
 unfold heftX
 rw [List.map_cons, pre_lenX]
 rfl
theorem heftL_both (a b : List StmtV) : heftL (a ++ b) = heftL a + heftL b := by
 unfold heftL heftT
 rw [List.flatMap_append, List.map_append, List.sum_append]
theorem take_one {α : Type} {l : List α} (h : l.length = 1) : l.take 1 = l := List.take_of_length_le (by omega)
theorem LoopOk.thn {s : StmtV} (h : ∀ x ∈ s.pre, LoopOk x) : ∀ t ∈ s.thn, ∀ x ∈ t.pre, LoopOk x := fun t ht x hx => h x (by
 rw [StmtV.pre_eq]; exact List.mem_cons_of_mem _ (List.mem_append_left _ (List.mem_flatMap.2 ⟨t, ht, hx⟩)))
theorem LoopOk.els {s : StmtV} (h : ∀ x ∈ s.pre, LoopOk x) : ∀ t ∈ s.els, ∀ x ∈ t.pre, LoopOk x := fun t ht x hx => h x (by
 rw [StmtV.pre_eq]; exact List.mem_cons_of_mem _ (List.mem_append_right _ (List.mem_flatMap.2 ⟨t, ht, hx⟩)))
theorem LoopOk.own {s : StmtV} (h : ∀ x ∈ s.pre, LoopOk x) : LoopOk s := h s (by rw [StmtV.pre_eq]; exact List.mem_cons_self ..)
theorem wtTs_near : ∀ (l : List StmtV), (∀ s ∈ l, wtT s = hfT (unT s) ∨ (20000 < wtT s ∧ 20000 < hfT (unT s))) → ∀ n : Int, 0 ≤ n → n ≤ 20000 → (wtTs l n = n + heftL (unTs l) ∧ n + heftL (unTs l) ≤ 20000) ∨ (wtTs l n = 20001 ∧ 20000 < n + heftL (unTs l))
 | [], _, n, h0, h1 => by rw [wtTs, unTs, heftL_nil]; left; omega
 | s :: l, h, n, h0, h1 => by
   rw [wtTs, unTs, heftL_step]
   have hs := h s (List.mem_cons_self ..)
   by_cases hb : n + wtT s > 20000
   · rw [if_pos hb]
     right
     omega
   · rw [if_neg hb]
     have e : wtT s = hfT (unT s) := by
       rcases hs with e | ⟨h2, _⟩
       · exact e
       · omega
     rw [e] at hb ⊢
     have := wtTs_near l (fun t ht => h t (List.mem_cons_of_mem _ ht)) (n + hfT (unT s)) (by omega) (by omega)
     omega
theorem mul_big {b x : Int} (hb : 1 ≤ b) (hx : 0 ≤ x) : x ≤ b * x := by
 have := Int.mul_nonneg (show 0 ≤ b - 1 by omega) hx
 rw [Int.sub_mul, Int.one_mul] at this
 omega
theorem hf_loop {s : StmtV} (h : loopB s = true) (hx : s.exprs.length = 1) : (hfT (unT s) : Int) = (s.bound.toNat : Int) * (1 + (heftX s.exprs : Int) + heftL (unTs s.thn)) + (1 + (heftX s.exprs : Int)) + 2 := by
 rw [unT_loop h]
 have h1 := iterN_ind (fun k y => (hfT y : Int) = (k : Int) * (1 + (heftX s.exprs : Int) + heftL (unTs s.thn)) + (1 + (heftX s.exprs : Int)) + 2) (fun last => whenT s.exprs (unTs s.thn ++ [last])) (fun k y hy => by
   have e : hfT (whenT s.exprs (unTs s.thn ++ [y])) = 1 + heftX s.exprs + (heftL (unTs s.thn) + hfT y) := by
     show 1 + heftX (s.exprs.take 1) + heftL (unTs s.thn ++ [y]) + heftL [] = _
     rw [take_one hx, heftL_both, heftL_step, heftL_nil]
     omega
   rw [e]
   rw [Int.natCast_add k 1, Int.add_mul]
   omega) s.bound.toNat 0 (whenT s.exprs [passT]) (by
   have e : hfT (whenT s.exprs [passT]) = 1 + heftX s.exprs + 2 := by
     show 1 + heftX (s.exprs.take 1) + heftL [passT] + heftL [] = _
     rw [take_one hx, heftL_step, heftL_nil, hf_pass]
   rw [e]
   simp)
 rw [Nat.zero_add] at h1
 exact h1
theorem wtT_near (s : StmtV) (h : ∀ x ∈ s.pre, LoopOk x) : wtT s = hfT (unT s) ∨ (20000 < wtT s ∧ 20000 < hfT (unT s)) := by
 induction s using StmtV.ind with
 | h k n es ex b ts th os el i1 i2 =>
   have a1 := wtTs_near th (fun s hs => i1 s hs (LoopOk.thn h s hs)) 0 (by decide) (by decide)
   have a2 := wtTs_near el (fun s hs => i2 s hs (LoopOk.els h s hs)) 0 (by decide) (by decide)
   rw [wtT]
   cases hl : loopB (.mk k n es ex b ts th os el) with
   | true =>
     rw [if_pos rfl]
     obtain ⟨h1, h2, h3, h4⟩ := LoopOk.own h (loopB_of hl)
     have hh := hf_loop hl h3
     change 1 ≤ b at h1
     have e : (((StmtV.mk k n es ex b ts th os el).bound.toNat : Nat) : Int) = b := Int.toNat_of_nonneg (by show 0 ≤ b; omega)
     rw [e] at hh
     change (hfT (unT (.mk k n es ex b ts th os el)) : Int) = b * (1 + (heftX ex : Int) + heftL (unTs th)) + (1 + (heftX ex : Int)) + 2 at hh
     rcases a1 with ⟨e1, _⟩ | ⟨e1, e2⟩
     · left
       rw [hh, e1, Int.zero_add]
     · right
       rw [e1]
       have m1 := mul_big h1 (show 0 ≤ 1 + (heftX ex : Int) + 20001 by omega)
       have m2 := mul_big h1 (show 0 ≤ 1 + (heftX ex : Int) + heftL (unTs th) by omega)
       omega
   | false =>
     rw [if_neg (by decide), unT_no hl]
     have e : hfT (.mk k n Sp.none ex b Sp.none (unTs th) Sp.none (unTs el)) = 1 + heftX ex + heftL (unTs th) + heftL (unTs el) := rfl
     show _ = ((hfT (.mk k n Sp.none ex b Sp.none (unTs th) Sp.none (unTs el)) : Nat) : Int) ∨ (_ ∧ 20000 < hfT (.mk k n Sp.none ex b Sp.none (unTs th) Sp.none (unTs el)))
     rw [e]
     omega
theorem wt_list {l : List StmtV} (h : ∀ x ∈ l.flatMap StmtV.pre, LoopOk x) : (wtTs l 0 = heftL (unTs l) ∧ heftL (unTs l) ≤ 20000) ∨ (wtTs l 0 = 20001 ∧ 20000 < heftL (unTs l)) := by
 have := wtTs_near l (fun s hs => wtT_near s fun x hx => h x (List.mem_flatMap.2 ⟨s, hs, hx⟩)) 0 (by decide) (by decide)
 omega
mutual
def depT : StmtV → Nat
 | .mk _ _ _ _ _ _ th _ el => 1 + max (depTs th) (depTs el)
def depTs : List StmtV → Nat
 | [] => 0
 | s :: l => max (depT s) (depTs l)
end
theorem depTs_both : ∀ (a b : List StmtV), depTs (a ++ b) = max (depTs a) (depTs b)
 | [], b => by rw [List.nil_append, depTs]; omega
 | s :: a, b => by rw [List.cons_append, depTs, depTs, depTs_both a b]; omega
end Go.Proofs.YtepacjkacjabbaaGreatDoor
namespace Go.Proofs.YtepacjkacjabbaaGreatDoor
open Go Go.RowKit Go.Maps
theorem bare_pass : bareT passT = passT := rfl
theorem wp_codeQ {P : Program} {Q : Exit → Act → World → Prop} {a : Act} {w : World} {C C' : Code} (h : C = C') (h2 : C'.wp P Q a w) : C.wp P Q a w := by subst h; exact h2
theorem act_F8 {a : Act} (h : a.tmps.size = 8) (hd : a.defers = []) : ∃ F : Nat → Value, (∀ i : Nat, F i = a.eval (.tmp i)) ∧ a = ⟨(F 0 :: F 1 :: F 2 :: F 3 :: F 4 :: F 5 :: F 6 :: F 7 :: []).toArray, []⟩ := ⟨fun i => a.eval (.tmp i), fun _ => rfl, act_eq h hd⟩
theorem heft_pass1 {p : StmtV} (h : bareT p = passT) : heftL [p] ≤ 20000 := by
 rw [← heftL_bare, List.map_cons, List.map_nil, h, heftL_step, heftL_nil, hf_pass]
 decide
theorem eq_pass1 {s p : StmtV} (h : bareT p = passT) : eqTs [s] [p] = isPass s := by
 unfold isPass
 rw [Bool.eq_iff_iff, eqTs_iff, eqT_iff, List.map_cons, List.map_nil, List.map_cons, List.map_nil, h, bare_pass]
 simp
noncomputable def opsIP : Array Oper := ((Tryz.f27.body.bind (opsOf 1)).getD #[])
def keepIP (t : Nat) : Bool := decide (t ≤ 1)
theorem opsIP_ok : stepsB opsIP 6 8 keepIP = true := by kernel_rfl
set_option maxRecDepth 10000000 in
set_option maxHeartbeats 64000000 in
theorem isPass1 {a0 : Act} {w0 : World} (hsz : a0.tmps.size = 8) (b1 : Nat) (s : StmtV) (f1 : a0.tmps[1]?.getD undef = .pointer (some ⟨b1, 0, none⟩)) (hbx : w0.heap[b1]? = some (.cells #[.int .u8 s.kind, .string s.name, .slice s.es.at_ s.exprs.length s.es.cap, .int .i64 s.bound, .slice s.ts.at_ s.thn.length s.ts.cap, .slice s.os.at_ s.els.length s.os.cap] 43 (0, 0))) (hrd : NowT w0 s) (hw : heftL [s] ≤ 20000) :
   (Code.region 1 opsIP true).wp Tryz.prog (fun e a w => e = .normal ∧ a.tmps.size = 8 ∧ a.defers = a0.defers ∧ (∀ t : Nat, keepIP t = true → a.tmps[t]?.getD undef = a0.tmps[t]?.getD undef) ∧ a.tmps[2]?.getD undef = .bool (isPass s) ∧ Below w0.heap.size w0 w) a0 w0 := by
 have hb1 : b1 < w0.heap.size := (Array.getElem?_eq_some_iff.1 hbx).1
 obtain ⟨x0, x1, x2, x3, x4, x5⟩ := six_cells hbx
 refine wp_region_steps (n := 6) (sz := 8) (keep := keepIP) rfl opsIP_ok hsz (fun _ w => Below w0.heap.size w0 w) (fun _ w w' => Below w.heap.size w w') ((Below.refl _ _).drew) ?_
 have e : opsIP.toList = opsIP.toList := rfl
 conv at e => rhs; arg 1; whnf
 simp only at e
 rw [e]
 clear e
 apply StepsS.exact rfl rfl
 · exact fun _ _ h => h
 · exact fun w => Below.refl _ w
 · rintro L a w ⟨-, hS, -, hsm, haft⟩
   have f1 : a.tmps[1]?.getD undef = _ := (hsm 1 rfl).trans f1
   have c0 := (hS.cell (p := ⟨b1, 0, none⟩) hb1).trans (x0)
   have c1 := (hS.cell (p := ⟨b1, 1, none⟩) hb1).trans (x1)
   have c2 := (hS.cell (p := ⟨b1, 2, none⟩) hb1).trans (x2)
   have c3 := (hS.cell (p := ⟨b1, 3, none⟩) hb1).trans (x3)
   have c4 := (hS.cell (p := ⟨b1, 4, none⟩) hb1).trans (x4)
   have c5 := (hS.cell (p := ⟨b1, 5, none⟩) hb1).trans (x5)
   simp [go_sem, f1, c0, c1, c2, c3, c4, c5]
   exact rfl
 refine StepsS.any (fun L v w => ∃ b, v = .slice (some ⟨b, 0, none⟩) 1 1 ∧ RowOf w.heap.size w ⟨some ⟨b, 0, none⟩, 1⟩ 6 StmtV.cells [s]) rfl ?_ ?_ ?_
 · exact fun _ _ _ _ _ _ hR hP => hP.imp fun b h2 => ⟨h2.1, (h2.2.below hR).more hR.size⟩
 · rintro L a w ⟨hL, hS, hbeh, hsm, haft⟩
   have f3 : a.tmps[3]?.getD undef = _ := tmps_of (haft.1 rfl).2
   have hb2 : Below w.heap.size w (w.alloc (.cells #[.int .u8 s.kind, .string s.name, .slice s.es.at_ s.exprs.length s.es.cap, .int .i64 s.bound, .slice s.ts.at_ s.thn.length s.ts.cap, .slice s.os.at_ s.els.length s.os.cap] 43)) := (Below.refl _ _).alloc (Nat.le_refl _) _
   refine Oper.wp_value (v := .slice (some ⟨w.heap.size, 0, none⟩) 1 1) (w' := w.alloc (.cells #[.int .u8 s.kind, .string s.name, .slice s.es.at_ s.exprs.length s.es.cap, .int .i64 s.bound, .slice s.ts.at_ s.thn.length s.ts.cap, .slice s.os.at_ s.els.length s.os.cap] 43)) ?_ ?_
   · simp [go_sem, f3]
   · exact ⟨_, rfl, fun e => (by cases e), ⟨_, rfl, row_one (enc := StmtV.cells) (x := s) (World.alloc_heap_new w _)⟩, hS.trans (hb2.mono hS.size), hb2⟩
 refine StepsS.any (fun L v w => ∃ p : StmtV, v = .agg #[.int .u8 p.kind, .string p.name, .slice p.es.at_ p.exprs.length p.es.cap, .int .i64 p.bound, .slice p.ts.at_ p.thn.length p.ts.cap, .slice p.os.at_ p.els.length p.os.cap] ∧ bareT p = passT ∧ NowT w p) rfl ?_ ?_ ?_
 · exact fun _ _ _ _ _ _ hR hP => hP.imp fun p h2 => ⟨h2.1, h2.2.1, (h2.2.2.stays hR).more hR.size⟩
 · rintro L a w ⟨hL, hS, hbeh, hsm, haft⟩
   refine Oper.wp_enter (f := 30) (args := #[]) (w' := w) ?_ ?_
   · simp [go_sem]
   · refine (pass_any w).mono ?_
     rintro o w' ⟨p, rfl, h1, h2, hb2⟩
     exact ⟨_, rfl, _, rfl, fun e => (by cases e), ⟨p, rfl, h1, h2⟩, hS.trans (hb2.mono hS.size), hb2⟩
 refine StepsS.any (fun L v w => ∃ b p, v = .slice (some ⟨b, 0, none⟩) 1 1 ∧ bareT p = passT ∧ RowOf w.heap.size w ⟨some ⟨b, 0, none⟩, 1⟩ 6 StmtV.cells [p] ∧ NowT w p) rfl ?_ ?_ ?_
 · exact fun _ _ _ _ _ _ hR hP => hP.imp fun b h => h.imp fun p h2 => ⟨h2.1, h2.2.1, (h2.2.2.1.below hR).more hR.size, (h2.2.2.2.stays hR).more hR.size⟩
 · rintro L a w ⟨hL, hS, hbeh, hsm, haft⟩
   obtain ⟨p, x5, hp, hnp⟩ := (haft.1 rfl).2
   have f5 : a.tmps[5]?.getD undef = .agg #[.int .u8 p.kind, .string p.name, .slice p.es.at_ p.exprs.length p.es.cap, .int .i64 p.bound, .slice p.ts.at_ p.thn.length p.ts.cap, .slice p.os.at_ p.els.length p.os.cap] := tmps_of x5
   have hb2 : Below w.heap.size w (w.alloc (.cells #[.int .u8 p.kind, .string p.name, .slice p.es.at_ p.exprs.length p.es.cap, .int .i64 p.bound, .slice p.ts.at_ p.thn.length p.ts.cap, .slice p.os.at_ p.els.length p.os.cap] 43)) := (Below.refl _ _).alloc (Nat.le_refl _) _
   refine Oper.wp_value (v := .slice (some ⟨w.heap.size, 0, none⟩) 1 1) (w' := w.alloc (.cells #[.int .u8 p.kind, .string p.name, .slice p.es.at_ p.exprs.length p.es.cap, .int .i64 p.bound, .slice p.ts.at_ p.thn.length p.ts.cap, .slice p.os.at_ p.els.length p.os.cap] 43)) ?_ ?_
   · simp [go_sem, f5]
   · exact ⟨_, rfl, fun e => (by cases e), ⟨_, p, rfl, hp, row_one (enc := StmtV.cells) (x := p) (World.alloc_heap_new w _), (hnp.stays hb2).more hb2.size⟩, hS.trans (hb2.mono hS.size), hb2⟩
 refine StepsS.any (fun L v w => v = .bool (isPass s)) rfl ?_ ?_ ?_
 · exact fun _ _ _ _ _ _ _ hP => hP
 · rintro L a w ⟨hL, hS, hbeh, hsm, haft⟩
   obtain ⟨b, x4, hr4⟩ := (haft.1 rfl).2
   obtain ⟨b6, p, x6, hp, hr6, hnp⟩ := (haft.2.1 rfl).2
   have f4 : a.tmps[4]?.getD undef = .slice (some ⟨b, 0, none⟩) 1 1 := tmps_of x4
   have f6 : a.tmps[6]?.getD undef = .slice (some ⟨b6, 0, none⟩) 1 1 := tmps_of x6
   have hst : NowT w s := (hrd.stays hS).more hS.size
   have hone : ∀ x : StmtV, NowT w x → ∀ t ∈ [x], NowT w t := fun x hx t ht => by rw [List.mem_singleton.1 ht]; exact hx
   have hCL := sameStmts_any w ⟨some ⟨b, 0, none⟩, 1⟩ ⟨some ⟨b6, 0, none⟩, 1⟩ [s] [p] ⟨hr4, hone s hst⟩ ⟨hr6, hone p hnp⟩ hw (heft_pass1 hp)
   have heq : eqTs [s] [p] = isPass s := eq_pass1 hp
   rw [heq] at hCL
   refine Oper.wp_enter (f := 38) (args := #[.slice (some ⟨b, 0, none⟩) 1 1, .slice (some ⟨b6, 0, none⟩) 1 1]) (w' := w) ?_ ?_
   · simp [go_sem, f4, f6]
   · refine hCL.mono ?_
     rintro o w' ⟨rfl, hb2⟩
     exact ⟨_, rfl, _, rfl, fun e => (by cases e), rfl, hS.trans (hb2.mono hS.size), hb2⟩
 refine StepsS.any (fun L v w => v = .bool (isPass s)) rfl ?_ ?_ ?_
 · exact fun _ _ _ _ _ _ _ hP => hP
 · rintro L a w ⟨hL, hS, hbeh, hsm, haft⟩
   have f7 : a.tmps[7]?.getD undef = .bool (isPass s) := tmps_of (haft.1 rfl).2
   refine Oper.wp_value (v := .bool (isPass s)) (w' := w) ?_ ?_
   · simp [go_sem, f7]
   · exact ⟨_, rfl, fun e => (by cases e), rfl, hS, Below.refl _ _⟩
 rintro L a w hL ⟨hS, hsame, hv⟩
 exact ⟨rfl, hsame.1.trans hsz, hsame.2.1, hsame.2.2, tmps_of (hv 5), hS⟩
set_option maxRecDepth 1000000 in
set_option maxHeartbeats 4000000 in
theorem isPass_any (w : World) (s : StmtV) (h : RdT w.heap.size w s) (hw : heftL [s] ≤ 20000) :
   Calls Tryz.prog 27 #[.agg #[.int .u8 s.kind, .string s.name, .slice s.es.at_ s.exprs.length s.es.cap, .int .i64 s.bound, .slice s.ts.at_ s.thn.length s.ts.cap, .slice s.os.at_ s.els.length s.os.cap]] w fun o w' => o = .returned (.bool (isPass s)) ∧ Below w.heap.size w w' := by
 have hb1 : Below w.heap.size w (w.alloc (.cells #[.int .u8 s.kind, .string s.name, .slice s.es.at_ s.exprs.length s.es.cap, .int .i64 s.bound, .slice s.ts.at_ s.thn.length s.ts.cap, .slice s.os.at_ s.els.length s.os.cap] 43)) := (Below.refl _ _).alloc (Nat.le_refl _) _
 have hB := World.alloc_heap_new w (.cells #[.int .u8 s.kind, .string s.name, .slice s.es.at_ s.exprs.length s.es.cap, .int .i64 s.bound, .slice s.ts.at_ s.thn.length s.ts.cap, .slice s.os.at_ s.els.length s.os.cap] 43)
 have hrd : NowT (w.alloc (.cells #[.int .u8 s.kind, .string s.name, .slice s.es.at_ s.exprs.length s.es.cap, .int .i64 s.bound, .slice s.ts.at_ s.thn.length s.ts.cap, .slice s.os.at_ s.els.length s.os.cap] 43)) s := (h.stays hb1).more hb1.size
 have HW := Lib.hid hw
 have HB := Lib.hid hB
 have HRD := Lib.hid hrd
 have HB1 := Lib.hid hb1
 clear h hw hB hrd hb1
 go_enter Tryz.func27, Tryz.ntmps27
 go_wp2_with fail
 refine Code.wp_mono ?_ (wp_codeQ (C' := .region 1 opsIP true) (by kernel_rfl) (isPass1 rfl w.heap.size s rfl HB.out HRD.out HW.out))
 rintro e a9 w2 ⟨rfl, hsz9, hd9, hsm9, h2, hb2⟩
 obtain ⟨F, hF, rfl⟩ := act_F8 hsz9 hd9
 have g2 : F 2 = .bool (isPass s) := (hF 2).trans (eval_of h2)
 rw [g2]
 clear hF g2 hsz9 hd9 hsm9 h2
 go_wp2_with fail
 go_ret
 exact ⟨rfl, HB1.out.trans (hb2.mono HB1.out.size)⟩
set_option maxRecDepth 1000000 in
set_option maxHeartbeats 4000000 in
theorem loop_any (w : World) (s : StmtV) (h : RdT w.heap.size w s) (hw : heftL [s] ≤ 20000) :
   Calls Tryz.prog 106 #[.agg #[.int .u8 s.kind, .string s.name, .slice s.es.at_ s.exprs.length s.es.cap, .int .i64 s.bound, .slice s.ts.at_ s.thn.length s.ts.cap, .slice s.os.at_ s.els.length s.os.cap]] w fun o w' => o = .returned (.bool (loopB s)) ∧ Below w.heap.size w w' := by
 have hb1 : Below w.heap.size w (w.alloc (.cells #[.int .u8 s.kind, .string s.name, .slice s.es.at_ s.exprs.length s.es.cap, .int .i64 s.bound, .slice s.ts.at_ s.thn.length s.ts.cap, .slice s.os.at_ s.els.length s.os.cap] 43)) := (Below.refl _ _).alloc (Nat.le_refl _) _
 have HP := Lib.hid (isPass_any (w.alloc (.cells #[.int .u8 s.kind, .string s.name, .slice s.es.at_ s.exprs.length s.es.cap, .int .i64 s.bound, .slice s.ts.at_ s.thn.length s.ts.cap, .slice s.os.at_ s.els.length s.os.cap] 43)) s ((h.stays hb1).more hb1.size) hw)
 have HB1 := Lib.hid hb1
 clear h hw hb1
 by_cases hk : s.kind = 7
 · have hd : (s.kind == 7) = true := by simp [hk]
   have e : loopB s = !isPass s := by unfold loopB; rw [decide_eq_true hk, Bool.true_and]
   rw [e]
   clear hk e
   go_enter Tryz.func106, Tryz.ntmps106
   go_wp2_with fail
   refine HP.out.mono ?_
   rintro o w2 ⟨rfl, hb2⟩
   go_wp2_with fail
   go_ret
   exact ⟨rfl, HB1.out.trans (hb2.mono HB1.out.size)⟩
 · have hd : (s.kind == 7) = false := by simp [hk]
   rw [loopB_kind hk]
   clear hk
   go_enter Tryz.func106, Tryz.ntmps106
   go_wp2_with fail
   go_ret
   exact ⟨rfl, HB1.out⟩
end Go.Proofs.YtepacjkacjabbaaGreatDoor
namespace Go.Proofs.YtepacjkacjabbaaGreatDoor
open Go
def varN (q : ProcV) (d : DeclV) : ByteArray := q.name ++ ⟨#[46]⟩ ++ d.name
def varD (q : ProcV) (d : DeclV) : DeclV := ⟨varN q d, d.width, 0⟩
def procI (p : ProgV) (s : ByteArray) : Nat := ((look (procsAt p).reverse s).getD 0).toNat
def setStI (s : ByteArray) (e : ExprV) : StmtV := .mk 1 s Sp.none [e] 0 Sp.none [] Sp.none []
def setsI (q : ProcV) (ex : List ExprV) : List StmtV := (q.params.zip ex).map fun x => setStI (varN q x.1) x.2
def procQ (p : ProgV) (i : Nat) : ProcV := (p.procs[i]?).getD ⟨⟨#[]⟩, Sp.none, [], Sp.none, []⟩
mutual
def inT (p : ProgV) (B : Nat → List StmtV) : StmtV → List StmtV
 | .mk k n es ex b _ th _ el => if k = 8 then setsI (procQ p (procI p n)) ex ++ B (procI p n) else [.mk k n es ex b Sp.none (inTs p B th) Sp.none (inTs p B el)]
def inTs (p : ProgV) (B : Nat → List StmtV) : List StmtV → List StmtV
 | [] => []
 | s :: l => inT p B s ++ inTs p B l
end
def renQ (q : ProcV) (l : List StmtV) : List StmtV := q.params.foldl (fun l d => l.map (nmT (chX d.name (varN q d)) (chT d.name (varN q d)))) l
def bodyF (p : ProgV) : Nat → Nat → List StmtV
 | 0, _ => []
 | n + 1, i => renQ (procQ p i) (inTs p (bodyF p n) (procQ p i).body)
def bodyI (p : ProgV) (i : Nat) : List StmtV := bodyF p (p.procs.length + 1) i
def inlP (p : ProgV) : ProgV :=
 { p with rs := Sp.none, procs := [], vs := Sp.none, vars := p.vars ++ p.procs.flatMap fun q => q.params.map (varD q), ws := Sp.none, work := inTs p (bodyI p) p.work, cs := Sp.none, recover := inTs p (bodyI p) p.recover }
def RankP (p : ProgV) (r : Nat → Nat) : Prop := ∀ i, i < p.procs.length → ∀ s ∈ (procQ p i).body.flatMap StmtV.pre, s.kind = 8 → r (procI p s.name) < r i ∧ procI p s.name < p.procs.length
mutual
def callT' : StmtV → List ByteArray
 | .mk k n _ _ _ _ th _ el => (if k = 8 then [n] else []) ++ (callTs' th ++ callTs' el)
def callTs' : List StmtV → List ByteArray
 | [] => []
 | s :: l => callT' s ++ callTs' l
end
end Go.Proofs.YtepacjkacjabbaaGreatDoor
namespace Go.Proofs.YtepacjkacjabbaaGreatDoor
open Go
inductive Rch (p : ProgV) : Nat → Nat → Prop
 | refl (a : Nat) : Rch p a a
 | step {a b c : Nat} (h : b ∈ nextP p a) (t : Rch p b c) : Rch p a c
def restN (p : ProgV) (seen : List Nat) : Nat := ((List.range p.procs.length).map fun k => if k ∈ seen then 0 else (nextP p k).length).sum
theorem nextP_out {p : ProgV} {i : Nat} (h : p.procs.length ≤ i) : nextP p i = [] := by
 unfold nextP
 rw [List.getElem?_eq_none h]
theorem sum_drop (f : Nat → Nat) (seen : List Nat) (i : Nat) (hi : i ∉ seen) : ∀ l : List Nat, l.Nodup → (l.map fun k => if k ∈ i :: seen then 0 else f k).sum + (if i ∈ l then f i else 0) = (l.map fun k => if k ∈ seen then 0 else f k).sum
 | [], _ => by simp
 | x :: l, hn => by
   rw [List.nodup_cons] at hn
   have ih := sum_drop f seen i hi l hn.2
   rw [List.map_cons, List.map_cons, List.sum_cons, List.sum_cons]
   by_cases hx : i = x
   · subst hx
     rw [if_neg hn.1, Nat.add_zero] at ih
     rw [if_pos (List.mem_cons_self ..), if_pos (List.mem_cons_self ..), if_neg hi, ← ih]
     omega
   · have e1 : (x ∈ i :: seen) = (x ∈ seen) := by
       simp only [List.mem_cons, eq_iff_iff]
       exact ⟨fun h => h.resolve_left (Ne.symm hx), .inr⟩
     have e2 : (i ∈ x :: l) = (i ∈ l) := by
       simp only [List.mem_cons, eq_iff_iff]
       exact ⟨fun h => h.resolve_left hx, .inr⟩
     simp only [e1, e2]
     omega
theorem rest_cons (p : ProgV) (seen : List Nat) (i : Nat) (hi : i ∉ seen) : restN p (i :: seen) + (nextP p i).length = restN p seen := by
 have h := sum_drop (fun k => (nextP p k).length) seen i hi (List.range p.procs.length) List.nodup_range
 unfold restN
 rw [← h]
 by_cases hl : i < p.procs.length
 · rw [if_pos (List.mem_range.2 hl)]
 · rw [if_neg fun h => hl (List.mem_range.1 h), nextP_out (Nat.le_of_not_lt hl)]
   rfl
theorem leads_closed (p : ProgV) (tgt : Nat) : ∀ (n : Nat) (seen todo : List Nat), (∀ s ∈ seen, s ≠ tgt ∧ ∀ c ∈ nextP p s, c ∈ seen ∨ c ∈ todo) → todo.length + restN p seen < n → leadsF p tgt n seen todo = false →
   ∃ S : Nat → Prop, (∀ s ∈ seen, S s) ∧ (∀ t ∈ todo, S t) ∧ ¬ S tgt ∧ ∀ s, S s → ∀ c ∈ nextP p s, S c
 | 0, _, _, _, h, _ => absurd h (Nat.not_lt_zero _)
 | n + 1, seen, [], hI, _, _ => ⟨(· ∈ seen), fun _ h => h, fun _ h => (by cases h), fun h => (hI _ h).1 rfl, fun s hs c hc => by
     rcases (hI s hs).2 c hc with h | h
     · exact h
     · cases h⟩
 | n + 1, seen, i :: todo, hI, hf, hl => by
   by_cases hi : i = tgt
   · subst hi
     rw [leadsF, if_pos rfl] at hl
     cases hl
   · rw [leadsF, if_neg hi] at hl
     simp only [List.length_cons] at hf
     by_cases hs : i ∈ seen
     · rw [if_pos hs] at hl
       obtain ⟨S, h1, h2, h3, h4⟩ := leads_closed p tgt n seen todo (fun s hs2 => ⟨(hI s hs2).1, fun c hc => by
         rcases (hI s hs2).2 c hc with h | h
         · exact .inl h
         · rcases List.mem_cons.1 h with rfl | h
           · exact .inl hs
           · exact .inr h⟩) (by omega) hl
       exact ⟨S, h1, fun t ht => by
         rcases List.mem_cons.1 ht with rfl | ht
         · exact h1 _ hs
         · exact h2 t ht, h3, h4⟩
     · rw [if_neg hs] at hl
       have hr := rest_cons p seen i hs
       obtain ⟨S, h1, h2, h3, h4⟩ := leads_closed p tgt n (i :: seen) (todo ++ nextP p i) (fun s hs2 => by
         rcases List.mem_cons.1 hs2 with rfl | hs2
         · exact ⟨hi, fun c hc => .inr (List.mem_append_right _ hc)⟩
         · exact ⟨(hI s hs2).1, fun c hc => by
             rcases (hI s hs2).2 c hc with h | h
             · exact .inl (List.mem_cons_of_mem _ h)
             · rcases List.mem_cons.1 h with rfl | h
               · exact .inl (List.mem_cons_self ..)
               · exact .inr (List.mem_append_left _ h)⟩) (by rw [List.length_append]; omega) hl
       exact ⟨S, fun s hs2 => h1 s (List.mem_cons_of_mem _ hs2), fun t ht => by
         rcases List.mem_cons.1 ht with rfl | ht
         · exact h1 _ (List.mem_cons_self ..)
         · exact h2 t (List.mem_append_left _ ht), h3, h4⟩
theorem Rch.closed {p : ProgV} {S : Nat → Prop} (hS : ∀ s, S s → ∀ c ∈ nextP p s, S c) {a b : Nat} (h : Rch p a b) : S a → S b := by
 induction h with
 | refl => exact id
 | step h _ ih => exact fun ha => ih (hS _ ha _ h)
theorem leads_no {p : ProgV} {a b : Nat} (h : leadsB p a b = false) : ¬ Rch p a b := by
 obtain ⟨S, _, h2, h3, h4⟩ := leads_closed p b (fuelP p) [] [a] (fun s hs => (by cases hs)) (by unfold fuelP restN; simp) h
 exact fun hr => h3 (hr.closed h4 (h2 a (List.mem_cons_self ..)))
theorem countP_lt {α : Type} (f g : α → Bool) : ∀ l : List α, (∀ x ∈ l, f x = true → g x = true) → (∃ x ∈ l, g x = true ∧ f x = false) → l.countP f < l.countP g
 | [], _, h => by obtain ⟨x, hx, _⟩ := h; cases hx
 | x :: l, hi, h => by
   have hle : ∀ l : List α, (∀ x ∈ l, f x = true → g x = true) → l.countP f ≤ l.countP g := fun l hl => List.countP_mono_left hl
   rw [List.countP_cons, List.countP_cons]
   have hx := hi x (List.mem_cons_self ..)
   have hl := hle l fun y hy => hi y (List.mem_cons_of_mem _ hy)
   obtain ⟨y, hy, hg, hf⟩ := h
   rcases List.mem_cons.1 hy with rfl | hy
   · simp [hg, hf]; omega
   · have := countP_lt f g l (fun y hy => hi y (List.mem_cons_of_mem _ hy)) ⟨y, hy, hg, hf⟩
     by_cases hfx : f x = true
     · simp [hfx, hx hfx]; omega
     · simp [hfx]; split <;> omega
noncomputable def rankP (p : ProgV) (i : Nat) : Nat := (List.range p.procs.length).countP fun k => @decide (Rch p i k) (Classical.propDecidable _)
theorem rank_lt {p : ProgV} {i j : Nat} (hi : i < p.procs.length) (hj : j ∈ nextP p i) (hn : leadsB p j i = false) : rankP p j < rankP p i := by
 unfold rankP
 refine countP_lt _ _ _ (fun k _ hk => ?_) ⟨i, List.mem_range.2 hi, ?_, ?_⟩
 · exact @decide_eq_true _ (Classical.propDecidable _) (.step hj (@of_decide_eq_true _ (Classical.propDecidable _) hk))
 · exact @decide_eq_true _ (Classical.propDecidable _) (.refl i)
 · exact @decide_eq_false _ (Classical.propDecidable _) (leads_no hn)
theorem stmt_in (p : ProgV) (E : Env) (s : StmtV) : ∀ (d : Nat) (x : StmtV), x ∈ s.pre → ∃ d', stmtE p E x d' ∈ stmtC p E s d := by
 induction s using StmtV.ind with
 | h k n es ex b ts th os el i1 i2 =>
   intro d x hx
   rw [StmtV.pre_eq] at hx
   rw [stmtC_eq]
   rcases List.mem_cons.1 hx with rfl | hx
   · exact ⟨d, List.mem_cons_self ..⟩
   · rcases List.mem_append.1 hx with hx | hx
     · obtain ⟨s, hs, hx⟩ := List.mem_flatMap.1 hx
       obtain ⟨d', h⟩ := i1 s hs (d + 1) x hx
       exact ⟨d', List.mem_cons_of_mem _ (List.mem_append_right _ (List.mem_append_left _ (by rw [stmtsC_eq]; exact List.mem_flatMap.2 ⟨s, hs, h⟩)))⟩
     · obtain ⟨s, hs, hx⟩ := List.mem_flatMap.1 hx
       obtain ⟨d', h⟩ := i2 s hs (d + 1) x hx
       exact ⟨d', List.mem_cons_of_mem _ (List.mem_append_right _ (List.mem_append_right _ (by rw [stmtsC_eq]; exact List.mem_flatMap.2 ⟨s, hs, h⟩)))⟩
theorem stmts_in (p : ProgV) (E : Env) (l : List StmtV) (d : Nat) (x : StmtV) (hx : x ∈ l.flatMap StmtV.pre) : ∃ d', stmtE p E x d' ∈ stmtsC p E l d := by
 obtain ⟨s, hs, hx⟩ := List.mem_flatMap.1 hx
 obtain ⟨d', h⟩ := stmt_in p E s d x hx
 exact ⟨d', by rw [stmtsC_eq]; exact List.mem_flatMap.2 ⟨s, hs, h⟩⟩
end Go.Proofs.YtepacjkacjabbaaGreatDoor
namespace Go.Proofs.YtepacjkacjabbaaGreatDoor
open Go
def RightP (p : ProgV) : Prop := ∀ c ∈ codesP p (heftP p), c = 0
theorem probs_any : ∀ (l : List Int) (n : Nat), (∃ c ∈ l, c ≠ 0) → ((probs l n).headD (0, 0)).2 ≠ 0
 | [], _, h => by obtain ⟨c, hc, _⟩ := h; cases hc
 | c :: l, n, h => by
   rw [probs]
   by_cases hc : c = 0
   · rw [if_pos hc]
     refine probs_any l (n + 1) ?_
     obtain ⟨d, hd, hne⟩ := h
     rcases List.mem_cons.1 hd with rfl | hd
     · exact absurd hc hne
     · exact ⟨d, hd, hne⟩
   · rw [if_neg hc]
     exact hc
theorem right_codes {p : ProgV} (hl : heftP p ≤ 20000) (h : (checkP p).2 = 0) : RightP p := by
 have hlen : (codesP p 0).length = heftP p := by rw [codesP_len]
 intro c hc
 by_cases h0 : c = 0
 · exact h0
 · exfalso
   have h1 : checkP p = (probs (codesP p (heftP p)) 0).headD (0, 0) := check_of hlen hl rfl
   rw [h1] at h
   exact probs_any _ 0 ⟨c, hc, h0⟩ h
section
variable {p : ProgV} (h : RightP p)
include h
theorem RightP.procs : ∀ c ∈ procsC p p.procs 0 (names4 p), c = 0 := fun c hc => h c (by
 unfold codesP
 simp only [List.mem_cons, List.mem_append]
 right; right; right; right; right; right; right; left
 exact hc)
theorem RightP.work : ∀ c ∈ stmtsC p outside p.work 1, c = 0 := fun c hc => h c (by
 unfold codesP
 simp only [List.mem_cons, List.mem_append]
 right; right; right; right; right; right; right; right; left
 exact hc)
theorem RightP.recover : ∀ c ∈ stmtsC p outside p.recover 1, c = 0 := fun c hc => h c (by
 unfold codesP
 simp only [List.mem_cons, List.mem_append]
 right; right; right; right; right; right; right; right; right; left
 exact hc)
end
theorem procs_at {p : ProgV} : ∀ (l : List ProcV) (n : Nat) (before : List ByteArray), (∀ c ∈ procsC p l n before, c = 0) → ∀ i (hi : i < l.length), ∃ bf, (∀ s ∈ before, s ∈ bf) ∧ (∀ j (hj : j < l.length), j < i → (l[j]).name ∈ bf) ∧ ∀ c ∈ procC p bf (n + i) l[i], c = 0
 | q :: l, n, before, h, 0, _ => ⟨before, fun _ hs => hs, fun j _ hj => absurd hj (Nat.not_lt_zero _), fun c hc => h c (by rw [procsC]; exact List.mem_append_left _ hc)⟩
 | q :: l, n, before, h, i + 1, hi => by
   obtain ⟨bf, h1, h2, h3⟩ := procs_at l (n + 1) (before ++ [q.name]) (fun c hc => h c (by rw [procsC]; exact List.mem_append_right _ hc)) i (by simpa using hi)
   refine ⟨bf, fun s hs => h1 s (List.mem_append_left _ hs), fun j hj hji => ?_, fun c hc => h3 c (by rwa [show n + 1 + i = n + (i + 1) by omega])⟩
   match j with
   | 0 => exact h1 _ (List.mem_append_right _ (List.mem_singleton.2 rfl))
   | j + 1 => exact h2 j (by simpa using hj) (by omega)
theorem hasN_iff {l : List ByteArray} {s : ByteArray} : hasN l s = true ↔ s ∈ l := by
 unfold hasN
 rw [List.any_eq_true]
 constructor
 · rintro ⟨x, hx, he⟩; rw [← of_decide_eq_true he]; exact hx
 · exact fun hs => ⟨s, hs, decide_eq_true rfl⟩
structure ProcOk (p : ProgV) (i : Nat) (q : ProcV) : Prop where
 fresh : q.name ∉ names4 p
 named : nameB p q.name.data.toList = true
 few : q.params.length ≤ 8
 params : ∀ c ∈ declsC p false q.params (thingNames p), c = 0
 body : ∀ c ∈ stmtsC p (inside p i) q.body 1, c = 0
theorem RightP.proc {p : ProgV} (h : RightP p) (i : Nat) (hi : i < p.procs.length) : ProcOk p i p.procs[i] ∧ ∀ j (hj : j < p.procs.length), j < i → (p.procs[j]).name ≠ (p.procs[i]).name := by
 obtain ⟨bf, h1, h2, h3⟩ := procs_at p.procs 0 (names4 p) h.procs i hi
 rw [Nat.zero_add] at h3
 unfold procC at h3
 have he := h3 _ (List.mem_cons_self ..)
 unfold procE at he
 have ha : ¬ (hasN bf (p.procs[i]).name = true ∨ nameB p (p.procs[i]).name.data.toList = false) := fun hc => by rw [if_pos hc] at he; cases he
 rw [if_neg ha] at he
 have hb : ¬ (p.procs[i]).params.length > 8 := fun hc => by rw [if_pos hc] at he; cases he
 have hnm : (p.procs[i]).name ∉ bf := fun hm => ha (.inl (hasN_iff.2 hm))
 refine ⟨⟨fun hm => hnm (h1 _ hm), ?_, by omega, fun c hc => h3 c (List.mem_cons_of_mem _ (List.mem_append_left _ hc)), fun c hc => h3 c (List.mem_cons_of_mem _ (List.mem_append_right _ hc))⟩, fun j hj hji e => hnm (e ▸ h2 j hj hji)⟩
 cases hx : nameB p (p.procs[i]).name.data.toList with
 | true => rfl
 | false => exact absurd (.inr hx) ha
theorem RightP.nodup {p : ProgV} (h : RightP p) : (p.procs.map ProcV.name).Nodup := by
 rw [List.nodup_iff_pairwise_ne, List.pairwise_iff_getElem]
 intro i j hi hj hij
 rw [List.getElem_map, List.getElem_map]
 exact (h.proc j (by simpa using hj)).2 i (by simpa using hi) hij
theorem numbered_look : ∀ (l : List ProcV) (n : Nat) (s : ByteArray) (j : Int), look (numbered ProcV.name l n) s = some j → ∃ i, ∃ hi : i < l.length, j = ((n + i : Nat) : Int) ∧ (l[i]).name = s
 | [], n, s, j, h => by cases h
 | q :: l, n, s, j, h => by
   unfold look numbered at h
   rw [List.find?_cons] at h
   by_cases hq : q.name = s
   · rw [decide_eq_true hq] at h
     simp only [Option.map_some, Option.some.injEq] at h
     exact ⟨0, by simp, by rw [← h]; rfl, hq⟩
   · rw [decide_eq_false hq] at h
     obtain ⟨i, hi, e, hs⟩ := numbered_look l (n + 1) s j h
     exact ⟨i + 1, by simpa using hi, by rw [e]; congr 1; omega, by simpa using hs⟩
theorem numbered_get : ∀ (l : List ProcV) (n i : Nat) (hi : i < l.length), (numbered ProcV.name l n)[i]? = some ((l[i]).name, ((n + i : Nat) : Int))
 | q :: l, n, 0, _ => rfl
 | q :: l, n, i + 1, hi => by
   rw [numbered, List.getElem?_cons_succ, numbered_get l (n + 1) i (by simpa using hi)]
   simp only [List.getElem_cons_succ]
   rw [show n + 1 + i = n + (i + 1) by omega]
theorem numbered_names : ∀ (l : List ProcV) (n : Nat), (numbered ProcV.name l n).map (·.1) = l.map ProcV.name
 | [], _ => rfl
 | q :: l, n => by rw [numbered, List.map_cons, List.map_cons, numbered_names l]
theorem look_in {α : Type} : ∀ {T : List (ByteArray × α)} {x : ByteArray × α}, (T.map (·.1)).Nodup → x ∈ T → look T x.1 = some x.2
 | [], x, _, h => by cases h
 | y :: T, x, hn, h => by
   rw [List.map_cons, List.nodup_cons] at hn
   unfold look
   rw [List.find?_cons]
   rcases List.mem_cons.1 h with rfl | h
   · simp
   · have hne : y.1 ≠ x.1 := fun e => hn.1 (by rw [e]; exact List.mem_map_of_mem h)
     simp only [decide_eq_false hne]
     exact look_in hn.2 h
theorem nodup_rev {α : Type} {l : List α} (h : l.Nodup) : l.reverse.Nodup := by
 rw [List.nodup_iff_pairwise_ne, List.pairwise_reverse]
 exact h.imp fun hne => Ne.symm hne
theorem procI_at {p : ProgV} (h : RightP p) (i : Nat) (hi : i < p.procs.length) : procI p (p.procs[i]).name = i ∧ look (procsAt p) (p.procs[i]).name = some (i : Int) := by
 have hg := numbered_get p.procs 0 i hi
 rw [Nat.zero_add] at hg
 have hm := List.mem_of_getElem? hg
 have hn : ((numbered ProcV.name p.procs 0).map (·.1)).Nodup := by rw [numbered_names]; exact h.nodup
 refine ⟨?_, look_in (x := ((p.procs[i]).name, (i : Int))) hn hm⟩
 unfold procI procsAt
 have := look_in (T := (numbered ProcV.name p.procs 0).reverse) (x := ((p.procs[i]).name, (i : Int))) (by rw [List.map_reverse]; exact nodup_rev hn) (List.mem_reverse.2 hm)
 rw [this]
 rfl
theorem withN_mem {l : List ByteArray} {s x : ByteArray} : x ∈ withN l s ↔ x ∈ l ∨ x = s := by
 unfold withN
 split
 · next hh => exact ⟨.inl, fun hx => hx.elim id fun e => by rw [e]; exact hasN_iff.1 hh⟩
 · simp
theorem calls_fold : ∀ (l : List StmtV) (out : List ByteArray) (x : ByteArray), x ∈ l.foldl (fun out s => if s.kind = 8 then withN out s.name else out) out ↔ x ∈ out ∨ ∃ s ∈ l, s.kind = 8 ∧ s.name = x
 | [], out, x => by simp
 | s :: l, out, x => by
   rw [List.foldl_cons, calls_fold l]
   by_cases hk : s.kind = 8
   · rw [if_pos hk, withN_mem]
     constructor
     · rintro ((h | rfl) | ⟨t, ht, h1, h2⟩)
       · exact .inl h
       · exact .inr ⟨s, List.mem_cons_self .., hk, rfl⟩
       · exact .inr ⟨t, List.mem_cons_of_mem _ ht, h1, h2⟩
     · rintro (h | ⟨t, ht, h1, h2⟩)
       · exact .inl (.inl h)
       · rcases List.mem_cons.1 ht with rfl | ht
         · exact .inl (.inr h2.symm)
         · exact .inr ⟨t, ht, h1, h2⟩
   · rw [if_neg hk]
     constructor
     · rintro (h | ⟨t, ht, h1, h2⟩)
       · exact .inl h
       · exact .inr ⟨t, List.mem_cons_of_mem _ ht, h1, h2⟩
     · rintro (h | ⟨t, ht, h1, h2⟩)
       · exact .inl h
       · rcases List.mem_cons.1 ht with rfl | ht
         · exact absurd h1 hk
         · exact .inr ⟨t, ht, h1, h2⟩
theorem callsN_iff {l : List StmtV} {x : ByteArray} : x ∈ callsN l ↔ ∃ s ∈ l.flatMap StmtV.pre, s.kind = 8 ∧ s.name = x := by
 unfold callsN
 rw [calls_fold]
 simp
theorem call_ok {p : ProgV} {E : Env} {s : StmtV} {d : Nat} (h : stmtE p E s d = 0) (hk : s.kind = 8) : ∃ i, ∃ hi : i < p.procs.length, (p.procs[i]).name = s.name ∧ look (procsAt p) s.name = some (i : Int) ∧ argsB p E i s.exprs = false ∧ (E.within ≥ 0 → leadsB p i E.within.toNat = false) := by
 unfold stmtE at h
 by_cases hf : formB s = true
 · rw [if_pos hf] at h
   by_cases hw : wrongE p E s = 0
   · unfold wrongE at hw
     rw [hk] at hw
     simp only [show ¬ (8 : Int) = 1 by decide, show ¬ (8 : Int) = 2 by decide, show ¬ (8 : Int) = 3 by decide, show ¬ (8 : Int) = 7 by decide, if_false, if_true] at hw
     cases hl : look (procsAt p) s.name with
     | none => rw [hl] at hw; cases hw
     | some j =>
       rw [hl] at hw
       obtain ⟨i, hi, rfl, hn⟩ := numbered_look p.procs 0 s.name j hl
       rw [Nat.zero_add] at hl hw
       refine ⟨i, hi, hn, by rw [Nat.zero_add], ?_⟩
       dsimp only at hw
       rw [Int.toNat_natCast] at hw
       by_cases ha : argsB p E i s.exprs = true
       · rw [if_pos ha] at hw; cases hw
       · rw [if_neg ha] at hw
         refine ⟨by simpa using ha, fun he => ?_⟩
         cases hx : leadsB p i E.within.toNat with
         | false => rfl
         | true => rw [if_pos ⟨he, hx⟩] at hw; cases hw
   · rw [if_neg hw] at h; exact absurd h hw
 · rw [if_neg hf] at h; cases h
theorem RightP.rank {p : ProgV} (h : RightP p) : RankP p (rankP p) := by
 intro i hi s hs hk
 have hq : procQ p i = p.procs[i] := by unfold procQ; rw [List.getElem?_eq_getElem hi]; rfl
 rw [hq] at hs
 obtain ⟨d, hd⟩ := stmts_in p (inside p i) _ 1 s hs
 obtain ⟨j, hj, hn, hl, _, hle⟩ := call_ok ((h.proc i hi).1.body _ hd) hk
 rw [← hn, (procI_at h j hj).1]
 refine ⟨rank_lt hi ?_ ?_, hj⟩
 · unfold nextP
   rw [List.getElem?_eq_getElem hi]
   refine List.mem_filterMap.2 ⟨s.name, callsN_iff.2 ⟨s, hs, hk, rfl⟩, ?_⟩
   rw [hl]; rfl
 · have := hle (show (0 : Int) ≤ (i : Int) by omega)
   exact this
end Go.Proofs.YtepacjkacjabbaaGreatDoor
namespace Go.Proofs.YtepacjkacjabbaaGreatDoor
open Go
def unP (p : ProgV) : ProgV := { p with ws := Sp.none, work := unTs p.work, cs := Sp.none, recover := unTs p.recover }
section
variable {p : ProgV} {E : Env}
theorem stmtE_parts {s : StmtV} {d : Nat} (h : stmtE p E s d = 0) : formB s = true ∧ wrongE p E s = 0 := by
 unfold stmtE at h
 by_cases hf : formB s = true
 · rw [if_pos hf] at h
   by_cases hw : wrongE p E s = 0
   · exact ⟨hf, hw⟩
   · rw [if_neg hw] at h; exact absurd h hw
 · rw [if_neg hf] at h; cases h
theorem loop_form {s : StmtV} (hk : s.kind = 7) (h : formB s = true) : s.name = ByteArray.empty ∧ s.els = [] ∧ s.exprs.length = 1 := by
 unfold formB at h
 rw [hk] at h
 simp only [show ¬ (7 : Int) = 1 by decide, show ¬ (7 : Int) = 2 by decide, show ¬ (7 : Int) = 3 by decide, show ¬ ((7 : Int) = 4 ∨ (7 : Int) = 5) by decide, show ¬ (7 : Int) = 6 by decide, if_false, if_true] at h
 obtain ⟨h1, h2, h3⟩ := of_decide_eq_true h
 exact ⟨h1, List.length_eq_zero_iff.1 h2, h3⟩
theorem loop_bound {s : StmtV} (hk : s.kind = 7) (h : wrongE p E s = 0) : 1 ≤ s.bound ∧ s.bound ≤ 16 := by
 unfold wrongE at h
 rw [hk] at h
 simp only [show ¬ (7 : Int) = 1 by decide, show ¬ (7 : Int) = 2 by decide, show ¬ (7 : Int) = 3 by decide, if_false, if_true] at h
 by_cases hb : s.bound < 1 ∨ s.bound > 16
 · rw [if_pos hb] at h; cases h
 · omega
theorem loopOk_of {s : StmtV} {d : Nat} (h : stmtE p E s d = 0) : LoopOk s := fun hk => by
 obtain ⟨h1, h2⟩ := stmtE_parts h
 obtain ⟨_, h3, h4⟩ := loop_form hk h1
 obtain ⟨h5, h6⟩ := loop_bound hk h2
 exact ⟨h5, h6, h4, h3⟩
end
theorem RightP.loops {p : ProgV} (h : RightP p) : (∀ x ∈ p.work.flatMap StmtV.pre, LoopOk x) ∧ ∀ x ∈ p.recover.flatMap StmtV.pre, LoopOk x := by
 constructor
 · intro x hx
   obtain ⟨d, hd⟩ := stmts_in p outside p.work 1 x hx
   exact loopOk_of (h.work _ hd)
 · intro x hx
   obtain ⟨d, hd⟩ := stmts_in p outside p.recover 1 x hx
   exact loopOk_of (h.recover _ hd)
end Go.Proofs.YtepacjkacjabbaaGreatDoor
