/- Rows just made, blocks just made; what lies in a world now. No function of the program in sight. The small programs of chapter 32, as Lean data; what Check tells of a program, reckoned. Chapter 32's law: what makes its small programs. Chapter 32's law: awake: what its nine examples need. Chapter 32's law: awake: its nine examples. A world without one of its blocks: what is read in it is read outside of that block. No program in sight. Lists that a slice owns, of elements of k cells; rows read as such, and made such. No program in sight. slices.Clone of rows of structs: a list of its own. append of a row to a list of one's own, whatever the row's place; what a store or another list's growth leaves. No function of the program in sight. A world without its blocks below a bound: what is read in it lies in blocks from the bound on. No function of the program in sight. What salvorlaw29.Made makes, in plain Lean: expressions and statements that have their widths; the checker finds nothing wrong with them. No program in sight. What salvorlaw29.Made makes: statements and programs; they are right. Plain Lean. What salvorlaw29.Made makes is right. Plain Lean. -/
import Derived.Test.YthcboallnbaimaaGreatDoorNodes
import Derived.Test.YthcboallnbaimaaGreatDoorTreeD
import Derived.Below
import Derived.Maps.AppendAt
import Derived.OneCell
import Derived.RangeFuncRecord
import Derived.Laws.Rows
import Derived.Laws.Tables
import Derived.Laws.CopyOwn
import Derived.Test.YthcboallnbaimaaGreatDoorUA
import Derived.ArgAppend
import Derived.Laws.OwnMore
import Derived.Lib.SliceRun
import Derived.Test.YthcboallnbaimaaGreatDoorCalls
import Derived.RegionTactic
import Derived.OwnWalk
import Derived.Test.YthcboallnbaimaaGreatDoorHeft
namespace Go.Proofs.YthcboallnbaimaaGreatDoor
open Go Go.RowKit
/-- A row of one element, just made. -/
theorem row_one {α : Type} {W : World} {b k : Nat} {t : TypeId} {fr : Nat × Nat} {enc : α → List Value} {x : α} (h : W.heap[b]? = some (.cells (enc x).toArray t fr)) : RowOf W.heap.size W ⟨some ⟨b, 0, none⟩, 1⟩ k enc [x] := by
 refine ⟨Nat.le_refl _, by simp [maxLen], by simp, fun _ => ⟨b, 0, rfl, (Array.getElem?_eq_some_iff.1 h).1, fun j hj r u hu => ?_⟩⟩
 have : j = 0 := by simp at hj; omega
 subst this
 simp only [List.getElem_cons_zero] at hu
 simp [World.cell?, h, hu]
theorem row_two {α : Type} {W : World} {b k : Nat} {t : TypeId} {fr : Nat × Nat} {enc : α → List Value} {x y : α} (hk : (enc x).length = k) (h : W.heap[b]? = some (.cells (enc x ++ enc y).toArray t fr)) : RowOf W.heap.size W ⟨some ⟨b, 0, none⟩, 2⟩ k enc [x, y] := by
 refine ⟨Nat.le_refl _, by simp [maxLen], by simp, fun _ => ⟨b, 0, rfl, (Array.getElem?_eq_some_iff.1 h).1, fun j hj r u hu => ?_⟩⟩
 have hj2 : j = 0 ∨ j = 1 := by simp at hj; omega
 rcases hj2 with rfl | rfl
 · simp only [List.getElem_cons_zero] at hu
   have hr : r < (enc x).length := (List.getElem?_eq_some_iff.1 hu).1
   simp [World.cell?, h, List.getElem?_append_left hr, hu]
 · simp only [List.getElem_cons_succ, List.getElem_cons_zero] at hu
   have e : (enc x ++ enc y)[k + r]? = some u := by rw [List.getElem?_append_right (by omega)]; rw [hk, Nat.add_sub_cancel_left]; exact hu
   simp [World.cell?, h, e]
/-- What lies there now. -/
def NowX (W : World) (e : ExprV) : Prop := RdX W.heap.size W e
def NowT (W : World) (s : StmtV) : Prop := RdT W.heap.size W s
theorem NowX.on {W W' : World} {e : ExprV} (h : NowX W e) (hb : Below W.heap.size W W') : NowX W' e := (RdX.stays h hb).more hb.size
theorem NowT.on {W W' : World} {s : StmtV} (h : NowT W s) (hb : Below W.heap.size W W') : NowT W' s := (RdT.stays h hb).more hb.size
theorem num_now (W : World) (x wd : Int) (hx : 0 ≤ x ∧ x ≤ 4294967295) (hw : (Lit.int .i64 wd).wf = true) : NowX W (numE x wd) :=
 .mk _ (show (0 : Int) ≤ 1 ∧ (1 : Int) ≤ 255 by decide) (show (0 : Int) ≤ 0 ∧ (0 : Int) ≤ 255 by decide) hx hw (show (0 : Nat) ≤ maxLen by decide) RowOf.nil (fun _ h => absurd h (by simp [numE, ExprV.subs]))
theorem name_now (W : World) (s : ByteArray) (hs : s.size ≤ maxLen) : NowX W (nameE s) :=
 .mk _ (show (0 : Int) ≤ 2 ∧ (2 : Int) ≤ 255 by decide) (show (0 : Int) ≤ 0 ∧ (0 : Int) ≤ 255 by decide) (show (0 : Int) ≤ 0 ∧ (0 : Int) ≤ 4294967295 by decide) (show (Lit.int .i64 0).wf = true by decide) hs RowOf.nil (fun _ h => absurd h (by simp [nameE, ExprV.subs]))
theorem call_now {W : World} {s : ByteArray} (hs : s.size ≤ maxLen) : NowT W (callT Sp.none s []) :=
 .mk _ (show (0 : Int) ≤ 8 ∧ (8 : Int) ≤ 255 by decide) (show (Lit.int .i64 0).wf = true by decide) hs RowOf.nil (fun _ h => absurd h (by simp [callT, StmtV.exprs])) RowOf.nil (fun _ h => absurd h (by simp [callT, StmtV.thn])) RowOf.nil (fun _ h => absurd h (by simp [callT, StmtV.els]))
theorem alloc2 (w : World) (o1 o2 : Obj) : ((w.alloc o1).alloc o2).heap[w.heap.size]? = some o1 ∧ ((w.alloc o1).alloc o2).heap[w.heap.size + 1]? = some o2 ∧ ((w.alloc o1).alloc o2).heap.size = w.heap.size + 2 ∧ Below w.heap.size w ((w.alloc o1).alloc o2) := by
 have h1 := World.alloc_heap_new w o1
 have h2 := World.alloc_heap_new (w.alloc o1) o2
 rw [World.size_alloc] at h2
 refine ⟨(Below.heap_alloc _ _ _ (by simp)).trans h1, h2, by simp, ((Below.refl _ _).alloc (Nat.le_refl _) _).alloc (by simp) _⟩
theorem alloc3 (w : World) (o1 o2 o3 : Obj) : (((w.alloc o1).alloc o2).alloc o3).heap[w.heap.size]? = some o1 ∧ (((w.alloc o1).alloc o2).alloc o3).heap[w.heap.size + 1]? = some o2 ∧ (((w.alloc o1).alloc o2).alloc o3).heap[w.heap.size + 1 + 1]? = some o3 ∧ (((w.alloc o1).alloc o2).alloc o3).heap.size = w.heap.size + 3 ∧ Below w.heap.size w (((w.alloc o1).alloc o2).alloc o3) := by
 obtain ⟨h1, h2, h3, h4⟩ := alloc2 w o1 o2
 have h5 := World.alloc_heap_new ((w.alloc o1).alloc o2) o3
 rw [h3] at h5
 refine ⟨(Below.heap_alloc _ _ _ (by omega)).trans h1, (Below.heap_alloc _ _ _ (by omega)).trans h2, h5, by simp, h4.alloc (by omega) _⟩
theorem alloc4 (w : World) (o1 o2 o3 o4 : Obj) : ((((w.alloc o1).alloc o2).alloc o3).alloc o4).heap[w.heap.size]? = some o1 ∧ ((((w.alloc o1).alloc o2).alloc o3).alloc o4).heap[w.heap.size + 1]? = some o2 ∧ ((((w.alloc o1).alloc o2).alloc o3).alloc o4).heap[w.heap.size + 1 + 1]? = some o3 ∧ ((((w.alloc o1).alloc o2).alloc o3).alloc o4).heap[w.heap.size + 1 + 1 + 1]? = some o4 ∧ ((((w.alloc o1).alloc o2).alloc o3).alloc o4).heap.size = w.heap.size + 4 ∧ Below w.heap.size w ((((w.alloc o1).alloc o2).alloc o3).alloc o4) := by
 obtain ⟨h1, h2, h3, h4, h6⟩ := alloc3 w o1 o2 o3
 have h5 := World.alloc_heap_new (((w.alloc o1).alloc o2).alloc o3) o4
 rw [h4] at h5
 refine ⟨(Below.heap_alloc _ _ _ (by omega)).trans h1, (Below.heap_alloc _ _ _ (by omega)).trans h2, (Below.heap_alloc _ _ _ (by omega)).trans h3, h5, by simp, h6.alloc (by omega) _⟩
theorem RdTs.on {W W' : World} {sp : Sp} {l : List StmtV} (h : RdTs W.heap.size W sp l) (hb : Below W.heap.size W W') : RdTs W'.heap.size W' sp l := (h.below hb).more hb.size
theorem RdP.on {W W' : World} {p : ProgV} (h : RdP W.heap.size W p) (hb : Below W.heap.size W W') : RdP W'.heap.size W' p := (h.below hb).more hb.size
end Go.Proofs.YthcboallnbaimaaGreatDoor
namespace Go.Proofs.YthcboallnbaimaaGreatDoor
open Go Go.RowKit
def smallP (v ws : Sp) (l : List StmtV) : ProgV := ⟨1, 2, Sp.none, [], Sp.none, [], v, [⟨xB, 3, 0⟩], Sp.none, [], numE 1 1, Sp.none, [], Sp.none, [], ws, l, Sp.none, [], numE 1 1⟩
theorem initsN_of : ∀ (l : List InitV) (b : Int), b + ((l.map fun i => 1 + i.value.pre.length).sum : Nat) ≤ 20000 → initsN l b = b + ((l.map fun i => 1 + i.value.pre.length).sum : Nat)
 | [], b, _ => by simp [initsN]
 | i :: l, b, h => by
   have e : initsN (i :: l) b = initsN l (cntN i.value.pre.length (b + 1)) := rfl
   simp only [List.map_cons, List.sum_cons] at h ⊢
   rw [e, cntN_of (by omega), initsN_of l _ (by omega)]
   omega
theorem procsN_of : ∀ (l : List ProcV) (b : Int), b + ((l.map heftQ).sum : Nat) ≤ 20000 → procsN l b = b + ((l.map heftQ).sum : Nat)
 | [], b, _ => by simp [procsN]
 | q :: l, b, h => by
   have e : procsN (q :: l) b = procsN l (cntT (q.body.flatMap StmtV.pre) (b + 1 + q.params.length)) := rfl
   have e2 : heftQ q = 1 + q.params.length + heftT (q.body.flatMap StmtV.pre) := rfl
   simp only [List.map_cons, List.sum_cons] at h ⊢
   rw [e, cntT_of _ _ (by omega), procsN_of l _ (by omega)]
   omega
theorem countP_of {p : ProgV} (h : heftP p ≤ 20000) : countP p = heftP p := by
 have e : declsN p = (p.inputs.length + p.ghosts.length + p.vars.length + p.arrays.length + 1 : Nat) := by unfold declsN; omega
 unfold heftP heftL at *
 unfold countP
 have h1 : cntN p.require.pre.length (declsN p) = declsN p + p.require.pre.length := cntN_of (by omega)
 rw [h1]
 have h2 := initsN_of p.inits (declsN p + p.require.pre.length) (by omega)
 rw [h2]
 have h3 := procsN_of p.procs (declsN p + p.require.pre.length + ((p.inits.map fun i => 1 + i.value.pre.length).sum : Nat)) (by omega)
 rw [h3]
 have h4 := cntT_of (p.work.flatMap StmtV.pre) (declsN p + p.require.pre.length + ((p.inits.map fun i => 1 + i.value.pre.length).sum : Nat) + ((p.procs.map heftQ).sum : Nat)) (by omega)
 rw [h4]
 have h5 := cntT_of (p.recover.flatMap StmtV.pre) (declsN p + p.require.pre.length + ((p.inits.map fun i => 1 + i.value.pre.length).sum : Nat) + ((p.procs.map heftQ).sum : Nat) + heftT (p.work.flatMap StmtV.pre)) (by omega)
 rw [h5, cntN_of (by omega)]
 omega
theorem nodes_le (l : List StmtV) : nodesT l ≤ heftT l := by
 unfold nodesT heftT
 refine sum_le_sum _ _ _ fun s _ => ?_
 have : s.exprs.length ≤ heftX s.exprs := len_le_sum _ (fun e => pre_pos e) _
 omega
theorem weight_le (p : ProgV) : weightP p ≤ heftP p := by
 have h1 : (p.procs.map fun q => 1 + q.params.length + nodesT (q.body.flatMap StmtV.pre)).sum ≤ (p.procs.map heftQ).sum := by
   refine sum_le_sum _ _ _ fun q _ => ?_
   have := nodes_le (q.body.flatMap StmtV.pre)
   unfold heftQ heftL; omega
 have h2 := nodes_le (p.work.flatMap StmtV.pre)
 have h3 := nodes_le (p.recover.flatMap StmtV.pre)
 unfold weightP heftP heftL
 omega
theorem fit_of {p : ProgV} {k : Nat} (hk : (codesP p 0).length = k) (h : k ≤ 20000) (hN : NamesOk p) : Fit p := by
 have hh : heftP p = k := by rw [← codesP_len p 0, hk]
 exact ⟨by rw [countP_of (by omega)]; omega, hN, by have := weight_le p; omega⟩
theorem res_of {p : ProgV} {k : Nat} (hk : (codesP p 0).length = k) (h : k ≤ 20000) : resP p = probs (codesP p k) 0 := by
 have hh : heftP p = k := by rw [← codesP_len p 0, hk]
 unfold resP
 rw [countP_of (by omega), hh]
 unfold sizedN
 rw [if_pos (by omega)]
theorem check_of {p : ProgV} {k : Nat} (hk : (codesP p 0).length = k) (h : k ≤ 20000) {r : Int × Int} (hr : (probs (codesP p k) 0).headD (0, 0) = r) : checkP p = r := by
 have hh : heftP p = k := by rw [← codesP_len p 0, hk]
 unfold checkP
 rw [if_pos (by rw [countP_of (by omega)]; omega), res_of hk h, hr]
section
variable (v ws a b c d : Sp)
theorem chk0 : checkP (smallP v ws []) = (0, 0) := check_of (k := 4) (by kernel_rfl) (by decide) (by kernel_rfl)
theorem chk1 : checkP (smallP v ws [setT a xB (numE 1 3), writeT b (numE 0 1) (nameE xB)]) = (5, 322) := check_of (k := 9) (by kernel_rfl) (by decide) (by kernel_rfl)
theorem chk2 : checkP (smallP v ws [setT a xB (numE 1 2)]) = (3, 322) := check_of (k := 6) (by kernel_rfl) (by decide) (by kernel_rfl)
theorem chk3 : checkP (smallP v ws [setT a ⟨#[121]⟩ (numE 1 2)]) = (3, 321) := check_of (k := 6) (by kernel_rfl) (by decide) (by kernel_rfl)
/-- A procedure that calls itself. -/
def loopP (rs : Sp) : ProgV := { smallP v ws [] with rs := rs, procs := [⟨⟨#[112]⟩, Sp.none, [], a, [callT b ⟨#[112]⟩ []]⟩] }
theorem chk4 (rs : Sp) : checkP (loopP v ws a b rs) = (4, 328) := by
 refine check_of (k := 6) (by kernel_rfl) (by decide) ?_
 have hl : leadsB (loopP v ws a b rs) 0 0 = true := by
   unfold leadsB
   rw [fuelP_eq, Nat.add_comm]
   exact leadsF_hit _ _ _ _ _
 have hw : wrongE (loopP v ws a b rs) (inside (loopP v ws a b rs) 0) (callT b ⟨#[112]⟩ []) = if leadsB (loopP v ws a b rs) 0 0 = true then 328 else 0 := by
   have e : wrongE (loopP v ws a b rs) (inside (loopP v ws a b rs) 0) (callT b ⟨#[112]⟩ []) = if (0 : Int) ≥ 0 ∧ leadsB (loopP v ws a b rs) 0 0 = true then 328 else 0 := by kernel_rfl
   rw [e]; simp
 rw [hl, if_pos rfl] at hw
 have hs : stmtE (loopP v ws a b rs) (inside (loopP v ws a b rs) 0) (callT b ⟨#[112]⟩ []) 1 = 328 := by
   unfold stmtE
   rw [hw]
   kernel_rfl
 have hc : codesP (loopP v ws a b rs) 6 = [0, 0, 0, 0] ++ (stmtE (loopP v ws a b rs) (inside (loopP v ws a b rs) 0) (callT b ⟨#[112]⟩ []) 1 :: [0]) := by kernel_rfl
 show (probs (codesP (loopP v ws a b rs) 6) 0).headD (0, 0) = (4, 328)
 rw [hc, hs]
 kernel_rfl
def whileT : StmtV := .mk 7 ⟨#[]⟩ a [nameE xB] 0 Sp.none [] Sp.none []
theorem chk5 : checkP (smallP v ws [whileT a]) = (3, 329) := check_of (k := 6) (by kernel_rfl) (by decide) (by kernel_rfl)
def requireP : ProgV := { smallP v ws [] with require := nameE xB }
theorem chk6 : checkP (requireP v ws) = (2, 326) := check_of (k := 4) (by kernel_rfl) (by decide) (by kernel_rfl)
def castE (e : ExprV) : ExprV := .mk 8 0 0 3 ⟨#[]⟩ a [e]
theorem chk7 : checkP (smallP v ws [setT b xB (castE a (numE 5 2))]) = (5, 322) := check_of (k := 7) (by kernel_rfl) (by decide) (by kernel_rfl)
def twiceP : ProgV := { smallP v ws [] with vars := [⟨xB, 3, 0⟩, ⟨xB, 1, 0⟩] }
theorem chk8 : checkP (twiceP v ws) = (2, 321) := check_of (k := 5) (by kernel_rfl) (by decide) (by kernel_rfl)
end
end Go.Proofs.YthcboallnbaimaaGreatDoor
namespace Go.Proofs.YthcboallnbaimaaGreatDoor
open Go Go.RowKit Go.Maps
theorem num_any (x wd : Int) (w : World) : Calls Tryz.prog 22 #[.int .u32 x, .int .i64 wd] w fun o w' => o = .returned (numE x wd).val ∧ Below w.heap.size w w' := by
 go_enter Tryz.func22, Tryz.ntmps22
 go_wp2_with fail
 exact bodyPost_ret (results_cell_row rfl _ _ w.heap.size 34 _ (0, 0) _ rfl (World.alloc_heap_new _ _) Tryz.underlying34 rfl (by kernel_rfl)) rfl ⟨rfl, (Below.refl _ _).alloc (Nat.le_refl _) _⟩
theorem name_any32 (s : ByteArray) (w : World) : Calls Tryz.prog 25 #[.string s] w fun o w' => o = .returned (nameE s).val ∧ Below w.heap.size w w' := by
 go_enter Tryz.func25, Tryz.ntmps25
 go_wp2_with fail
 exact bodyPost_ret (results_cell_row rfl _ _ w.heap.size 34 _ (0, 0) _ rfl (World.alloc_heap_new _ _) Tryz.underlying34 rfl (by kernel_rfl)) rfl ⟨rfl, (Below.refl _ _).alloc (Nat.le_refl _) _⟩
theorem call_any32 (s : ByteArray) (sp : Sp) (l : List ExprV) (w : World) : Calls Tryz.prog 17 #[.string s, sp.val l.length] w fun o w' => o = .returned (callT sp s l).val ∧ Below w.heap.size w w' := by
 simp only [Sp.val]
 go_enter Tryz.func17, Tryz.ntmps17
 go_wp2_with fail
 exact bodyPost_ret (results_cell_row rfl _ _ w.heap.size 49 _ (0, 0) _ rfl (World.alloc_heap_new _ _) Tryz.underlying49 rfl (by kernel_rfl)) rfl ⟨rfl, (Below.refl _ _).alloc (Nat.le_refl _) _⟩
set_option maxHeartbeats 1000000 in
theorem set_any (s : ByteArray) (hs : s.size ≤ maxLen) (e : ExprV) (w : World) (he : NowX w e) : Calls Tryz.prog 23 #[.string s, e.val] w fun o w' => ∃ sp, o = .returned (setT sp s e).val ∧ NowT w' (setT sp s e) ∧ Below w.heap.size w w' := by
 have HE := Lib.hid he
 clear he
 simp only [ExprV.val, Sp.val]
 go_enter Tryz.func23, Tryz.ntmps23
 go_wp2_with fail
 obtain ⟨h1, h2, h3, h4, h5⟩ := alloc3 w (.cells #[.int .u8 e.kind, .int .u8 e.op, .int .u32 e.value, .int .i64 e.width, .string e.name, .slice e.sp.at_ e.subs.length e.sp.cap] 34) (.cells #[.int .u8 1, .string s, .slice (some ⟨w.heap.size + 1 + 1, 0, none⟩) 1 1, .int .i64 0, .slice none 0 0, .slice none 0 0] 49) (.cells #[.int .u8 e.kind, .int .u8 e.op, .int .u32 e.value, .int .i64 e.width, .string e.name, .slice e.sp.at_ e.subs.length e.sp.cap] 34)
 refine bodyPost_ret (results_cell_row rfl _ _ (w.heap.size + 1) 49 _ (0, 0) _ rfl h2 Tryz.underlying49 rfl (by kernel_rfl)) rfl ⟨⟨some ⟨w.heap.size + 1 + 1, 0, none⟩, 1⟩, rfl, ?_, h5⟩
 exact .mk _ (show (0 : Int) ≤ 1 ∧ (1 : Int) ≤ 255 by decide) (show (Lit.int .i64 0).wf = true by decide) hs (row_one (enc := ExprV.cells) (x := e) h3) (fun y hy => by
   have : y = e := by simpa [setT, StmtV.exprs] using hy
   rw [this]; exact HE.out.on h5) RowOf.nil (fun _ h => absurd h (by simp [setT, StmtV.thn])) RowOf.nil (fun _ h => absurd h (by simp [setT, StmtV.els]))
set_option maxHeartbeats 1000000 in
theorem write_any (e1 e2 : ExprV) (w : World) (he1 : NowX w e1) (he2 : NowX w e2) : Calls Tryz.prog 24 #[e1.val, e2.val] w fun o w' => ∃ sp, o = .returned (writeT sp e1 e2).val ∧ NowT w' (writeT sp e1 e2) ∧ Below w.heap.size w w' := by
 have HE1 := Lib.hid he1
 have HE2 := Lib.hid he2
 clear he1 he2
 simp only [ExprV.val, Sp.val]
 go_enter Tryz.func24, Tryz.ntmps24
 go_wp2_with fail
 obtain ⟨h1, h2, h3, h4, h6, h5⟩ := alloc4 w (.cells #[.int .u8 e1.kind, .int .u8 e1.op, .int .u32 e1.value, .int .i64 e1.width, .string e1.name, .slice e1.sp.at_ e1.subs.length e1.sp.cap] 34) (.cells #[.int .u8 e2.kind, .int .u8 e2.op, .int .u32 e2.value, .int .i64 e2.width, .string e2.name, .slice e2.sp.at_ e2.subs.length e2.sp.cap] 34) (.cells #[.int .u8 3, .string ⟨#[]⟩, .slice (some ⟨w.heap.size + 1 + 1 + 1, 0, none⟩) 2 2, .int .i64 0, .slice none 0 0, .slice none 0 0] 49) (.cells #[.int .u8 e1.kind, .int .u8 e1.op, .int .u32 e1.value, .int .i64 e1.width, .string e1.name, .slice e1.sp.at_ e1.subs.length e1.sp.cap, .int .u8 e2.kind, .int .u8 e2.op, .int .u32 e2.value, .int .i64 e2.width, .string e2.name, .slice e2.sp.at_ e2.subs.length e2.sp.cap] 34)
 refine bodyPost_ret (results_cell_row rfl _ _ (w.heap.size + 1 + 1) 49 _ (0, 0) _ rfl h3 Tryz.underlying49 rfl (by kernel_rfl)) rfl ⟨⟨some ⟨w.heap.size + 1 + 1 + 1, 0, none⟩, 2⟩, rfl, ?_, h5⟩
 exact .mk _ (show (0 : Int) ≤ 3 ∧ (3 : Int) ≤ 255 by decide) (show (Lit.int .i64 0).wf = true by decide) (show (0 : Nat) ≤ maxLen by decide) (row_two (enc := ExprV.cells) (x := e1) (y := e2) rfl h4) (fun y hy => by
   have hy2 : y = e1 ∨ y = e2 := by simpa [writeT, StmtV.exprs] using hy
   rcases hy2 with rfl | rfl
   · exact HE1.out.on h5
   · exact HE2.out.on h5) RowOf.nil (fun _ h => absurd h (by simp [writeT, StmtV.thn])) RowOf.nil (fun _ h => absurd h (by simp [writeT, StmtV.els]))
theorem small_now {W : World} {v ws : Sp} {l : List StmtV} (hv : RowOf W.heap.size W v 3 DeclV.cells [⟨xB, 3, 0⟩]) (hl : RdTs W.heap.size W ws l) : RdP W.heap.size W (smallP v ws l) := by
 have hd : RdDs W.heap.size W Sp.none [] := ⟨RowOf.nil, fun _ h => absurd h (by simp)⟩
 have ht : RdTs W.heap.size W Sp.none [] := ⟨RowOf.nil, fun _ h => absurd h (by simp)⟩
 have hn : NowX W (numE 1 1) := num_now W 1 1 (by decide) (by decide)
 refine ⟨show (Lit.int .i64 1).wf = true by decide, show (Lit.int .i64 2).wf = true by decide, hd, hd, ⟨hv, fun d h => ?_⟩, hd, hn, RowOf.nil, fun _ h => absurd h (by simp [smallP]), RowOf.nil, fun _ h => absurd h (by simp [smallP]), hl, ht, hn⟩
 have : d = ⟨xB, 3, 0⟩ := by simpa [smallP] using h
 rw [this]
 exact ⟨by decide, by decide, by decide⟩
set_option maxRecDepth 1000000 in
set_option maxHeartbeats 2000000 in
theorem small_any (ws : Sp) (l : List StmtV) (w : World) (h : RdTs w.heap.size w ws l) : Calls Tryz.prog 15 #[ws.val l.length] w fun o w' => ∃ b : Nat, o = .returned (smallP ⟨some ⟨b, 0, none⟩, 1⟩ ws l).val ∧ RdP w'.heap.size w' (smallP ⟨some ⟨b, 0, none⟩, 1⟩ ws l) ∧ Below w.heap.size w w' := by
 have HTS := Lib.hid h
 have hb0 : Below w.heap.size w (w.alloc (.cells zeroP.arr 39)) := (Below.refl _ _).alloc (Nat.le_refl _) _
 have hB0 := World.alloc_heap_new w (.cells zeroP.arr 39)
 have hs0 : (w.alloc (.cells zeroP.arr 39)).heap.size = w.heap.size + 1 := by simp
 have hN := fun W => num_any 1 1 W
 simp only [numE, ExprV.val, ExprV.kind, ExprV.op, ExprV.value, ExprV.width, ExprV.name, ExprV.sp, ExprV.subs, Sp.val, Sp.none, List.length_nil] at hN
 have HNM := Lib.hid hN
 clear h hN
 simp only [Sp.val]
 go_enter Tryz.func15, Tryz.ntmps15
 go_upto_region 1 with (first | (refine wpList_allocRow (t := 39) rfl rfl (run_zeroP _) ?_) | fail)
 generalize w.alloc (.cells zeroP.arr 39) = W0 at *
 have HB0 := Lib.hid hb0
 have HX0 := Lib.hid hB0
 have hb1 : Below W0.heap.size W0 (W0.alloc (.cells #[.string xB, .int .i64 3, .int .i64 0] 44)) := (Below.refl _ _).alloc (Nat.le_refl _) _
 have hB1 := World.alloc_heap_new W0 (.cells #[.string xB, .int .i64 3, .int .i64 0] 44)
 have HB1 := Lib.hid hb1
 have HX1 := Lib.hid hB1
 clear hb0 hB0 hb1 hB1
 have hst : (W0.alloc (.cells #[.string xB, .int .i64 3, .int .i64 0] 44)).heap[w.heap.size]? = some (.cells zeroP.arr 39 (0, 0)) ∧ (W0.alloc (.cells #[.string xB, .int .i64 3, .int .i64 0] 44)).heap[w.heap.size + 1]? = some (.cells #[.string xB, .int .i64 3, .int .i64 0] 44 (0, 0)) ∧ Below w.heap.size w (W0.alloc (.cells #[.string xB, .int .i64 3, .int .i64 0] 44)) :=
   ⟨(HB1.out.block _ (by omega)).trans HX0.out, by have h := HX1.out; rw [hs0] at h; exact h, HB0.out.trans (HB1.out.mono (by omega))⟩
 have UPD : Hid (∀ A B : World, Below A.heap.size A B → (A.heap[w.heap.size]? = some (.cells zeroP.arr 39 (0, 0)) ∧ A.heap[w.heap.size + 1]? = some (.cells #[.string xB, .int .i64 3, .int .i64 0] 44 (0, 0)) ∧ Below w.heap.size w A) → (B.heap[w.heap.size]? = some (.cells zeroP.arr 39 (0, 0)) ∧ B.heap[w.heap.size + 1]? = some (.cells #[.string xB, .int .i64 3, .int .i64 0] 44 (0, 0)) ∧ Below w.heap.size w B)) := Lib.hid fun A B hb ⟨h1, h2, h3⟩ =>
   ⟨(hb.block _ (Array.getElem?_eq_some_iff.1 h1).1).trans h1, (hb.block _ (Array.getElem?_eq_some_iff.1 h2).1).trans h2, h3.trans (hb.mono h3.size)⟩
 have HST := Lib.hid hst
 clear hst
 go_wp2_with (first
   | (go_at_call 22; refine (HNM.out _).mono ?_; rintro o2 w2 ⟨rfl, hb2⟩; have HST := Lib.hid (UPD.out _ _ hb2 HST.out); clear hb2)
   | (refine wpList_store_row rfl 39 _ _ rfl w.heap.size (smallP ⟨some ⟨w.heap.size + 1, 0, none⟩, 1⟩ ws l).arr (by rfl) (by rfl) 39 zeroP.arr HST.out.1 (arr_size _) (by kernel_rfl) (arr_one _) ?_)
   | fail)
 obtain ⟨h1, h2, h3⟩ := HST.out
 have h4 := setRow_heap w2 w.heap.size zeroP.arr (smallP ⟨some ⟨w.heap.size + 1, 0, none⟩, 1⟩ ws l).arr 39 (0, 0) h1
 have h5 : Below w.heap.size w (w2.setRow w.heap.size (smallP ⟨some ⟨w.heap.size + 1, 0, none⟩, 1⟩ ws l).arr) := below_setRow h3 (Nat.le_refl _) _
 refine bodyPost_ret (results_cell_row rfl _ _ w.heap.size 39 _ (0, 0) _ rfl h4 Tryz.underlying39 rfl (arr_size _)) rfl ⟨w.heap.size + 1, rfl, ?_, h5⟩
 refine small_now (row_one (enc := DeclV.cells) (x := ⟨xB, 3, 0⟩) (t := 44) (fr := (0, 0)) ((setRow_other _ _ _ _ (by omega)).trans h2)) (HTS.out.on h5)
set_option maxRecDepth 100000 in
theorem wrongAt_any (w : World) (p : ProgV) (hp : RdP w.heap.size w p) (hn0 : 0 < w.heap.size) (hN : NamesOk p) (hwt : weightP p ≤ 1125899906842624) (hmx : MxAt w) (pl e : Int) (h : checkP p = (pl, e)) :
   Calls Tryz.prog 16 #[.agg p.arr, .int .i64 pl, .int .i64 e] w fun o w' => o = .returned (.bool true) ∧ Below w.heap.size w w' := by
 have hb1 : Below w.heap.size w (w.alloc (.cells p.arr 39)) := (Below.refl _ _).alloc (Nat.le_refl _) _
 have hB := World.alloc_heap_new w (.cells p.arr 39)
 have hCK := check_any _ p (hp.on hb1) (Nat.lt_of_lt_of_le hn0 hb1.size) hN hwt (hmx.below hb1 hn0)
 have harrs := arr_size p
 rw [h, arr_val] at hCK
 have HCK := Lib.hid hCK
 have HB := Lib.hid hB
 have HB1 := Lib.hid hb1
 clear hCK hB hb1 h
 generalize p.arr = arr at *
 go_enter Tryz.func16, Tryz.ntmps16
 go_wp2_with (first | (refine wpList_load_row rfl 39 _ rfl w.heap.size rfl 39 _ (0, 0) _ HB.out Tryz.underlying39 rfl harrs ?_) | (go_at_call 30; refine HCK.out.mono ?_; rintro o2 w2 ⟨rfl, hb2⟩; have HB2 := Lib.hid hb2; clear hb2) | fail)
 go_ret
 exact ⟨by simp, HB1.out.trans (HB2.out.mono HB1.out.size)⟩
set_option maxRecDepth 100000 in
theorem right_any (w : World) (p : ProgV) (hp : RdP w.heap.size w p) (hn0 : 0 < w.heap.size) (hN : NamesOk p) (hwt : weightP p ≤ 1125899906842624) (hmx : MxAt w) :
   Calls Tryz.prog 18 #[.agg p.arr] w fun o w' => o = .returned (.bool (decide ((checkP p).2 = 0))) ∧ Below w.heap.size w w' := by
 have hb1 : Below w.heap.size w (w.alloc (.cells p.arr 39)) := (Below.refl _ _).alloc (Nat.le_refl _) _
 have hB := World.alloc_heap_new w (.cells p.arr 39)
 have hCK := check_any _ p (hp.on hb1) (Nat.lt_of_lt_of_le hn0 hb1.size) hN hwt (hmx.below hb1 hn0)
 have harrs := arr_size p
 rw [arr_val] at hCK
 generalize checkP p = ck at *
 have HCK := Lib.hid hCK
 have HB := Lib.hid hB
 have HB1 := Lib.hid hb1
 clear hCK hB hb1
 generalize p.arr = arr at *
 by_cases e : ck.2 = 0
 · have hd : decide (ck.2 = 0) = true := decide_eq_true e
   have he : (ck.2 == 0) = true := by simpa using e
   rw [hd]
   clear hd e
   go_enter Tryz.func18, Tryz.ntmps18
   go_wp2_with (first | (refine wpList_load_row rfl 39 _ rfl w.heap.size rfl 39 _ (0, 0) _ HB.out Tryz.underlying39 rfl harrs ?_) | (go_at_call 30; refine HCK.out.mono ?_; rintro o2 w2 ⟨rfl, hb2⟩; have HB2 := Lib.hid hb2; clear hb2) | fail)
   go_ret
   exact ⟨rfl, HB1.out.trans (HB2.out.mono HB1.out.size)⟩
 · have hd : decide (ck.2 = 0) = false := decide_eq_false e
   have he : (ck.2 == 0) = false := by simpa using e
   rw [hd]
   clear hd e
   go_enter Tryz.func18, Tryz.ntmps18
   go_wp2_with (first | (refine wpList_load_row rfl 39 _ rfl w.heap.size rfl 39 _ (0, 0) _ HB.out Tryz.underlying39 rfl harrs ?_) | (go_at_call 30; refine HCK.out.mono ?_; rintro o2 w2 ⟨rfl, hb2⟩; have HB2 := Lib.hid hb2; clear hb2) | fail)
   go_ret
   exact ⟨rfl, HB1.out.trans (HB2.out.mono HB1.out.size)⟩
end Go.Proofs.YthcboallnbaimaaGreatDoor
namespace Go.Proofs.YthcboallnbaimaaGreatDoor
open Go Go.RowKit Go.Maps
theorem small_names (v ws : Sp) (l : List StmtV) : NamesOk (smallP v ws l) :=
 ⟨fun d h => by
   have : d = ⟨xB, 3, 0⟩ := by simpa [smallP] using h
   rw [this]; decide, fun q h => absurd h (by simp [smallP])⟩
section
variable (v ws a b c d : Sp)
theorem fit0 : Fit (smallP v ws []) := fit_of (k := 4) (by kernel_rfl) (by decide) (small_names _ _ _)
theorem fit1 : Fit (smallP v ws [setT a xB (numE 1 3), writeT b (numE 0 1) (nameE xB)]) := fit_of (k := 9) (by kernel_rfl) (by decide) (small_names _ _ _)
theorem fit2 (s : ByteArray) : Fit (smallP v ws [setT a s (numE 1 2)]) := fit_of (k := 6) (by kernel_rfl) (by decide) (small_names _ _ _)
theorem fit4 (rs : Sp) : Fit (loopP v ws a b rs) := fit_of (k := 6) (by kernel_rfl) (by decide) ⟨(small_names v ws []).decls, fun q h => by
 have : q = ⟨⟨#[112]⟩, Sp.none, [], a, [callT b ⟨#[112]⟩ []]⟩ := by simpa [loopP] using h
 rw [this]; exact ⟨show (1 : Nat) ≤ 4294967200 by decide, fun d h => absurd h (by simp)⟩⟩
theorem fit5 : Fit (smallP v ws [whileT a]) := fit_of (k := 6) (by kernel_rfl) (by decide) (small_names _ _ _)
theorem fit6 : Fit (requireP v ws) := fit_of (k := 4) (by kernel_rfl) (by decide) ⟨(small_names v ws []).decls, fun q h => absurd h (by simp [requireP, smallP])⟩
theorem fit7 : Fit (smallP v ws [setT b xB (castE a (numE 5 2))]) := fit_of (k := 7) (by kernel_rfl) (by decide) (small_names _ _ _)
theorem fit8 : Fit (twiceP v ws) := fit_of (k := 5) (by kernel_rfl) (by decide) ⟨fun d h => by
 have h2 : d = ⟨xB, 3, 0⟩ ∨ d = ⟨xB, 1, 0⟩ := by simpa [twiceP, smallP] using h
 rcases h2 with rfl | rfl <;> decide, fun q h => absurd h (by simp [twiceP, smallP])⟩
end
/-- A program in its box. -/
structure InBox (W : World) (q : Nat) (p : ProgV) : Prop where
 box : W.heap[q]? = some (.cells p.arr 39 (0, 0))
 rd : RdP W.heap.size W p
theorem InBox.on {W W' : World} {q : Nat} {p : ProgV} (h : InBox W q p) (hb : Below W.heap.size W W') : InBox W' q p :=
 ⟨(hb.block _ (Array.getElem?_eq_some_iff.1 h.box).1).trans h.box, h.rd.on hb⟩
theorem InBox.new {W : World} {p : ProgV} (h : RdP W.heap.size W p) : InBox (W.alloc (.cells p.arr 39)) W.heap.size p :=
 ⟨World.alloc_heap_new _ _, h.on ((Below.refl _ _).alloc (Nat.le_refl _) _)⟩
theorem InBox.frozen {W : World} {q : Nat} {p : ProgV} (h : InBox W q p) (i : Nat) : W.frozen? ⟨q, i, none⟩ = false := by simp [World.frozen?, h.box]
theorem none_rows {n : Nat} {W : World} : RdDs n W Sp.none [] := ⟨RowOf.nil, fun _ h => absurd h (by simp)⟩
theorem none_stmts {n : Nat} {W : World} : RdTs n W Sp.none [] := ⟨RowOf.nil, fun _ h => absurd h (by simp)⟩
/-- The program that calls itself, laid into its box. -/
theorem loop_made {W : World} {q pb bb : Nat} {v ws : Sp} (hx : W.heap[q]? = some (.cells (smallP v ws []).arr 39 (0, 0))) (hr : RdP q W (smallP v ws [])) (hb : W.heap[bb]? = some (.cells (callT Sp.none ⟨#[112]⟩ []).cells.toArray 49 (0, 0))) (hp : W.heap[pb]? = some (.cells #[.string ⟨#[112]⟩, .slice none 0 0, .slice (some ⟨bb, 0, none⟩) 1 1] 47 (0, 0))) (hq : q < pb) (hq2 : q < bb) :
   InBox (W.setCell ⟨q, 13, none⟩ (.slice (some ⟨pb, 0, none⟩) 1 1)) q (loopP v ws ⟨some ⟨bb, 0, none⟩, 1⟩ Sp.none ⟨some ⟨pb, 0, none⟩, 1⟩) := by
 have hbox : (W.setCell ⟨q, 13, none⟩ (.slice (some ⟨pb, 0, none⟩) 1 1)).heap[q]? = some (.cells (loopP v ws ⟨some ⟨bb, 0, none⟩, 1⟩ Sp.none ⟨some ⟨pb, 0, none⟩, 1⟩).arr 39 (0, 0)) := by
   simp [World.setCell, Array.getElem?_modify, hx, ProgV.arr, ProgV.cells, smallP, loopP, Sp.val]
 have hb2 := (Below.heap_setCell W ⟨q, 13, none⟩ (.slice (some ⟨pb, 0, none⟩) 1 1) bb (by simp only; omega)).trans hb
 have hp2 := (Below.heap_setCell W ⟨q, 13, none⟩ (.slice (some ⟨pb, 0, none⟩) 1 1) pb (by simp only; omega)).trans hp
 have hr2 := hr.below ((Below.refl q W).setCell (p := ⟨q, 13, none⟩) (Nat.le_refl _) (.slice (some ⟨pb, 0, none⟩) 1 1))
 generalize W.setCell ⟨q, 13, none⟩ (.slice (some ⟨pb, 0, none⟩) 1 1) = W2 at *
 have hlt := (Array.getElem?_eq_some_iff.1 hbox).1
 have hr3 := hr2.more (Nat.le_of_lt hlt)
 refine ⟨hbox, { hr3 with prow := row_one (enc := ProcV.cells) (x := ⟨⟨#[112]⟩, Sp.none, [], ⟨some ⟨bb, 0, none⟩, 1⟩, [callT Sp.none ⟨#[112]⟩ []]⟩) hp2, procs := fun q' h => ?_ }⟩
 have e : q' = ⟨⟨#[112]⟩, Sp.none, [], ⟨some ⟨bb, 0, none⟩, 1⟩, [callT Sp.none ⟨#[112]⟩ []]⟩ := by simpa [loopP] using h
 rw [e]
 refine ⟨show (1 : Nat) ≤ maxLen by decide, none_rows, ⟨row_one (enc := StmtV.cells) (x := callT Sp.none ⟨#[112]⟩ []) hb2, fun s hs => ?_⟩⟩
 have e2 : s = callT Sp.none ⟨#[112]⟩ [] := by simpa using hs
 rw [e2]
 exact call_now (show (1 : Nat) ≤ maxLen by decide)
theorem require_made {W : World} {q : Nat} {v ws : Sp} (hx : W.heap[q]? = some (.cells (smallP v ws []).arr 39 (0, 0))) (hr : RdP q W (smallP v ws [])) :
   InBox ((((((W.setCell ⟨q, 6, none⟩ (.int .u8 2)).setCell ⟨q, 7, none⟩ (.int .u8 0)).setCell ⟨q, 8, none⟩ (.int .u32 0)).setCell ⟨q, 9, none⟩ (.int .i64 0)).setCell ⟨q, 10, none⟩ (.string xB)).setCell ⟨q, 11, none⟩ (.slice none 0 0)) q (requireP v ws) := by
 have hbox : ((((((W.setCell ⟨q, 6, none⟩ (.int .u8 2)).setCell ⟨q, 7, none⟩ (.int .u8 0)).setCell ⟨q, 8, none⟩ (.int .u32 0)).setCell ⟨q, 9, none⟩ (.int .i64 0)).setCell ⟨q, 10, none⟩ (.string xB)).setCell ⟨q, 11, none⟩ (.slice none 0 0)).heap[q]? = some (.cells (requireP v ws).arr 39 (0, 0)) := by
   simp [World.setCell, Array.getElem?_modify, hx, ProgV.arr, ProgV.cells, smallP, requireP, Sp.val, Sp.none, nameE, numE, ExprV.kind, ExprV.op, ExprV.value, ExprV.width, ExprV.name, ExprV.sp, ExprV.subs]
 have hr2 := hr.below (((((((Below.refl q W).setCell (p := ⟨q, 6, none⟩) (Nat.le_refl _) (.int .u8 2)).setCell (p := ⟨q, 7, none⟩) (Nat.le_refl _) (.int .u8 0)).setCell (p := ⟨q, 8, none⟩) (Nat.le_refl _) (.int .u32 0)).setCell (p := ⟨q, 9, none⟩) (Nat.le_refl _) (.int .i64 0)).setCell (p := ⟨q, 10, none⟩) (Nat.le_refl _) (.string xB)).setCell (p := ⟨q, 11, none⟩) (Nat.le_refl _) (.slice none 0 0))
 have hlt := (Array.getElem?_eq_some_iff.1 hbox).1
 have hr3 := hr2.more (Nat.le_of_lt hlt)
 exact ⟨hbox, { hr3 with require := name_now _ xB (by decide) }⟩
theorem twice_made {W : World} {q vb c : Nat} {v ws : Sp} (hx : W.heap[q]? = some (.cells (smallP v ws []).arr 39 (0, 0))) (hr : RdP q W (smallP v ws [])) (hv : RowOf W.heap.size (W.setCell ⟨q, 4, none⟩ (.slice (some ⟨vb, 0, none⟩) 2 c)) ⟨some ⟨vb, 0, none⟩, c⟩ 3 DeclV.cells [⟨xB, 3, 0⟩, ⟨xB, 1, 0⟩]) :
   InBox (W.setCell ⟨q, 4, none⟩ (.slice (some ⟨vb, 0, none⟩) 2 c)) q (twiceP ⟨some ⟨vb, 0, none⟩, c⟩ ws) := by
 have hbox : (W.setCell ⟨q, 4, none⟩ (.slice (some ⟨vb, 0, none⟩) 2 c)).heap[q]? = some (.cells (twiceP ⟨some ⟨vb, 0, none⟩, c⟩ ws).arr 39 (0, 0)) := by
   simp [World.setCell, Array.getElem?_modify, hx, ProgV.arr, ProgV.cells, smallP, twiceP, Sp.val]
 have hr2 := hr.below ((Below.refl q W).setCell (p := ⟨q, 4, none⟩) (Nat.le_refl _) (.slice (some ⟨vb, 0, none⟩) 2 c))
 have hsz : (W.setCell ⟨q, 4, none⟩ (.slice (some ⟨vb, 0, none⟩) 2 c)).heap.size = W.heap.size := by simp
 have hlt := (Array.getElem?_eq_some_iff.1 hbox).1
 have hr3 := hr2.more (Nat.le_of_lt hlt)
 refine ⟨hbox, { hr3 with vars := ⟨by rw [hsz]; exact hv, fun d h => ?_⟩ }⟩
 have h2 : d = ⟨xB, 3, 0⟩ ∨ d = ⟨xB, 1, 0⟩ := by simpa [twiceP] using h
 rcases h2 with rfl | rfl <;> exact ⟨by decide, by decide, by decide⟩
/-- A program in its box, its rows below n. -/
structure InAt (n : Nat) (W : World) (q : Nat) (p : ProgV) : Prop where
 box : W.heap[q]? = some (.cells p.arr 39 (0, 0))
 rd : RdP n W p
 lt : q < n
theorem InBox.at {W : World} {q : Nat} {p : ProgV} (h : InBox W q p) : InAt W.heap.size W q p := ⟨h.box, h.rd, (Array.getElem?_eq_some_iff.1 h.box).1⟩
theorem InAt.below {n q : Nat} {W W' : World} {p : ProgV} (h : InAt n W q p) (hb : Below n W W') : InAt n W' q p := ⟨(hb.block _ h.lt).trans h.box, h.rd.below hb, h.lt⟩
theorem InAt.more {n m q : Nat} {W : World} {p : ProgV} (h : InAt n W q p) (hm : n ≤ m) : InAt m W q p := ⟨h.box, h.rd.more hm, Nat.lt_of_lt_of_le h.lt hm⟩
theorem InAt.inb {n q : Nat} {W : World} {p : ProgV} (h : InAt n W q p) (hn : n ≤ W.heap.size) : InBox W q p := ⟨h.box, h.rd.more hn⟩
/-- The three programs in their boxes. -/
structure AwSt (w W : World) (q1 q2 q3 : Nat) (p1 p2 p3 : ProgV) : Prop where
 i1 : InBox W q1 p1
 i2 : InBox W q2 p2
 i3 : InBox W q3 p3
 low : Below w.heap.size w W
theorem AwSt.on {w W W' : World} {q1 q2 q3 : Nat} {p1 p2 p3 : ProgV} (h : AwSt w W q1 q2 q3 p1 p2 p3) (hb : Below W.heap.size W W') : AwSt w W' q1 q2 q3 p1 p2 p3 :=
 ⟨h.i1.on hb, h.i2.on hb, h.i3.on hb, h.low.trans (hb.mono h.low.size)⟩
theorem RowOf.setCell {α : Type} {n : Nat} {W : World} {b c k : Nat} {enc : α → List Value} {l : List α} (h : RowOf n W ⟨some ⟨b, 0, none⟩, c⟩ k enc l) (p : Addr) (hp : p.block ≠ b) (v : Value) : RowOf n (W.setCell p v) ⟨some ⟨b, 0, none⟩, c⟩ k enc l :=
 ⟨h.cap, h.big, h.few, fun h0 => by
   obtain ⟨b', off, e, hlt, hc⟩ := h.row h0
   refine ⟨b', off, e, hlt, fun j hj r u hu => ?_⟩
   have e2 : b = b' := by have := Option.some.inj e; exact (Addr.mk.inj this).1
   refine (World.cell?_of_block (a := ⟨b', off + j * k + r, none⟩) ?_).trans (hc j hj r u hu)
   exact Below.heap_setCell W p v b' (by rw [← e2]; exact fun h => hp h.symm)⟩
theorem num_exp (x wd : Int) (w : World) : Calls Tryz.prog 22 #[.int .u32 x, .int .i64 wd] w fun o w' => o = .returned (.agg #[.int .u8 1, .int .u8 0, .int .u32 x, .int .i64 wd, .string ⟨#[]⟩, .slice none 0 0]) ∧ Below w.heap.size w w' := num_any x wd w
theorem name_exp (s : ByteArray) (w : World) : Calls Tryz.prog 25 #[.string s] w fun o w' => o = .returned (.agg #[.int .u8 2, .int .u8 0, .int .u32 0, .int .i64 0, .string s, .slice none 0 0]) ∧ Below w.heap.size w w' := name_any32 s w
theorem call_exp (s : ByteArray) (w : World) : Calls Tryz.prog 17 #[.string s, .slice none 0 0] w fun o w' => o = .returned (.agg #[.int .u8 8, .string s, .slice none 0 0, .int .i64 0, .slice none 0 0, .slice none 0 0]) ∧ Below w.heap.size w w' := call_any32 s Sp.none [] w
theorem set_exp (s : ByteArray) (hs : s.size ≤ maxLen) (e : ExprV) (w : World) (he : NowX w e) : Calls Tryz.prog 23 #[.string s, .agg #[.int .u8 e.kind, .int .u8 e.op, .int .u32 e.value, .int .i64 e.width, .string e.name, .slice e.sp.at_ e.subs.length e.sp.cap]] w fun o w' => ∃ sp : Sp, o = .returned (.agg #[.int .u8 1, .string s, .slice sp.at_ 1 sp.cap, .int .i64 0, .slice none 0 0, .slice none 0 0]) ∧ NowT w' (setT sp s e) ∧ Below w.heap.size w w' := set_any s hs e w he
theorem write_exp (e1 e2 : ExprV) (w : World) (he1 : NowX w e1) (he2 : NowX w e2) : Calls Tryz.prog 24 #[.agg #[.int .u8 e1.kind, .int .u8 e1.op, .int .u32 e1.value, .int .i64 e1.width, .string e1.name, .slice e1.sp.at_ e1.subs.length e1.sp.cap], .agg #[.int .u8 e2.kind, .int .u8 e2.op, .int .u32 e2.value, .int .i64 e2.width, .string e2.name, .slice e2.sp.at_ e2.subs.length e2.sp.cap]] w fun o w' => ∃ sp : Sp, o = .returned (.agg #[.int .u8 3, .string ⟨#[]⟩, .slice sp.at_ 2 sp.cap, .int .i64 0, .slice none 0 0, .slice none 0 0]) ∧ NowT w' (writeT sp e1 e2) ∧ Below w.heap.size w w' := write_any e1 e2 w he1 he2
theorem small_exp (ws : Sp) (l : List StmtV) (w : World) (h : RdTs w.heap.size w ws l) : Calls Tryz.prog 15 #[.slice ws.at_ l.length ws.cap] w fun o w' => ∃ b : Nat, o = .returned (.agg (smallP ⟨some ⟨b, 0, none⟩, 1⟩ ws l).arr) ∧ RdP w'.heap.size w' (smallP ⟨some ⟨b, 0, none⟩, 1⟩ ws l) ∧ Below w.heap.size w w' := small_any ws l w h
theorem stmts_one {W : World} {s : StmtV} (h : NowT W s) : RdTs (W.alloc (.cells s.cells.toArray 49)).heap.size (W.alloc (.cells s.cells.toArray 49)) ⟨some ⟨W.heap.size, 0, none⟩, 1⟩ [s] :=
 ⟨row_one (World.alloc_heap_new _ _), fun x hx => by rw [List.mem_singleton.1 hx]; exact h.on ((Below.refl _ _).alloc (Nat.le_refl _) _)⟩
theorem stmts_two {W : World} {s1 s2 : StmtV} (h1 : NowT W s1) (h2 : NowT W s2) : RdTs (W.alloc (.cells (s1.cells ++ s2.cells).toArray 49)).heap.size (W.alloc (.cells (s1.cells ++ s2.cells).toArray 49)) ⟨some ⟨W.heap.size, 0, none⟩, 2⟩ [s1, s2] :=
 ⟨row_two rfl (World.alloc_heap_new _ _), fun x hx => by
   have h3 : x = s1 ∨ x = s2 := by simpa using hx
   rcases h3 with rfl | rfl
   · exact h1.on ((Below.refl _ _).alloc (Nat.le_refl _) _)
   · exact h2.on ((Below.refl _ _).alloc (Nat.le_refl _) _)⟩
theorem wrong_exp (w : World) (p : ProgV) (hp : RdP w.heap.size w p) (hn0 : 0 < w.heap.size) (hf : Fit p) (hmx : MxAt w) (pl e : Int) (h : checkP p = (pl, e)) :
   Calls Tryz.prog 16 #[.agg p.arr, .int .i64 pl, .int .i64 e] w fun o w' => o = .returned (.bool true) ∧ Below w.heap.size w w' := wrongAt_any w p hp hn0 hf.names hf.weight hmx pl e h
theorem decl_info : (Tryz.prog.info? 44).map (fun i => (i.zero, i.size, i.bytes)) = some (some (.agg #[.string ⟨#[]⟩, .int .i64 0, .int .i64 0]), 3, 32) := by kernel_rfl
theorem wpList_append_decl {ops : Array Oper} {rest : List Oper} {o : Oper} {a : Act} {w : World} {Q : Exit → Act → World → Prop} (hgd : o.guard = none) (s x : Operand)
   (ho : o.op = .call { callee := .builtin .append, args := #[s, x], argTypes := #[28, 28] }) (n b g : Nat) (hs : a.eval s = .slice (some ⟨b, 0, none⟩) 1 1) (h : RowOf n w ⟨some ⟨b, 0, none⟩, 1⟩ 3 DeclV.cells [⟨xB, 3, 0⟩])
   (hx : a.eval x = .slice (some ⟨g, 0, none⟩) 1 1) (hg : w.heap[g]? = some (.cells #[.string xB, .int .i64 1, .int .i64 0] 44 (0, 0)))
   (hK : ∀ vb c w', w.heap.size ≤ vb → RowOf w'.heap.size w' ⟨some ⟨vb, 0, none⟩, c⟩ 3 DeclV.cells [⟨xB, 3, 0⟩, ⟨xB, 1, 0⟩] → Below w.heap.size w w' → wpList Tryz.prog ops Q rest (a.put o.dst (.slice (some ⟨vb, 0, none⟩) 2 c)) w') : wpList Tryz.prog ops Q (o :: rest) a w := by
 refine wpList_plain hgd fun K hK' => ?_
 obtain ⟨i0, hi, hz0, hz1, hz2⟩ := info_of decl_info
 obtain ⟨b', off, e, hlt, hc⟩ := h.row (by simp)
 obtain ⟨rfl, rfl⟩ : b = b' ∧ 0 = off := by have := Option.some.inj e; exact ⟨(Addr.mk.inj this).1, (Addr.mk.inj this).2.1⟩
 have hold : ∀ j u, (DeclV.cells ⟨xB, 3, 0⟩)[j]? = some u → w.cell? ((⟨b, 0, none⟩ : Addr).add j) = some u := fun j u hj => by
   have := hc 0 (by simp) j u hj
   rw [Addr.add_lit]; simpa using this
 have hnew : ∀ j u, (DeclV.cells ⟨xB, 1, 0⟩)[j]? = some u → w.cell? ((⟨g, 0, none⟩ : Addr).add j) = some u := fun j u hj => by
   have e2 : (#[Value.string xB, .int .i64 1, .int .i64 0] : Array Value)[j]? = some u := by simpa [DeclV.cells] using hj
   rw [Addr.add_lit]; simp only [World.cell?, Nat.zero_add, hg]; exact e2
 obtain ⟨v', w', hr, hown, hgr⟩ := run_append_arg_grows (P := Tryz.prog) w 28 o.type 44 i0 _ 3 32 Tryz.underlying28 hi hz0 hz1 hz2 rfl (by decide) ⟨b, 0, none⟩ 1 1 (DeclV.cells ⟨xB, 3, 0⟩) rfl hold ⟨g, 0, none⟩ 1 1 (DeclV.cells ⟨xB, 1, 0⟩) rfl hnew (by decide) (by decide) (by decide)
 have hbl : Below w.heap.size w w' := ⟨hgr.os, hgr.tape, hgr.output, hgr.size, fun k hk => hgr.block k hk (by simp)⟩
 obtain ⟨hlen, ho2⟩ := hown
 rcases ho2 with ⟨_, h0⟩ | ⟨vb, cp, cur, rfl, g1, g2, g3, g4, g5, g6⟩
 · omega
 · have hrow : RowOf w'.heap.size w' ⟨some ⟨vb, 0, none⟩, cp⟩ 3 DeclV.cells [⟨xB, 3, 0⟩, ⟨xB, 1, 0⟩] := by
     refine ⟨g3, g4, by simp, fun _ => ⟨vb, 0, rfl, (Array.getElem?_eq_some_iff.1 g2).1, fun j hj r u hu => ?_⟩⟩
     have hr3 : r < 3 := by
       have := (List.getElem?_eq_some_iff.1 hu).1
       exact this
     have hj2 : j = 0 ∨ j = 1 := by simp at hj; omega
     have e3 : (cur.toList.take ((1 + 1) * 3))[j * 3 + r]? = (DeclV.cells ⟨xB, 3, 0⟩ ++ DeclV.cells ⟨xB, 1, 0⟩)[j * 3 + r]? := by rw [g6]
     rw [List.getElem?_take_of_lt (by omega)] at e3
     have e4 : cur[0 + j * 3 + r]? = some u := by
       rw [Nat.zero_add, ← Array.getElem?_toList, e3, ← hu]
       rcases hj2 with rfl | rfl
       · rw [Nat.zero_mul, Nat.zero_add, List.getElem?_append_left (by exact hr3)]; rfl
       · rw [Nat.one_mul, List.getElem?_append_right (by exact Nat.le_add_right 3 r)]
         have : 3 + r - (DeclV.cells ⟨xB, 3, 0⟩).length = r := Nat.add_sub_cancel_left 3 r
         rw [this]; rfl
     rw [Nat.zero_add] at e4; simp [World.cell?, g2, e4]
   unfold Oper.wp execOp
   simp only [ho, resolve, invoke, builtin, Sem.run_bind, Sem.run_pure, Result.andThen_ok, List.map_toArray, List.map_cons, List.map_nil, hs, hx, hr]
   exact hK' _ _ (hK vb cp w' g1 hrow hbl)
theorem right_exp (w : World) (p : ProgV) (hp : RdP w.heap.size w p) (hn0 : 0 < w.heap.size) (hf : Fit p) (hmx : MxAt w) (h : checkP p = (0, 0)) :
   Calls Tryz.prog 18 #[.agg p.arr] w fun o w' => o = .returned (.bool true) ∧ Below w.heap.size w w' :=
 (right_any w p hp hn0 hf.names hf.weight hmx).mono fun o w' ⟨h1, h2⟩ => ⟨by rw [h1, h]; rfl, h2⟩
theorem small_one {W : World} {s : StmtV} (h : NowT W s) (n : Nat) (hn : W.heap.size = n) : Calls Tryz.prog 15 #[.slice (some ⟨n, 0, none⟩) 1 1] (W.alloc (.cells s.cells.toArray 49)) fun o w' => ∃ b : Nat, o = .returned (.agg (smallP ⟨some ⟨b, 0, none⟩, 1⟩ ⟨some ⟨n, 0, none⟩, 1⟩ [s]).arr) ∧ RdP w'.heap.size w' (smallP ⟨some ⟨b, 0, none⟩, 1⟩ ⟨some ⟨n, 0, none⟩, 1⟩ [s]) ∧ Below W.heap.size W w' := by
 subst hn
 have hb : Below W.heap.size W (W.alloc (.cells s.cells.toArray 49)) := (Below.refl _ _).alloc (Nat.le_refl _) _
 exact (small_exp ⟨some ⟨W.heap.size, 0, none⟩, 1⟩ [s] _ (stmts_one h)).mono fun o w' ⟨b, h1, h2, h3⟩ => ⟨b, h1, h2, hb.trans (h3.mono hb.size)⟩
theorem small_two {W : World} {s1 s2 : StmtV} (h1 : NowT W s1) (h2 : NowT W s2) : Calls Tryz.prog 15 #[.slice (some ⟨W.heap.size, 0, none⟩) 2 2] (W.alloc (.cells (s1.cells ++ s2.cells).toArray 49)) fun o w' => ∃ b : Nat, o = .returned (.agg (smallP ⟨some ⟨b, 0, none⟩, 1⟩ ⟨some ⟨W.heap.size, 0, none⟩, 2⟩ [s1, s2]).arr) ∧ RdP w'.heap.size w' (smallP ⟨some ⟨b, 0, none⟩, 1⟩ ⟨some ⟨W.heap.size, 0, none⟩, 2⟩ [s1, s2]) ∧ Below W.heap.size W w' := by
 have hb : Below W.heap.size W (W.alloc (.cells (s1.cells ++ s2.cells).toArray 49)) := (Below.refl _ _).alloc (Nat.le_refl _) _
 exact (small_exp ⟨some ⟨W.heap.size, 0, none⟩, 2⟩ [s1, s2] _ (stmts_two h1 h2)).mono fun o w' ⟨b, h1, h2, h3⟩ => ⟨b, h1, h2, hb.trans (h3.mono hb.size)⟩
theorem cast_now {W : World} {e : ExprV} (he : NowX W e) : NowX (W.alloc (.cells e.cells.toArray 34)) (castE ⟨some ⟨W.heap.size, 0, none⟩, 1⟩ e) :=
 .mk _ (show (0 : Int) ≤ 8 ∧ (8 : Int) ≤ 255 by decide) (show (0 : Int) ≤ 0 ∧ (0 : Int) ≤ 255 by decide) (show (0 : Int) ≤ 0 ∧ (0 : Int) ≤ 4294967295 by decide) (show (Lit.int .i64 3).wf = true by decide) (show (0 : Nat) ≤ maxLen by decide) (row_one (enc := ExprV.cells) (x := e) (World.alloc_heap_new _ _)) (fun y hy => by
   have : y = e := by simpa [castE, ExprV.subs] using hy
   rw [this]; exact he.on ((Below.refl _ _).alloc (Nat.le_refl _) _))
theorem while_now {W : World} (he : NowX W (nameE xB)) : NowT (W.alloc (.cells (nameE xB).cells.toArray 34)) (whileT ⟨some ⟨W.heap.size, 0, none⟩, 1⟩) :=
 .mk _ (show (0 : Int) ≤ 7 ∧ (7 : Int) ≤ 255 by decide) (show (Lit.int .i64 0).wf = true by decide) (show (0 : Nat) ≤ maxLen by decide) (row_one (enc := ExprV.cells) (x := nameE xB) (World.alloc_heap_new _ _)) (fun y hy => by
   have : y = nameE xB := by simpa [whileT, StmtV.exprs] using hy
   rw [this]; exact he.on ((Below.refl _ _).alloc (Nat.le_refl _) _)) RowOf.nil (fun _ h => absurd h (by simp [whileT, StmtV.thn])) RowOf.nil (fun _ h => absurd h (by simp [whileT, StmtV.els]))
theorem set_cast {W : World} {e : ExprV} (he : NowX W e) : Calls Tryz.prog 23 #[.string xB, .agg #[.int .u8 8, .int .u8 0, .int .u32 0, .int .i64 3, .string ⟨#[]⟩, .slice (some ⟨W.heap.size, 0, none⟩) 1 1]] (W.alloc (.cells e.cells.toArray 34)) fun o w' => ∃ sp : Sp, o = .returned (.agg #[.int .u8 1, .string xB, .slice sp.at_ 1 sp.cap, .int .i64 0, .slice none 0 0, .slice none 0 0]) ∧ NowT w' (setT sp xB (castE ⟨some ⟨W.heap.size, 0, none⟩, 1⟩ e)) ∧ Below W.heap.size W w' := by
 have hb : Below W.heap.size W (W.alloc (.cells e.cells.toArray 34)) := (Below.refl _ _).alloc (Nat.le_refl _) _
 exact (set_exp xB (by decide) (castE ⟨some ⟨W.heap.size, 0, none⟩, 1⟩ e) _ (cast_now he)).mono fun o w' ⟨sp, h1, h2, h3⟩ => ⟨sp, h1, h2, hb.trans (h3.mono hb.size)⟩
theorem small_while {W : World} (he : NowX W (nameE xB)) : Calls Tryz.prog 15 #[.slice (some ⟨W.heap.size + 1, 0, none⟩) 1 1] ((W.alloc (.cells (nameE xB).cells.toArray 34)).alloc (.cells (whileT ⟨some ⟨W.heap.size, 0, none⟩, 1⟩).cells.toArray 49)) fun o w' => ∃ b : Nat, o = .returned (.agg (smallP ⟨some ⟨b, 0, none⟩, 1⟩ ⟨some ⟨W.heap.size + 1, 0, none⟩, 1⟩ [whileT ⟨some ⟨W.heap.size, 0, none⟩, 1⟩]).arr) ∧ RdP w'.heap.size w' (smallP ⟨some ⟨b, 0, none⟩, 1⟩ ⟨some ⟨W.heap.size + 1, 0, none⟩, 1⟩ [whileT ⟨some ⟨W.heap.size, 0, none⟩, 1⟩]) ∧ Below W.heap.size W w' := by
 have hb : Below W.heap.size W (W.alloc (.cells (nameE xB).cells.toArray 34)) := (Below.refl _ _).alloc (Nat.le_refl _) _
 exact (small_one (while_now he) _ (by simp)).mono fun o w' ⟨b, h1, h2, h3⟩ => ⟨b, h1, h2, hb.trans (h3.mono hb.size)⟩
end Go.Proofs.YthcboallnbaimaaGreatDoor
namespace Go.Proofs.YthcboallnbaimaaGreatDoor
open Go Go.RowKit Go.Maps
set_option maxRecDepth 1000000 in
set_option maxHeartbeats 16000000 in
theorem awake_any (w : World) (hn0 : 0 < w.heap.size) (hmx : MxAt w) : Calls Tryz.prog 12 #[] w fun o w' => o = .returned (.bool true) ∧ Below w.heap.size w w' := by
 have HSM := Lib.hid (fun W => small_exp Sp.none [] W none_stmts)
 have HMX := Lib.hid hmx
 clear hmx
 go_enter Tryz.func12, Tryz.ntmps12
 go_wp2_with fail
 refine (HSM.out _).mono ?_
 rintro o w1 ⟨b1, rfl, hr1, hb1⟩
 have hx1 := World.alloc_heap_new w1 (.cells (smallP ⟨some ⟨b1, 0, none⟩, 1⟩ Sp.none []).arr 39)
 have hb12 : Below w1.heap.size w1 (w1.alloc (.cells (smallP ⟨some ⟨b1, 0, none⟩, 1⟩ Sp.none []).arr 39)) := (Below.refl _ _).alloc (Nat.le_refl _) _
 have HR1 := Lib.hid (hr1.below hb12)
 have HX1 := Lib.hid hx1
 have HB2 := Lib.hid (hb1.trans (hb12.mono hb1.size))
 have hwq1 := hb1.size
 clear hr1 hx1 hb1 hb12
 go_upto_region 2 with (first
   | (refine wpList_allocRow (t := 39) rfl rfl (run_zeroP _) ?_)
   | (refine wpList_storeNew (t := 39) rfl _ _ rfl rfl rfl (arr_size _) rfl (arr_one _) ?_)
   | fail)
 generalize w1.alloc (.cells (smallP ⟨some ⟨b1, 0, none⟩, 1⟩ Sp.none []).arr 39) = W2 at *
 generalize w1.heap.size = q1 at *
 have hq1 := (Array.getElem?_eq_some_iff.1 HX1.out).1
 generalize (Value.agg (smallP ⟨some ⟨b1, 0, none⟩, 1⟩ Sp.none []).arr) = va1
 go_wp2_with fail
 refine (call_exp _ _).mono ?_
 rintro o w3 ⟨rfl, hb3⟩
 have hq13 : q1 < w3.heap.size := by have := hb3.size; omega
 obtain ⟨g1, g2, g3, g4⟩ := alloc2 w3 (.cells #[.int .u8 8, .string ⟨#[112]⟩, .slice none 0 0, .int .i64 0, .slice none 0 0, .slice none 0 0] 49) (.cells #[.string ⟨#[112]⟩, .slice none 0 0, .slice (some ⟨w3.heap.size, 0, none⟩) 1 1] 47)
 have hx5 := (g4.block _ hq13).trans ((hb3.block _ hq1).trans HX1.out)
 have hr5 := HR1.out.below (((hb3.mono (Nat.le_of_lt hq1))).trans (g4.mono (by omega)))
 have HB5 := Lib.hid (HB2.out.trans ((hb3.mono HB2.out.size).trans (g4.mono (by have := hb3.size; have := HB2.out.size; omega))))
 have c13 := arr_cells hx5 13 (v := .slice none 0 0) rfl
 have f13 : ((w3.alloc (.cells #[.int .u8 8, .string ⟨#[112]⟩, .slice none 0 0, .int .i64 0, .slice none 0 0, .slice none 0 0] 49)).alloc (.cells #[.string ⟨#[112]⟩, .slice none 0 0, .slice (some ⟨w3.heap.size, 0, none⟩) 1 1] 47)).frozen? ⟨q1, 13, none⟩ = false := by simp [World.frozen?, hx5]
 have HI6 := Lib.hid (loop_made hx5 hr5 g1 g2 (by omega) (by omega))
 have HB6 := Lib.hid (HB5.out.setCell (p := ⟨q1, 13, none⟩) (by simp only; omega) (.slice (some ⟨w3.heap.size + 1, 0, none⟩) 1 1))
 clear hb3 hx5 hr5 HR1 HX1 HB2 HB5 g1 g2
 have eW : ((w3.alloc (.cells #[.int .u8 8, .string ⟨#[112]⟩, .slice none 0 0, .int .i64 0, .slice none 0 0, .slice none 0 0] 49)).alloc (.cells #[.string ⟨#[112]⟩, .slice none 0 0, .slice (some ⟨w3.heap.size, 0, none⟩) 1 1] 47)).setCell ⟨q1, 13, none⟩ (.slice (some ⟨w3.heap.size + 1, 0, none⟩) 1 1) = ((w3.setCell ⟨q1, 13, none⟩ (.slice (some ⟨w3.heap.size + 1, 0, none⟩) 1 1)).alloc (.cells #[.int .u8 8, .string ⟨#[112]⟩, .slice none 0 0, .int .i64 0, .slice none 0 0, .slice none 0 0] 49)).alloc (.cells #[.string ⟨#[112]⟩, .slice none 0 0, .slice (some ⟨w3.heap.size, 0, none⟩) 1 1] 47) := by
   rw [World.setCell_alloc_past _ q1 13 (.slice (some ⟨w3.heap.size + 1, 0, none⟩) 1 1) (by simp; omega), World.setCell_alloc_past _ q1 13 (.slice (some ⟨w3.heap.size + 1, 0, none⟩) 1 1) hq13]
 rw [eW] at HI6 HB6
 clear eW
 go_upto_region 3 with fail
 generalize hW6 : ((w3.setCell ⟨q1, 13, none⟩ (.slice (some ⟨w3.heap.size + 1, 0, none⟩) 1 1)).alloc (.cells #[.int .u8 8, .string ⟨#[112]⟩, .slice none 0 0, .int .i64 0, .slice none 0 0, .slice none 0 0] 49)).alloc (.cells #[.string ⟨#[112]⟩, .slice none 0 0, .slice (some ⟨w3.heap.size, 0, none⟩) 1 1] 47) = W6 at *
 clear c13 f13 hW6 g4
 go_wp2_with fail
 refine (HSM.out _).mono ?_
 rintro o w7 ⟨b2, rfl, hr7, hb7⟩
 have hb8 : Below w7.heap.size w7 (w7.alloc (.cells (smallP ⟨some ⟨b2, 0, none⟩, 1⟩ Sp.none []).arr 39)) := (Below.refl _ _).alloc (Nat.le_refl _) _
 have HX8 := Lib.hid (World.alloc_heap_new w7 (.cells (smallP ⟨some ⟨b2, 0, none⟩, 1⟩ Sp.none []).arr 39))
 have HR8 := Lib.hid (hr7.below hb8)
 have HI8 := Lib.hid (((HI6.out.at.below hb7).more hb7.size).below hb8)
 have HB8 := Lib.hid (HB6.out.trans ((hb7.trans (hb8.mono hb7.size)).mono HB6.out.size))
 have hwq2 : w.heap.size ≤ w7.heap.size := Nat.le_trans HB6.out.size hb7.size
 have hq12 : q1 < w7.heap.size := Nat.lt_of_lt_of_le (Array.getElem?_eq_some_iff.1 HI6.out.box).1 hb7.size
 clear hr7 hb7 hb8 HI6 HB6
 go_upto_region 4 with (first
   | (refine wpList_allocRow (t := 39) rfl rfl (run_zeroP _) ?_)
   | (refine wpList_storeNew (t := 39) rfl _ _ rfl rfl rfl (arr_size _) rfl (arr_one _) ?_)
   | fail)
 generalize w7.alloc (.cells (smallP ⟨some ⟨b2, 0, none⟩, 1⟩ Sp.none []).arr 39) = W8 at *
 generalize w7.heap.size = q2 at *
 generalize (Value.agg (smallP ⟨some ⟨b2, 0, none⟩, 1⟩ Sp.none []).arr) = va2
 go_wp2_with fail
 refine (name_exp _ _).mono ?_
 rintro o w9 ⟨rfl, hb9⟩
 have hx9 := (hb9.block _ (Array.getElem?_eq_some_iff.1 HX8.out).1).trans HX8.out
 have hr9 := HR8.out.below (hb9.mono (Nat.le_of_lt (Array.getElem?_eq_some_iff.1 HX8.out).1))
 have HI10 : Hid (InBox ((((((w9.setCell ⟨q2, 6, none⟩ (.int .u8 2)).setCell ⟨q2, 7, none⟩ (.int .u8 0)).setCell ⟨q2, 8, none⟩ (.int .u32 0)).setCell ⟨q2, 9, none⟩ (.int .i64 0)).setCell ⟨q2, 10, none⟩ (.string ⟨#[120]⟩)).setCell ⟨q2, 11, none⟩ (.slice none 0 0)) q2 (requireP ⟨some ⟨b2, 0, none⟩, 1⟩ Sp.none)) := Lib.hid (require_made hx9 hr9)
 have hf9 : ∀ i, w9.frozen? ⟨q2, i, none⟩ = false := fun i => by simp [World.frozen?, hx9]
 have d6 := arr_cells hx9 6 (v := .int .u8 1) rfl
 have d7 := arr_cells hx9 7 (v := .int .u8 0) rfl
 have d8 := arr_cells hx9 8 (v := .int .u32 1) rfl
 have d9 := arr_cells hx9 9 (v := .int .i64 1) rfl
 have d10 := arr_cells hx9 10 (v := .string ⟨#[]⟩) rfl
 have d11 := arr_cells hx9 11 (v := .slice none 0 0) rfl
 have e6 := hf9 6
 have e7 := hf9 7
 have e8 := hf9 8
 have e9 := hf9 9
 have e10 := hf9 10
 have e11 := hf9 11
 have hlow10 : ∀ n, n ≤ q2 → Below n w9 ((((((w9.setCell ⟨q2, 6, none⟩ (.int .u8 2)).setCell ⟨q2, 7, none⟩ (.int .u8 0)).setCell ⟨q2, 8, none⟩ (.int .u32 0)).setCell ⟨q2, 9, none⟩ (.int .i64 0)).setCell ⟨q2, 10, none⟩ (.string ⟨#[120]⟩)).setCell ⟨q2, 11, none⟩ (.slice none 0 0)) := fun n hn =>
   ((((((Below.refl n w9).setCell (p := ⟨q2, 6, none⟩) hn (.int .u8 2)).setCell (p := ⟨q2, 7, none⟩) hn (.int .u8 0)).setCell (p := ⟨q2, 8, none⟩) hn (.int .u32 0)).setCell (p := ⟨q2, 9, none⟩) hn (.int .i64 0)).setCell (p := ⟨q2, 10, none⟩) hn (.string ⟨#[120]⟩)).setCell (p := ⟨q2, 11, none⟩) hn (.slice none 0 0)
 have HB10 := Lib.hid ((HB8.out.trans (hb9.mono HB8.out.size)).trans (hlow10 _ hwq2))
 have HL10 := Lib.hid ((HI8.out.below (hb9.mono (Nat.le_of_lt (Array.getElem?_eq_some_iff.1 HX8.out).1))).below (hlow10 _ (Nat.le_refl _)))
 have hq2w : q2 < ((((((w9.setCell ⟨q2, 6, none⟩ (.int .u8 2)).setCell ⟨q2, 7, none⟩ (.int .u8 0)).setCell ⟨q2, 8, none⟩ (.int .u32 0)).setCell ⟨q2, 9, none⟩ (.int .i64 0)).setCell ⟨q2, 10, none⟩ (.string ⟨#[120]⟩)).setCell ⟨q2, 11, none⟩ (.slice none 0 0)).heap.size := (Array.getElem?_eq_some_iff.1 HI10.out.box).1
 clear hx9 hr9 hf9 hlow10 hb9 HB8 HI8 HX8 HR8
 go_upto_region 5 with fail
 generalize ((((((w9.setCell ⟨q2, 6, none⟩ (.int .u8 2)).setCell ⟨q2, 7, none⟩ (.int .u8 0)).setCell ⟨q2, 8, none⟩ (.int .u32 0)).setCell ⟨q2, 9, none⟩ (.int .i64 0)).setCell ⟨q2, 10, none⟩ (.string ⟨#[120]⟩)).setCell ⟨q2, 11, none⟩ (.slice none 0 0)) = W10 at *
 clear d6 d7 d8 d9 d10 d11 e6 e7 e8 e9 e10 e11
 go_wp2_with fail
 refine (HSM.out _).mono ?_
 rintro o w11 ⟨b3, rfl, hr11, hb11⟩
 have hb12 : Below w11.heap.size w11 (w11.alloc (.cells (smallP ⟨some ⟨b3, 0, none⟩, 1⟩ Sp.none []).arr 39)) := (Below.refl _ _).alloc (Nat.le_refl _) _
 have HX12 := Lib.hid (World.alloc_heap_new w11 (.cells (smallP ⟨some ⟨b3, 0, none⟩, 1⟩ Sp.none []).arr 39))
 have HR12 := Lib.hid (hr11.below hb12)
 have hwq3 : w.heap.size ≤ w11.heap.size := Nat.le_trans HB10.out.size hb11.size
 have hq23 : q2 < w11.heap.size := Nat.lt_of_lt_of_le hq2w hb11.size
 have HB12 := Lib.hid (HB10.out.trans ((hb11.trans (hb12.mono hb11.size)).mono HB10.out.size))
 have HL12 := Lib.hid (((HL10.out.more (Nat.le_of_lt hq2w)).below hb11).more hb11.size |>.below hb12)
 have HI12 := Lib.hid (((HI10.out.at.below hb11).more hb11.size).below hb12)
 clear hr11 hb11 hb12 HB10 HL10 HI10
 go_upto_region 6 with (first
   | (refine wpList_allocRow (t := 39) rfl rfl (run_zeroP _) ?_)
   | (refine wpList_storeNew (t := 39) rfl _ _ rfl rfl rfl (arr_size _) rfl (arr_one _) ?_)
   | fail)
 generalize w11.alloc (.cells (smallP ⟨some ⟨b3, 0, none⟩, 1⟩ Sp.none []).arr 39) = W12 at *
 generalize w11.heap.size = q3 at *
 generalize (Value.agg (smallP ⟨some ⟨b3, 0, none⟩, 1⟩ Sp.none []).arr) = va3
 have hq3 := (Array.getElem?_eq_some_iff.1 HX12.out).1
 have c4 := arr_cells HX12.out 4 (v := .slice (some ⟨b3, 0, none⟩) 1 1) rfl
 have HV12 := Lib.hid (HR12.out.vars.row)
 have hbA : Below W12.heap.size W12 (W12.alloc (.cells #[.string ⟨#[120]⟩, .int .i64 1, .int .i64 0] 44)) := (Below.refl _ _).alloc (Nat.le_refl _) _
 have HGA := Lib.hid (World.alloc_heap_new W12 (.cells #[.string ⟨#[120]⟩, .int .i64 1, .int .i64 0] 44))
 have HVA := Lib.hid (HV12.out.below (hbA.mono (Nat.le_of_lt hq3)))
 have hsA : W12.heap.size ≤ (W12.alloc (.cells #[.string ⟨#[120]⟩, .int .i64 1, .int .i64 0] 44)).heap.size := hbA.size
 have HBA := Lib.hid hbA
 clear hbA
 go_wp2_with (first | (at_builtin; refine wpList_append_decl rfl _ _ rfl _ _ _ rfl HVA.out rfl HGA.out ?_) | fail)
 intro vb c w14 hvb hrow14 hb14
 have hbAll := HBA.out.trans (hb14.mono (Nat.le_succ _))
 have hx14 := (hbAll.block _ hq3).trans HX12.out
 have hq3le : q3 ≤ W12.heap.size := Nat.le_of_lt hq3
 have hr14 := HR12.out.below (hbAll.mono hq3le)
 have d4 := arr_cells hx14 4 (v := .slice (some ⟨b3, 0, none⟩) 1 1) rfl
 have f4 : w14.frozen? ⟨q3, 4, none⟩ = false := by simp [World.frozen?, hx14]
 have HI15 := twice_made hx14 hr14 (hrow14.setCell ⟨q3, 4, none⟩ (show q3 ≠ vb by omega) (.slice (some ⟨vb, 0, none⟩) 2 c))
 have hs15 : Below q3 w14 (w14.setCell ⟨q3, 4, none⟩ (.slice (some ⟨vb, 0, none⟩) 2 c)) := (Below.refl _ _).setCell (p := ⟨q3, 4, none⟩) (Nat.le_refl _) _
 have hq15 : q3 ≤ (w14.setCell ⟨q3, 4, none⟩ (.slice (some ⟨vb, 0, none⟩) 2 c)).heap.size := Nat.le_trans hq3le (Nat.le_trans hbAll.size hs15.size)
 have HAA := Lib.hid (AwSt.mk ((HL12.out.below ((hbAll.mono hq3le).trans hs15)).inb hq15) ((HI12.out.below ((hbAll.mono hq3le).trans hs15)).inb hq15) HI15 (HB12.out.trans ((hbAll.mono (Nat.le_trans hwq3 hq3le)).trans (hs15.mono hwq3))))
 clear hbAll hx14 hr14 HI15 hs15 hq15 hrow14 hb14 HB12 HL12 HI12 HX12 HR12 HV12 HGA HVA HBA c4 hsA
 go_upto_region 7 with fail
 generalize hW15 : w14.setCell ⟨q3, 4, none⟩ (.slice (some ⟨vb, 0, none⟩) 2 c) = W15 at *
 clear d4 f4 hW15

 go_wp2_with fail
 refine (HSM.out _).mono ?_
 rintro o w16 ⟨b16, rfl, hr16, hb16⟩
 have HA16 := Lib.hid (HAA.out.on hb16)
 have HP_16 := Lib.hid (hr16)
 clear hb16 HAA
 clear hr16
 go_wp2_with fail
 refine (right_exp _ _ HP_16.out (Nat.lt_of_lt_of_le hn0 HA16.out.low.size) (fit0 _ _) (HMX.out.below HA16.out.low hn0) (chk0 _ _)).mono ?_
 rintro o w17 ⟨rfl, hb17⟩
 have HA17 := Lib.hid (HA16.out.on hb17)
 have HP_17 := Lib.hid (HP_16.out.on hb17)
 clear HP_16
 clear hb17 HA16
 clear HP_17
 go_wp2_with fail
 refine (num_exp 1 3 _).mono ?_
 rintro o w18 ⟨rfl, hb18⟩
 have HA18 := Lib.hid (HA17.out.on hb18)
 have HX_18 := Lib.hid (num_now w18 1 3 (by decide) (by decide))
 clear hb18 HA17
 go_wp2_with fail
 refine (set_exp xB (by decide) (numE 1 3) _ HX_18.out).mono ?_
 rintro o w19 ⟨sp19, rfl, ht19, hb19⟩
 have HA19 := Lib.hid (HA18.out.on hb19)
 have HX_19 := Lib.hid (HX_18.out.on hb19)
 clear HX_18
 have HT_19 := Lib.hid (ht19)
 clear hb19 HA18
 clear ht19
 clear HX_19
 go_wp2_with fail
 refine (num_exp 0 1 _).mono ?_
 rintro o w20 ⟨rfl, hb20⟩
 have HA20 := Lib.hid (HA19.out.on hb20)
 have HT_20 := Lib.hid (HT_19.out.on hb20)
 clear HT_19
 have HX_20 := Lib.hid (num_now w20 0 1 (by decide) (by decide))
 clear hb20 HA19
 go_wp2_with fail
 refine (name_exp xB _).mono ?_
 rintro o w21 ⟨rfl, hb21⟩
 have HA21 := Lib.hid (HA20.out.on hb21)
 have HT_21 := Lib.hid (HT_20.out.on hb21)
 clear HT_20
 have HX_21 := Lib.hid (HX_20.out.on hb21)
 clear HX_20
 have HY_21 := Lib.hid (name_now w21 xB (by decide))
 clear hb21 HA20
 go_wp2_with fail
 refine (write_exp (numE 0 1) (nameE xB) _ HX_21.out HY_21.out).mono ?_
 rintro o w22 ⟨sp22, rfl, ht22, hb22⟩
 have HA22 := Lib.hid (HA21.out.on hb22)
 have HT_22 := Lib.hid (HT_21.out.on hb22)
 clear HT_21
 have HX_22 := Lib.hid (HX_21.out.on hb22)
 clear HX_21
 have HY_22 := Lib.hid (HY_21.out.on hb22)
 clear HY_21
 have HU_22 := Lib.hid (ht22)
 clear hb22 HA21
 clear ht22
 clear HX_22
 clear HY_22
 go_wp2_with fail
 refine (small_two HT_22.out HU_22.out).mono ?_
 rintro o w23 ⟨b23, rfl, hr23, hb23⟩
 have HA23 := Lib.hid (HA22.out.on hb23)
 have HT_23 := Lib.hid (HT_22.out.on hb23)
 clear HT_22
 have HU_23 := Lib.hid (HU_22.out.on hb23)
 clear HU_22
 have HP_23 := Lib.hid (hr23)
 clear hb23 HA22
 clear hr23
 clear HT_23
 clear HU_23
 go_wp2_with fail
 refine (wrong_exp _ _ HP_23.out (Nat.lt_of_lt_of_le hn0 HA23.out.low.size) (fit1 _ _ _ _) (HMX.out.below HA23.out.low hn0) 5 322 (chk1 _ _ _ _)).mono ?_
 rintro o w24 ⟨rfl, hb24⟩
 have HA24 := Lib.hid (HA23.out.on hb24)
 have HP_24 := Lib.hid (HP_23.out.on hb24)
 clear HP_23
 clear hb24 HA23
 clear HP_24
 go_wp2_with fail
 refine (num_exp 1 2 _).mono ?_
 rintro o w25 ⟨rfl, hb25⟩
 have HA25 := Lib.hid (HA24.out.on hb25)
 have HX_25 := Lib.hid (num_now w25 1 2 (by decide) (by decide))
 clear hb25 HA24
 go_wp2_with fail
 refine (set_exp xB (by decide) (numE 1 2) _ HX_25.out).mono ?_
 rintro o w26 ⟨sp26, rfl, ht26, hb26⟩
 have HA26 := Lib.hid (HA25.out.on hb26)
 have HX_26 := Lib.hid (HX_25.out.on hb26)
 clear HX_25
 have HT_26 := Lib.hid (ht26)
 clear hb26 HA25
 clear ht26
 clear HX_26
 go_wp2_with fail
 refine (small_one HT_26.out _ rfl).mono ?_
 rintro o w27 ⟨b27, rfl, hr27, hb27⟩
 have HA27 := Lib.hid (HA26.out.on hb27)
 have HT_27 := Lib.hid (HT_26.out.on hb27)
 clear HT_26
 have HP_27 := Lib.hid (hr27)
 clear hb27 HA26
 clear hr27
 clear HT_27
 go_wp2_with fail
 refine (wrong_exp _ _ HP_27.out (Nat.lt_of_lt_of_le hn0 HA27.out.low.size) (fit2 _ _ _ _) (HMX.out.below HA27.out.low hn0) 3 322 (chk2 _ _ _)).mono ?_
 rintro o w28 ⟨rfl, hb28⟩
 have HA28 := Lib.hid (HA27.out.on hb28)
 have HP_28 := Lib.hid (HP_27.out.on hb28)
 clear HP_27
 clear hb28 HA27
 clear HP_28
 go_wp2_with fail
 refine (num_exp 1 2 _).mono ?_
 rintro o w29 ⟨rfl, hb29⟩
 have HA29 := Lib.hid (HA28.out.on hb29)
 have HX_29 := Lib.hid (num_now w29 1 2 (by decide) (by decide))
 clear hb29 HA28
 go_wp2_with fail
 refine (set_exp ⟨#[121]⟩ (by decide) (numE 1 2) _ HX_29.out).mono ?_
 rintro o w30 ⟨sp30, rfl, ht30, hb30⟩
 have HA30 := Lib.hid (HA29.out.on hb30)
 have HX_30 := Lib.hid (HX_29.out.on hb30)
 clear HX_29
 have HT_30 := Lib.hid (ht30)
 clear hb30 HA29
 clear ht30
 clear HX_30
 go_wp2_with fail
 refine (small_one HT_30.out _ rfl).mono ?_
 rintro o w31 ⟨b31, rfl, hr31, hb31⟩
 have HA31 := Lib.hid (HA30.out.on hb31)
 have HT_31 := Lib.hid (HT_30.out.on hb31)
 clear HT_30
 have HP_31 := Lib.hid (hr31)
 clear hb31 HA30
 clear hr31
 clear HT_31
 go_wp2_with fail
 refine (wrong_exp _ _ HP_31.out (Nat.lt_of_lt_of_le hn0 HA31.out.low.size) (fit2 _ _ _ _) (HMX.out.below HA31.out.low hn0) 3 321 (chk3 _ _ _)).mono ?_
 rintro o w32 ⟨rfl, hb32⟩
 have HA32 := Lib.hid (HA31.out.on hb32)
 have HP_32 := Lib.hid (HP_31.out.on hb32)
 clear HP_31
 clear hb32 HA31
 clear HP_32
 go_wp2_with (first | (refine wpList_load_row_g (by rfl) 39 _ rfl q1 rfl 39 _ (0, 0) _ HA32.out.i1.box Tryz.underlying39 rfl (arr_size _) ?_) | fail)
 refine (wrong_exp _ _ HA32.out.i1.rd (Nat.lt_of_lt_of_le hn0 HA32.out.low.size) (fit4 _ _ _ _ _) (HMX.out.below HA32.out.low hn0) 4 328 (chk4 _ _ _ _ _)).mono ?_
 rintro o w33 ⟨rfl, hb33⟩
 have HA33 := Lib.hid (HA32.out.on hb33)
 clear hb33 HA32
 go_wp2_with fail
 refine (name_exp xB _).mono ?_
 rintro o w34 ⟨rfl, hb34⟩
 have HA34 := Lib.hid (HA33.out.on hb34)
 have HY_34 := Lib.hid (name_now w34 xB (by decide))
 clear hb34 HA33
 go_wp2_with fail
 refine (small_while HY_34.out).mono ?_
 rintro o w35 ⟨b35, rfl, hr35, hb35⟩
 have HA35 := Lib.hid (HA34.out.on hb35)
 have HY_35 := Lib.hid (HY_34.out.on hb35)
 clear HY_34
 have HP_35 := Lib.hid (hr35)
 clear hb35 HA34
 clear hr35
 clear HY_35
 go_wp2_with fail
 refine (wrong_exp _ _ HP_35.out (Nat.lt_of_lt_of_le hn0 HA35.out.low.size) (fit5 _ _ _) (HMX.out.below HA35.out.low hn0) 3 329 (chk5 _ _ _)).mono ?_
 rintro o w36 ⟨rfl, hb36⟩
 have HA36 := Lib.hid (HA35.out.on hb36)
 have HP_36 := Lib.hid (HP_35.out.on hb36)
 clear HP_35
 clear hb36 HA35
 clear HP_36
 go_wp2_with (first | (refine wpList_load_row_g (by rfl) 39 _ rfl q2 rfl 39 _ (0, 0) _ HA36.out.i2.box Tryz.underlying39 rfl (arr_size _) ?_) | fail)
 refine (wrong_exp _ _ HA36.out.i2.rd (Nat.lt_of_lt_of_le hn0 HA36.out.low.size) (fit6 _ _) (HMX.out.below HA36.out.low hn0) 2 326 (chk6 _ _)).mono ?_
 rintro o w37 ⟨rfl, hb37⟩
 have HA37 := Lib.hid (HA36.out.on hb37)
 clear hb37 HA36
 go_wp2_with fail
 refine (num_exp 5 2 _).mono ?_
 rintro o w38 ⟨rfl, hb38⟩
 have HA38 := Lib.hid (HA37.out.on hb38)
 have HX_38 := Lib.hid (num_now w38 5 2 (by decide) (by decide))
 clear hb38 HA37
 go_wp2_with fail
 refine (set_cast HX_38.out).mono ?_
 rintro o w39 ⟨sp39, rfl, ht39, hb39⟩
 have HA39 := Lib.hid (HA38.out.on hb39)
 have HX_39 := Lib.hid (HX_38.out.on hb39)
 clear HX_38
 have HT_39 := Lib.hid (ht39)
 clear hb39 HA38
 clear ht39
 clear HX_39
 go_wp2_with fail
 refine (small_one HT_39.out _ rfl).mono ?_
 rintro o w40 ⟨b40, rfl, hr40, hb40⟩
 have HA40 := Lib.hid (HA39.out.on hb40)
 have HT_40 := Lib.hid (HT_39.out.on hb40)
 clear HT_39
 have HP_40 := Lib.hid (hr40)
 clear hb40 HA39
 clear hr40
 clear HT_40
 go_wp2_with fail
 refine (wrong_exp _ _ HP_40.out (Nat.lt_of_lt_of_le hn0 HA40.out.low.size) (fit7 _ _ _ _) (HMX.out.below HA40.out.low hn0) 5 322 (chk7 _ _ _ _)).mono ?_
 rintro o w41 ⟨rfl, hb41⟩
 have HA41 := Lib.hid (HA40.out.on hb41)
 have HP_41 := Lib.hid (HP_40.out.on hb41)
 clear HP_40
 clear hb41 HA40
 clear HP_41
 go_wp2_with (first | (refine wpList_load_row_g (by rfl) 39 _ rfl q3 rfl 39 _ (0, 0) _ HA41.out.i3.box Tryz.underlying39 rfl (arr_size _) ?_) | fail)
 refine (wrong_exp _ _ HA41.out.i3.rd (Nat.lt_of_lt_of_le hn0 HA41.out.low.size) (fit8 _ _) (HMX.out.below HA41.out.low hn0) 2 321 (chk8 _ _)).mono ?_
 rintro o w42 ⟨rfl, hb42⟩
 have HA42 := Lib.hid (HA41.out.on hb42)
 clear hb42 HA41
 go_wp2_with fail
 go_ret
 exact ⟨rfl, HA42.out.low⟩
end Go.Proofs.YthcboallnbaimaaGreatDoor
namespace Go.Proofs.YthcboallnbaimaaGreatDoor
open Go Go.RowKit
def mask (q : Nat) (W : World) : World := W.putObj q (.cells #[] 0)
section
variable {q : Nat} {W W' : World}
theorem mask_size : (mask q W).heap.size = W.heap.size := by simp [mask, World.putObj]
theorem mask_heap {k : Nat} (h : k ≠ q) : (mask q W).heap[k]? = W.heap[k]? := by
 simp only [mask, World.putObj]
 rw [Array.getElem?_setIfInBounds, if_neg (fun e => h e.symm)]
theorem mask_at : (mask q W).heap[q]? = if q < W.heap.size then some (.cells #[] 0) else none := by
 simp only [mask, World.putObj]
 rw [Array.getElem?_setIfInBounds, if_pos rfl]
theorem heap_ext {A B : World} (h1 : A.os = B.os) (h2 : A.tape = B.tape) (h3 : A.output = B.output) (h4 : A.drawn = B.drawn) (h5 : ∀ k : Nat, A.heap[k]? = B.heap[k]?) : A = B := by
 obtain ⟨h, _, _, _, _⟩ := A
 obtain ⟨h', _, _, _, _⟩ := B
 simp only at h1 h2 h3 h4 h5
 have : h = h' := by
   apply Array.ext_getElem?
   exact h5
 subst this h1 h2 h3 h4
 rfl
theorem mask_setCell (i : Nat) (v : Value) : mask q (W.setCell ⟨q, i, none⟩ v) = mask q W := by
 refine heap_ext rfl rfl rfl rfl fun k => ?_
 by_cases h : k = q
 · subst h
   rw [mask_at, mask_at]; simp
 · rw [mask_heap h, mask_heap h]
   exact Below.heap_setCell _ _ _ _ h
theorem mask_alloc (hq : q < W.heap.size) (o : Obj) : mask q (W.alloc o) = (mask q W).alloc o := by
 refine heap_ext rfl rfl rfl rfl fun k => ?_
 by_cases h : k = q
 · subst h
   rw [mask_at, Below.heap_alloc _ _ _ (by rw [mask_size]; exact hq), mask_at, if_pos (by simp; omega), if_pos hq]
 · rw [mask_heap h]
   show (W.heap.push o)[k]? = ((mask q W).heap.push o)[k]?
   rw [Array.getElem?_push, Array.getElem?_push, mask_size, mask_heap h]
theorem mask_cell {a : Addr} {u : Value} (h : (mask q W).cell? a = some u) : W.cell? a = some u := by
 by_cases e : a.block = q
 · simp only [World.cell?, e, mask_at] at h
   split at h
   · next hh =>
     split at hh
     · cases hh
       split at h
       · cases h
       · simp at h
     · cases hh
   · cases h
 · rw [World.cell?_of_block (w := mask q W) (mask_heap e).symm]; exact h
theorem mask_below_q : Below q W (mask q W) := ⟨rfl, rfl, rfl, by rw [mask_size]; exact Nat.le_refl _, fun k hk => mask_heap (by omega)⟩
theorem below_mask {B : Nat} (hq : q < W.heap.size) (h : Below B W W') : Below B (mask q W) (mask q W') := by
 refine ⟨h.os, h.tape, h.output, by rw [mask_size, mask_size]; exact h.size, fun k hk => ?_⟩
 by_cases e : k = q
 · subst e
   rw [mask_at, mask_at, if_pos hq, if_pos (Nat.lt_of_lt_of_le hq h.size)]
 · rw [mask_heap e, mask_heap e]; exact h.block k hk
theorem unmask_below {B : Nat} (hB : B ≤ q) (h : Below B (mask q W) (mask q W')) : Below B W W' := by
 refine ⟨h.os, h.tape, h.output, by have := h.size; rw [mask_size, mask_size] at this; exact this, fun k hk => ?_⟩
 have := h.block k hk
 rw [mask_heap (by omega), mask_heap (by omega)] at this
 exact this
theorem RowOf.unmask {α : Type} {n k : Nat} {s : Sp} {enc : α → List Value} {l : List α} (h : RowOf n (mask q W) s k enc l) : RowOf n W s k enc l :=
 ⟨h.cap, h.big, h.few, fun h0 => by
   obtain ⟨b, off, e, hlt, hc⟩ := h.row h0
   exact ⟨b, off, e, hlt, fun j hj r u hu => mask_cell (hc j hj r u hu)⟩⟩
theorem RdX.unmask {n : Nat} {e : ExprV} (h : RdX n (mask q W) e) : RdX n W e := by
 induction h with
 | mk e k o v w n row _ ih => exact .mk e k o v w n row.unmask ih
theorem RdT.unmask {n : Nat} {s : StmtV} (h : RdT n (mask q W) s) : RdT n W s := by
 induction h with
 | mk s k b n er ex tr _ or _ ih1 ih2 => exact .mk s k b n er.unmask (fun e he => (ex e he).unmask) tr.unmask ih1 or.unmask ih2
theorem RdDs.unmask {n : Nat} {s : Sp} {l : List DeclV} (h : RdDs n (mask q W) s l) : RdDs n W s l := ⟨h.row.unmask, h.ok⟩
theorem RdTs.unmask {n : Nat} {s : Sp} {l : List StmtV} (h : RdTs n (mask q W) s l) : RdTs n W s l := ⟨h.row.unmask, fun t ht => (h.ok t ht).unmask⟩
theorem RdP.unmask {n : Nat} {p : ProgV} (h : RdP n (mask q W) p) : RdP n W p :=
 ⟨h.blocks, h.width, h.inputs.unmask, h.ghosts.unmask, h.vars.unmask, h.arrays.unmask, h.require.unmask, h.irow.unmask, fun i hi => ⟨(h.inits i hi).block, (h.inits i hi).value.unmask⟩, h.prow.unmask, fun x hx => ⟨(h.procs x hx).name, (h.procs x hx).params.unmask, (h.procs x hx).body.unmask⟩, h.work.unmask, h.recover.unmask, h.invariant.unmask⟩
/-- A row whose block is another one. -/
theorem RowOf.mask {α : Type} {n k b off : Nat} {c : Nat} {enc : α → List Value} {l : List α} (h : RowOf n W ⟨some ⟨b, off, none⟩, c⟩ k enc l) (hb : b ≠ q) : RowOf n (mask q W) ⟨some ⟨b, off, none⟩, c⟩ k enc l :=
 ⟨h.cap, h.big, h.few, fun h0 => by
   obtain ⟨b', off', e, hlt, hc⟩ := h.row h0
   have e2 : b = b' := by have := Option.some.inj e; exact (Addr.mk.inj this).1
   exact ⟨b', off', e, hlt, fun j hj r u hu => (World.cell?_of_block (w := W) (a := ⟨b', off' + j * k + r, none⟩) (mask_heap (by rw [← e2]; exact hb))).trans (hc j hj r u hu)⟩⟩
end
end Go.Proofs.YthcboallnbaimaaGreatDoor
namespace Go.Proofs.YthcboallnbaimaaGreatDoor
open Go Go.RowKit
section
variable {α : Type} {k : Nat} {enc : α → List Value}
theorem flat_len' (hk : ∀ x, (enc x).length = k) : ∀ l : List α, (l.flatMap enc).length = l.length * k
 | [] => by simp
 | x :: l => by rw [List.flatMap_cons, List.length_append, flat_len' hk l, hk, List.length_cons, Nat.add_mul]; omega
theorem flat_split (hk : ∀ x, (enc x).length = k) : ∀ (l : List α) (j : Nat) (u : Value), (l.flatMap enc)[j]? = some u → ∃ i r, ∃ hi : i < l.length, j = i * k + r ∧ (enc (l[i]))[r]? = some u
 | [], j, u, h => by simp at h
 | x :: l, j, u, h => by
   rw [List.flatMap_cons] at h
   by_cases hj : j < k
   · rw [List.getElem?_append_left (by rw [hk]; exact hj)] at h
     exact ⟨0, j, by simp, by omega, h⟩
   · rw [List.getElem?_append_right (by rw [hk]; omega), hk] at h
     obtain ⟨i, r, hi, e, h2⟩ := flat_split hk l (j - k) u h
     refine ⟨i + 1, r, by simp; omega, ?_, by simpa using h2⟩
     rw [Nat.add_mul]; omega
theorem flat_at (hk : ∀ x, (enc x).length = k) : ∀ (l : List α) (i r : Nat) (u : Value) (hi : i < l.length), (enc (l[i]))[r]? = some u → (l.flatMap enc)[i * k + r]? = some u
 | [], i, r, u, hi, _ => by simp at hi
 | x :: l, 0, r, u, hi, h => by
   have hr := (List.getElem?_eq_some_iff.1 h).1
   rw [List.flatMap_cons, Nat.zero_mul, Nat.zero_add, List.getElem?_append_left (by simpa using hr)]
   exact h
 | x :: l, i + 1, r, u, hi, h => by
   rw [List.flatMap_cons, List.getElem?_append_right (by rw [hk, Nat.add_mul]; omega), hk]
   have := flat_at hk l i r u (by simpa using hi) (by simpa using h)
   rw [← this]
   congr 1
   rw [Nat.add_mul]; omega
/-- The value v owns the list l, from block B on. -/
def OwnL (B : Nat) (W : World) (t : TypeId) (k : Nat) (enc : α → List Value) (v : Value) (l : List α) : Prop := W.ownsRow B t k v l.length (l.flatMap enc)
variable {B n : Nat} {W W' : World} {t : TypeId} {v : Value} {l : List α}
theorem OwnL.kept (h : OwnL B W t k enc v l) (hk : ∀ g cs fr, B ≤ g → W.heap[g]? = some (.cells cs t fr) → W'.heap[g]? = W.heap[g]?) : OwnL B W' t k enc v l := by
 obtain ⟨hlen, ho⟩ := h
 refine ⟨hlen, ?_⟩
 rcases ho with h0 | ⟨g, cap, cur, rfl, h1, h2, h3⟩
 · exact .inl h0
 · exact .inr ⟨g, cap, cur, rfl, h1, (hk g _ _ h1 h2).trans h2, h3⟩
theorem OwnL.on (h : OwnL B W t k enc v l) (hb : Below W.heap.size W W') : OwnL B W' t k enc v l := h.kept fun g _ _ _ hg => hb.block g (Array.getElem?_eq_some_iff.1 hg).1
theorem OwnL.less {C : Nat} (h : OwnL C W t k enc v l) (hB : B ≤ C) : OwnL B W t k enc v l := by
 obtain ⟨hlen, ho⟩ := h
 refine ⟨hlen, ?_⟩
 rcases ho with h0 | ⟨g, cap, cur, rfl, h1, h2⟩
 · exact .inl h0
 · exact .inr ⟨g, cap, cur, rfl, Nat.le_trans hB h1, h2⟩
theorem OwnL.nil : OwnL B W t k enc (.slice none 0 0) ([] : List α) := ⟨by simp, .inl ⟨rfl, rfl⟩⟩
theorem OwnL.slice (h : OwnL B W t k enc v l) : ∃ sp : Sp, v = sp.val l.length := by
 rcases h.2 with ⟨rfl, h0⟩ | ⟨g, cap, cur, rfl, _⟩
 · exact ⟨Sp.none, by simp [Sp.val, Sp.none, h0]⟩
 · exact ⟨⟨some ⟨g, 0, none⟩, cap⟩, rfl⟩
/-- What a slice owns is a row. -/
theorem OwnL.row (h : OwnL B W t k enc v l) (hk : ∀ x, (enc x).length = k) (hfew : l.length ≤ 2199023255552) : ∃ sp : Sp, v = sp.val l.length ∧ RowOf W.heap.size W sp k enc l ∧ (∀ a, sp.at_ = some a → B ≤ a.block ∧ a.off = 0 ∧ a.spot = none) := by
 rcases h.2 with ⟨rfl, h0⟩ | ⟨g, cap, cur, rfl, h1, h2, h3, h4, h5, h6⟩
 · have : l = [] := List.eq_nil_of_length_eq_zero h0
   subst this
   exact ⟨Sp.none, rfl, RowOf.nil, fun a ha => by cases ha⟩
 · refine ⟨⟨some ⟨g, 0, none⟩, cap⟩, rfl, ⟨h3, h4, hfew, fun _ => ⟨g, 0, rfl, (Array.getElem?_eq_some_iff.1 h2).1, fun j hj r u hu => ?_⟩⟩, fun a ha => by cases ha; exact ⟨h1, rfl, rfl⟩⟩
   have e := flat_at hk l j r u hj hu
   have hlt := (List.getElem?_eq_some_iff.1 e).1
   have e2 : (cur.toList.take (l.length * k))[j * k + r]? = some u := by rw [h6]; exact e
   have hlt2 : j * k + r < l.length * k := by rw [← flat_len' hk l]; exact hlt
   rw [List.getElem?_take_of_lt hlt2, Array.getElem?_toList] at e2
   simp only [World.cell?, h2, Nat.zero_add]
   exact e2
theorem RowOf.news {sp : Sp} (h : RowOf n W sp k enc l) (hk : ∀ x, (enc x).length = k) (h0 : 0 < l.length) : ∃ b off, sp.at_ = some ⟨b, off, none⟩ ∧ b < n ∧ ∀ j u, (l.flatMap enc)[j]? = some u → W.cell? ((⟨b, off, none⟩ : Addr).add j) = some u := by
 obtain ⟨b, off, e, hb, hc⟩ := h.row h0
 refine ⟨b, off, e, hb, fun j u hj => ?_⟩
 obtain ⟨i, r, hi, rfl, hu⟩ := flat_split hk l j u hj
 rw [Addr.add_lit, show off + (i * k + r) = off + i * k + r by omega]
 exact hc i hi r u hu
/-- A row whose block is not q. -/
theorem OwnL.mask {q : Nat} (h : OwnL B W t k enc v l) (hq : q < B) : OwnL B (mask q W) t k enc v l := by
 obtain ⟨hlen, ho⟩ := h
 refine ⟨hlen, ?_⟩
 rcases ho with h0 | ⟨g, cap, cur, rfl, h1, h2, h3⟩
 · exact .inl h0
 · exact .inr ⟨g, cap, cur, rfl, h1, (mask_heap (by omega)).trans h2, h3⟩
end
theorem one_decl : ∀ x : DeclV, ∀ u ∈ x.cells, u.oneCell' = true := by
 intro x u hu
 simp [DeclV.cells] at hu
 rcases hu with rfl | rfl | rfl <;> rfl
theorem one_stmt : ∀ x : StmtV, ∀ u ∈ x.cells, u.oneCell' = true := by
 intro x u hu
 simp [StmtV.cells, Sp.val] at hu
 rcases hu with rfl | rfl | rfl | rfl | rfl | rfl <;> rfl
theorem one_expr : ∀ x : ExprV, ∀ u ∈ x.cells, u.oneCell' = true := by
 intro x u hu
 simp [ExprV.cells, Sp.val] at hu
 rcases hu with rfl | rfl | rfl | rfl | rfl | rfl <;> rfl
theorem one_proc : ∀ x : ProcV, ∀ u ∈ x.cells, u.oneCell' = true := by
 intro x u hu
 simp [ProcV.cells, Sp.val] at hu
 rcases hu with rfl | rfl | rfl <;> rfl
theorem one_init : ∀ x : InitV, ∀ u ∈ x.cells, u.oneCell' = true := by
 intro x u hu
 simp only [InitV.cells, List.mem_cons] at hu
 rcases hu with rfl | hu
 · rfl
 · exact one_expr _ u hu
theorem one_flat {α : Type} {enc : α → List Value} (h : ∀ x : α, ∀ u ∈ enc x, u.oneCell' = true) (l : List α) : ∀ u ∈ l.flatMap enc, u.oneCell' = true := by
 intro u hu
 obtain ⟨x, _, hx⟩ := List.mem_flatMap.1 hu
 exact h x u hx
end Go.Proofs.YthcboallnbaimaaGreatDoor
namespace Go.Proofs.YthcboallnbaimaaGreatDoor
open Go Go.RowKit Go.Maps
theorem decl_inf : (Tryz.prog.info? 44).map (fun i => (i.zero, i.size, i.bytes)) = some (some (.agg #[.string ⟨#[]⟩, .int .i64 0, .int .i64 0]), 3, 32) := by kernel_rfl
set_option maxRecDepth 1000000 in
theorem clone_decl (w : World) (sp : Sp) (l : List DeclV) (B : Nat) (h : RowOf B w sp 3 DeclV.cells l) (hl : l.length ≤ 1000000) :
   Calls Tryz.prog 72 #[.slice sp.at_ l.length sp.cap] w fun o w' => (∃ v, o = .returned v ∧ OwnL w.heap.size w' 44 3 DeclV.cells v l) ∧ Below w.heap.size w w' := by
 obtain ⟨i0, hi, hz0, hz1, hz2⟩ := info_of decl_inf
 have q22 : ∀ (w : World) (a : Option Addr) (n c n' c' : Nat), (binOp .eql 28 (.slice a n c) (.slice none n' c')).run Tryz.prog w = .ok (.bool a.isNone) w := fun w a n c n' c' => Lib.run_eql_slice_nil w _ _ a n c n' c' Tryz.underlying28
 cases hat : sp.at_ with
 | none =>
   have h0 : l = [] := by
     cases l with
     | nil => rfl
     | cons x l => obtain ⟨b, off, e, _⟩ := h.row (by simp); rw [hat] at e; cases e
   subst h0
   clear h
   go_enter Tryz.func72, Tryz.ntmps72
   go_wp2_with fail
   go_ret
   exact ⟨⟨_, rfl, OwnL.nil⟩, Below.refl _ _⟩
 | some a =>
   have HN : ∃ ad : Addr, some a = some ad ∧ ∀ j u, (l.flatMap DeclV.cells)[j]? = some u → (w.alloc (.cells #[] 44)).cell? (ad.add j) = some u := by
     refine ⟨a, rfl, fun j u hj => ?_⟩
     have h0 : 0 < l.length := by
       cases l with
       | nil => simp at hj
       | cons x l => simp
     obtain ⟨b, off, e, hlt, hc⟩ := h.news (fun _ => rfl) h0
     rw [hat] at e
     cases e
     have hcc := hc j u hj
     have hblk := World.block_lt_of_cell? w _ hcc
     exact (World.cell?_of_block (w := w) (Below.heap_alloc _ _ _ hblk)).trans hcc
   obtain ⟨ad, e1, hnews⟩ := HN
   cases e1
   have HNEWS := Lib.hid hnews
   clear hnews h hat
   have hl63 : l.length ≤ maxLen := by simp only [maxLen]; omega
   have hLN := flat_len' (enc := DeclV.cells) (k := 3) (fun _ => rfl) l
   have hO1 := one_flat one_decl l
   have HLN := Lib.hid hLN
   have HO1 := Lib.hid hO1
   clear hLN hO1
   obtain ⟨n, hn⟩ : ∃ n, l.length = n := ⟨_, rfl⟩
   have HNN := Lib.hid hn
   rw [hn] at HLN hl hl63 ⊢
   clear hn
   go_enter Tryz.func72, Tryz.ntmps72
   go_wp2_with (first | (at_builtin; refine wpList_append_own _ rfl _ _ 28 rfl w.heap.size 44 i0 _ 3 32 Tryz.underlying28 hi hz0 hz1 hz2 rfl (by decide) _ _ _ rfl (World.ownsRow_made w #[] 0 (Nat.le_refl _) (Nat.zero_le _) (by simp)) a n sp.cap (l.flatMap DeclV.cells) rfl HLN.out HNEWS.out HO1.out (by omega) (by omega) (by simp) ?_) | fail)
   intro v' w1 hown hgrow hnil
   go_wp2_with fail
   go_ret
   refine ⟨⟨v', rfl, by simpa [OwnL, HNN.out] using hown⟩, ?_⟩
   exact ((Below.refl _ w).alloc (Nat.le_refl _) _).grown hgrow (by simp) (by intro k hk; simp [Value.ownBlock] at hk; omega)
theorem stmt_inf : (Tryz.prog.info? 49).map (fun i => (i.zero, i.size, i.bytes)) = some (some (.agg #[.int .u8 0, .string ⟨#[]⟩, .slice none 0 0, .int .i64 0, .slice none 0 0, .slice none 0 0]), 6, 104) := by kernel_rfl
set_option maxRecDepth 1000000 in
theorem clone_stmt (w : World) (sp : Sp) (l : List StmtV) (B : Nat) (h : RowOf B w sp 6 StmtV.cells l) (hl : l.length ≤ 1000000) :
   Calls Tryz.prog 26 #[.slice sp.at_ l.length sp.cap] w fun o w' => (∃ v, o = .returned v ∧ OwnL w.heap.size w' 49 6 StmtV.cells v l) ∧ Below w.heap.size w w' := by
 obtain ⟨i0, hi, hz0, hz1, hz2⟩ := info_of stmt_inf
 have q22 : ∀ (w : World) (a : Option Addr) (n c n' c' : Nat), (binOp .eql 37 (.slice a n c) (.slice none n' c')).run Tryz.prog w = .ok (.bool a.isNone) w := fun w a n c n' c' => Lib.run_eql_slice_nil w _ _ a n c n' c' Tryz.underlying37
 cases hat : sp.at_ with
 | none =>
   have h0 : l = [] := by
     cases l with
     | nil => rfl
     | cons x l => obtain ⟨b, off, e, _⟩ := h.row (by simp); rw [hat] at e; cases e
   subst h0
   clear h
   go_enter Tryz.func26, Tryz.ntmps26
   go_wp2_with fail
   go_ret
   exact ⟨⟨_, rfl, OwnL.nil⟩, Below.refl _ _⟩
 | some a =>
   have HN : ∃ ad : Addr, some a = some ad ∧ ∀ j u, (l.flatMap StmtV.cells)[j]? = some u → (w.alloc (.cells #[] 49)).cell? (ad.add j) = some u := by
     refine ⟨a, rfl, fun j u hj => ?_⟩
     have h0 : 0 < l.length := by
       cases l with
       | nil => simp at hj
       | cons x l => simp
     obtain ⟨b, off, e, hlt, hc⟩ := h.news (fun _ => rfl) h0
     rw [hat] at e
     cases e
     have hcc := hc j u hj
     have hblk := World.block_lt_of_cell? w _ hcc
     exact (World.cell?_of_block (w := w) (Below.heap_alloc _ _ _ hblk)).trans hcc
   obtain ⟨ad, e1, hnews⟩ := HN
   cases e1
   have HNEWS := Lib.hid hnews
   clear hnews h hat
   have hl63 : l.length ≤ maxLen := by simp only [maxLen]; omega
   have hLN := flat_len' (enc := StmtV.cells) (k := 6) (fun _ => rfl) l
   have hO1 := one_flat one_stmt l
   have HLN := Lib.hid hLN
   have HO1 := Lib.hid hO1
   clear hLN hO1
   obtain ⟨n, hn⟩ : ∃ n, l.length = n := ⟨_, rfl⟩
   have HNN := Lib.hid hn
   rw [hn] at HLN hl hl63 ⊢
   clear hn
   go_enter Tryz.func26, Tryz.ntmps26
   go_wp2_with (first | (at_builtin; refine wpList_append_own _ rfl _ _ 37 rfl w.heap.size 49 i0 _ 6 104 Tryz.underlying37 hi hz0 hz1 hz2 rfl (by decide) _ _ _ rfl (World.ownsRow_made w #[] 0 (Nat.le_refl _) (Nat.zero_le _) (by simp)) a n sp.cap (l.flatMap StmtV.cells) rfl HLN.out HNEWS.out HO1.out (by omega) (by omega) (by simp) ?_) | fail)
   intro v' w1 hown hgrow hnil
   go_wp2_with fail
   go_ret
   refine ⟨⟨v', rfl, by simpa [OwnL, HNN.out] using hown⟩, ?_⟩
   exact ((Below.refl _ w).alloc (Nat.le_refl _) _).grown hgrow (by simp) (by intro k hk; simp [Value.ownBlock] at hk; omega)
theorem proc_inf : (Tryz.prog.info? 47).map (fun i => (i.zero, i.size, i.bytes)) = some (some (.agg #[.string ⟨#[]⟩, .slice none 0 0, .slice none 0 0]), 3, 64) := by kernel_rfl
set_option maxRecDepth 1000000 in
theorem clone_proc (w : World) (sp : Sp) (l : List ProcV) (B : Nat) (h : RowOf B w sp 3 ProcV.cells l) (hl : l.length ≤ 1000000) :
   Calls Tryz.prog 36 #[.slice sp.at_ l.length sp.cap] w fun o w' => (∃ v, o = .returned v ∧ OwnL w.heap.size w' 47 3 ProcV.cells v l) ∧ Below w.heap.size w w' := by
 obtain ⟨i0, hi, hz0, hz1, hz2⟩ := info_of proc_inf
 have q22 : ∀ (w : World) (a : Option Addr) (n c n' c' : Nat), (binOp .eql 36 (.slice a n c) (.slice none n' c')).run Tryz.prog w = .ok (.bool a.isNone) w := fun w a n c n' c' => Lib.run_eql_slice_nil w _ _ a n c n' c' Tryz.underlying36
 cases hat : sp.at_ with
 | none =>
   have h0 : l = [] := by
     cases l with
     | nil => rfl
     | cons x l => obtain ⟨b, off, e, _⟩ := h.row (by simp); rw [hat] at e; cases e
   subst h0
   clear h
   go_enter Tryz.func36, Tryz.ntmps36
   go_wp2_with fail
   go_ret
   exact ⟨⟨_, rfl, OwnL.nil⟩, Below.refl _ _⟩
 | some a =>
   have HN : ∃ ad : Addr, some a = some ad ∧ ∀ j u, (l.flatMap ProcV.cells)[j]? = some u → (w.alloc (.cells #[] 47)).cell? (ad.add j) = some u := by
     refine ⟨a, rfl, fun j u hj => ?_⟩
     have h0 : 0 < l.length := by
       cases l with
       | nil => simp at hj
       | cons x l => simp
     obtain ⟨b, off, e, hlt, hc⟩ := h.news (fun _ => rfl) h0
     rw [hat] at e
     cases e
     have hcc := hc j u hj
     have hblk := World.block_lt_of_cell? w _ hcc
     exact (World.cell?_of_block (w := w) (Below.heap_alloc _ _ _ hblk)).trans hcc
   obtain ⟨ad, e1, hnews⟩ := HN
   cases e1
   have HNEWS := Lib.hid hnews
   clear hnews h hat
   have hl63 : l.length ≤ maxLen := by simp only [maxLen]; omega
   have hLN := flat_len' (enc := ProcV.cells) (k := 3) (fun _ => rfl) l
   have hO1 := one_flat one_proc l
   have HLN := Lib.hid hLN
   have HO1 := Lib.hid hO1
   clear hLN hO1
   obtain ⟨n, hn⟩ : ∃ n, l.length = n := ⟨_, rfl⟩
   have HNN := Lib.hid hn
   rw [hn] at HLN hl hl63 ⊢
   clear hn
   go_enter Tryz.func36, Tryz.ntmps36
   go_wp2_with (first | (at_builtin; refine wpList_append_own _ rfl _ _ 36 rfl w.heap.size 47 i0 _ 3 64 Tryz.underlying36 hi hz0 hz1 hz2 rfl (by decide) _ _ _ rfl (World.ownsRow_made w #[] 0 (Nat.le_refl _) (Nat.zero_le _) (by simp)) a n sp.cap (l.flatMap ProcV.cells) rfl HLN.out HNEWS.out HO1.out (by omega) (by omega) (by simp) ?_) | fail)
   intro v' w1 hown hgrow hnil
   go_wp2_with fail
   go_ret
   refine ⟨⟨v', rfl, by simpa [OwnL, HNN.out] using hown⟩, ?_⟩
   exact ((Below.refl _ w).alloc (Nat.le_refl _) _).grown hgrow (by simp) (by intro k hk; simp [Value.ownBlock] at hk; omega)
theorem init_inf : (Tryz.prog.info? 118).map (fun i => (i.zero, i.size, i.bytes)) = some (some (.agg #[.int .i64 0, .int .u8 0, .int .u8 0, .int .u32 0, .int .i64 0, .string ⟨#[]⟩, .slice none 0 0]), 7, 64) := by kernel_rfl
set_option maxRecDepth 1000000 in
theorem clone_init (w : World) (sp : Sp) (l : List InitV) (B : Nat) (h : RowOf B w sp 7 InitV.cells l) (hl : l.length ≤ 1000000) :
   Calls Tryz.prog 74 #[.slice sp.at_ l.length sp.cap] w fun o w' => (∃ v, o = .returned v ∧ OwnL w.heap.size w' 118 7 InitV.cells v l) ∧ Below w.heap.size w w' := by
 obtain ⟨i0, hi, hz0, hz1, hz2⟩ := info_of init_inf
 have q22 : ∀ (w : World) (a : Option Addr) (n c n' c' : Nat), (binOp .eql 35 (.slice a n c) (.slice none n' c')).run Tryz.prog w = .ok (.bool a.isNone) w := fun w a n c n' c' => Lib.run_eql_slice_nil w _ _ a n c n' c' Tryz.underlying35
 cases hat : sp.at_ with
 | none =>
   have h0 : l = [] := by
     cases l with
     | nil => rfl
     | cons x l => obtain ⟨b, off, e, _⟩ := h.row (by simp); rw [hat] at e; cases e
   subst h0
   clear h
   go_enter Tryz.func74, Tryz.ntmps74
   go_wp2_with fail
   go_ret
   exact ⟨⟨_, rfl, OwnL.nil⟩, Below.refl _ _⟩
 | some a =>
   have HN : ∃ ad : Addr, some a = some ad ∧ ∀ j u, (l.flatMap InitV.cells)[j]? = some u → (w.alloc (.cells #[] 118)).cell? (ad.add j) = some u := by
     refine ⟨a, rfl, fun j u hj => ?_⟩
     have h0 : 0 < l.length := by
       cases l with
       | nil => simp at hj
       | cons x l => simp
     obtain ⟨b, off, e, hlt, hc⟩ := h.news (fun _ => rfl) h0
     rw [hat] at e
     cases e
     have hcc := hc j u hj
     have hblk := World.block_lt_of_cell? w _ hcc
     exact (World.cell?_of_block (w := w) (Below.heap_alloc _ _ _ hblk)).trans hcc
   obtain ⟨ad, e1, hnews⟩ := HN
   cases e1
   have HNEWS := Lib.hid hnews
   clear hnews h hat
   have hl63 : l.length ≤ maxLen := by simp only [maxLen]; omega
   have hLN := flat_len' (enc := InitV.cells) (k := 7) (fun _ => rfl) l
   have hO1 := one_flat one_init l
   have HLN := Lib.hid hLN
   have HO1 := Lib.hid hO1
   clear hLN hO1
   obtain ⟨n, hn⟩ : ∃ n, l.length = n := ⟨_, rfl⟩
   have HNN := Lib.hid hn
   rw [hn] at HLN hl hl63 ⊢
   clear hn
   go_enter Tryz.func74, Tryz.ntmps74
   go_wp2_with (first | (at_builtin; refine wpList_append_own _ rfl _ _ 35 rfl w.heap.size 118 i0 _ 7 64 Tryz.underlying35 hi hz0 hz1 hz2 rfl (by decide) _ _ _ rfl (World.ownsRow_made w #[] 0 (Nat.le_refl _) (Nat.zero_le _) (by simp)) a n sp.cap (l.flatMap InitV.cells) rfl HLN.out HNEWS.out HO1.out (by omega) (by omega) (by simp) ?_) | fail)
   intro v' w1 hown hgrow hnil
   go_wp2_with fail
   go_ret
   refine ⟨⟨v', rfl, by simpa [OwnL, HNN.out] using hown⟩, ?_⟩
   exact ((Below.refl _ w).alloc (Nat.le_refl _) _).grown hgrow (by simp) (by intro k hk; simp [Value.ownBlock] at hk; omega)
theorem expr_inf : (Tryz.prog.info? 34).map (fun i => (i.zero, i.size, i.bytes)) = some (some (.agg #[.int .u8 0, .int .u8 0, .int .u32 0, .int .i64 0, .string ⟨#[]⟩, .slice none 0 0]), 6, 56) := by kernel_rfl
set_option maxRecDepth 1000000 in
theorem clone_expr (w : World) (sp : Sp) (l : List ExprV) (B : Nat) (h : RowOf B w sp 6 ExprV.cells l) (hl : l.length ≤ 1000000) :
   Calls Tryz.prog 112 #[.slice sp.at_ l.length sp.cap] w fun o w' => (∃ v, o = .returned v ∧ OwnL w.heap.size w' 34 6 ExprV.cells v l) ∧ Below w.heap.size w w' := by
 obtain ⟨i0, hi, hz0, hz1, hz2⟩ := info_of expr_inf
 have q22 : ∀ (w : World) (a : Option Addr) (n c n' c' : Nat), (binOp .eql 32 (.slice a n c) (.slice none n' c')).run Tryz.prog w = .ok (.bool a.isNone) w := fun w a n c n' c' => Lib.run_eql_slice_nil w _ _ a n c n' c' Tryz.underlying32
 cases hat : sp.at_ with
 | none =>
   have h0 : l = [] := by
     cases l with
     | nil => rfl
     | cons x l => obtain ⟨b, off, e, _⟩ := h.row (by simp); rw [hat] at e; cases e
   subst h0
   clear h
   go_enter Tryz.func112, Tryz.ntmps112
   go_wp2_with fail
   go_ret
   exact ⟨⟨_, rfl, OwnL.nil⟩, Below.refl _ _⟩
 | some a =>
   have HN : ∃ ad : Addr, some a = some ad ∧ ∀ j u, (l.flatMap ExprV.cells)[j]? = some u → (w.alloc (.cells #[] 34)).cell? (ad.add j) = some u := by
     refine ⟨a, rfl, fun j u hj => ?_⟩
     have h0 : 0 < l.length := by
       cases l with
       | nil => simp at hj
       | cons x l => simp
     obtain ⟨b, off, e, hlt, hc⟩ := h.news (fun _ => rfl) h0
     rw [hat] at e
     cases e
     have hcc := hc j u hj
     have hblk := World.block_lt_of_cell? w _ hcc
     exact (World.cell?_of_block (w := w) (Below.heap_alloc _ _ _ hblk)).trans hcc
   obtain ⟨ad, e1, hnews⟩ := HN
   cases e1
   have HNEWS := Lib.hid hnews
   clear hnews h hat
   have hl63 : l.length ≤ maxLen := by simp only [maxLen]; omega
   have hLN := flat_len' (enc := ExprV.cells) (k := 6) (fun _ => rfl) l
   have hO1 := one_flat one_expr l
   have HLN := Lib.hid hLN
   have HO1 := Lib.hid hO1
   clear hLN hO1
   obtain ⟨n, hn⟩ : ∃ n, l.length = n := ⟨_, rfl⟩
   have HNN := Lib.hid hn
   rw [hn] at HLN hl hl63 ⊢
   clear hn
   go_enter Tryz.func112, Tryz.ntmps112
   go_wp2_with (first | (at_builtin; refine wpList_append_own _ rfl _ _ 32 rfl w.heap.size 34 i0 _ 6 56 Tryz.underlying32 hi hz0 hz1 hz2 rfl (by decide) _ _ _ rfl (World.ownsRow_made w #[] 0 (Nat.le_refl _) (Nat.zero_le _) (by simp)) a n sp.cap (l.flatMap ExprV.cells) rfl HLN.out HNEWS.out HO1.out (by omega) (by omega) (by simp) ?_) | fail)
   intro v' w1 hown hgrow hnil
   go_wp2_with fail
   go_ret
   refine ⟨⟨v', rfl, by simpa [OwnL, HNN.out] using hown⟩, ?_⟩
   exact ((Below.refl _ w).alloc (Nat.le_refl _) _).grown hgrow (by simp) (by intro k hk; simp [Value.ownBlock] at hk; omega)
end Go.Proofs.YthcboallnbaimaaGreatDoor
namespace Go.Proofs.YthcboallnbaimaaGreatDoor
open Go Go.RowKit
/-- The slice type t of elements e of k cells. -/
def ElemK (P : Program) (t e : TypeId) (k : Nat) : Prop := ∃ i z bytes, P.underlying t = some (.slice e) ∧ P.info? e = some i ∧ i.zero = some z ∧ i.size = k ∧ i.bytes = bytes ∧ bytes ≤ 1000 ∧ z.cells.size = k ∧ 0 < k
theorem elemK_of {P : Program} {t e : TypeId} {k b : Nat} {z : Value} (h : (P.info? e).map (fun i => (i.zero, i.size, i.bytes)) = some (some z, k, b)) (ht : P.underlying t = some (.slice e)) (hb : b ≤ 1000) (hz : z.cells.size = k) (hk : 0 < k) : ElemK P t e k := by
 obtain ⟨i, h1, h2, h3, h4⟩ := info_of h
 exact ⟨i, z, b, ht, h1, h2, h3, h4, hb, hz, hk⟩
section
variable {P : Program} {α : Type} {k : Nat} {enc : α → List Value} {w : World}
theorem run_append_row {B : Nat} {t ty e : TypeId} (hE : ElemK P t e k) (hk : ∀ x, (enc x).length = k) (h1 : ∀ x : α, ∀ u ∈ enc x, u.oneCell' = true) {v : Value} {l : List α} (hown : OwnL B w e k enc v l)
   {n : Nat} {sp : Sp} {l2 : List α} (hr : RowOf n w sp k enc l2) (hlen : l.length + l2.length ≤ 1000000) (hB : B ≤ w.heap.size) :
   ∃ v' w', (Builtin.append_ #[t, t] ty #[v, .slice sp.at_ l2.length sp.cap]).run P w = .ok v' w' ∧ OwnL B w' e k enc v' (l ++ l2) ∧ w.grownBy w' v.ownBlock ∧ (v'.ownBlock = v.ownBlock ∨ v'.ownBlock = some w.heap.size) := by
 obtain ⟨i, z, bytes, ht, hi, hz, hsz, hby, hbb, hzs, hk0⟩ := hE
 cases hat : sp.at_ with
 | none =>
   have h0 : l2 = [] := by
     cases l2 with
     | nil => rfl
     | cons x l2 => obtain ⟨b, off, e, _⟩ := hr.row (by simp); rw [hat] at e; cases e
   subst h0
   refine ⟨v, w, ?_, by simpa using hown, World.grownBy.refl w _, .inl rfl⟩
   rcases hown.2 with ⟨rfl, h0⟩ | ⟨g, cap, cur, rfl, _, _, hnc, _⟩
   · simp [Builtin.append_, run_underlying ht, sizeOf, typeInfo, hi, Builtin.lenOf, Builtin.firstCells]
   · simp [Builtin.append_, run_underlying ht, sizeOf, typeInfo, hi, Builtin.lenOf, Builtin.firstCells, hnc, storeCells]
 | some a =>
   have hnews : ∀ j u, (l2.flatMap enc)[j]? = some u → w.cell? (a.add j) = some u := fun j u hj => by
     have h0 : 0 < l2.length := by
       cases l2 with
       | nil => simp at hj
       | cons x l => simp
     obtain ⟨b, off, e, _, hc⟩ := hr.news hk h0
     rw [hat] at e
     cases e
     exact hc j u hj
   obtain ⟨v', w', hrun, h2, h3, _, h5⟩ := run_append_own_at (P := P) w B t ty e i z k bytes ht hi hz hsz hby hzs hk0 v l.length (l.flatMap enc) hown a l2.length sp.cap (l2.flatMap enc) (flat_len' hk l2) hnews (one_flat h1 l2) (by simp only [maxLen]; omega) (by
     have := Nat.mul_le_mul hlen hbb
     omega) hB
   refine ⟨v', w', hrun, ?_, h3, h5⟩
   unfold OwnL
   rw [List.length_append, List.flatMap_append]
   exact h2
theorem wpList_append_row {ops : Array Oper} {rest : List Oper} {o : Oper} {a : Act} {Q : Exit → Act → World → Prop} (hgd : o.guard = none) (s x : Operand) (t : TypeId)
   (ho : o.op = .call { callee := .builtin .append, args := #[s, x], argTypes := #[t, t] }) {B : Nat} {e : TypeId} (hE : ElemK P t e k) (hk : ∀ x, (enc x).length = k) (h1 : ∀ x : α, ∀ u ∈ enc x, u.oneCell' = true) (v : Value) (l : List α) (hs : a.eval s = v) (hown : OwnL B w e k enc v l)
   {n : Nat} (sp : Sp) (l2 : List α) (hx : a.eval x = .slice sp.at_ l2.length sp.cap) (hr : RowOf n w sp k enc l2) (hlen : l.length + l2.length ≤ 1000000) (hB : B ≤ w.heap.size)
   (h : ∀ v' w', OwnL B w' e k enc v' (l ++ l2) → w.grownBy w' v.ownBlock → (v'.ownBlock = v.ownBlock ∨ v'.ownBlock = some w.heap.size) → wpList P ops Q rest (a.put o.dst v') w') : wpList P ops Q (o :: rest) a w :=
 wpList_plain hgd fun _ hK => by
   obtain ⟨v', w', hrun, h2, h3, h4⟩ := run_append_row (P := P) (ty := o.type) hE hk h1 hown hr hlen hB
   unfold Oper.wp execOp
   simp only [ho, resolve, invoke, builtin, Sem.run_bind, Sem.run_pure, Result.andThen_ok, List.map_toArray, List.map_cons, List.map_nil, hs, hx, hrun]
   exact hK _ _ (h v' w' h2 h3 h4)
theorem OwnL.below {B C : Nat} {e : TypeId} {v : Value} {l : List α} (h : OwnL B w e k enc v l) {W' : World} (hg : w.grownBy W' v.ownBlock) (hC : C ≤ B) {W0 : World} (hb : Below C W0 w) (hs : B ≤ w.heap.size) : Below C W0 W' :=
 hb.grown hg (by omega) fun q hq => by
   rcases h.2 with ⟨rfl, _⟩ | ⟨g, cap, cur, rfl, hlt, _⟩
   · simp [Value.ownBlock] at hq
   · simp [Value.ownBlock] at hq; omega
/-- The own block of a list has cells of its element type. -/
theorem OwnL.own_type {B : Nat} {e : TypeId} {v : Value} {l : List α} (h : OwnL B w e k enc v l) {g : Nat} (hg : v.ownBlock = some g) : B ≤ g ∧ ∃ cs fr, w.heap[g]? = some (.cells cs e fr) := by
 rcases h.2 with ⟨rfl, _⟩ | ⟨g', cap, cur, rfl, hlt, hh, _⟩
 · simp [Value.ownBlock] at hg
 · simp [Value.ownBlock] at hg; subst hg; exact ⟨hlt, _, _, hh⟩
/-- A list stays while another one, of another type, grows. -/
theorem OwnL.other {β : Type} {k2 : Nat} {enc2 : β → List Value} {B B2 : Nat} {e e2 : TypeId} {v v2 : Value} {l : List α} {l2 : List β} (h : OwnL B w e k enc v l) (h2 : OwnL B2 w e2 k2 enc2 v2 l2) {W' : World} (hg : w.grownBy W' v2.ownBlock) (hne : e ≠ e2) : OwnL B W' e k enc v l :=
 h.kept fun g cs fr _ hh => hg.block g (Array.getElem?_eq_some_iff.1 hh).1 (fun eq => by
   obtain ⟨_, cs2, fr2, hh2⟩ := h2.own_type eq.symm
   rw [hh] at hh2; cases hh2; exact hne rfl)
/-- An element's cells. -/
theorem OwnL.cell {B : Nat} {e : TypeId} {A : Option Addr} {n c : Nat} {l : List α} (h : OwnL B w e k enc (.slice A n c) l) (hk : ∀ x, (enc x).length = k) {j : Nat} (hj : j < l.length) : ∃ g, A = some ⟨g, 0, none⟩ ∧ B ≤ g ∧ g < w.heap.size ∧ ∀ r u, (enc (l[j]))[r]? = some u → w.cell? ⟨g, j * k + r, none⟩ = some u := by
 rcases h.2 with ⟨_, h0⟩ | ⟨g, cap, cur, hv, hlt, hh, _, _, hle, htk⟩
 · omega
 · cases hv
   refine ⟨g, rfl, hlt, (Array.getElem?_eq_some_iff.1 hh).1, fun r u hu => ?_⟩
   have e1 := flat_at hk l j r u hj hu
   have hlt1 := (List.getElem?_eq_some_iff.1 e1).1
   rw [← htk] at e1
   have hlt2 : j * k + r < l.length * k := by rw [← flat_len' hk l]; exact hlt1
   rw [List.getElem?_take_of_lt hlt2, Array.getElem?_toList] at e1
   simp only [World.cell?, hh]
   exact e1
theorem OwnL.len {B : Nat} {e : TypeId} {A : Option Addr} {n c : Nat} {l : List α} (h : OwnL B w e k enc (.slice A n c) l) : n = l.length := by
 rcases h.2 with ⟨hv, h0⟩ | ⟨g, cap, cur, hv, _⟩
 · cases hv; exact h0.symm
 · cases hv; rfl
theorem OwnL.form {B : Nat} {e : TypeId} {v : Value} {l : List α} (h : OwnL B w e k enc v l) : ∃ A c, v = .slice A l.length c := by
 rcases h.2 with ⟨hv, h0⟩ | ⟨g, cap, cur, hv, _⟩
 · exact ⟨none, 0, by rw [hv, h0]⟩
 · exact ⟨_, _, hv⟩
end
theorem declK : ElemK Tryz.prog 28 44 3 := elemK_of decl_inf Tryz.underlying28 (by decide) rfl (by decide)
theorem stmtK : ElemK Tryz.prog 37 49 6 := elemK_of stmt_inf Tryz.underlying37 (by decide) rfl (by decide)
theorem procK : ElemK Tryz.prog 36 47 3 := elemK_of proc_inf Tryz.underlying36 (by decide) rfl (by decide)
theorem initK : ElemK Tryz.prog 35 118 7 := elemK_of init_inf Tryz.underlying35 (by decide) rfl (by decide)
theorem exprK : ElemK Tryz.prog 32 34 6 := elemK_of expr_inf Tryz.underlying32 (by decide) rfl (by decide)
theorem str_inf : (Tryz.prog.info? 9).map (fun i => (i.zero, i.size, i.bytes)) = some (some (.string ⟨#[]⟩), 1, 16) := by kernel_rfl
theorem strK : ElemK Tryz.prog 26 9 1 := elemK_of str_inf Tryz.underlying26 (by decide) rfl (by decide)
end Go.Proofs.YthcboallnbaimaaGreatDoor
namespace Go.Proofs.YthcboallnbaimaaGreatDoor
open Go Go.RowKit
def lowm (lo : Nat) (W : World) : World := { W with heap := W.heap.mapIdx fun k o => if k < lo then .cells #[] 0 else o }
theorem lowm_size (lo : Nat) (W : World) : (lowm lo W).heap.size = W.heap.size := by simp [lowm]
theorem lowm_heap (lo : Nat) (W : World) (k : Nat) : (lowm lo W).heap[k]? = (W.heap[k]?).map fun o => if k < lo then .cells #[] 0 else o := by simp [lowm]
theorem lowm_cell {lo : Nat} {W : World} {p : Addr} {u : Value} : (lowm lo W).cell? p = some u ↔ lo ≤ p.block ∧ W.cell? p = some u := by
 by_cases h : p.block < lo
 · constructor
   · intro hc
     exfalso
     simp only [World.cell?, lowm_heap] at hc
     cases hh : W.heap[p.block]? with
     | none => rw [hh] at hc; simp at hc
     | some o => rw [hh] at hc; simp [h] at hc
   · intro hc; omega
 · have e : (lowm lo W).cell? p = W.cell? p := World.cell?_of_block (by
     rw [lowm_heap]
     cases W.heap[p.block]? <;> simp [h])
   rw [e]
   exact ⟨fun hc => ⟨by omega, hc⟩, fun hc => hc.2⟩
section
variable {n : Nat} {W W' : World}
theorem RowOf.cells {α : Type} {s : Sp} {k : Nat} {enc : α → List Value} {l : List α} (h : RowOf n W s k enc l) (hc : ∀ p u, p.block < n → W.cell? p = some u → W'.cell? p = some u) : RowOf n W' s k enc l :=
 ⟨h.cap, h.big, h.few, fun h0 => by
   obtain ⟨b, off, e, hlt, hx⟩ := h.row h0
   exact ⟨b, off, e, hlt, fun j hj r u hu => hc _ _ hlt (hx j hj r u hu)⟩⟩
theorem RdX.cells {e : ExprV} (h : RdX n W e) (hc : ∀ p u, p.block < n → W.cell? p = some u → W'.cell? p = some u) : RdX n W' e := by
 induction h with
 | mk e k o v w n row _ ih => exact .mk e k o v w n (row.cells hc) ih
theorem RdT.cells {s : StmtV} (h : RdT n W s) (hc : ∀ p u, p.block < n → W.cell? p = some u → W'.cell? p = some u) : RdT n W' s := by
 induction h with
 | mk s k b n er ex tr _ or _ ih1 ih2 => exact .mk s k b n (er.cells hc) (fun e he => (ex e he).cells hc) (tr.cells hc) ih1 (or.cells hc) ih2
end
/-- What lies in blocks from lo on. -/
def NewX (lo : Nat) (W : World) (e : ExprV) : Prop := RdX W.heap.size (lowm lo W) e
def NewT (lo : Nat) (W : World) (s : StmtV) : Prop := RdT W.heap.size (lowm lo W) s
def NewTs (lo : Nat) (W : World) (sp : Sp) (l : List StmtV) : Prop := RowOf W.heap.size (lowm lo W) sp 6 StmtV.cells l ∧ ∀ s, s ∈ l → NewT lo W s
section
variable {lo q : Nat} {W W' : World}
/-- What a step keeps that changes block q alone of the old ones. -/
theorem keeps_mask (hb : Below W.heap.size (mask q W) (mask q W')) (hq : q < lo) : ∀ p u, p.block < W.heap.size → (lowm lo W).cell? p = some u → (lowm lo W').cell? p = some u := fun p u hp hc => by
 obtain ⟨h1, h2⟩ := lowm_cell.1 hc
 refine lowm_cell.2 ⟨h1, ?_⟩
 have h3 := hb.block p.block hp
 rw [mask_heap (by omega), mask_heap (by omega)] at h3
 exact (World.cell?_of_block h3).trans h2
theorem keeps_less {lo' : Nat} (h : lo' ≤ lo) : ∀ (p : Addr) u, p.block < W.heap.size → (lowm lo W).cell? p = some u → (lowm lo' W).cell? p = some u := fun p u _ hc => by
 obtain ⟨h1, h2⟩ := lowm_cell.1 hc
 exact lowm_cell.2 ⟨by omega, h2⟩
theorem keeps_set {g : Nat} {cs : Array Value} (h : g < lo) : ∀ (p : Addr) u, p.block < W.heap.size → (lowm lo W).cell? p = some u → (lowm lo (W.setRow g cs)).cell? p = some u := fun p u _ hc => by
 obtain ⟨h1, h2⟩ := lowm_cell.1 hc
 exact lowm_cell.2 ⟨h1, (cell_setRow_other W g cs p (by omega)).trans h2⟩
theorem keeps_out : ∀ (p : Addr) (u : Value), p.block < W.heap.size → (lowm lo W).cell? p = some u → W.cell? p = some u := fun _ _ _ hc => (lowm_cell.1 hc).2
theorem size_mask (hb : Below W.heap.size (mask q W) (mask q W')) : W.heap.size ≤ W'.heap.size := by have := hb.size; rw [mask_size, mask_size] at this; exact this
theorem NewX.on {e : ExprV} (h : NewX lo W e) (hb : Below W.heap.size (mask q W) (mask q W')) (hq : q < lo) : NewX lo W' e := (RdX.cells h (keeps_mask hb hq)).more (size_mask hb)
theorem NewX.less {e : ExprV} {lo' : Nat} (h : NewX lo W e) (hl : lo' ≤ lo) : NewX lo' W e := RdX.cells h (keeps_less hl)
theorem NewX.set {e : ExprV} {g : Nat} {cs : Array Value} (h : NewX lo W e) (hg : g < lo) : NewX lo (W.setRow g cs) e := by
 unfold NewX; rw [size_setRow]; exact RdX.cells h (keeps_set hg)
theorem NewX.rd {e : ExprV} (h : NewX lo W e) : RdX W.heap.size W e := RdX.cells h keeps_out
theorem NewT.on {e : StmtV} (h : NewT lo W e) (hb : Below W.heap.size (mask q W) (mask q W')) (hq : q < lo) : NewT lo W' e := (RdT.cells h (keeps_mask hb hq)).more (size_mask hb)
theorem NewT.less {e : StmtV} {lo' : Nat} (h : NewT lo W e) (hl : lo' ≤ lo) : NewT lo' W e := RdT.cells h (keeps_less hl)
theorem NewT.rd {e : StmtV} (h : NewT lo W e) : RdT W.heap.size W e := RdT.cells h keeps_out
theorem NewTs.on {sp : Sp} {l : List StmtV} (h : NewTs lo W sp l) (hb : Below W.heap.size (mask q W) (mask q W')) (hq : q < lo) : NewTs lo W' sp l := ⟨(h.1.cells (keeps_mask hb hq)).more (size_mask hb), fun s hs => (h.2 s hs).on hb hq⟩
theorem NewTs.less {sp : Sp} {l : List StmtV} {lo' : Nat} (h : NewTs lo W sp l) (hl : lo' ≤ lo) : NewTs lo' W sp l := ⟨h.1.cells (keeps_less hl), fun s hs => (h.2 s hs).less hl⟩
theorem NewTs.rd {sp : Sp} {l : List StmtV} (h : NewTs lo W sp l) : RdTs W.heap.size W sp l := ⟨h.1.cells keeps_out, fun s hs => (h.2 s hs).rd⟩
/-- A row that lies in a block from lo on. -/
theorem RowOf.low {α : Type} {n k b off c : Nat} {enc : α → List Value} {l : List α} (h : RowOf n W ⟨some ⟨b, off, none⟩, c⟩ k enc l) (hb : lo ≤ b) : RowOf n (lowm lo W) ⟨some ⟨b, off, none⟩, c⟩ k enc l :=
 ⟨h.cap, h.big, h.few, fun h0 => by
   obtain ⟨b', off', e, hlt, hc⟩ := h.row h0
   have e2 : b = b' := by have := Option.some.inj e; exact (Addr.mk.inj this).1
   exact ⟨b', off', e, hlt, fun j hj r u hu => lowm_cell.2 ⟨by show lo ≤ b'; omega, hc j hj r u hu⟩⟩⟩
end
end Go.Proofs.YthcboallnbaimaaGreatDoor
namespace Go.Proofs.YthcboallnbaimaaGreatDoor
open Go
/-- The names of the inputs, ghosts, variables, and of the array. -/
structure Nm where
 i : ByteArray
 j : ByteArray
 g : ByteArray
 h : ByteArray
 v : ByteArray
 c : ByteArray
 a : ByteArray
def std : Nm := ⟨⟨#[105]⟩, ⟨#[106]⟩, ⟨#[103]⟩, ⟨#[104]⟩, ⟨#[118]⟩, ⟨#[99]⟩, ⟨#[97]⟩⟩
def pB : ByteArray := ⟨#[112]⟩
/-- What expressions are made for: the names, the width of the device, how many inputs, whether in the procedure. -/
structure MkE where
 N : Nm
 w : Int
 ni : Nat
 prm : Bool
def MkE.ok (M : MkE) : Prop := 1 ≤ M.w ∧ M.w ≤ 3 ∧ M.ni ≤ 2
def inputsT (M : MkE) : List (ByteArray × Thing) := [(M.N.i, ⟨1, M.w⟩), (M.N.j, ⟨1, 1⟩)].take M.ni
def ghostsT (M : MkE) : List (ByteArray × Thing) := [(M.N.g, ⟨2, M.w⟩), (M.N.h, ⟨2, 1⟩)]
def varsT (M : MkE) : List (ByteArray × Thing) := [(M.N.v, ⟨3, M.w⟩), (M.N.c, ⟨3, 2⟩)]
def paramT (M : MkE) : List (ByteArray × Thing) := if M.prm = true then [(xB, ⟨5, M.w⟩)] else []
/-- What may be named: wh is 0 in routines, 1 for inputs alone, 2 in the invariant. -/
def leafT (M : MkE) (wh : Int) : List (ByteArray × Thing) := inputsT M ++ ((if wh = 1 then [] else ghostsT M) ++ (if wh = 0 then varsT M ++ paramT M else []))
/-- An expression of so many levels, and of a width. -/
inductive WX (M : MkE) (wh : Int) : Nat → Int → ExprV → Prop
 | num {d : Nat} {x wd : Int} : 0 ≤ x → x < 2 ^ wd.toNat → 1 ≤ wd → wd ≤ 16 → WX M wh d wd (numE x wd)
 | var {d : Nat} {s : ByteArray} {t : Thing} : (s, t) ∈ leafT M wh → WX M wh d t.width (nameE s)
 | cmp {d : Nat} {op wd : Int} {sp : Sp} {a b : ExprV} : 13 ≤ op → op ≤ 16 → WX M wh d wd a → WX M wh d wd b → WX M wh (d + 1) 1 (.mk 6 op 0 0 ⟨#[]⟩ sp [a, b])
 | bin {d : Nat} {op wd : Int} {sp : Sp} {a b : ExprV} : 3 ≤ op → op ≤ 12 → WX M wh d wd a → WX M wh d wd b → WX M wh (d + 1) wd (.mk 6 op 0 0 ⟨#[]⟩ sp [a, b])
 | mux {d : Nat} {wd : Int} {sp : Sp} {a b c : ExprV} : WX M wh d 1 a → WX M wh d wd b → WX M wh d wd c → WX M wh (d + 1) wd (.mk 7 0 0 0 ⟨#[]⟩ sp [a, b, c])
 | un {d : Nat} {op wd : Int} {sp : Sp} {a : ExprV} : 1 ≤ op → op ≤ 2 → WX M wh d wd a → WX M wh (d + 1) wd (.mk 5 op 0 0 ⟨#[]⟩ sp [a])
 | cast {d : Nat} {wd w2 : Int} {sp : Sp} {a : ExprV} : 1 ≤ wd → wd ≤ 16 → WX M wh d w2 a → WX M wh (d + 1) wd (.mk 8 0 0 wd ⟨#[]⟩ sp [a])
 | disk {d : Nat} {sp : Sp} {a : ExprV} : wh ≠ 1 → WX M wh d 2 a → WX M wh (d + 1) M.w (.mk 4 0 0 0 ⟨#[]⟩ sp [a])
 | elem {d : Nat} {sp : Sp} {a : ExprV} : wh = 0 → WX M wh d 2 a → WX M wh (d + 1) M.w (.mk 3 0 0 0 M.N.a sp [a])
/-- What the checker knows of the names. -/
structure EnvOk (p : ProgV) (E : Env) (M : MkE) : Prop where
 width : p.width = M.w
 find : ∀ x ∈ leafT M 0, findW p E x.1 = x.2
 arr : findW p E M.N.a = ⟨4, M.w⟩
theorem leaf_sub {M : MkE} {wh : Int} {x : ByteArray × Thing} (h : x ∈ leafT M wh) : x ∈ leafT M 0 := by
 unfold leafT at *
 simp only [List.mem_append] at *
 rcases h with h | h | h
 · exact .inl h
 · refine .inr (.inl ?_)
   split at h
   · cases h
   · simpa using h
 · refine .inr (.inr ?_)
   split at h
   · simpa using h
   · cases h
theorem leaf_kind {M : MkE} {wh : Int} {x : ByteArray × Thing} (h : x ∈ leafT M wh) : (x.2.kind = 1 ∨ x.2.kind = 2 ∨ x.2.kind = 3 ∨ x.2.kind = 5) ∧ (wh = 1 → x.2.kind = 1) ∧ (wh = 2 → x.2.kind = 1 ∨ x.2.kind = 2) := by
 unfold leafT at h
 simp only [List.mem_append] at h
 rcases h with h | h | h
 · have h2 := List.mem_of_mem_take h
   simp at h2
   rcases h2 with rfl | rfl <;> simp
 · split at h
   · cases h
   · next hw =>
     simp [ghostsT] at h
     rcases h with rfl | rfl <;> simp [hw]
 · split at h
   · next hw =>
     simp only [varsT, paramT, List.mem_cons, List.mem_append, List.not_mem_nil, or_false] at h
     rcases h with (rfl | rfl) | h
     · simp [hw]
     · simp [hw]
     · split at h
       · simp at h; subst h; simp [hw]
       · cases h
   · cases h
theorem leaf_width {M : MkE} (hM : M.ok) {wh : Int} {x : ByteArray × Thing} (h : x ∈ leafT M wh) : 1 ≤ x.2.width ∧ x.2.width ≤ 3 := by
 obtain ⟨h1, h2, _⟩ := hM
 have h0 := leaf_sub h
 unfold leafT at h0
 simp only [List.mem_append] at h0
 rcases h0 with h | h | h
 · have h3 := List.mem_of_mem_take h
   simp at h3
   rcases h3 with rfl | rfl <;> simp <;> omega
 · simp [ghostsT] at h
   rcases h with rfl | rfl <;> simp <;> omega
 · simp only [if_true, varsT, paramT, List.mem_cons, List.mem_append, List.not_mem_nil, or_false] at h
   rcases h with (rfl | rfl) | h
   · simp; omega
   · simp
   · split at h
     · simp at h; subst h; simp; omega
     · cases h
theorem cutW_of {n : Int} (h : 1 ≤ n ∧ n ≤ 16) : cutW n = n := by
 unfold cutW wideW; rw [if_pos (by simpa using h)]
theorem wideW_of {n : Int} (h : 1 ≤ n ∧ n ≤ 16) : wideW n = true := by
 unfold wideW; simpa using h
theorem WX.width {M : MkE} (hM : M.ok) {p : ProgV} {E : Env} (hE : EnvOk p E M) {wh : Int} {d : Nat} {wd : Int} {e : ExprV} (h : WX M wh d wd e) : widthE p E e = wd ∧ 1 ≤ wd ∧ wd ≤ 16 := by
 obtain ⟨hM1, hM2, hM3⟩ := hM
 induction h with
 | num _ _ h1 h2 =>
   refine ⟨?_, h1, h2⟩
   rw [widthE_eq]
   exact cutW_of ⟨h1, h2⟩
 | @var _ s t hm =>
   have hw := leaf_width ⟨hM1, hM2, hM3⟩ hm
   have hk := (leaf_kind hm).1
   have hf := hE.find _ (leaf_sub hm)
   simp only at hw hk hf
   refine ⟨?_, hw.1, by omega⟩
   rw [widthE_eq]
   simp only [nameE, ExprV.kind, ExprV.op, ExprV.width, ExprV.name, rawWidth, hf]
   have h4 : t.kind ≠ 0 ∧ (t.kind = 4 ↔ (2 : Int) = 3) := ⟨by omega, by constructor <;> intro h <;> omega⟩
   simp only [show ¬ ((2 : Int) = 1 ∨ (2 : Int) = 8) by decide, if_false, true_or, if_true]
   rw [if_pos h4, cutW_of ⟨hw.1, by omega⟩]
 | @cmp _ op _ _ _ _ o1 o2 _ _ ih1 ih2 =>
   refine ⟨?_, by decide, by decide⟩
   rw [widthE_eq]
   have ho : opOk op = true := decide_eq_true (show 1 ≤ op ∧ op ≤ 16 from ⟨by omega, o2⟩)
   have ht : opTruth op = true := decide_eq_true (show 13 ≤ op ∧ op ≤ 16 from ⟨o1, o2⟩)
   simp only [ExprV.kind, ExprV.op, ExprV.width, ExprV.name, ExprV.subs, rawWidth, subW, List.getElem?_cons_zero, ih1.1, opWidth, ho, ht, wideW_of ih1.2]
   rfl
 | @bin _ op _ _ _ _ o1 o2 _ _ ih1 ih2 =>
   refine ⟨?_, ih1.2⟩
   rw [widthE_eq]
   have ho : opOk op = true := decide_eq_true (show 1 ≤ op ∧ op ≤ 16 from ⟨by omega, by omega⟩)
   have ht : opTruth op = false := decide_eq_false (show ¬ (13 ≤ op ∧ op ≤ 16) from fun h => by omega)
   simp only [ExprV.kind, ExprV.op, ExprV.width, ExprV.name, ExprV.subs, rawWidth, subW, List.getElem?_cons_zero, ih1.1, opWidth, ho, ht, wideW_of ih1.2]
   exact cutW_of ih1.2
 | mux _ _ _ _ ih2 _ =>
   refine ⟨?_, ih2.2⟩
   rw [widthE_eq]
   simp only [ExprV.kind, ExprV.op, ExprV.width, ExprV.name, ExprV.subs, rawWidth, subW, List.getElem?_cons_zero, List.getElem?_cons_succ, ih2.1]
   exact cutW_of ih2.2
 | @un _ op _ _ _ o1 o2 _ ih =>
   refine ⟨?_, ih.2⟩
   rw [widthE_eq]
   have ho : opOk op = true := decide_eq_true (show 1 ≤ op ∧ op ≤ 16 from ⟨by omega, by omega⟩)
   have ht : opTruth op = false := decide_eq_false (show ¬ (13 ≤ op ∧ op ≤ 16) from fun h => by omega)
   simp only [ExprV.kind, ExprV.op, ExprV.width, ExprV.name, ExprV.subs, rawWidth, subW, List.getElem?_cons_zero, ih.1, opWidth, ho, ht, wideW_of ih.2]
   exact cutW_of ih.2
 | cast h1 h2 _ _ =>
   refine ⟨?_, h1, h2⟩
   rw [widthE_eq]
   exact cutW_of ⟨h1, h2⟩
 | disk _ _ _ =>
   refine ⟨?_, hM1, by omega⟩
   rw [widthE_eq]
   show cutW p.width = M.w
   rw [hE.width]
   exact cutW_of ⟨hM1, by omega⟩
 | elem _ _ _ =>
   refine ⟨?_, hM1, by omega⟩
   rw [widthE_eq]
   simp only [ExprV.kind, ExprV.op, ExprV.width, ExprV.name, rawWidth, hE.arr]
   exact cutW_of ⟨hM1, by omega⟩
def allZ (l : List Int) : Prop := ∀ c ∈ l, c = 0
theorem allZ.append {a b : List Int} (h1 : allZ a) (h2 : allZ b) : allZ (a ++ b) := fun c hc => by
 rcases List.mem_append.1 hc with h | h
 · exact h1 c h
 · exact h2 c h
theorem allZ.cons {c : Int} {b : List Int} (h1 : c = 0) (h2 : allZ b) : allZ (c :: b) := fun x hx => by
 rcases List.mem_cons.1 hx with rfl | h
 · exact h1
 · exact h2 x h
theorem allZ.nil : allZ [] := fun c hc => by cases hc
theorem deep_ok (p : ProgV) {k : Nat} (h : k ≤ 32) : ¬ (k : Int) > limitP p 32 1000 := by unfold limitP; split <;> omega
theorem differ_same (n : Int) : differW n n = false := by unfold differW; simp
theorem exprE_zero {p : ProgV} {E : Env} {wh : Int} {e : ExprV} {k : Nat} (h1 : shapeB e = true) (h2 : ¬ (namesB e = true ∧ ((findW p E e.name).kind = 0 ∨ ¬ ((findW p E e.name).kind = 4 ↔ e.kind = 3))))
   (h3 : ¬ ((wh = 1 ∧ (e.kind = 4 ∨ namesB e = true ∧ (findW p E e.name).kind ≠ 1)) ∨ (wh = 2 ∧ namesB e = true ∧ ((findW p E e.name).kind = 3 ∨ (findW p E e.name).kind = 4)))) (h4 : widthsB p E e = false) (h5 : k ≤ 32) : exprE p E wh e k = 0 := by
 unfold exprE
 rw [if_neg (by rw [h1]; decide), if_neg h2, if_neg h3, if_neg (by rw [h4]; decide), if_neg (deep_ok p h5)]
theorem WX.codes {M : MkE} (hM : M.ok) {p : ProgV} {E : Env} (hE : EnvOk p E M) {wh : Int} {d : Nat} {wd : Int} {e : ExprV} (h : WX M wh d wd e) : ∀ k : Nat, k + d ≤ 32 → allZ (exprC p E wh e k) := by
 induction h with
 | @num _ x wd h0 hx h1 h2 =>
   intro k hk
   rw [exprC_eq]
   refine .cons (exprE_zero rfl (fun h => absurd h.1 (by simp [namesB, numE, ExprV.kind])) ?_ ?_ (by omega)) (by rw [exprsC_eq]; exact allZ.nil)
   · simp [namesB, numE, ExprV.kind]
   · unfold widthsB
     rw [if_pos (show (numE x wd).kind = 1 from rfl)]
     have : mostW wd = 2 ^ wd.toNat - 1 := by unfold mostW; rw [if_pos (wideW_of ⟨h1, h2⟩)]
     simp only [numE, ExprV.width, ExprV.value, wideW_of ⟨h1, h2⟩, this, Bool.not_true, Bool.false_or, decide_eq_false_iff_not]
     omega
 | var hm =>
   intro k hk
   have hk1 := leaf_kind hm
   have hf := hE.find _ (leaf_sub hm)
   simp only at hk1 hf
   rw [exprC_eq]
   refine .cons (exprE_zero rfl ?_ ?_ rfl (by omega)) (by rw [exprsC_eq]; exact allZ.nil)
   · simp only [nameE, ExprV.name, ExprV.kind, hf]
     intro h
     rcases h.2 with h | h
     · omega
     · exact h (by constructor <;> intro h <;> omega)
   · simp only [nameE, ExprV.name, ExprV.kind, hf]
     rintro (⟨h1, h | ⟨_, h⟩⟩ | ⟨h1, _, h⟩)
     · omega
     · exact h (hk1.2.1 h1)
     · have := hk1.2.2 h1; omega
 | @cmp _ op _ _ _ _ o1 o2 ha hb ih1 ih2 =>
   intro k hk
   have ho : opTwo op = true := decide_eq_true (show 3 ≤ op ∧ op ≤ 16 from ⟨by omega, o2⟩)
   rw [exprC_eq]
   refine .cons (exprE_zero ?_ (fun h => absurd h.1 (by simp [namesB, ExprV.kind])) (by simp [namesB, ExprV.kind]) ?_ (by omega)) ?_
   · simp only [shapeB, ExprV.kind, ExprV.op, ExprV.value, ExprV.width, ExprV.name, ExprV.subs, ho]; rfl
   · simp only [widthsB, ExprV.kind, ExprV.subs, subW, List.getElem?_cons_zero, List.getElem?_cons_succ, (WX.width hM hE ha).1, (WX.width hM hE hb).1, differ_same]; rfl
   · rw [exprsC_eq]
     simp only [ExprV.subs, List.flatMap_cons, List.flatMap_nil, List.append_nil]
     exact (ih1 _ (by omega)).append (ih2 _ (by omega))
 | @bin _ op _ _ _ _ o1 o2 ha hb ih1 ih2 =>
   intro k hk
   have ho : opTwo op = true := decide_eq_true (show 3 ≤ op ∧ op ≤ 16 from ⟨o1, by omega⟩)
   rw [exprC_eq]
   refine .cons (exprE_zero ?_ (fun h => absurd h.1 (by simp [namesB, ExprV.kind])) (by simp [namesB, ExprV.kind]) ?_ (by omega)) ?_
   · simp only [shapeB, ExprV.kind, ExprV.op, ExprV.value, ExprV.width, ExprV.name, ExprV.subs, ho]; rfl
   · simp only [widthsB, ExprV.kind, ExprV.subs, subW, List.getElem?_cons_zero, List.getElem?_cons_succ, (WX.width hM hE ha).1, (WX.width hM hE hb).1, differ_same]; rfl
   · rw [exprsC_eq]
     simp only [ExprV.subs, List.flatMap_cons, List.flatMap_nil, List.append_nil]
     exact (ih1 _ (by omega)).append (ih2 _ (by omega))
 | mux ha hb hc ih1 ih2 ih3 =>
   intro k hk
   rw [exprC_eq]
   refine .cons (exprE_zero rfl (fun h => absurd h.1 (by simp [namesB, ExprV.kind])) (by simp [namesB, ExprV.kind]) ?_ (by omega)) ?_
   · simp only [widthsB, ExprV.kind, ExprV.subs, subW, List.getElem?_cons_zero, List.getElem?_cons_succ, (WX.width hM hE hb).1, (WX.width hM hE hc).1, differ_same]; rfl
   · rw [exprsC_eq]
     simp only [ExprV.subs, List.flatMap_cons, List.flatMap_nil, List.append_nil]
     exact (ih1 _ (by omega)).append ((ih2 _ (by omega)).append (ih3 _ (by omega)))
 | @un _ op _ _ _ o1 o2 ha ih =>
   intro k hk
   have ho : opOk op = true := decide_eq_true (show 1 ≤ op ∧ op ≤ 16 from ⟨by omega, by omega⟩)
   have ht : opTwo op = false := decide_eq_false (show ¬ (3 ≤ op ∧ op ≤ 16) from fun h => by omega)
   rw [exprC_eq]
   refine .cons (exprE_zero ?_ (fun h => absurd h.1 (by simp [namesB, ExprV.kind])) (by simp [namesB, ExprV.kind]) rfl (by omega)) ?_
   · simp only [shapeB, ExprV.kind, ExprV.op, ExprV.value, ExprV.width, ExprV.name, ExprV.subs, ho, ht]; rfl
   · rw [exprsC_eq]
     simp only [ExprV.subs, List.flatMap_cons, List.flatMap_nil, List.append_nil]
     exact ih _ (by omega)
 | cast h1 h2 ha ih =>
   intro k hk
   rw [exprC_eq]
   refine .cons (exprE_zero rfl (fun h => absurd h.1 (by simp [namesB, ExprV.kind])) (by simp [namesB, ExprV.kind]) ?_ (by omega)) ?_
   · simp only [widthsB, ExprV.kind, ExprV.width, wideW_of ⟨h1, h2⟩]; rfl
   · rw [exprsC_eq]
     simp only [ExprV.subs, List.flatMap_cons, List.flatMap_nil, List.append_nil]
     exact ih _ (by omega)
 | disk hw ha ih =>
   intro k hk
   rw [exprC_eq]
   refine .cons (exprE_zero rfl (fun h => absurd h.1 (by simp [namesB, ExprV.kind])) (by simp [namesB, ExprV.kind, hw]) rfl (by omega)) ?_
   rw [exprsC_eq]
   simp only [ExprV.subs, List.flatMap_cons, List.flatMap_nil, List.append_nil]
   exact ih _ (by omega)
 | elem hw ha ih =>
   intro k hk
   rw [exprC_eq]
   refine .cons (exprE_zero rfl ?_ ?_ rfl (by omega)) ?_
   · simp [ExprV.name, ExprV.kind, hE.arr]
   · simp [hw]
   rw [exprsC_eq]
   simp only [ExprV.subs, List.flatMap_cons, List.flatMap_nil, List.append_nil]
   exact ih _ (by omega)
def xsN : Nat → Nat
 | 0 => 1
 | d + 1 => 1 + 3 * xsN d
theorem xsN_pos : ∀ d, 1 ≤ xsN d
 | 0 => Nat.le_refl _
 | d + 1 => by rw [xsN]; omega
theorem pre_cons (e : ExprV) : e.pre.length = 1 + (e.subs.map fun x => x.pre.length).sum := pre_lenX e
theorem WX.few {M : MkE} {wh : Int} {d : Nat} {wd : Int} {e : ExprV} (h : WX M wh d wd e) : e.pre.length ≤ xsN d := by
 induction h with
 | num => rw [pre_cons]; exact xsN_pos _
 | var => rw [pre_cons]; exact xsN_pos _
 | cmp _ _ _ _ i1 i2 => rw [pre_cons, xsN]; simp only [ExprV.subs, List.map_cons, List.map_nil, List.sum_cons, List.sum_nil]; omega
 | bin _ _ _ _ i1 i2 => rw [pre_cons, xsN]; simp only [ExprV.subs, List.map_cons, List.map_nil, List.sum_cons, List.sum_nil]; omega
 | mux _ _ _ i1 i2 i3 => rw [pre_cons, xsN]; simp only [ExprV.subs, List.map_cons, List.map_nil, List.sum_cons, List.sum_nil]; omega
 | un _ _ _ i1 => rw [pre_cons, xsN]; simp only [ExprV.subs, List.map_cons, List.map_nil, List.sum_cons, List.sum_nil]; omega
 | cast _ _ _ i1 => rw [pre_cons, xsN]; simp only [ExprV.subs, List.map_cons, List.map_nil, List.sum_cons, List.sum_nil]; omega
 | disk _ _ i1 => rw [pre_cons, xsN]; simp only [ExprV.subs, List.map_cons, List.map_nil, List.sum_cons, List.sum_nil]; omega
 | elem _ _ i1 => rw [pre_cons, xsN]; simp only [ExprV.subs, List.map_cons, List.map_nil, List.sum_cons, List.sum_nil]; omega
end Go.Proofs.YthcboallnbaimaaGreatDoor
namespace Go.Proofs.YthcboallnbaimaaGreatDoor
open Go
def flushT (k : Int) : StmtV := .mk k ⟨#[]⟩ Sp.none [] 0 Sp.none [] Sp.none []
/-- A statement, so deep. -/
inductive WT (M : MkE) (hasP : Bool) : Nat → StmtV → Prop
 | write {d : Nat} {wa : Int} {sp : Sp} {a b : ExprV} : WX M 0 1 wa a → WX M 0 2 M.w b → WT M hasP d (writeT sp a b)
 | flush {d : Nat} {k : Int} : k = 4 ∨ k = 5 → WT M hasP d (flushT k)
 | set {d : Nat} {s : ByteArray} {t : Thing} {sp : Sp} {e : ExprV} : (s, t) ∈ ghostsT M ++ varsT M → WX M 0 2 t.width e → WT M hasP d (setT sp s e)
 | put {d : Nat} {sp : Sp} {a b : ExprV} : WX M 0 1 2 a → WX M 0 1 M.w b → WT M hasP d (.mk 2 M.N.a sp [a, b] 0 Sp.none [] Sp.none [])
 | cond {d : Nat} {sp ts os : Sp} {e : ExprV} {th el : List StmtV} : WX M 0 2 1 e → th.length ≤ 2 → (∀ s, s ∈ th → WT M hasP d s) → el.length ≤ 1 → (∀ s, s ∈ el → WT M hasP d s) → WT M hasP (d + 1) (.mk 6 ⟨#[]⟩ sp [e] 0 ts th os el)
 | loop {d : Nat} {sp ts : Sp} {bound : Int} {e : ExprV} {th : List StmtV} : 1 ≤ bound → bound ≤ 3 → WX M 0 1 1 e → th.length ≤ 3 → (∀ s, s ∈ th → WT M hasP 0 s) → WT M hasP (d + 1) (.mk 7 ⟨#[]⟩ sp [e] bound ts th Sp.none [])
 | call {d : Nat} {sp : Sp} {e : ExprV} : M.prm = false → hasP = true → WX M 0 1 M.w e → WT M hasP d (callT sp pB [e])
def tsN : Nat → Nat
 | 0 => 18
 | d + 1 => 14 + 3 * tsN d
theorem tsN_18 : ∀ d, 18 ≤ tsN d
 | 0 => Nat.le_refl _
 | d + 1 => by have := tsN_18 d; rw [tsN]; omega
theorem heftL_one (s : StmtV) : heftL [s] = 1 + heftX s.exprs + heftL s.thn + heftL s.els := by
 rw [heftL_cons]; simp [heftL, heftT]
theorem heftL_few {l : List StmtV} {k : Nat} (h : ∀ s, s ∈ l → heftL [s] ≤ k) : heftL l ≤ l.length * k := by
 induction l with
 | nil => simp [heftL, heftT]
 | cons s l ih =>
   have h1 := h s (List.mem_cons_self ..)
   have h2 := ih fun x hx => h x (List.mem_cons_of_mem _ hx)
   rw [heftL_one] at h1
   rw [heftL_cons, List.length_cons, Nat.add_mul]
   omega
theorem heftL_nil : heftL [] = 0 := rfl
theorem WT.few {M : MkE} {hasP : Bool} {d : Nat} {s : StmtV} (h : WT M hasP d s) : heftL [s] ≤ tsN d := by
 induction h with
 | write ha hb =>
   have h1 := ha.few
   have h2 := hb.few
   have h3 := tsN_18
   rw [heftL_one]
   simp only [writeT, StmtV.exprs, StmtV.thn, StmtV.els, heftX, List.map_cons, List.map_nil, List.sum_cons, List.sum_nil, heftL_nil, xsN] at *
   refine Nat.le_trans ?_ (h3 _)
   omega
 | flush =>
   rw [heftL_one]
   exact Nat.le_trans (by simp [flushT, StmtV.exprs, StmtV.thn, StmtV.els, heftX, heftL_nil]) (tsN_18 _)
 | set _ ha =>
   have h1 := ha.few
   rw [heftL_one]
   simp only [setT, StmtV.exprs, StmtV.thn, StmtV.els, heftX, List.map_cons, List.map_nil, List.sum_cons, List.sum_nil, heftL_nil, xsN] at *
   refine Nat.le_trans ?_ (tsN_18 _)
   omega
 | put ha hb =>
   have h1 := ha.few
   have h2 := hb.few
   rw [heftL_one]
   simp only [StmtV.exprs, StmtV.thn, StmtV.els, heftX, List.map_cons, List.map_nil, List.sum_cons, List.sum_nil, heftL_nil, xsN] at *
   refine Nat.le_trans ?_ (tsN_18 _)
   omega
 | @cond d sp ts os e th el he lt _ le _ ih1 ih2 =>
   have h1 := he.few
   have h2 := heftL_few ih1
   have h3 := heftL_few ih2
   have h4 := Nat.mul_le_mul_right (tsN d) lt
   have h5 := Nat.mul_le_mul_right (tsN d) le
   rw [heftL_one]
   simp only [StmtV.exprs, StmtV.thn, StmtV.els, heftX, List.map_cons, List.map_nil, List.sum_cons, List.sum_nil, xsN, tsN] at *
   omega
 | @loop d sp ts bound e th _ _ he lt _ ih1 =>
   have h1 := he.few
   have h2 := heftL_few ih1
   have h4 := Nat.mul_le_mul_right (tsN 0) lt
   have h5 := tsN_18 d
   rw [heftL_one]
   simp only [StmtV.exprs, StmtV.thn, StmtV.els, heftX, List.map_cons, List.map_nil, List.sum_cons, List.sum_nil, xsN, tsN, heftL_nil] at *
   omega
 | call _ _ ha =>
   have h1 := ha.few
   rw [heftL_one]
   simp only [callT, StmtV.exprs, StmtV.thn, StmtV.els, heftX, List.map_cons, List.map_nil, List.sum_cons, List.sum_nil, heftL_nil, xsN] at *
   refine Nat.le_trans ?_ (tsN_18 _)
   omega
/-- What the checker knows of the procedure p. -/
def CallOk (p : ProgV) (E : Env) (M : MkE) (hasP : Bool) : Prop := hasP = true → M.prm = false →
 look (procsAt p) pB = some 0 ∧ (∃ q d, p.procs[0]? = some q ∧ q.params = [d] ∧ d.width = M.w) ∧ (E.within < 0 ∨ leadsB p 0 E.within.toNat = false)
theorem exprsC_one (p : ProgV) (E : Env) (wh : Int) (a : ExprV) (k : Nat) : exprsC p E wh [a] k = exprC p E wh a k := by rw [exprsC_eq]; simp
theorem exprsC_two (p : ProgV) (E : Env) (wh : Int) (a b : ExprV) (k : Nat) : exprsC p E wh [a, b] k = exprC p E wh a k ++ exprC p E wh b k := by rw [exprsC_eq]; simp
theorem stmtsC_nil (p : ProgV) (E : Env) (k : Nat) : stmtsC p E [] k = [] := by rw [stmtsC]
theorem stmtE_zero {p : ProgV} {E : Env} {s : StmtV} {k : Nat} (h1 : formB s = true) (h2 : wrongE p E s = 0) (h3 : k ≤ 32) : stmtE p E s k = 0 := by
 unfold stmtE; rw [if_pos h1, if_pos h2, if_neg (deep_ok p h3)]
theorem stmtsZ {p : ProgV} {E : Env} {l : List StmtV} {k : Nat} (h : ∀ s, s ∈ l → allZ (stmtC p E s k)) : allZ (stmtsC p E l k) := by
 rw [stmtsC_eq]
 intro c hc
 obtain ⟨s, hs, h2⟩ := List.mem_flatMap.1 hc
 exact h s hs c h2
theorem set_leaf {M : MkE} {x : ByteArray × Thing} (h : x ∈ ghostsT M ++ varsT M) : x ∈ leafT M 0 ∧ (x.2.kind = 2 ∨ x.2.kind = 3) := by
 constructor
 · unfold leafT
   simp only [List.mem_append] at *
   rcases h with h | h
   · exact .inr (.inl (by simpa using h))
   · exact .inr (.inr (by simp [h]))
 · simp [ghostsT, varsT] at h
   rcases h with rfl | rfl | rfl | rfl <;> simp
theorem WT.codes {M : MkE} (hM : M.ok) {p : ProgV} {E : Env} (hE : EnvOk p E M) {hasP : Bool} (hC : CallOk p E M hasP) {d : Nat} {s : StmtV} (h : WT M hasP d s) : ∀ k : Nat, k + d ≤ 30 → allZ (stmtC p E s k) := by
 induction h with
 | write ha hb =>
   intro k hk
   rw [stmtC_eq]
   refine .cons (stmtE_zero rfl ?_ (by omega)) ?_
   · have e : ∀ sp a b, wrongE p E (writeT sp a b) = if differW (subW p E [a, b] 1) p.width = true then 322 else 0 := fun _ _ _ => rfl
     rw [e]
     simp only [subW, List.getElem?_cons_succ, List.getElem?_cons_zero, (hb.width hM hE).1, hE.width, differ_same]
     rfl
   · simp only [writeT, StmtV.exprs, StmtV.thn, StmtV.els, exprsC_two, stmtsC_nil, List.append_nil]
     exact (ha.codes hM hE 1 (by omega)).append (hb.codes hM hE 1 (by omega))
 | flush hk0 =>
   intro k hk
   rw [stmtC_eq]
   refine .cons ?_ ?_
   · rcases hk0 with rfl | rfl <;> exact stmtE_zero rfl rfl (by omega)
   · simp only [flushT, StmtV.exprs, StmtV.thn, StmtV.els, stmtsC_nil, List.append_nil, exprsC_eq]
     exact .nil
 | set hm ha =>
   intro k hk
   have hl := set_leaf hm
   have hf := hE.find _ hl.1
   have hkd := hl.2
   simp only at hf hkd
   rw [stmtC_eq]
   refine .cons (stmtE_zero rfl ?_ (by omega)) ?_
   · have e : ∀ sp s ex, wrongE p E (setT sp s ex) = if (findW p E s).kind = 0 ∨ (findW p E s).kind = 1 ∨ (findW p E s).kind = 4 then 321
         else if differW (subW p E [ex] 0) (findW p E s).width = true then 322 else 0 := fun _ _ _ => rfl
     rw [e, hf, if_neg (by omega)]
     simp only [subW, List.getElem?_cons_zero, (ha.width hM hE).1, differ_same]
     rfl
   · simp only [setT, StmtV.exprs, StmtV.thn, StmtV.els, exprsC_one, stmtsC_nil, List.append_nil]
     exact ha.codes hM hE 1 (by omega)
 | put ha hb =>
   intro k hk
   rw [stmtC_eq]
   refine .cons (stmtE_zero rfl ?_ (by omega)) ?_
   · have e : ∀ sp s ex, wrongE p E (.mk 2 s sp ex 0 Sp.none [] Sp.none []) = if (findW p E s).kind ≠ 4 then 321
         else if differW (subW p E ex 1) (findW p E s).width = true then 322 else 0 := fun _ _ _ => rfl
     rw [e, hE.arr, if_neg (by simp)]
     simp only [subW, List.getElem?_cons_zero, List.getElem?_cons_succ, (hb.width hM hE).1, differ_same]
     rfl
   · simp only [StmtV.exprs, StmtV.thn, StmtV.els, exprsC_two, stmtsC_nil, List.append_nil]
     exact (ha.codes hM hE 1 (by omega)).append (hb.codes hM hE 1 (by omega))
 | cond he _ _ _ _ ih1 ih2 =>
   intro k hk
   rw [stmtC_eq]
   refine .cons (stmtE_zero rfl rfl (by omega)) ?_
   simp only [StmtV.exprs, StmtV.thn, StmtV.els, exprsC_one]
   exact (he.codes hM hE 1 (by omega)).append ((stmtsZ fun s hs => ih1 s hs _ (by omega)).append (stmtsZ fun s hs => ih2 s hs _ (by omega)))
 | loop b1 b2 he _ _ ih1 =>
   intro k hk
   rw [stmtC_eq]
   refine .cons (stmtE_zero rfl ?_ (by omega)) ?_
   · have e : ∀ sp ex b ts th, wrongE p E (.mk 7 ⟨#[]⟩ sp ex b ts th Sp.none []) = if b < 1 ∨ b > 16 then 329 else 0 := fun _ _ _ _ _ => rfl
     rw [e, if_neg (by omega)]
   simp only [StmtV.exprs, StmtV.thn, StmtV.els, exprsC_one, stmtsC_nil, List.append_nil]
   exact (he.codes hM hE 1 (by omega)).append (stmtsZ fun s hs => ih1 s hs _ (by omega))
 | @call _ _ ex hp hP ha =>
   intro k hk
   obtain ⟨h1, ⟨q, dd, h2, h3, h4⟩, h5⟩ := hC hP hp
   rw [stmtC_eq]
   refine .cons (stmtE_zero rfl ?_ (by omega)) ?_
   · have e : ∀ sp ex, wrongE p E (callT sp pB ex) = (match look (procsAt p) pB with
       | none => 321
       | some i => if argsB p E i.toNat ex = true then 327
         else if E.within ≥ 0 ∧ leadsB p i.toNat E.within.toNat = true then 328 else 0) := fun _ _ => rfl
     rw [e, h1]
     have e2 : argsB p E (0 : Int).toNat [ex] = false := by
       unfold argsB
       rw [show (0 : Int).toNat = 0 from rfl, h2]
       simp only [h3, List.length_cons, List.length_nil, argsL, (ha.width hM hE).1, h4, differ_same]
       rfl
     simp only [e2]
     rw [if_neg (by decide), if_neg]
     rintro ⟨h6, h7⟩
     rcases h5 with h5 | h5
     · omega
     · rw [show (0 : Int).toNat = 0 from rfl, h5] at h7; cases h7
   · simp only [callT, StmtV.exprs, StmtV.thn, StmtV.els, exprsC_one, stmtsC_nil, List.append_nil]
     exact ha.codes hM hE 1 (by omega)
/-- Names that are none of each other, and that are names. -/
def nmOk (N : Nm) : Bool := [N.i, N.j, N.g, N.h, N.v, N.c, N.a].all (fun s => isName s.data.toList && (cutDot s.data.toList).isNone && decide (s.size ≤ 16)) && decide ([N.i, N.j, N.g, N.h, N.v, N.c, N.a, xB, pB].Nodup)
def inputsD (M : MkE) : List DeclV := [⟨M.N.i, M.w, 0⟩, ⟨M.N.j, 1, 0⟩].take M.ni
def ghostsD (M : MkE) : List DeclV := [⟨M.N.g, M.w, 0⟩, ⟨M.N.h, 1, 0⟩]
def varsD (M : MkE) : List DeclV := [⟨M.N.v, M.w, 0⟩, ⟨M.N.c, 2, 0⟩]
/-- The head of a program: all but its procedures and routines. -/
structure IsHead (M : MkE) (p : ProgV) : Prop where
 ok : M.ok
 prm : M.prm = false
 blocks : 1 ≤ p.blocks ∧ p.blocks ≤ 3
 width : p.width = M.w
 inputs : p.inputs = inputsD M
 ghosts : p.ghosts = ghostsD M
 vars : p.vars = varsD M
 arrays : ∃ z : Int, 2 ≤ z ∧ z ≤ 3 ∧ p.arrays = [⟨M.N.a, M.w, z⟩]
 require : WX M 1 2 1 p.require
 inits : ∀ i ∈ p.inits, 0 ≤ i.block ∧ i.block < p.blocks ∧ WX M 1 1 M.w i.value
 blocksN : p.inits.Pairwise (fun x y => x.block < y.block)
 initsN : p.inits.length ≤ 3
 invariant : WX M 2 3 1 p.invariant
/-- The procedure p. -/
structure IsProc (M : MkE) (hasP : Bool) (q : ProcV) : Prop where
 name : q.name = pB
 params : q.params = [⟨xB, M.w, 0⟩]
 few : q.body.length ≤ 3
 body : ∀ s, s ∈ q.body → WT { M with prm := true } hasP 1 s
structure IsMade (M : MkE) (hasP : Bool) (p : ProgV) : Prop extends IsHead M p where
 procs : if hasP = true then ∃ q, p.procs = [q] ∧ IsProc M hasP q else p.procs = []
 workN : p.work.length ≤ 5
 work : ∀ s, s ∈ p.work → WT M hasP 2 s
 recoverN : p.recover.length ≤ 3
 recover : ∀ s, s ∈ p.recover → WT M hasP 1 s
theorem look_mem {α : Type} : ∀ {T : List (ByteArray × α)} {x : ByteArray × α}, (T.map (·.1)).Nodup → x ∈ T → look T x.1 = some x.2
 | [], x, _, h => by cases h
 | y :: T, x, hn, h => by
   rw [List.map_cons, List.nodup_cons] at hn
   unfold look
   rw [List.find?_cons]
   rcases List.mem_cons.1 h with rfl | h
   · simp
   · have hne : y.1 ≠ x.1 := fun e => hn.1 (by rw [e]; exact List.mem_map_of_mem h)
     simp only [decide_eq_false hne]
     exact look_mem hn.2 h
theorem nodup_of {N : Nm} (h : nmOk N = true) : [N.i, N.j, N.g, N.h, N.v, N.c, N.a, xB, pB].Nodup := by
 unfold nmOk at h
 rw [Bool.and_eq_true] at h
 exact of_decide_eq_true h.2
theorem names_of {N : Nm} (h : nmOk N = true) : ∀ s ∈ [N.i, N.j, N.g, N.h, N.v, N.c, N.a], isName s.data.toList = true ∧ cutDot s.data.toList = none ∧ s.size ≤ 16 := by
 unfold nmOk at h
 rw [Bool.and_eq_true] at h
 intro s hs
 have := List.all_eq_true.1 h.1 s hs
 rw [Bool.and_eq_true, Bool.and_eq_true, decide_eq_true_eq, Option.isNone_iff_eq_none] at this
 exact ⟨this.1.1, this.1.2, this.2⟩
theorem things_of {M : MkE} {p : ProgV} (h : IsHead M p) : thingsP p = inputsT M ++ ghostsT M ++ varsT M ++ [(M.N.a, ⟨4, M.w⟩)] := by
 obtain ⟨z, _, _, hz⟩ := h.arrays
 unfold thingsP
 rw [h.inputs, h.ghosts, h.vars, hz]
 have e : (inputsD M).map (fun d => (d.name, (⟨1, d.width⟩ : Thing))) = inputsT M := by
   unfold inputsD inputsT
   rw [List.map_take]; rfl
 rw [e]; rfl
theorem names_sub {M : MkE} : ((inputsT M ++ ghostsT M ++ varsT M ++ [(M.N.a, (⟨4, M.w⟩ : Thing))]).map (·.1)).Sublist [M.N.i, M.N.j, M.N.g, M.N.h, M.N.v, M.N.c, M.N.a] := by
 have e : [M.N.i, M.N.j, M.N.g, M.N.h, M.N.v, M.N.c, M.N.a] = [M.N.i, M.N.j] ++ [M.N.g, M.N.h, M.N.v, M.N.c, M.N.a] := rfl
 have e2 : (inputsT M ++ ghostsT M ++ varsT M ++ [(M.N.a, (⟨4, M.w⟩ : Thing))]).map (·.1) = (inputsT M).map (·.1) ++ [M.N.g, M.N.h, M.N.v, M.N.c, M.N.a] := by
   simp [ghostsT, varsT]
 rw [e, e2]
 refine List.Sublist.append ?_ (List.Sublist.refl _)
 unfold inputsT
 rw [List.map_take]
 exact List.take_sublist _ _
theorem things_nodup {M : MkE} (hN : nmOk M.N = true) : ((inputsT M ++ ghostsT M ++ varsT M ++ [(M.N.a, (⟨4, M.w⟩ : Thing))]).map (·.1)).Nodup := by
 have h := nodup_of hN
 have h2 : [M.N.i, M.N.j, M.N.g, M.N.h, M.N.v, M.N.c, M.N.a].Nodup := h.sublist (by
   have : [M.N.i, M.N.j, M.N.g, M.N.h, M.N.v, M.N.c, M.N.a, xB, pB] = [M.N.i, M.N.j, M.N.g, M.N.h, M.N.v, M.N.c, M.N.a] ++ [xB, pB] := rfl
   rw [this]
   exact List.sublist_append_left _ _)
 exact h2.sublist names_sub
theorem leaf_things {M : MkE} (hp : M.prm = false) {x : ByteArray × Thing} (h : x ∈ leafT M 0) : x ∈ inputsT M ++ ghostsT M ++ varsT M ++ [(M.N.a, ⟨4, M.w⟩)] := by
 unfold leafT paramT at h
 simp only [hp, List.mem_append, if_true, Bool.false_eq_true, if_false, List.not_mem_nil, or_false, show ¬ (0 : Int) = 1 by decide] at h ⊢
 rcases h with h | h | h
 · exact .inl (.inl (.inl h))
 · exact .inl (.inl (.inr h))
 · exact .inl (.inr h)
/-- Outside of all procedures, or in one whose parameters are none. -/
theorem env_out {M : MkE} {p : ProgV} (h : IsHead M p) (hN : nmOk M.N = true) (i : Int) : EnvOk p ⟨i, []⟩ M := by
 have hf : ∀ x ∈ inputsT M ++ ghostsT M ++ varsT M ++ [(M.N.a, ⟨4, M.w⟩)], findW p ⟨i, []⟩ x.1 = x.2 := fun x hx => by
   unfold findW
   have e : look ([] : List (ByteArray × Thing)) x.1 = none := rfl
   simp only [e]
   rw [things_of h, look_mem (things_nodup hN) hx]; rfl
 exact ⟨h.width, fun x hx => hf x (leaf_things h.prm hx), hf (M.N.a, ⟨4, M.w⟩) (by simp)⟩
theorem x_not {N : Nm} (hN : nmOk N = true) : ∀ s ∈ [N.i, N.j, N.g, N.h, N.v, N.c, N.a], s ≠ xB ∧ s ≠ pB := by
 have h := nodup_of hN
 intro s hs
 have e : [N.i, N.j, N.g, N.h, N.v, N.c, N.a, xB, pB] = [N.i, N.j, N.g, N.h, N.v, N.c, N.a] ++ [xB, pB] := rfl
 rw [e, List.nodup_append] at h
 exact ⟨h.2.2 s hs xB (by simp), h.2.2 s hs pB (by simp)⟩
theorem mem_names {M : MkE} {x : ByteArray × Thing} (h : x ∈ inputsT M ++ ghostsT M ++ varsT M ++ [(M.N.a, ⟨4, M.w⟩)]) : x.1 ∈ [M.N.i, M.N.j, M.N.g, M.N.h, M.N.v, M.N.c, M.N.a] :=
 names_sub.subset (List.mem_map_of_mem h)
/-- In the body of the procedure p. -/
theorem env_in {M : MkE} {p : ProgV} (h : IsHead M p) (hN : nmOk M.N = true) (i : Int) : EnvOk p ⟨i, [(xB, ⟨5, M.w⟩)]⟩ { M with prm := true } := by
 have hf : ∀ x ∈ inputsT M ++ ghostsT M ++ varsT M ++ [(M.N.a, ⟨4, M.w⟩)], findW p ⟨i, [(xB, ⟨5, M.w⟩)]⟩ x.1 = x.2 := fun x hx => by
   unfold findW
   have hx2 := (x_not hN x.1 (mem_names hx)).1
   have e : look [(xB, (⟨5, M.w⟩ : Thing))] x.1 = none := by
     unfold look
     rw [List.find?_cons]
     simp [decide_eq_false (Ne.symm hx2)]
   simp only [e]
   rw [things_of h, look_mem (things_nodup hN) hx]; rfl
 refine ⟨h.width, fun x hx => ?_, hf (M.N.a, ⟨4, M.w⟩) (by simp)⟩
 have hx2 : x ∈ leafT M 0 ∨ x = (xB, ⟨5, M.w⟩) := by
   unfold leafT paramT at hx ⊢
   simp only [h.prm, if_true, List.mem_append, List.mem_singleton, Bool.false_eq_true, if_false, List.not_mem_nil, or_false] at hx ⊢
   rcases hx with hx | hx | hx | hx
   · exact .inl (.inl hx)
   · exact .inl (.inr (.inl hx))
   · exact .inl (.inr (.inr hx))
   · exact .inr hx
 rcases hx2 with hx2 | rfl
 · exact hf x (leaf_things h.prm hx2)
 · unfold findW
   have e : look [(xB, (⟨5, M.w⟩ : Thing))] xB = some ⟨5, M.w⟩ := look_mem (T := [(xB, (⟨5, M.w⟩ : Thing))]) (x := (xB, ⟨5, M.w⟩)) (by simp) (by simp)
   simp only [e]
theorem nameB_of {p : ProgV} {s : List UInt8} (h1 : isName s = true) (h2 : cutDot s = none) : nameB p s = true := by
 unfold nameB; rw [h2]; exact h1
theorem declE_zero {p : ProgV} {before : List ByteArray} {isA : Bool} {d : DeclV} (h1 : d.name ∉ before) (h2 : nameB p d.name.data.toList = true) (h3 : 1 ≤ d.width ∧ d.width ≤ 16) (h4 : if isA = true then 1 ≤ d.size ∧ d.size ≤ 16 else d.size = 0) : declE p before isA d = 0 := by
 unfold declE
 have e : hasN before d.name = false := by
   unfold hasN
   rw [List.any_eq_false]
   intro x hx
   simp only [decide_eq_true_eq]
   rintro rfl
   exact h1 hx
 rw [if_neg (by rw [e, h2]; simp), if_neg (by rw [wideW_of h3]; decide), if_neg]
 cases isA <;> simpa using h4
theorem declsZ {p : ProgV} {isA : Bool} : ∀ (l : List DeclV) (before : List ByteArray), (before ++ l.map DeclV.name).Nodup → (∀ d ∈ l, nameB p d.name.data.toList = true ∧ (1 ≤ d.width ∧ d.width ≤ 16) ∧ (if isA = true then 1 ≤ d.size ∧ d.size ≤ 16 else d.size = 0)) → allZ (declsC p isA l before)
 | [], _, _, _ => .nil
 | d :: l, before, hn, h => by
   rw [declsC]
   obtain ⟨h1, h2, h3⟩ := h d (List.mem_cons_self ..)
   refine .cons (declE_zero ?_ h1 h2 h3) (declsZ l _ (by simpa using hn) fun x hx => h x (List.mem_cons_of_mem _ hx))
   rw [List.nodup_append] at hn
   intro hm
   exact hn.2.2 _ hm _ (by simp) rfl
end Go.Proofs.YthcboallnbaimaaGreatDoor
namespace Go.Proofs.YthcboallnbaimaaGreatDoor
open Go
/-- The codes of all but procedures, routines and the invariant. -/
def headC (p : ProgV) (size : Int) : List Int :=
 programE p size :: (declsC p false p.inputs [] ++ (declsC p false p.ghosts (names1 p) ++ (declsC p false p.vars (names2 p) ++ (declsC p true p.arrays (names3 p) ++ (exprC p outside 1 p.require 1 ++ initsC p p.inits [])))))
theorem codesP_parts (p : ProgV) (size : Int) : codesP p size = headC p size ++ (procsC p p.procs 0 (names4 p) ++ (stmtsC p outside p.work 1 ++ (stmtsC p outside p.recover 1 ++ exprC p outside 2 p.invariant 1))) := by
 unfold codesP headC
 simp only [List.cons_append, List.append_assoc]
theorem names4_of {M : MkE} {p : ProgV} (h : IsHead M p) : names4 p = (inputsT M ++ ghostsT M ++ varsT M ++ [(M.N.a, (⟨4, M.w⟩ : Thing))]).map (·.1) := by
 obtain ⟨z, _, _, hz⟩ := h.arrays
 unfold names4 names3 names2 names1
 rw [h.inputs, h.ghosts, h.vars, hz]
 have e : (inputsD M).map DeclV.name = (inputsT M).map (·.1) := by
   unfold inputsD inputsT
   rw [List.map_take, List.map_take]; rfl
 rw [e]
 simp only [List.map_append]
 rfl
theorem names4_nodup {M : MkE} {p : ProgV} (h : IsHead M p) (hN : nmOk M.N = true) : (names4 p).Nodup := by
 rw [names4_of h]; exact things_nodup hN
theorem names4_mem {M : MkE} {p : ProgV} (h : IsHead M p) : ∀ s ∈ names4 p, s ∈ [M.N.i, M.N.j, M.N.g, M.N.h, M.N.v, M.N.c, M.N.a] := by
 rw [names4_of h]
 exact fun s hs => names_sub.subset hs
theorem decl_ok {M : MkE} {p : ProgV} (hN : nmOk M.N = true) {d : DeclV} (h1 : d.name ∈ [M.N.i, M.N.j, M.N.g, M.N.h, M.N.v, M.N.c, M.N.a]) : nameB p d.name.data.toList = true :=
 nameB_of (names_of hN _ h1).1 (names_of hN _ h1).2.1
theorem initsZ {M : MkE} {p : ProgV} (h : IsHead M p) (hN : nmOk M.N = true) : ∀ (l : List InitV) (before : List Int), (∀ i ∈ l, 0 ≤ i.block ∧ i.block < p.blocks ∧ WX M 1 1 M.w i.value) → l.Pairwise (fun x y => x.block < y.block) → (∀ b ∈ before, ∀ i ∈ l, b < i.block) → allZ (initsC p l before)
 | [], _, _, _, _ => .nil
 | x :: l, before, h1, h2, h3 => by
   rw [initsC]
   obtain ⟨b1, b2, b3⟩ := h1 x (List.mem_cons_self ..)
   rw [List.pairwise_cons] at h2
   have hE := env_out h hN (-1)
   have e : initE p before x = 0 := by
     unfold initE
     have hb : x.block ∉ before := fun hm => by have := h3 _ hm x (List.mem_cons_self ..); omega
     rw [if_neg (by rintro (h | h | h)
                    · omega
                    · omega
                    · exact hb h), if_neg]
     rw [show outside = ⟨-1, []⟩ from rfl, (b3.width h.ok hE).1, h.width, differ_same]
     decide
   refine .append (.cons e (b3.codes h.ok hE 1 (by omega))) (initsZ h hN l _ (fun i hi => h1 i (List.mem_cons_of_mem _ hi)) h2.2 fun b hb i hi => ?_)
   rcases List.mem_append.1 hb with hb | hb
   · exact h3 b hb i (List.mem_cons_of_mem _ hi)
   · rw [List.mem_singleton.1 hb]; exact h2.1 i hi
theorem headZ {M : MkE} {p : ProgV} (h : IsHead M p) (hN : nmOk M.N = true) (hp : p.procs.length ≤ 16) {size : Int} (hs : size ≤ 2000) : allZ (headC p size) := by
 obtain ⟨z, z1, z2, hz⟩ := h.arrays
 obtain ⟨hM1, hM2, hM3⟩ := h.ok
 have hn4 := names4_nodup h hN
 have hm4 := names4_mem h
 have hn3 : (names3 p).Nodup := hn4.sublist (List.sublist_append_left _ _)
 have hn2 : (names2 p).Nodup := hn3.sublist (List.sublist_append_left _ _)
 have hn1 : (names1 p).Nodup := hn2.sublist (List.sublist_append_left _ _)
 have hmem : ∀ d, d ∈ p.inputs ∨ d ∈ p.ghosts ∨ d ∈ p.vars ∨ d ∈ p.arrays → nameB p d.name.data.toList = true := fun d hd => by
   refine decl_ok hN (hm4 _ ?_)
   unfold names4 names3 names2 names1
   simp only [List.mem_append, List.mem_map]
   rcases hd with hd | hd | hd | hd
   · exact .inl (.inl (.inl ⟨d, hd, rfl⟩))
   · exact .inl (.inl (.inr ⟨d, hd, rfl⟩))
   · exact .inl (.inr ⟨d, hd, rfl⟩)
   · exact .inr ⟨d, hd, rfl⟩
 have hwi : ∀ d ∈ p.inputs, (1 ≤ d.width ∧ d.width ≤ 16) ∧ d.size = 0 := fun d hd => by
   rw [h.inputs] at hd
   have := List.mem_of_mem_take hd
   simp at this
   rcases this with rfl | rfl <;> simp <;> omega
 have hwg : ∀ d ∈ p.ghosts, (1 ≤ d.width ∧ d.width ≤ 16) ∧ d.size = 0 := fun d hd => by
   rw [h.ghosts] at hd
   simp [ghostsD] at hd
   rcases hd with rfl | rfl <;> simp <;> omega
 have hwv : ∀ d ∈ p.vars, (1 ≤ d.width ∧ d.width ≤ 16) ∧ d.size = 0 := fun d hd => by
   rw [h.vars] at hd
   simp [varsD] at hd
   rcases hd with rfl | rfl <;> simp <;> omega
 have hE := env_out h hN (-1)
 unfold headC
 refine .cons ?_ (.append (declsZ _ _ (by simpa [names1] using hn1) fun d hd => ⟨hmem d (.inl hd), (hwi d hd).1, by simpa using (hwi d hd).2⟩) (.append (declsZ _ _ hn2 fun d hd => ⟨hmem d (.inr (.inl hd)), (hwg d hd).1, by simpa using (hwg d hd).2⟩)
   (.append (declsZ _ _ hn3 fun d hd => ⟨hmem d (.inr (.inr (.inl hd))), (hwv d hd).1, by simpa using (hwv d hd).2⟩) (.append (declsZ _ _ hn4 fun d hd => ⟨hmem d (.inr (.inr (.inr hd))), ?_⟩) (.append (h.require.codes h.ok hE 1 (by omega)) (initsZ h hN _ _ h.inits h.blocksN (by simp)))))))
 · obtain ⟨b1, b2⟩ := h.blocks
   unfold programE
   rw [if_neg (by rw [h.width, wideW_of ⟨hM1, by omega⟩]; simp; omega), if_neg]
   have e1 : p.inputs.length ≤ 2 := by rw [h.inputs]; exact Nat.le_trans (List.length_take_le' _ _) (Nat.le_refl _)
   have e2 : p.ghosts.length = 2 := by rw [h.ghosts]; rfl
   have e3 : p.vars.length = 2 := by rw [h.vars]; rfl
   have e4 : p.arrays.length = 1 := by rw [hz]; rfl
   have e5 : (16 : Int) ≤ limitP p 16 256 := by unfold limitP; split <;> omega
   have e6 : (2000 : Int) ≤ limitP p 2000 20000 := by unfold limitP; split <;> omega
   omega
 · rw [hz] at hd
   simp at hd
   subst hd
   exact ⟨⟨hM1, show M.w ≤ 16 by omega⟩, by simp; omega⟩
theorem head_len {M : MkE} {p : ProgV} (h : IsHead M p) : p.inputs.length + p.ghosts.length + p.vars.length + p.arrays.length + 1 + p.require.pre.length + (p.inits.map fun i => 1 + i.value.pre.length).sum + p.invariant.pre.length ≤ 76 := by
 obtain ⟨z, _, _, hz⟩ := h.arrays
 have e1 : p.inputs.length ≤ 2 := by rw [h.inputs]; exact Nat.le_trans (List.length_take_le' _ _) (Nat.le_refl _)
 have e2 : p.ghosts.length = 2 := by rw [h.ghosts]; rfl
 have e3 : p.vars.length = 2 := by rw [h.vars]; rfl
 have e4 : p.arrays.length = 1 := by rw [hz]; rfl
 have e5 := h.require.few
 have e6 := h.invariant.few
 have e7 : (p.inits.map fun i => 1 + i.value.pre.length).sum ≤ p.inits.length * 5 := by
   have : ∀ l : List InitV, (∀ i ∈ l, i.value.pre.length ≤ 4) → (l.map fun i => 1 + i.value.pre.length).sum ≤ l.length * 5 := by
     intro l
     induction l with
     | nil => intro _; simp
     | cons x l ih =>
       intro hl
       have h1 := hl x (List.mem_cons_self ..)
       have h2 := ih fun i hi => hl i (List.mem_cons_of_mem _ hi)
       simp only [List.map_cons, List.sum_cons, List.length_cons]
       omega
   exact this _ fun i hi => ((h.inits i hi).2.2.few : _)
 have e8 := h.initsN
 simp only [xsN] at e5 e6
 omega
theorem not_names {M : MkE} {p : ProgV} (h : IsHead M p) (hN : nmOk M.N = true) : xB ∉ names4 p ∧ pB ∉ names4 p :=
 ⟨fun hm => (x_not hN _ (names4_mem h _ hm)).1 rfl, fun hm => (x_not hN _ (names4_mem h _ hm)).2 rfl⟩
theorem thingNames_eq (p : ProgV) : thingNames p = names4 p := by
 unfold thingNames thingsP names4 names3 names2 names1
 simp [List.map_append, Function.comp_def]
theorem procZ {M : MkE} {hasP : Bool} {p : ProgV} (h : IsHead M p) (hN : nmOk M.N = true) {q : ProcV} (hq : IsProc M hasP q) {i : Nat} (hi : p.procs[i]? = some q) {before : List ByteArray} (hb : pB ∉ before) : allZ (procC p before i q) := by
 obtain ⟨hM1, hM2, hM3⟩ := h.ok
 have hx := not_names h hN
 unfold procC
 refine .cons ?_ (.append ?_ (stmtsZ fun s hs => ?_))
 · unfold procE
   rw [hq.name, hq.params]
   have e : hasN before pB = false := by
     unfold hasN
     rw [List.any_eq_false]
     intro x hx
     simp only [decide_eq_true_eq]
     rintro rfl
     exact hb hx
   have e2 : nameB p pB.data.toList = true := nameB_of (by decide) (by decide)
   rw [if_neg (by rw [e, e2]; simp), if_neg (by simp)]
 · rw [hq.params]
   refine declsZ _ _ ?_ fun d hd => ?_
   · rw [thingNames_eq, List.nodup_append]
     refine ⟨names4_nodup h hN, by simp, fun a ha b hb => ?_⟩
     simp at hb
     rw [hb]
     exact fun e => hx.1 (e ▸ ha)
   · simp at hd
     subst hd
     exact ⟨nameB_of (s := xB.data.toList) (by decide) (by decide), ⟨hM1, show M.w ≤ 16 by omega⟩, by simp⟩
 · have e : inside p i = ⟨i, [(xB, ⟨5, M.w⟩)]⟩ := by
     unfold inside paramsP
     rw [hi]
     simp only [hq.params]; rfl
   rw [e]
   exact (hq.body s hs).codes (M := { M with prm := true }) ⟨hM1, hM2, hM3⟩ (env_in h hN i) (fun _ hf => by cases hf) 1 (by omega)
theorem look_p {p : ProgV} {q : ProcV} {l : List ProcV} (h : p.procs = q :: l) (hn : q.name = pB) : look (procsAt p) pB = some 0 := by
 unfold procsAt look
 rw [h, numbered, List.find?_cons]
 simp [hn]
theorem call_out {M : MkE} {hasP : Bool} {p : ProgV} (hP : hasP = true → ∃ q l, p.procs = q :: l ∧ IsProc M hasP q) : CallOk p outside M hasP := fun h1 _ => by
 obtain ⟨q, l, h2, h3⟩ := hP h1
 exact ⟨look_p h2 h3.name, ⟨q, ⟨xB, M.w, 0⟩, by rw [h2]; rfl, h3.params, rfl⟩, .inl (by decide)⟩
theorem IsMade.hasp {M : MkE} {hasP : Bool} {p : ProgV} (h : IsMade M hasP p) : hasP = true → ∃ q l, p.procs = q :: l ∧ IsProc M hasP q := fun e => by
 have := h.procs
 rw [if_pos e] at this
 obtain ⟨q, h1, h2⟩ := this
 exact ⟨q, [], h1, h2⟩
theorem made_procsZ {M : MkE} {hasP : Bool} {p : ProgV} (h : IsMade M hasP p) (hN : nmOk M.N = true) : allZ (procsC p p.procs 0 (names4 p)) := by
 have hp := h.procs
 split at hp
 · obtain ⟨q, h1, h2⟩ := hp
   have h3 := procZ h.toIsHead hN h2 (i := 0) (by rw [h1]; rfl) (not_names h.toIsHead hN).2
   rw [h1, procsC, procsC, List.append_nil]
   exact h3
 · rw [hp, procsC]; exact .nil
theorem made_procs_few {M : MkE} {hasP : Bool} {p : ProgV} (h : IsMade M hasP p) : p.procs.length ≤ 1 ∧ (p.procs.map heftQ).sum ≤ 206 := by
 have hp := h.procs
 split at hp
 · obtain ⟨q, h1, h2⟩ := hp
   rw [h1]
   refine ⟨Nat.le_refl _, ?_⟩
   have h3 := heftL_few (k := 68) fun s hs => (h2.body s hs).few
   have h4 := h2.few
   simp only [List.map_cons, List.map_nil, List.sum_cons, List.sum_nil, heftQ, h2.params, List.length_cons, List.length_nil]
   omega
 · rw [hp]; simp
theorem made_heft {M : MkE} {hasP : Bool} {p : ProgV} (h : IsMade M hasP p) : heftP p ≤ 1576 := by
 have h1 := head_len h.toIsHead
 have h2 := (made_procs_few h).2
 have h3 := heftL_few (k := 218) fun s hs => (h.work s hs).few
 have h4 := heftL_few (k := 68) fun s hs => (h.recover s hs).few
 have h5 := h.workN
 have h6 := h.recoverN
 unfold heftP
 omega
theorem made_workZ {M : MkE} {hasP : Bool} {p : ProgV} (h : IsMade M hasP p) (hN : nmOk M.N = true) : allZ (stmtsC p outside p.work 1) :=
 stmtsZ fun s hs => (h.work s hs).codes h.ok (env_out h.toIsHead hN (-1)) (call_out h.hasp) 1 (by omega)
theorem made_recoverZ {M : MkE} {hasP : Bool} {p : ProgV} (h : IsMade M hasP p) (hN : nmOk M.N = true) : allZ (stmtsC p outside p.recover 1) :=
 stmtsZ fun s hs => (h.recover s hs).codes h.ok (env_out h.toIsHead hN (-1)) (call_out h.hasp) 1 (by omega)
theorem invZ {M : MkE} {p : ProgV} (h : IsHead M p) (hN : nmOk M.N = true) : allZ (exprC p outside 2 p.invariant 1) := h.invariant.codes h.ok (env_out h hN (-1)) 1 (by omega)
theorem made_codes {M : MkE} {hasP : Bool} {p : ProgV} (h : IsMade M hasP p) (hN : nmOk M.N = true) {size : Int} (hs : size ≤ 2000) : allZ (codesP p size) := by
 rw [codesP_parts]
 exact (headZ h.toIsHead hN (by have := (made_procs_few h).1; omega) hs).append ((made_procsZ h hN).append ((made_workZ h hN).append ((made_recoverZ h hN).append (invZ h.toIsHead hN))))
/-- A light program without a wrong code. -/
theorem right_of {p : ProgV} {k : Nat} (hk : heftP p = k) (h : k ≤ 20000) (hz : allZ (codesP p k)) : checkP p = (0, 0) ∧ resP p = [] := by
 have hl : (codesP p 0).length = k := by rw [codesP_len, hk]
 have hp : probs (codesP p k) 0 = [] := (probs_nil _ _).2 hz
 exact ⟨check_of hl h (by rw [hp]; rfl), by rw [res_of hl h, hp]⟩
theorem made_right {M : MkE} {hasP : Bool} {p : ProgV} (h : IsMade M hasP p) (hN : nmOk M.N = true) : checkP p = (0, 0) ∧ resP p = [] := by
 have h1 := made_heft h
 exact right_of rfl (by omega) (made_codes h hN (by omega))
theorem head_names {M : MkE} {p : ProgV} (h : IsHead M p) (hN : nmOk M.N = true) : ∀ d, d ∈ p.inputs ++ p.ghosts ++ p.vars ++ p.arrays → d.name.size ≤ 4294967200 := fun d hd => by
 have hm : d.name ∈ names4 p := by
   unfold names4 names3 names2 names1
   simp only [List.mem_append, List.mem_map] at hd ⊢
   rcases hd with ((hd | hd) | hd) | hd
   · exact .inl (.inl (.inl ⟨d, hd, rfl⟩))
   · exact .inl (.inl (.inr ⟨d, hd, rfl⟩))
   · exact .inl (.inr ⟨d, hd, rfl⟩)
   · exact .inr ⟨d, hd, rfl⟩
 have := (names_of hN _ (names4_mem h _ hm)).2.2
 omega
theorem proc_names {M : MkE} {hasP : Bool} {q : ProcV} (h : IsProc M hasP q) : q.name.size ≤ 4294967200 ∧ ∀ d ∈ q.params, d.name.size ≤ 4294967200 := by
 rw [h.name, h.params]
 refine ⟨by decide, fun d hd => ?_⟩
 simp at hd
 subst hd
 show xB.size ≤ 4294967200
 decide
theorem made_names {M : MkE} {hasP : Bool} {p : ProgV} (h : IsMade M hasP p) (hN : nmOk M.N = true) : NamesOk p := by
 refine ⟨head_names h.toIsHead hN, fun q hq => ?_⟩
 have hp := h.procs
 split at hp
 · obtain ⟨q2, h1, h2⟩ := hp
   rw [h1] at hq
   rw [List.mem_singleton.1 hq]
   exact proc_names h2
 · rw [hp] at hq; cases hq
theorem fit_heft {p : ProgV} (h : heftP p ≤ 20000) (hN : NamesOk p) : Fit p := fit_of (by rw [codesP_len]) h hN
theorem made_fit {M : MkE} {hasP : Bool} {p : ProgV} (h : IsMade M hasP p) (hN : nmOk M.N = true) : Fit p := fit_heft (by have := made_heft h; omega) (made_names h hN)
end Go.Proofs.YthcboallnbaimaaGreatDoor
