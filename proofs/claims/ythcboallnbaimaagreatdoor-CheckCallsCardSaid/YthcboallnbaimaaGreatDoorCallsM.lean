/- Rows just made, blocks just made; what lies in a world now. No function of the program in sight. The small programs of chapter 32, as Lean data; what Check tells of a program, reckoned. Chapter 32's law: what makes its small programs. Chapter 32's law: awake: what its nine examples need. Chapter 32's law: awake: its nine examples. Chapter 32's reference: IsName and its words. check: Problems: AppendSeq and Collect over the checker's iterator. Chapter 32's law CheckCalls, the plain part: who leads to whom where no body holds a body. Chapter 32's law CheckWrong: what its walk needs. A world without one of its blocks: what is read in it is read outside of that block. No program in sight. Lists that a slice owns, of elements of k cells; rows read as such, and made such. No program in sight. slices.Clone of rows of structs: a list of its own. append of a row to a list of one's own, whatever the row's place; what a store or another list's growth leaves. No function of the program in sight. Cells of a block stored, as its row stored (as in StM; a text of its own for claims that do not reach Made). Chapter 32's law CheckCalls: its data. CheckCalls: the two ways in which p.Procs[i].Body = append(..) is read, walked; each for any frame. -/
import Derived.Test.YthcboallnbaimaaGreatDoorNodes
import Derived.Test.YthcboallnbaimaaGreatDoorTreeD
import Derived.Below
import Derived.Maps.AppendAt
import Derived.OneCell
import Derived.RangeFuncRecord
import Derived.Laws.Rows
import Derived.Laws.Tables
import Derived.Laws.CopyOwn
import Derived.Test.YthcboallnbaimaaGreatDoorFirst
import Derived.ArgAppend
import Derived.Test.YthcboallnbaimaaGreatDoorNames
import Derived.Maps.OwnIn
import Derived.Laws.OwnMore
import Derived.Lib.SliceRun
import Derived.Test.YthcboallnbaimaaGreatDoorCalls
import Derived.RegionTactic
import Derived.OwnWalk
import Derived.Carry
import Derived.Deep.RegionLawGrows
namespace Go.Proofs.YthcboallnbaimaaGreatDoor
open Go Go.RowKit
/-- A row of one element, just made. -/
theorem row_one {α : Type} {W : World} {b k : Nat} {t : TypeId} {fr : Nat × Nat} {enc : α → List Value} {x : α} (h : W.heap[b]? = some (.cells (enc x).toArray t fr)) : RowOf W.heap.size W ⟨some ⟨b, 0, none⟩, 1⟩ k enc [x] := by
  refine ⟨Nat.le_refl _, by simp [maxLen], by simp, fun _ => ⟨b, 0, rfl, (Array.getElem?_eq_some_iff.1 h).1, fun j hj r u hu => ?_⟩⟩
  have : j = 0 := by simp at hj; omega
  subst this
  simp only [List.getElem_cons_zero] at hu
  simp [World.cell?, h, hu]
theorem row_two {α : Type} {W : World} {b k : Nat} {t : TypeId} {fr : Nat × Nat} {enc : α → List Value} {x y : α} (hk : (enc x).length = k) (h : W.heap[b]? = some (.cells (enc x ++ enc y).toArray t fr)) : RowOf W.heap.size W ⟨some ⟨b, 0, none⟩, 2⟩ k enc [x, y] := by
  refine ⟨Nat.le_refl _, by simp [maxLen], by simp, fun _ => ⟨b, 0, rfl, (Array.getElem?_eq_some_iff.1 h).1, fun j hj r u hu => ?_⟩⟩
  have hj2 : j = 0 ∨ j = 1 := by simp at hj; omega
  rcases hj2 with rfl | rfl
  · simp only [List.getElem_cons_zero] at hu
    have hr : r < (enc x).length := (List.getElem?_eq_some_iff.1 hu).1
    simp [World.cell?, h, List.getElem?_append_left hr, hu]
  · simp only [List.getElem_cons_succ, List.getElem_cons_zero] at hu
    have e : (enc x ++ enc y)[k + r]? = some u := by rw [List.getElem?_append_right (by omega)]; rw [hk, Nat.add_sub_cancel_left]; exact hu
    simp [World.cell?, h, e]
/-- What lies there now. -/
def NowX (W : World) (e : ExprV) : Prop := RdX W.heap.size W e
def NowT (W : World) (s : StmtV) : Prop := RdT W.heap.size W s
theorem NowX.on {W W' : World} {e : ExprV} (h : NowX W e) (hb : Below W.heap.size W W') : NowX W' e := (RdX.stays h hb).more hb.size
theorem NowT.on {W W' : World} {s : StmtV} (h : NowT W s) (hb : Below W.heap.size W W') : NowT W' s := (RdT.stays h hb).more hb.size
theorem num_now (W : World) (x wd : Int) (hx : 0 ≤ x ∧ x ≤ 4294967295) (hw : (Lit.int .i64 wd).wf = true) : NowX W (numE x wd) :=
  .mk _ (show (0 : Int) ≤ 1 ∧ (1 : Int) ≤ 255 by decide) (show (0 : Int) ≤ 0 ∧ (0 : Int) ≤ 255 by decide) hx hw (show (0 : Nat) ≤ maxLen by decide) RowOf.nil (fun _ h => absurd h (by simp [numE, ExprV.subs]))
theorem name_now (W : World) (s : ByteArray) (hs : s.size ≤ maxLen) : NowX W (nameE s) :=
  .mk _ (show (0 : Int) ≤ 2 ∧ (2 : Int) ≤ 255 by decide) (show (0 : Int) ≤ 0 ∧ (0 : Int) ≤ 255 by decide) (show (0 : Int) ≤ 0 ∧ (0 : Int) ≤ 4294967295 by decide) (show (Lit.int .i64 0).wf = true by decide) hs RowOf.nil (fun _ h => absurd h (by simp [nameE, ExprV.subs]))
theorem call_now {W : World} {s : ByteArray} (hs : s.size ≤ maxLen) : NowT W (callT Sp.none s []) :=
  .mk _ (show (0 : Int) ≤ 8 ∧ (8 : Int) ≤ 255 by decide) (show (Lit.int .i64 0).wf = true by decide) hs RowOf.nil (fun _ h => absurd h (by simp [callT, StmtV.exprs])) RowOf.nil (fun _ h => absurd h (by simp [callT, StmtV.thn])) RowOf.nil (fun _ h => absurd h (by simp [callT, StmtV.els]))
theorem alloc2 (w : World) (o1 o2 : Obj) : ((w.alloc o1).alloc o2).heap[w.heap.size]? = some o1 ∧ ((w.alloc o1).alloc o2).heap[w.heap.size + 1]? = some o2 ∧ ((w.alloc o1).alloc o2).heap.size = w.heap.size + 2 ∧ Below w.heap.size w ((w.alloc o1).alloc o2) := by
  have h1 := World.alloc_heap_new w o1
  have h2 := World.alloc_heap_new (w.alloc o1) o2
  rw [World.size_alloc] at h2
  refine ⟨(Below.heap_alloc _ _ _ (by simp)).trans h1, h2, by simp, ((Below.refl _ _).alloc (Nat.le_refl _) _).alloc (by simp) _⟩
theorem alloc3 (w : World) (o1 o2 o3 : Obj) : (((w.alloc o1).alloc o2).alloc o3).heap[w.heap.size]? = some o1 ∧ (((w.alloc o1).alloc o2).alloc o3).heap[w.heap.size + 1]? = some o2 ∧ (((w.alloc o1).alloc o2).alloc o3).heap[w.heap.size + 1 + 1]? = some o3 ∧ (((w.alloc o1).alloc o2).alloc o3).heap.size = w.heap.size + 3 ∧ Below w.heap.size w (((w.alloc o1).alloc o2).alloc o3) := by
  obtain ⟨h1, h2, h3, h4⟩ := alloc2 w o1 o2
  have h5 := World.alloc_heap_new ((w.alloc o1).alloc o2) o3
  rw [h3] at h5
  refine ⟨(Below.heap_alloc _ _ _ (by omega)).trans h1, (Below.heap_alloc _ _ _ (by omega)).trans h2, h5, by simp, h4.alloc (by omega) _⟩
theorem alloc4 (w : World) (o1 o2 o3 o4 : Obj) : ((((w.alloc o1).alloc o2).alloc o3).alloc o4).heap[w.heap.size]? = some o1 ∧ ((((w.alloc o1).alloc o2).alloc o3).alloc o4).heap[w.heap.size + 1]? = some o2 ∧ ((((w.alloc o1).alloc o2).alloc o3).alloc o4).heap[w.heap.size + 1 + 1]? = some o3 ∧ ((((w.alloc o1).alloc o2).alloc o3).alloc o4).heap[w.heap.size + 1 + 1 + 1]? = some o4 ∧ ((((w.alloc o1).alloc o2).alloc o3).alloc o4).heap.size = w.heap.size + 4 ∧ Below w.heap.size w ((((w.alloc o1).alloc o2).alloc o3).alloc o4) := by
  obtain ⟨h1, h2, h3, h4, h6⟩ := alloc3 w o1 o2 o3
  have h5 := World.alloc_heap_new (((w.alloc o1).alloc o2).alloc o3) o4
  rw [h4] at h5
  refine ⟨(Below.heap_alloc _ _ _ (by omega)).trans h1, (Below.heap_alloc _ _ _ (by omega)).trans h2, (Below.heap_alloc _ _ _ (by omega)).trans h3, h5, by simp, h6.alloc (by omega) _⟩
theorem RdTs.on {W W' : World} {sp : Sp} {l : List StmtV} (h : RdTs W.heap.size W sp l) (hb : Below W.heap.size W W') : RdTs W'.heap.size W' sp l := (h.below hb).more hb.size
theorem RdP.on {W W' : World} {p : ProgV} (h : RdP W.heap.size W p) (hb : Below W.heap.size W W') : RdP W'.heap.size W' p := (h.below hb).more hb.size
end Go.Proofs.YthcboallnbaimaaGreatDoor
namespace Go.Proofs.YthcboallnbaimaaGreatDoor
open Go Go.RowKit
def smallP (v ws : Sp) (l : List StmtV) : ProgV := ⟨1, 2, Sp.none, [], Sp.none, [], v, [⟨xB, 3, 0⟩], Sp.none, [], numE 1 1, Sp.none, [], Sp.none, [], ws, l, Sp.none, [], numE 1 1⟩
theorem initsN_of : ∀ (l : List InitV) (b : Int), b + ((l.map fun i => 1 + i.value.pre.length).sum : Nat) ≤ 20000 → initsN l b = b + ((l.map fun i => 1 + i.value.pre.length).sum : Nat)
  | [], b, _ => by simp [initsN]
  | i :: l, b, h => by
    have e : initsN (i :: l) b = initsN l (cntN i.value.pre.length (b + 1)) := rfl
    simp only [List.map_cons, List.sum_cons] at h ⊢
    rw [e, cntN_of (by omega), initsN_of l _ (by omega)]
    omega
theorem procsN_of : ∀ (l : List ProcV) (b : Int), b + ((l.map heftQ).sum : Nat) ≤ 20000 → procsN l b = b + ((l.map heftQ).sum : Nat)
  | [], b, _ => by simp [procsN]
  | q :: l, b, h => by
    have e : procsN (q :: l) b = procsN l (cntT (q.body.flatMap StmtV.pre) (b + 1 + q.params.length)) := rfl
    have e2 : heftQ q = 1 + q.params.length + heftT (q.body.flatMap StmtV.pre) := rfl
    simp only [List.map_cons, List.sum_cons] at h ⊢
    rw [e, cntT_of _ _ (by omega), procsN_of l _ (by omega)]
    omega
theorem countP_of {p : ProgV} (h : heftP p ≤ 20000) : countP p = heftP p := by
  have e : declsN p = (p.inputs.length + p.ghosts.length + p.vars.length + p.arrays.length + 1 : Nat) := by unfold declsN; omega
  unfold heftP heftL at *
  unfold countP
  have h1 : cntN p.require.pre.length (declsN p) = declsN p + p.require.pre.length := cntN_of (by omega)
  rw [h1]
  have h2 := initsN_of p.inits (declsN p + p.require.pre.length) (by omega)
  rw [h2]
  have h3 := procsN_of p.procs (declsN p + p.require.pre.length + ((p.inits.map fun i => 1 + i.value.pre.length).sum : Nat)) (by omega)
  rw [h3]
  have h4 := cntT_of (p.work.flatMap StmtV.pre) (declsN p + p.require.pre.length + ((p.inits.map fun i => 1 + i.value.pre.length).sum : Nat) + ((p.procs.map heftQ).sum : Nat)) (by omega)
  rw [h4]
  have h5 := cntT_of (p.recover.flatMap StmtV.pre) (declsN p + p.require.pre.length + ((p.inits.map fun i => 1 + i.value.pre.length).sum : Nat) + ((p.procs.map heftQ).sum : Nat) + heftT (p.work.flatMap StmtV.pre)) (by omega)
  rw [h5, cntN_of (by omega)]
  omega
theorem nodes_le (l : List StmtV) : nodesT l ≤ heftT l := by
  unfold nodesT heftT
  refine sum_le_sum _ _ _ fun s _ => ?_
  have : s.exprs.length ≤ heftX s.exprs := len_le_sum _ (fun e => pre_pos e) _
  omega
theorem weight_le (p : ProgV) : weightP p ≤ heftP p := by
  have h1 : (p.procs.map fun q => 1 + q.params.length + nodesT (q.body.flatMap StmtV.pre)).sum ≤ (p.procs.map heftQ).sum := by
    refine sum_le_sum _ _ _ fun q _ => ?_
    have := nodes_le (q.body.flatMap StmtV.pre)
    unfold heftQ heftL; omega
  have h2 := nodes_le (p.work.flatMap StmtV.pre)
  have h3 := nodes_le (p.recover.flatMap StmtV.pre)
  unfold weightP heftP heftL
  omega
theorem fit_of {p : ProgV} {k : Nat} (hk : (codesP p 0).length = k) (h : k ≤ 20000) (hN : NamesOk p) : Fit p := by
  have hh : heftP p = k := by rw [← codesP_len p 0, hk]
  exact ⟨by rw [countP_of (by omega)]; omega, hN, by have := weight_le p; omega⟩
theorem res_of {p : ProgV} {k : Nat} (hk : (codesP p 0).length = k) (h : k ≤ 20000) : resP p = probs (codesP p k) 0 := by
  have hh : heftP p = k := by rw [← codesP_len p 0, hk]
  unfold resP
  rw [countP_of (by omega), hh]
  unfold sizedN
  rw [if_pos (by omega)]
theorem check_of {p : ProgV} {k : Nat} (hk : (codesP p 0).length = k) (h : k ≤ 20000) {r : Int × Int} (hr : (probs (codesP p k) 0).headD (0, 0) = r) : checkP p = r := by
  have hh : heftP p = k := by rw [← codesP_len p 0, hk]
  unfold checkP
  rw [if_pos (by rw [countP_of (by omega)]; omega), res_of hk h, hr]
section
variable (v ws a b c d : Sp)
theorem chk0 : checkP (smallP v ws []) = (0, 0) := check_of (k := 4) (by kernel_rfl) (by decide) (by kernel_rfl)
theorem chk1 : checkP (smallP v ws [setT a xB (numE 1 3), writeT b (numE 0 1) (nameE xB)]) = (5, 322) := check_of (k := 9) (by kernel_rfl) (by decide) (by kernel_rfl)
theorem chk2 : checkP (smallP v ws [setT a xB (numE 1 2)]) = (3, 322) := check_of (k := 6) (by kernel_rfl) (by decide) (by kernel_rfl)
theorem chk3 : checkP (smallP v ws [setT a ⟨#[121]⟩ (numE 1 2)]) = (3, 321) := check_of (k := 6) (by kernel_rfl) (by decide) (by kernel_rfl)
/-- A procedure that calls itself. -/
def loopP (rs : Sp) : ProgV := { smallP v ws [] with rs := rs, procs := [⟨⟨#[112]⟩, Sp.none, [], a, [callT b ⟨#[112]⟩ []]⟩] }
theorem chk4 (rs : Sp) : checkP (loopP v ws a b rs) = (4, 328) := by
  refine check_of (k := 6) (by kernel_rfl) (by decide) ?_
  have hl : leadsB (loopP v ws a b rs) 0 0 = true := by
    unfold leadsB
    rw [fuelP_eq, Nat.add_comm]
    exact leadsF_hit _ _ _ _ _
  have hw : wrongE (loopP v ws a b rs) (inside (loopP v ws a b rs) 0) (callT b ⟨#[112]⟩ []) = if leadsB (loopP v ws a b rs) 0 0 = true then 328 else 0 := by
    have e : wrongE (loopP v ws a b rs) (inside (loopP v ws a b rs) 0) (callT b ⟨#[112]⟩ []) = if (0 : Int) ≥ 0 ∧ leadsB (loopP v ws a b rs) 0 0 = true then 328 else 0 := by kernel_rfl
    rw [e]; simp
  rw [hl, if_pos rfl] at hw
  have hs : stmtE (loopP v ws a b rs) (inside (loopP v ws a b rs) 0) (callT b ⟨#[112]⟩ []) 1 = 328 := by
    unfold stmtE
    rw [hw]
    kernel_rfl
  have hc : codesP (loopP v ws a b rs) 6 = [0, 0, 0, 0] ++ (stmtE (loopP v ws a b rs) (inside (loopP v ws a b rs) 0) (callT b ⟨#[112]⟩ []) 1 :: [0]) := by kernel_rfl
  show (probs (codesP (loopP v ws a b rs) 6) 0).headD (0, 0) = (4, 328)
  rw [hc, hs]
  kernel_rfl
def whileT : StmtV := .mk 7 ⟨#[]⟩ a [nameE xB] 0 Sp.none [] Sp.none []
theorem chk5 : checkP (smallP v ws [whileT a]) = (3, 329) := check_of (k := 6) (by kernel_rfl) (by decide) (by kernel_rfl)
def requireP : ProgV := { smallP v ws [] with require := nameE xB }
theorem chk6 : checkP (requireP v ws) = (2, 326) := check_of (k := 4) (by kernel_rfl) (by decide) (by kernel_rfl)
def castE (e : ExprV) : ExprV := .mk 8 0 0 3 ⟨#[]⟩ a [e]
theorem chk7 : checkP (smallP v ws [setT b xB (castE a (numE 5 2))]) = (5, 322) := check_of (k := 7) (by kernel_rfl) (by decide) (by kernel_rfl)
def twiceP : ProgV := { smallP v ws [] with vars := [⟨xB, 3, 0⟩, ⟨xB, 1, 0⟩] }
theorem chk8 : checkP (twiceP v ws) = (2, 321) := check_of (k := 5) (by kernel_rfl) (by decide) (by kernel_rfl)
end
end Go.Proofs.YthcboallnbaimaaGreatDoor
namespace Go.Proofs.YthcboallnbaimaaGreatDoor
open Go Go.RowKit Go.Maps
theorem num_any (x wd : Int) (w : World) : Calls Tryz.prog 22 #[.int .u32 x, .int .i64 wd] w fun o w' => o = .returned (numE x wd).val ∧ Below w.heap.size w w' := by
  go_enter Tryz.func22, Tryz.ntmps22
  go_wp2_with fail
  exact bodyPost_ret (results_cell_row rfl _ _ w.heap.size 34 _ (0, 0) _ rfl (World.alloc_heap_new _ _) Tryz.underlying34 rfl (by kernel_rfl)) rfl ⟨rfl, (Below.refl _ _).alloc (Nat.le_refl _) _⟩
theorem name_any32 (s : ByteArray) (w : World) : Calls Tryz.prog 25 #[.string s] w fun o w' => o = .returned (nameE s).val ∧ Below w.heap.size w w' := by
  go_enter Tryz.func25, Tryz.ntmps25
  go_wp2_with fail
  exact bodyPost_ret (results_cell_row rfl _ _ w.heap.size 34 _ (0, 0) _ rfl (World.alloc_heap_new _ _) Tryz.underlying34 rfl (by kernel_rfl)) rfl ⟨rfl, (Below.refl _ _).alloc (Nat.le_refl _) _⟩
theorem call_any32 (s : ByteArray) (sp : Sp) (l : List ExprV) (w : World) : Calls Tryz.prog 17 #[.string s, sp.val l.length] w fun o w' => o = .returned (callT sp s l).val ∧ Below w.heap.size w w' := by
  simp only [Sp.val]
  go_enter Tryz.func17, Tryz.ntmps17
  go_wp2_with fail
  exact bodyPost_ret (results_cell_row rfl _ _ w.heap.size 49 _ (0, 0) _ rfl (World.alloc_heap_new _ _) Tryz.underlying49 rfl (by kernel_rfl)) rfl ⟨rfl, (Below.refl _ _).alloc (Nat.le_refl _) _⟩
set_option maxHeartbeats 1000000 in
theorem set_any (s : ByteArray) (hs : s.size ≤ maxLen) (e : ExprV) (w : World) (he : NowX w e) : Calls Tryz.prog 23 #[.string s, e.val] w fun o w' => ∃ sp, o = .returned (setT sp s e).val ∧ NowT w' (setT sp s e) ∧ Below w.heap.size w w' := by
  have HE := Lib.hid he
  clear he
  simp only [ExprV.val, Sp.val]
  go_enter Tryz.func23, Tryz.ntmps23
  go_wp2_with fail
  obtain ⟨h1, h2, h3, h4, h5⟩ := alloc3 w (.cells #[.int .u8 e.kind, .int .u8 e.op, .int .u32 e.value, .int .i64 e.width, .string e.name, .slice e.sp.at_ e.subs.length e.sp.cap] 34) (.cells #[.int .u8 1, .string s, .slice (some ⟨w.heap.size + 1 + 1, 0, none⟩) 1 1, .int .i64 0, .slice none 0 0, .slice none 0 0] 49) (.cells #[.int .u8 e.kind, .int .u8 e.op, .int .u32 e.value, .int .i64 e.width, .string e.name, .slice e.sp.at_ e.subs.length e.sp.cap] 34)
  refine bodyPost_ret (results_cell_row rfl _ _ (w.heap.size + 1) 49 _ (0, 0) _ rfl h2 Tryz.underlying49 rfl (by kernel_rfl)) rfl ⟨⟨some ⟨w.heap.size + 1 + 1, 0, none⟩, 1⟩, rfl, ?_, h5⟩
  exact .mk _ (show (0 : Int) ≤ 1 ∧ (1 : Int) ≤ 255 by decide) (show (Lit.int .i64 0).wf = true by decide) hs (row_one (enc := ExprV.cells) (x := e) h3) (fun y hy => by
    have : y = e := by simpa [setT, StmtV.exprs] using hy
    rw [this]; exact HE.out.on h5) RowOf.nil (fun _ h => absurd h (by simp [setT, StmtV.thn])) RowOf.nil (fun _ h => absurd h (by simp [setT, StmtV.els]))
set_option maxHeartbeats 1000000 in
theorem write_any (e1 e2 : ExprV) (w : World) (he1 : NowX w e1) (he2 : NowX w e2) : Calls Tryz.prog 24 #[e1.val, e2.val] w fun o w' => ∃ sp, o = .returned (writeT sp e1 e2).val ∧ NowT w' (writeT sp e1 e2) ∧ Below w.heap.size w w' := by
  have HE1 := Lib.hid he1
  have HE2 := Lib.hid he2
  clear he1 he2
  simp only [ExprV.val, Sp.val]
  go_enter Tryz.func24, Tryz.ntmps24
  go_wp2_with fail
  obtain ⟨h1, h2, h3, h4, h6, h5⟩ := alloc4 w (.cells #[.int .u8 e1.kind, .int .u8 e1.op, .int .u32 e1.value, .int .i64 e1.width, .string e1.name, .slice e1.sp.at_ e1.subs.length e1.sp.cap] 34) (.cells #[.int .u8 e2.kind, .int .u8 e2.op, .int .u32 e2.value, .int .i64 e2.width, .string e2.name, .slice e2.sp.at_ e2.subs.length e2.sp.cap] 34) (.cells #[.int .u8 3, .string ⟨#[]⟩, .slice (some ⟨w.heap.size + 1 + 1 + 1, 0, none⟩) 2 2, .int .i64 0, .slice none 0 0, .slice none 0 0] 49) (.cells #[.int .u8 e1.kind, .int .u8 e1.op, .int .u32 e1.value, .int .i64 e1.width, .string e1.name, .slice e1.sp.at_ e1.subs.length e1.sp.cap, .int .u8 e2.kind, .int .u8 e2.op, .int .u32 e2.value, .int .i64 e2.width, .string e2.name, .slice e2.sp.at_ e2.subs.length e2.sp.cap] 34)
  refine bodyPost_ret (results_cell_row rfl _ _ (w.heap.size + 1 + 1) 49 _ (0, 0) _ rfl h3 Tryz.underlying49 rfl (by kernel_rfl)) rfl ⟨⟨some ⟨w.heap.size + 1 + 1 + 1, 0, none⟩, 2⟩, rfl, ?_, h5⟩
  exact .mk _ (show (0 : Int) ≤ 3 ∧ (3 : Int) ≤ 255 by decide) (show (Lit.int .i64 0).wf = true by decide) (show (0 : Nat) ≤ maxLen by decide) (row_two (enc := ExprV.cells) (x := e1) (y := e2) rfl h4) (fun y hy => by
    have hy2 : y = e1 ∨ y = e2 := by simpa [writeT, StmtV.exprs] using hy
    rcases hy2 with rfl | rfl
    · exact HE1.out.on h5
    · exact HE2.out.on h5) RowOf.nil (fun _ h => absurd h (by simp [writeT, StmtV.thn])) RowOf.nil (fun _ h => absurd h (by simp [writeT, StmtV.els]))
theorem small_now {W : World} {v ws : Sp} {l : List StmtV} (hv : RowOf W.heap.size W v 3 DeclV.cells [⟨xB, 3, 0⟩]) (hl : RdTs W.heap.size W ws l) : RdP W.heap.size W (smallP v ws l) := by
  have hd : RdDs W.heap.size W Sp.none [] := ⟨RowOf.nil, fun _ h => absurd h (by simp)⟩
  have ht : RdTs W.heap.size W Sp.none [] := ⟨RowOf.nil, fun _ h => absurd h (by simp)⟩
  have hn : NowX W (numE 1 1) := num_now W 1 1 (by decide) (by decide)
  refine ⟨show (Lit.int .i64 1).wf = true by decide, show (Lit.int .i64 2).wf = true by decide, hd, hd, ⟨hv, fun d h => ?_⟩, hd, hn, RowOf.nil, fun _ h => absurd h (by simp [smallP]), RowOf.nil, fun _ h => absurd h (by simp [smallP]), hl, ht, hn⟩
  have : d = ⟨xB, 3, 0⟩ := by simpa [smallP] using h
  rw [this]
  exact ⟨by decide, by decide, by decide⟩
set_option maxRecDepth 1000000 in
set_option maxHeartbeats 2000000 in
theorem small_any (ws : Sp) (l : List StmtV) (w : World) (h : RdTs w.heap.size w ws l) : Calls Tryz.prog 15 #[ws.val l.length] w fun o w' => ∃ b : Nat, o = .returned (smallP ⟨some ⟨b, 0, none⟩, 1⟩ ws l).val ∧ RdP w'.heap.size w' (smallP ⟨some ⟨b, 0, none⟩, 1⟩ ws l) ∧ Below w.heap.size w w' := by
  have HTS := Lib.hid h
  have hb0 : Below w.heap.size w (w.alloc (.cells zeroP.arr 39)) := (Below.refl _ _).alloc (Nat.le_refl _) _
  have hB0 := World.alloc_heap_new w (.cells zeroP.arr 39)
  have hs0 : (w.alloc (.cells zeroP.arr 39)).heap.size = w.heap.size + 1 := by simp
  have hN := fun W => num_any 1 1 W
  simp only [numE, ExprV.val, ExprV.kind, ExprV.op, ExprV.value, ExprV.width, ExprV.name, ExprV.sp, ExprV.subs, Sp.val, Sp.none, List.length_nil] at hN
  have HNM := Lib.hid hN
  clear h hN
  simp only [Sp.val]
  go_enter Tryz.func15, Tryz.ntmps15
  go_upto_region 1 with (first | (refine wpList_allocRow (t := 39) rfl rfl (run_zeroP _) ?_) | fail)
  generalize w.alloc (.cells zeroP.arr 39) = W0 at *
  have HB0 := Lib.hid hb0
  have HX0 := Lib.hid hB0
  have hb1 : Below W0.heap.size W0 (W0.alloc (.cells #[.string xB, .int .i64 3, .int .i64 0] 44)) := (Below.refl _ _).alloc (Nat.le_refl _) _
  have hB1 := World.alloc_heap_new W0 (.cells #[.string xB, .int .i64 3, .int .i64 0] 44)
  have HB1 := Lib.hid hb1
  have HX1 := Lib.hid hB1
  clear hb0 hB0 hb1 hB1
  have hst : (W0.alloc (.cells #[.string xB, .int .i64 3, .int .i64 0] 44)).heap[w.heap.size]? = some (.cells zeroP.arr 39 (0, 0)) ∧ (W0.alloc (.cells #[.string xB, .int .i64 3, .int .i64 0] 44)).heap[w.heap.size + 1]? = some (.cells #[.string xB, .int .i64 3, .int .i64 0] 44 (0, 0)) ∧ Below w.heap.size w (W0.alloc (.cells #[.string xB, .int .i64 3, .int .i64 0] 44)) :=
    ⟨(HB1.out.block _ (by omega)).trans HX0.out, by have h := HX1.out; rw [hs0] at h; exact h, HB0.out.trans (HB1.out.mono (by omega))⟩
  have UPD : Hid (∀ A B : World, Below A.heap.size A B → (A.heap[w.heap.size]? = some (.cells zeroP.arr 39 (0, 0)) ∧ A.heap[w.heap.size + 1]? = some (.cells #[.string xB, .int .i64 3, .int .i64 0] 44 (0, 0)) ∧ Below w.heap.size w A) → (B.heap[w.heap.size]? = some (.cells zeroP.arr 39 (0, 0)) ∧ B.heap[w.heap.size + 1]? = some (.cells #[.string xB, .int .i64 3, .int .i64 0] 44 (0, 0)) ∧ Below w.heap.size w B)) := Lib.hid fun A B hb ⟨h1, h2, h3⟩ =>
    ⟨(hb.block _ (Array.getElem?_eq_some_iff.1 h1).1).trans h1, (hb.block _ (Array.getElem?_eq_some_iff.1 h2).1).trans h2, h3.trans (hb.mono h3.size)⟩
  have HST := Lib.hid hst
  clear hst
  go_wp2_with (first
    | (go_at_call 22; refine (HNM.out _).mono ?_; rintro o2 w2 ⟨rfl, hb2⟩; have HST := Lib.hid (UPD.out _ _ hb2 HST.out); clear hb2)
    | (refine wpList_store_row rfl 39 _ _ rfl w.heap.size (smallP ⟨some ⟨w.heap.size + 1, 0, none⟩, 1⟩ ws l).arr (by rfl) (by rfl) 39 zeroP.arr HST.out.1 (arr_size _) (by kernel_rfl) (arr_one _) ?_)
    | fail)
  obtain ⟨h1, h2, h3⟩ := HST.out
  have h4 := setRow_heap w2 w.heap.size zeroP.arr (smallP ⟨some ⟨w.heap.size + 1, 0, none⟩, 1⟩ ws l).arr 39 (0, 0) h1
  have h5 : Below w.heap.size w (w2.setRow w.heap.size (smallP ⟨some ⟨w.heap.size + 1, 0, none⟩, 1⟩ ws l).arr) := below_setRow h3 (Nat.le_refl _) _
  refine bodyPost_ret (results_cell_row rfl _ _ w.heap.size 39 _ (0, 0) _ rfl h4 Tryz.underlying39 rfl (arr_size _)) rfl ⟨w.heap.size + 1, rfl, ?_, h5⟩
  refine small_now (row_one (enc := DeclV.cells) (x := ⟨xB, 3, 0⟩) (t := 44) (fr := (0, 0)) ((setRow_other _ _ _ _ (by omega)).trans h2)) (HTS.out.on h5)
set_option maxRecDepth 100000 in
theorem wrongAt_any (w : World) (p : ProgV) (hp : RdP w.heap.size w p) (hn0 : 0 < w.heap.size) (hN : NamesOk p) (hwt : weightP p ≤ 1125899906842624) (hmx : MxAt w) (pl e : Int) (h : checkP p = (pl, e)) :
    Calls Tryz.prog 16 #[.agg p.arr, .int .i64 pl, .int .i64 e] w fun o w' => o = .returned (.bool true) ∧ Below w.heap.size w w' := by
  have hb1 : Below w.heap.size w (w.alloc (.cells p.arr 39)) := (Below.refl _ _).alloc (Nat.le_refl _) _
  have hB := World.alloc_heap_new w (.cells p.arr 39)
  have hCK := check_any _ p (hp.on hb1) (Nat.lt_of_lt_of_le hn0 hb1.size) hN hwt (hmx.below hb1 hn0)
  have harrs := arr_size p
  rw [h, arr_val] at hCK
  have HCK := Lib.hid hCK
  have HB := Lib.hid hB
  have HB1 := Lib.hid hb1
  clear hCK hB hb1 h
  generalize p.arr = arr at *
  go_enter Tryz.func16, Tryz.ntmps16
  go_wp2_with (first | (refine wpList_load_row rfl 39 _ rfl w.heap.size rfl 39 _ (0, 0) _ HB.out Tryz.underlying39 rfl harrs ?_) | (go_at_call 30; refine HCK.out.mono ?_; rintro o2 w2 ⟨rfl, hb2⟩; have HB2 := Lib.hid hb2; clear hb2) | fail)
  go_ret
  exact ⟨by simp, HB1.out.trans (HB2.out.mono HB1.out.size)⟩
set_option maxRecDepth 100000 in
theorem right_any (w : World) (p : ProgV) (hp : RdP w.heap.size w p) (hn0 : 0 < w.heap.size) (hN : NamesOk p) (hwt : weightP p ≤ 1125899906842624) (hmx : MxAt w) :
    Calls Tryz.prog 18 #[.agg p.arr] w fun o w' => o = .returned (.bool (decide ((checkP p).2 = 0))) ∧ Below w.heap.size w w' := by
  have hb1 : Below w.heap.size w (w.alloc (.cells p.arr 39)) := (Below.refl _ _).alloc (Nat.le_refl _) _
  have hB := World.alloc_heap_new w (.cells p.arr 39)
  have hCK := check_any _ p (hp.on hb1) (Nat.lt_of_lt_of_le hn0 hb1.size) hN hwt (hmx.below hb1 hn0)
  have harrs := arr_size p
  rw [arr_val] at hCK
  generalize checkP p = ck at *
  have HCK := Lib.hid hCK
  have HB := Lib.hid hB
  have HB1 := Lib.hid hb1
  clear hCK hB hb1
  generalize p.arr = arr at *
  by_cases e : ck.2 = 0
  · have hd : decide (ck.2 = 0) = true := decide_eq_true e
    have he : (ck.2 == 0) = true := by simpa using e
    rw [hd]
    clear hd e
    go_enter Tryz.func18, Tryz.ntmps18
    go_wp2_with (first | (refine wpList_load_row rfl 39 _ rfl w.heap.size rfl 39 _ (0, 0) _ HB.out Tryz.underlying39 rfl harrs ?_) | (go_at_call 30; refine HCK.out.mono ?_; rintro o2 w2 ⟨rfl, hb2⟩; have HB2 := Lib.hid hb2; clear hb2) | fail)
    go_ret
    exact ⟨rfl, HB1.out.trans (HB2.out.mono HB1.out.size)⟩
  · have hd : decide (ck.2 = 0) = false := decide_eq_false e
    have he : (ck.2 == 0) = false := by simpa using e
    rw [hd]
    clear hd e
    go_enter Tryz.func18, Tryz.ntmps18
    go_wp2_with (first | (refine wpList_load_row rfl 39 _ rfl w.heap.size rfl 39 _ (0, 0) _ HB.out Tryz.underlying39 rfl harrs ?_) | (go_at_call 30; refine HCK.out.mono ?_; rintro o2 w2 ⟨rfl, hb2⟩; have HB2 := Lib.hid hb2; clear hb2) | fail)
    go_ret
    exact ⟨rfl, HB1.out.trans (HB2.out.mono HB1.out.size)⟩
end Go.Proofs.YthcboallnbaimaaGreatDoor
namespace Go.Proofs.YthcboallnbaimaaGreatDoor
open Go Go.RowKit Go.Maps
theorem small_names (v ws : Sp) (l : List StmtV) : NamesOk (smallP v ws l) :=
  ⟨fun d h => by
    have : d = ⟨xB, 3, 0⟩ := by simpa [smallP] using h
    rw [this]; decide, fun q h => absurd h (by simp [smallP])⟩
section
variable (v ws a b c d : Sp)
theorem fit0 : Fit (smallP v ws []) := fit_of (k := 4) (by kernel_rfl) (by decide) (small_names _ _ _)
theorem fit1 : Fit (smallP v ws [setT a xB (numE 1 3), writeT b (numE 0 1) (nameE xB)]) := fit_of (k := 9) (by kernel_rfl) (by decide) (small_names _ _ _)
theorem fit2 (s : ByteArray) : Fit (smallP v ws [setT a s (numE 1 2)]) := fit_of (k := 6) (by kernel_rfl) (by decide) (small_names _ _ _)
theorem fit4 (rs : Sp) : Fit (loopP v ws a b rs) := fit_of (k := 6) (by kernel_rfl) (by decide) ⟨(small_names v ws []).decls, fun q h => by
  have : q = ⟨⟨#[112]⟩, Sp.none, [], a, [callT b ⟨#[112]⟩ []]⟩ := by simpa [loopP] using h
  rw [this]; exact ⟨show (1 : Nat) ≤ 4294967200 by decide, fun d h => absurd h (by simp)⟩⟩
theorem fit5 : Fit (smallP v ws [whileT a]) := fit_of (k := 6) (by kernel_rfl) (by decide) (small_names _ _ _)
theorem fit6 : Fit (requireP v ws) := fit_of (k := 4) (by kernel_rfl) (by decide) ⟨(small_names v ws []).decls, fun q h => absurd h (by simp [requireP, smallP])⟩
theorem fit7 : Fit (smallP v ws [setT b xB (castE a (numE 5 2))]) := fit_of (k := 7) (by kernel_rfl) (by decide) (small_names _ _ _)
theorem fit8 : Fit (twiceP v ws) := fit_of (k := 5) (by kernel_rfl) (by decide) ⟨fun d h => by
  have h2 : d = ⟨xB, 3, 0⟩ ∨ d = ⟨xB, 1, 0⟩ := by simpa [twiceP, smallP] using h
  rcases h2 with rfl | rfl <;> decide, fun q h => absurd h (by simp [twiceP, smallP])⟩
end
/-- A program in its box. -/
structure InBox (W : World) (q : Nat) (p : ProgV) : Prop where
  box : W.heap[q]? = some (.cells p.arr 39 (0, 0))
  rd : RdP W.heap.size W p
theorem InBox.on {W W' : World} {q : Nat} {p : ProgV} (h : InBox W q p) (hb : Below W.heap.size W W') : InBox W' q p :=
  ⟨(hb.block _ (Array.getElem?_eq_some_iff.1 h.box).1).trans h.box, h.rd.on hb⟩
theorem InBox.new {W : World} {p : ProgV} (h : RdP W.heap.size W p) : InBox (W.alloc (.cells p.arr 39)) W.heap.size p :=
  ⟨World.alloc_heap_new _ _, h.on ((Below.refl _ _).alloc (Nat.le_refl _) _)⟩
theorem InBox.frozen {W : World} {q : Nat} {p : ProgV} (h : InBox W q p) (i : Nat) : W.frozen? ⟨q, i, none⟩ = false := by simp [World.frozen?, h.box]
theorem none_rows {n : Nat} {W : World} : RdDs n W Sp.none [] := ⟨RowOf.nil, fun _ h => absurd h (by simp)⟩
theorem none_stmts {n : Nat} {W : World} : RdTs n W Sp.none [] := ⟨RowOf.nil, fun _ h => absurd h (by simp)⟩
/-- The program that calls itself, laid into its box. -/
theorem loop_made {W : World} {q pb bb : Nat} {v ws : Sp} (hx : W.heap[q]? = some (.cells (smallP v ws []).arr 39 (0, 0))) (hr : RdP q W (smallP v ws [])) (hb : W.heap[bb]? = some (.cells (callT Sp.none ⟨#[112]⟩ []).cells.toArray 49 (0, 0))) (hp : W.heap[pb]? = some (.cells #[.string ⟨#[112]⟩, .slice none 0 0, .slice (some ⟨bb, 0, none⟩) 1 1] 47 (0, 0))) (hq : q < pb) (hq2 : q < bb) :
    InBox (W.setCell ⟨q, 13, none⟩ (.slice (some ⟨pb, 0, none⟩) 1 1)) q (loopP v ws ⟨some ⟨bb, 0, none⟩, 1⟩ Sp.none ⟨some ⟨pb, 0, none⟩, 1⟩) := by
  have hbox : (W.setCell ⟨q, 13, none⟩ (.slice (some ⟨pb, 0, none⟩) 1 1)).heap[q]? = some (.cells (loopP v ws ⟨some ⟨bb, 0, none⟩, 1⟩ Sp.none ⟨some ⟨pb, 0, none⟩, 1⟩).arr 39 (0, 0)) := by
    simp [World.setCell, Array.getElem?_modify, hx, ProgV.arr, ProgV.cells, smallP, loopP, Sp.val]
  have hb2 := (Below.heap_setCell W ⟨q, 13, none⟩ (.slice (some ⟨pb, 0, none⟩) 1 1) bb (by simp only; omega)).trans hb
  have hp2 := (Below.heap_setCell W ⟨q, 13, none⟩ (.slice (some ⟨pb, 0, none⟩) 1 1) pb (by simp only; omega)).trans hp
  have hr2 := hr.below ((Below.refl q W).setCell (p := ⟨q, 13, none⟩) (Nat.le_refl _) (.slice (some ⟨pb, 0, none⟩) 1 1))
  generalize W.setCell ⟨q, 13, none⟩ (.slice (some ⟨pb, 0, none⟩) 1 1) = W2 at *
  have hlt := (Array.getElem?_eq_some_iff.1 hbox).1
  have hr3 := hr2.more (Nat.le_of_lt hlt)
  refine ⟨hbox, { hr3 with prow := row_one (enc := ProcV.cells) (x := ⟨⟨#[112]⟩, Sp.none, [], ⟨some ⟨bb, 0, none⟩, 1⟩, [callT Sp.none ⟨#[112]⟩ []]⟩) hp2, procs := fun q' h => ?_ }⟩
  have e : q' = ⟨⟨#[112]⟩, Sp.none, [], ⟨some ⟨bb, 0, none⟩, 1⟩, [callT Sp.none ⟨#[112]⟩ []]⟩ := by simpa [loopP] using h
  rw [e]
  refine ⟨show (1 : Nat) ≤ maxLen by decide, none_rows, ⟨row_one (enc := StmtV.cells) (x := callT Sp.none ⟨#[112]⟩ []) hb2, fun s hs => ?_⟩⟩
  have e2 : s = callT Sp.none ⟨#[112]⟩ [] := by simpa using hs
  rw [e2]
  exact call_now (show (1 : Nat) ≤ maxLen by decide)
theorem require_made {W : World} {q : Nat} {v ws : Sp} (hx : W.heap[q]? = some (.cells (smallP v ws []).arr 39 (0, 0))) (hr : RdP q W (smallP v ws [])) :
    InBox ((((((W.setCell ⟨q, 6, none⟩ (.int .u8 2)).setCell ⟨q, 7, none⟩ (.int .u8 0)).setCell ⟨q, 8, none⟩ (.int .u32 0)).setCell ⟨q, 9, none⟩ (.int .i64 0)).setCell ⟨q, 10, none⟩ (.string xB)).setCell ⟨q, 11, none⟩ (.slice none 0 0)) q (requireP v ws) := by
  have hbox : ((((((W.setCell ⟨q, 6, none⟩ (.int .u8 2)).setCell ⟨q, 7, none⟩ (.int .u8 0)).setCell ⟨q, 8, none⟩ (.int .u32 0)).setCell ⟨q, 9, none⟩ (.int .i64 0)).setCell ⟨q, 10, none⟩ (.string xB)).setCell ⟨q, 11, none⟩ (.slice none 0 0)).heap[q]? = some (.cells (requireP v ws).arr 39 (0, 0)) := by
    simp [World.setCell, Array.getElem?_modify, hx, ProgV.arr, ProgV.cells, smallP, requireP, Sp.val, Sp.none, nameE, numE, ExprV.kind, ExprV.op, ExprV.value, ExprV.width, ExprV.name, ExprV.sp, ExprV.subs]
  have hr2 := hr.below (((((((Below.refl q W).setCell (p := ⟨q, 6, none⟩) (Nat.le_refl _) (.int .u8 2)).setCell (p := ⟨q, 7, none⟩) (Nat.le_refl _) (.int .u8 0)).setCell (p := ⟨q, 8, none⟩) (Nat.le_refl _) (.int .u32 0)).setCell (p := ⟨q, 9, none⟩) (Nat.le_refl _) (.int .i64 0)).setCell (p := ⟨q, 10, none⟩) (Nat.le_refl _) (.string xB)).setCell (p := ⟨q, 11, none⟩) (Nat.le_refl _) (.slice none 0 0))
  have hlt := (Array.getElem?_eq_some_iff.1 hbox).1
  have hr3 := hr2.more (Nat.le_of_lt hlt)
  exact ⟨hbox, { hr3 with require := name_now _ xB (by decide) }⟩
theorem twice_made {W : World} {q vb c : Nat} {v ws : Sp} (hx : W.heap[q]? = some (.cells (smallP v ws []).arr 39 (0, 0))) (hr : RdP q W (smallP v ws [])) (hv : RowOf W.heap.size (W.setCell ⟨q, 4, none⟩ (.slice (some ⟨vb, 0, none⟩) 2 c)) ⟨some ⟨vb, 0, none⟩, c⟩ 3 DeclV.cells [⟨xB, 3, 0⟩, ⟨xB, 1, 0⟩]) :
    InBox (W.setCell ⟨q, 4, none⟩ (.slice (some ⟨vb, 0, none⟩) 2 c)) q (twiceP ⟨some ⟨vb, 0, none⟩, c⟩ ws) := by
  have hbox : (W.setCell ⟨q, 4, none⟩ (.slice (some ⟨vb, 0, none⟩) 2 c)).heap[q]? = some (.cells (twiceP ⟨some ⟨vb, 0, none⟩, c⟩ ws).arr 39 (0, 0)) := by
    simp [World.setCell, Array.getElem?_modify, hx, ProgV.arr, ProgV.cells, smallP, twiceP, Sp.val]
  have hr2 := hr.below ((Below.refl q W).setCell (p := ⟨q, 4, none⟩) (Nat.le_refl _) (.slice (some ⟨vb, 0, none⟩) 2 c))
  have hsz : (W.setCell ⟨q, 4, none⟩ (.slice (some ⟨vb, 0, none⟩) 2 c)).heap.size = W.heap.size := by simp
  have hlt := (Array.getElem?_eq_some_iff.1 hbox).1
  have hr3 := hr2.more (Nat.le_of_lt hlt)
  refine ⟨hbox, { hr3 with vars := ⟨by rw [hsz]; exact hv, fun d h => ?_⟩ }⟩
  have h2 : d = ⟨xB, 3, 0⟩ ∨ d = ⟨xB, 1, 0⟩ := by simpa [twiceP] using h
  rcases h2 with rfl | rfl <;> exact ⟨by decide, by decide, by decide⟩
/-- A program in its box, its rows below n. -/
structure InAt (n : Nat) (W : World) (q : Nat) (p : ProgV) : Prop where
  box : W.heap[q]? = some (.cells p.arr 39 (0, 0))
  rd : RdP n W p
  lt : q < n
theorem InBox.at {W : World} {q : Nat} {p : ProgV} (h : InBox W q p) : InAt W.heap.size W q p := ⟨h.box, h.rd, (Array.getElem?_eq_some_iff.1 h.box).1⟩
theorem InAt.below {n q : Nat} {W W' : World} {p : ProgV} (h : InAt n W q p) (hb : Below n W W') : InAt n W' q p := ⟨(hb.block _ h.lt).trans h.box, h.rd.below hb, h.lt⟩
theorem InAt.more {n m q : Nat} {W : World} {p : ProgV} (h : InAt n W q p) (hm : n ≤ m) : InAt m W q p := ⟨h.box, h.rd.more hm, Nat.lt_of_lt_of_le h.lt hm⟩
theorem InAt.inb {n q : Nat} {W : World} {p : ProgV} (h : InAt n W q p) (hn : n ≤ W.heap.size) : InBox W q p := ⟨h.box, h.rd.more hn⟩
/-- The three programs in their boxes. -/
structure AwSt (w W : World) (q1 q2 q3 : Nat) (p1 p2 p3 : ProgV) : Prop where
  i1 : InBox W q1 p1
  i2 : InBox W q2 p2
  i3 : InBox W q3 p3
  low : Below w.heap.size w W
theorem AwSt.on {w W W' : World} {q1 q2 q3 : Nat} {p1 p2 p3 : ProgV} (h : AwSt w W q1 q2 q3 p1 p2 p3) (hb : Below W.heap.size W W') : AwSt w W' q1 q2 q3 p1 p2 p3 :=
  ⟨h.i1.on hb, h.i2.on hb, h.i3.on hb, h.low.trans (hb.mono h.low.size)⟩
theorem RowOf.setCell {α : Type} {n : Nat} {W : World} {b c k : Nat} {enc : α → List Value} {l : List α} (h : RowOf n W ⟨some ⟨b, 0, none⟩, c⟩ k enc l) (p : Addr) (hp : p.block ≠ b) (v : Value) : RowOf n (W.setCell p v) ⟨some ⟨b, 0, none⟩, c⟩ k enc l :=
  ⟨h.cap, h.big, h.few, fun h0 => by
    obtain ⟨b', off, e, hlt, hc⟩ := h.row h0
    refine ⟨b', off, e, hlt, fun j hj r u hu => ?_⟩
    have e2 : b = b' := by have := Option.some.inj e; exact (Addr.mk.inj this).1
    refine (World.cell?_of_block (a := ⟨b', off + j * k + r, none⟩) ?_).trans (hc j hj r u hu)
    exact Below.heap_setCell W p v b' (by rw [← e2]; exact fun h => hp h.symm)⟩
theorem num_exp (x wd : Int) (w : World) : Calls Tryz.prog 22 #[.int .u32 x, .int .i64 wd] w fun o w' => o = .returned (.agg #[.int .u8 1, .int .u8 0, .int .u32 x, .int .i64 wd, .string ⟨#[]⟩, .slice none 0 0]) ∧ Below w.heap.size w w' := num_any x wd w
theorem name_exp (s : ByteArray) (w : World) : Calls Tryz.prog 25 #[.string s] w fun o w' => o = .returned (.agg #[.int .u8 2, .int .u8 0, .int .u32 0, .int .i64 0, .string s, .slice none 0 0]) ∧ Below w.heap.size w w' := name_any32 s w
theorem call_exp (s : ByteArray) (w : World) : Calls Tryz.prog 17 #[.string s, .slice none 0 0] w fun o w' => o = .returned (.agg #[.int .u8 8, .string s, .slice none 0 0, .int .i64 0, .slice none 0 0, .slice none 0 0]) ∧ Below w.heap.size w w' := call_any32 s Sp.none [] w
theorem set_exp (s : ByteArray) (hs : s.size ≤ maxLen) (e : ExprV) (w : World) (he : NowX w e) : Calls Tryz.prog 23 #[.string s, .agg #[.int .u8 e.kind, .int .u8 e.op, .int .u32 e.value, .int .i64 e.width, .string e.name, .slice e.sp.at_ e.subs.length e.sp.cap]] w fun o w' => ∃ sp : Sp, o = .returned (.agg #[.int .u8 1, .string s, .slice sp.at_ 1 sp.cap, .int .i64 0, .slice none 0 0, .slice none 0 0]) ∧ NowT w' (setT sp s e) ∧ Below w.heap.size w w' := set_any s hs e w he
theorem write_exp (e1 e2 : ExprV) (w : World) (he1 : NowX w e1) (he2 : NowX w e2) : Calls Tryz.prog 24 #[.agg #[.int .u8 e1.kind, .int .u8 e1.op, .int .u32 e1.value, .int .i64 e1.width, .string e1.name, .slice e1.sp.at_ e1.subs.length e1.sp.cap], .agg #[.int .u8 e2.kind, .int .u8 e2.op, .int .u32 e2.value, .int .i64 e2.width, .string e2.name, .slice e2.sp.at_ e2.subs.length e2.sp.cap]] w fun o w' => ∃ sp : Sp, o = .returned (.agg #[.int .u8 3, .string ⟨#[]⟩, .slice sp.at_ 2 sp.cap, .int .i64 0, .slice none 0 0, .slice none 0 0]) ∧ NowT w' (writeT sp e1 e2) ∧ Below w.heap.size w w' := write_any e1 e2 w he1 he2
theorem small_exp (ws : Sp) (l : List StmtV) (w : World) (h : RdTs w.heap.size w ws l) : Calls Tryz.prog 15 #[.slice ws.at_ l.length ws.cap] w fun o w' => ∃ b : Nat, o = .returned (.agg (smallP ⟨some ⟨b, 0, none⟩, 1⟩ ws l).arr) ∧ RdP w'.heap.size w' (smallP ⟨some ⟨b, 0, none⟩, 1⟩ ws l) ∧ Below w.heap.size w w' := small_any ws l w h
theorem stmts_one {W : World} {s : StmtV} (h : NowT W s) : RdTs (W.alloc (.cells s.cells.toArray 49)).heap.size (W.alloc (.cells s.cells.toArray 49)) ⟨some ⟨W.heap.size, 0, none⟩, 1⟩ [s] :=
  ⟨row_one (World.alloc_heap_new _ _), fun x hx => by rw [List.mem_singleton.1 hx]; exact h.on ((Below.refl _ _).alloc (Nat.le_refl _) _)⟩
theorem stmts_two {W : World} {s1 s2 : StmtV} (h1 : NowT W s1) (h2 : NowT W s2) : RdTs (W.alloc (.cells (s1.cells ++ s2.cells).toArray 49)).heap.size (W.alloc (.cells (s1.cells ++ s2.cells).toArray 49)) ⟨some ⟨W.heap.size, 0, none⟩, 2⟩ [s1, s2] :=
  ⟨row_two rfl (World.alloc_heap_new _ _), fun x hx => by
    have h3 : x = s1 ∨ x = s2 := by simpa using hx
    rcases h3 with rfl | rfl
    · exact h1.on ((Below.refl _ _).alloc (Nat.le_refl _) _)
    · exact h2.on ((Below.refl _ _).alloc (Nat.le_refl _) _)⟩
theorem wrong_exp (w : World) (p : ProgV) (hp : RdP w.heap.size w p) (hn0 : 0 < w.heap.size) (hf : Fit p) (hmx : MxAt w) (pl e : Int) (h : checkP p = (pl, e)) :
    Calls Tryz.prog 16 #[.agg p.arr, .int .i64 pl, .int .i64 e] w fun o w' => o = .returned (.bool true) ∧ Below w.heap.size w w' := wrongAt_any w p hp hn0 hf.names hf.weight hmx pl e h
theorem decl_info : (Tryz.prog.info? 44).map (fun i => (i.zero, i.size, i.bytes)) = some (some (.agg #[.string ⟨#[]⟩, .int .i64 0, .int .i64 0]), 3, 32) := by kernel_rfl
theorem wpList_append_decl {ops : Array Oper} {rest : List Oper} {o : Oper} {a : Act} {w : World} {Q : Exit → Act → World → Prop} (hgd : o.guard = none) (s x : Operand)
    (ho : o.op = .call { callee := .builtin .append, args := #[s, x], argTypes := #[28, 28] }) (n b g : Nat) (hs : a.eval s = .slice (some ⟨b, 0, none⟩) 1 1) (h : RowOf n w ⟨some ⟨b, 0, none⟩, 1⟩ 3 DeclV.cells [⟨xB, 3, 0⟩])
    (hx : a.eval x = .slice (some ⟨g, 0, none⟩) 1 1) (hg : w.heap[g]? = some (.cells #[.string xB, .int .i64 1, .int .i64 0] 44 (0, 0)))
    (hK : ∀ vb c w', w.heap.size ≤ vb → RowOf w'.heap.size w' ⟨some ⟨vb, 0, none⟩, c⟩ 3 DeclV.cells [⟨xB, 3, 0⟩, ⟨xB, 1, 0⟩] → Below w.heap.size w w' → wpList Tryz.prog ops Q rest (a.put o.dst (.slice (some ⟨vb, 0, none⟩) 2 c)) w') : wpList Tryz.prog ops Q (o :: rest) a w := by
  refine wpList_plain hgd fun K hK' => ?_
  obtain ⟨i0, hi, hz0, hz1, hz2⟩ := info_of decl_info
  obtain ⟨b', off, e, hlt, hc⟩ := h.row (by simp)
  obtain ⟨rfl, rfl⟩ : b = b' ∧ 0 = off := by have := Option.some.inj e; exact ⟨(Addr.mk.inj this).1, (Addr.mk.inj this).2.1⟩
  have hold : ∀ j u, (DeclV.cells ⟨xB, 3, 0⟩)[j]? = some u → w.cell? ((⟨b, 0, none⟩ : Addr).add j) = some u := fun j u hj => by
    have := hc 0 (by simp) j u hj
    rw [Addr.add_lit]; simpa using this
  have hnew : ∀ j u, (DeclV.cells ⟨xB, 1, 0⟩)[j]? = some u → w.cell? ((⟨g, 0, none⟩ : Addr).add j) = some u := fun j u hj => by
    have e2 : (#[Value.string xB, .int .i64 1, .int .i64 0] : Array Value)[j]? = some u := by simpa [DeclV.cells] using hj
    rw [Addr.add_lit]; simp only [World.cell?, Nat.zero_add, hg]; exact e2
  obtain ⟨v', w', hr, hown, hgr⟩ := run_append_arg_grows (P := Tryz.prog) w 28 o.type 44 i0 _ 3 32 Tryz.underlying28 hi hz0 hz1 hz2 rfl (by decide) ⟨b, 0, none⟩ 1 1 (DeclV.cells ⟨xB, 3, 0⟩) rfl hold ⟨g, 0, none⟩ 1 1 (DeclV.cells ⟨xB, 1, 0⟩) rfl hnew (by decide) (by decide) (by decide)
  have hbl : Below w.heap.size w w' := ⟨hgr.os, hgr.tape, hgr.output, hgr.size, fun k hk => hgr.block k hk (by simp)⟩
  obtain ⟨hlen, ho2⟩ := hown
  rcases ho2 with ⟨_, h0⟩ | ⟨vb, cp, cur, rfl, g1, g2, g3, g4, g5, g6⟩
  · omega
  · have hrow : RowOf w'.heap.size w' ⟨some ⟨vb, 0, none⟩, cp⟩ 3 DeclV.cells [⟨xB, 3, 0⟩, ⟨xB, 1, 0⟩] := by
      refine ⟨g3, g4, by simp, fun _ => ⟨vb, 0, rfl, (Array.getElem?_eq_some_iff.1 g2).1, fun j hj r u hu => ?_⟩⟩
      have hr3 : r < 3 := by
        have := (List.getElem?_eq_some_iff.1 hu).1
        exact this
      have hj2 : j = 0 ∨ j = 1 := by simp at hj; omega
      have e3 : (cur.toList.take ((1 + 1) * 3))[j * 3 + r]? = (DeclV.cells ⟨xB, 3, 0⟩ ++ DeclV.cells ⟨xB, 1, 0⟩)[j * 3 + r]? := by rw [g6]
      rw [List.getElem?_take_of_lt (by omega)] at e3
      have e4 : cur[0 + j * 3 + r]? = some u := by
        rw [Nat.zero_add, ← Array.getElem?_toList, e3, ← hu]
        rcases hj2 with rfl | rfl
        · rw [Nat.zero_mul, Nat.zero_add, List.getElem?_append_left (by exact hr3)]; rfl
        · rw [Nat.one_mul, List.getElem?_append_right (by exact Nat.le_add_right 3 r)]
          have : 3 + r - (DeclV.cells ⟨xB, 3, 0⟩).length = r := Nat.add_sub_cancel_left 3 r
          rw [this]; rfl
      rw [Nat.zero_add] at e4; simp [World.cell?, g2, e4]
    unfold Oper.wp execOp
    simp only [ho, resolve, invoke, builtin, Sem.run_bind, Sem.run_pure, Result.andThen_ok, List.map_toArray, List.map_cons, List.map_nil, hs, hx, hr]
    exact hK' _ _ (hK vb cp w' g1 hrow hbl)
theorem right_exp (w : World) (p : ProgV) (hp : RdP w.heap.size w p) (hn0 : 0 < w.heap.size) (hf : Fit p) (hmx : MxAt w) (h : checkP p = (0, 0)) :
    Calls Tryz.prog 18 #[.agg p.arr] w fun o w' => o = .returned (.bool true) ∧ Below w.heap.size w w' :=
  (right_any w p hp hn0 hf.names hf.weight hmx).mono fun o w' ⟨h1, h2⟩ => ⟨by rw [h1, h]; rfl, h2⟩
theorem small_one {W : World} {s : StmtV} (h : NowT W s) (n : Nat) (hn : W.heap.size = n) : Calls Tryz.prog 15 #[.slice (some ⟨n, 0, none⟩) 1 1] (W.alloc (.cells s.cells.toArray 49)) fun o w' => ∃ b : Nat, o = .returned (.agg (smallP ⟨some ⟨b, 0, none⟩, 1⟩ ⟨some ⟨n, 0, none⟩, 1⟩ [s]).arr) ∧ RdP w'.heap.size w' (smallP ⟨some ⟨b, 0, none⟩, 1⟩ ⟨some ⟨n, 0, none⟩, 1⟩ [s]) ∧ Below W.heap.size W w' := by
  subst hn
  have hb : Below W.heap.size W (W.alloc (.cells s.cells.toArray 49)) := (Below.refl _ _).alloc (Nat.le_refl _) _
  exact (small_exp ⟨some ⟨W.heap.size, 0, none⟩, 1⟩ [s] _ (stmts_one h)).mono fun o w' ⟨b, h1, h2, h3⟩ => ⟨b, h1, h2, hb.trans (h3.mono hb.size)⟩
theorem small_two {W : World} {s1 s2 : StmtV} (h1 : NowT W s1) (h2 : NowT W s2) : Calls Tryz.prog 15 #[.slice (some ⟨W.heap.size, 0, none⟩) 2 2] (W.alloc (.cells (s1.cells ++ s2.cells).toArray 49)) fun o w' => ∃ b : Nat, o = .returned (.agg (smallP ⟨some ⟨b, 0, none⟩, 1⟩ ⟨some ⟨W.heap.size, 0, none⟩, 2⟩ [s1, s2]).arr) ∧ RdP w'.heap.size w' (smallP ⟨some ⟨b, 0, none⟩, 1⟩ ⟨some ⟨W.heap.size, 0, none⟩, 2⟩ [s1, s2]) ∧ Below W.heap.size W w' := by
  have hb : Below W.heap.size W (W.alloc (.cells (s1.cells ++ s2.cells).toArray 49)) := (Below.refl _ _).alloc (Nat.le_refl _) _
  exact (small_exp ⟨some ⟨W.heap.size, 0, none⟩, 2⟩ [s1, s2] _ (stmts_two h1 h2)).mono fun o w' ⟨b, h1, h2, h3⟩ => ⟨b, h1, h2, hb.trans (h3.mono hb.size)⟩
theorem cast_now {W : World} {e : ExprV} (he : NowX W e) : NowX (W.alloc (.cells e.cells.toArray 34)) (castE ⟨some ⟨W.heap.size, 0, none⟩, 1⟩ e) :=
  .mk _ (show (0 : Int) ≤ 8 ∧ (8 : Int) ≤ 255 by decide) (show (0 : Int) ≤ 0 ∧ (0 : Int) ≤ 255 by decide) (show (0 : Int) ≤ 0 ∧ (0 : Int) ≤ 4294967295 by decide) (show (Lit.int .i64 3).wf = true by decide) (show (0 : Nat) ≤ maxLen by decide) (row_one (enc := ExprV.cells) (x := e) (World.alloc_heap_new _ _)) (fun y hy => by
    have : y = e := by simpa [castE, ExprV.subs] using hy
    rw [this]; exact he.on ((Below.refl _ _).alloc (Nat.le_refl _) _))
theorem while_now {W : World} (he : NowX W (nameE xB)) : NowT (W.alloc (.cells (nameE xB).cells.toArray 34)) (whileT ⟨some ⟨W.heap.size, 0, none⟩, 1⟩) :=
  .mk _ (show (0 : Int) ≤ 7 ∧ (7 : Int) ≤ 255 by decide) (show (Lit.int .i64 0).wf = true by decide) (show (0 : Nat) ≤ maxLen by decide) (row_one (enc := ExprV.cells) (x := nameE xB) (World.alloc_heap_new _ _)) (fun y hy => by
    have : y = nameE xB := by simpa [whileT, StmtV.exprs] using hy
    rw [this]; exact he.on ((Below.refl _ _).alloc (Nat.le_refl _) _)) RowOf.nil (fun _ h => absurd h (by simp [whileT, StmtV.thn])) RowOf.nil (fun _ h => absurd h (by simp [whileT, StmtV.els]))
theorem set_cast {W : World} {e : ExprV} (he : NowX W e) : Calls Tryz.prog 23 #[.string xB, .agg #[.int .u8 8, .int .u8 0, .int .u32 0, .int .i64 3, .string ⟨#[]⟩, .slice (some ⟨W.heap.size, 0, none⟩) 1 1]] (W.alloc (.cells e.cells.toArray 34)) fun o w' => ∃ sp : Sp, o = .returned (.agg #[.int .u8 1, .string xB, .slice sp.at_ 1 sp.cap, .int .i64 0, .slice none 0 0, .slice none 0 0]) ∧ NowT w' (setT sp xB (castE ⟨some ⟨W.heap.size, 0, none⟩, 1⟩ e)) ∧ Below W.heap.size W w' := by
  have hb : Below W.heap.size W (W.alloc (.cells e.cells.toArray 34)) := (Below.refl _ _).alloc (Nat.le_refl _) _
  exact (set_exp xB (by decide) (castE ⟨some ⟨W.heap.size, 0, none⟩, 1⟩ e) _ (cast_now he)).mono fun o w' ⟨sp, h1, h2, h3⟩ => ⟨sp, h1, h2, hb.trans (h3.mono hb.size)⟩
theorem small_while {W : World} (he : NowX W (nameE xB)) : Calls Tryz.prog 15 #[.slice (some ⟨W.heap.size + 1, 0, none⟩) 1 1] ((W.alloc (.cells (nameE xB).cells.toArray 34)).alloc (.cells (whileT ⟨some ⟨W.heap.size, 0, none⟩, 1⟩).cells.toArray 49)) fun o w' => ∃ b : Nat, o = .returned (.agg (smallP ⟨some ⟨b, 0, none⟩, 1⟩ ⟨some ⟨W.heap.size + 1, 0, none⟩, 1⟩ [whileT ⟨some ⟨W.heap.size, 0, none⟩, 1⟩]).arr) ∧ RdP w'.heap.size w' (smallP ⟨some ⟨b, 0, none⟩, 1⟩ ⟨some ⟨W.heap.size + 1, 0, none⟩, 1⟩ [whileT ⟨some ⟨W.heap.size, 0, none⟩, 1⟩]) ∧ Below W.heap.size W w' := by
  have hb : Below W.heap.size W (W.alloc (.cells (nameE xB).cells.toArray 34)) := (Below.refl _ _).alloc (Nat.le_refl _) _
  exact (small_one (while_now he) _ (by simp)).mono fun o w' ⟨b, h1, h2, h3⟩ => ⟨b, h1, h2, hb.trans (h3.mono hb.size)⟩
end Go.Proofs.YthcboallnbaimaaGreatDoor
namespace Go.Proofs.YthcboallnbaimaaGreatDoor
open Go Go.RowKit Go.Maps
set_option maxRecDepth 1000000 in
set_option maxHeartbeats 16000000 in
theorem awake_any (w : World) (hn0 : 0 < w.heap.size) (hmx : MxAt w) : Calls Tryz.prog 12 #[] w fun o w' => o = .returned (.bool true) ∧ Below w.heap.size w w' := by
  have HSM := Lib.hid (fun W => small_exp Sp.none [] W none_stmts)
  have HMX := Lib.hid hmx
  clear hmx
  go_enter Tryz.func12, Tryz.ntmps12
  go_wp2_with fail
  refine (HSM.out _).mono ?_
  rintro o w1 ⟨b1, rfl, hr1, hb1⟩
  have hx1 := World.alloc_heap_new w1 (.cells (smallP ⟨some ⟨b1, 0, none⟩, 1⟩ Sp.none []).arr 39)
  have hb12 : Below w1.heap.size w1 (w1.alloc (.cells (smallP ⟨some ⟨b1, 0, none⟩, 1⟩ Sp.none []).arr 39)) := (Below.refl _ _).alloc (Nat.le_refl _) _
  have HR1 := Lib.hid (hr1.below hb12)
  have HX1 := Lib.hid hx1
  have HB2 := Lib.hid (hb1.trans (hb12.mono hb1.size))
  have hwq1 := hb1.size
  clear hr1 hx1 hb1 hb12
  go_upto_region 2 with (first
    | (refine wpList_allocRow (t := 39) rfl rfl (run_zeroP _) ?_)
    | (refine wpList_storeNew (t := 39) rfl _ _ rfl rfl rfl (arr_size _) rfl (arr_one _) ?_)
    | fail)
  generalize w1.alloc (.cells (smallP ⟨some ⟨b1, 0, none⟩, 1⟩ Sp.none []).arr 39) = W2 at *
  generalize w1.heap.size = q1 at *
  have hq1 := (Array.getElem?_eq_some_iff.1 HX1.out).1
  generalize (Value.agg (smallP ⟨some ⟨b1, 0, none⟩, 1⟩ Sp.none []).arr) = va1
  go_wp2_with fail
  refine (call_exp _ _).mono ?_
  rintro o w3 ⟨rfl, hb3⟩
  have hq13 : q1 < w3.heap.size := by have := hb3.size; omega
  obtain ⟨g1, g2, g3, g4⟩ := alloc2 w3 (.cells #[.int .u8 8, .string ⟨#[112]⟩, .slice none 0 0, .int .i64 0, .slice none 0 0, .slice none 0 0] 49) (.cells #[.string ⟨#[112]⟩, .slice none 0 0, .slice (some ⟨w3.heap.size, 0, none⟩) 1 1] 47)
  have hx5 := (g4.block _ hq13).trans ((hb3.block _ hq1).trans HX1.out)
  have hr5 := HR1.out.below (((hb3.mono (Nat.le_of_lt hq1))).trans (g4.mono (by omega)))
  have HB5 := Lib.hid (HB2.out.trans ((hb3.mono HB2.out.size).trans (g4.mono (by have := hb3.size; have := HB2.out.size; omega))))
  have c13 := arr_cells hx5 13 (v := .slice none 0 0) rfl
  have f13 : ((w3.alloc (.cells #[.int .u8 8, .string ⟨#[112]⟩, .slice none 0 0, .int .i64 0, .slice none 0 0, .slice none 0 0] 49)).alloc (.cells #[.string ⟨#[112]⟩, .slice none 0 0, .slice (some ⟨w3.heap.size, 0, none⟩) 1 1] 47)).frozen? ⟨q1, 13, none⟩ = false := by simp [World.frozen?, hx5]
  have HI6 := Lib.hid (loop_made hx5 hr5 g1 g2 (by omega) (by omega))
  have HB6 := Lib.hid (HB5.out.setCell (p := ⟨q1, 13, none⟩) (by simp only; omega) (.slice (some ⟨w3.heap.size + 1, 0, none⟩) 1 1))
  clear hb3 hx5 hr5 HR1 HX1 HB2 HB5 g1 g2
  have eW : ((w3.alloc (.cells #[.int .u8 8, .string ⟨#[112]⟩, .slice none 0 0, .int .i64 0, .slice none 0 0, .slice none 0 0] 49)).alloc (.cells #[.string ⟨#[112]⟩, .slice none 0 0, .slice (some ⟨w3.heap.size, 0, none⟩) 1 1] 47)).setCell ⟨q1, 13, none⟩ (.slice (some ⟨w3.heap.size + 1, 0, none⟩) 1 1) = ((w3.setCell ⟨q1, 13, none⟩ (.slice (some ⟨w3.heap.size + 1, 0, none⟩) 1 1)).alloc (.cells #[.int .u8 8, .string ⟨#[112]⟩, .slice none 0 0, .int .i64 0, .slice none 0 0, .slice none 0 0] 49)).alloc (.cells #[.string ⟨#[112]⟩, .slice none 0 0, .slice (some ⟨w3.heap.size, 0, none⟩) 1 1] 47) := by
    rw [World.setCell_alloc_past _ q1 13 (.slice (some ⟨w3.heap.size + 1, 0, none⟩) 1 1) (by simp; omega), World.setCell_alloc_past _ q1 13 (.slice (some ⟨w3.heap.size + 1, 0, none⟩) 1 1) hq13]
  rw [eW] at HI6 HB6
  clear eW
  go_upto_region 3 with fail
  generalize hW6 : ((w3.setCell ⟨q1, 13, none⟩ (.slice (some ⟨w3.heap.size + 1, 0, none⟩) 1 1)).alloc (.cells #[.int .u8 8, .string ⟨#[112]⟩, .slice none 0 0, .int .i64 0, .slice none 0 0, .slice none 0 0] 49)).alloc (.cells #[.string ⟨#[112]⟩, .slice none 0 0, .slice (some ⟨w3.heap.size, 0, none⟩) 1 1] 47) = W6 at *
  clear c13 f13 hW6 g4
  go_wp2_with fail
  refine (HSM.out _).mono ?_
  rintro o w7 ⟨b2, rfl, hr7, hb7⟩
  have hb8 : Below w7.heap.size w7 (w7.alloc (.cells (smallP ⟨some ⟨b2, 0, none⟩, 1⟩ Sp.none []).arr 39)) := (Below.refl _ _).alloc (Nat.le_refl _) _
  have HX8 := Lib.hid (World.alloc_heap_new w7 (.cells (smallP ⟨some ⟨b2, 0, none⟩, 1⟩ Sp.none []).arr 39))
  have HR8 := Lib.hid (hr7.below hb8)
  have HI8 := Lib.hid (((HI6.out.at.below hb7).more hb7.size).below hb8)
  have HB8 := Lib.hid (HB6.out.trans ((hb7.trans (hb8.mono hb7.size)).mono HB6.out.size))
  have hwq2 : w.heap.size ≤ w7.heap.size := Nat.le_trans HB6.out.size hb7.size
  have hq12 : q1 < w7.heap.size := Nat.lt_of_lt_of_le (Array.getElem?_eq_some_iff.1 HI6.out.box).1 hb7.size
  clear hr7 hb7 hb8 HI6 HB6
  go_upto_region 4 with (first
    | (refine wpList_allocRow (t := 39) rfl rfl (run_zeroP _) ?_)
    | (refine wpList_storeNew (t := 39) rfl _ _ rfl rfl rfl (arr_size _) rfl (arr_one _) ?_)
    | fail)
  generalize w7.alloc (.cells (smallP ⟨some ⟨b2, 0, none⟩, 1⟩ Sp.none []).arr 39) = W8 at *
  generalize w7.heap.size = q2 at *
  generalize (Value.agg (smallP ⟨some ⟨b2, 0, none⟩, 1⟩ Sp.none []).arr) = va2
  go_wp2_with fail
  refine (name_exp _ _).mono ?_
  rintro o w9 ⟨rfl, hb9⟩
  have hx9 := (hb9.block _ (Array.getElem?_eq_some_iff.1 HX8.out).1).trans HX8.out
  have hr9 := HR8.out.below (hb9.mono (Nat.le_of_lt (Array.getElem?_eq_some_iff.1 HX8.out).1))
  have HI10 : Hid (InBox ((((((w9.setCell ⟨q2, 6, none⟩ (.int .u8 2)).setCell ⟨q2, 7, none⟩ (.int .u8 0)).setCell ⟨q2, 8, none⟩ (.int .u32 0)).setCell ⟨q2, 9, none⟩ (.int .i64 0)).setCell ⟨q2, 10, none⟩ (.string ⟨#[120]⟩)).setCell ⟨q2, 11, none⟩ (.slice none 0 0)) q2 (requireP ⟨some ⟨b2, 0, none⟩, 1⟩ Sp.none)) := Lib.hid (require_made hx9 hr9)
  have hf9 : ∀ i, w9.frozen? ⟨q2, i, none⟩ = false := fun i => by simp [World.frozen?, hx9]
  have d6 := arr_cells hx9 6 (v := .int .u8 1) rfl
  have d7 := arr_cells hx9 7 (v := .int .u8 0) rfl
  have d8 := arr_cells hx9 8 (v := .int .u32 1) rfl
  have d9 := arr_cells hx9 9 (v := .int .i64 1) rfl
  have d10 := arr_cells hx9 10 (v := .string ⟨#[]⟩) rfl
  have d11 := arr_cells hx9 11 (v := .slice none 0 0) rfl
  have e6 := hf9 6
  have e7 := hf9 7
  have e8 := hf9 8
  have e9 := hf9 9
  have e10 := hf9 10
  have e11 := hf9 11
  have hlow10 : ∀ n, n ≤ q2 → Below n w9 ((((((w9.setCell ⟨q2, 6, none⟩ (.int .u8 2)).setCell ⟨q2, 7, none⟩ (.int .u8 0)).setCell ⟨q2, 8, none⟩ (.int .u32 0)).setCell ⟨q2, 9, none⟩ (.int .i64 0)).setCell ⟨q2, 10, none⟩ (.string ⟨#[120]⟩)).setCell ⟨q2, 11, none⟩ (.slice none 0 0)) := fun n hn =>
    ((((((Below.refl n w9).setCell (p := ⟨q2, 6, none⟩) hn (.int .u8 2)).setCell (p := ⟨q2, 7, none⟩) hn (.int .u8 0)).setCell (p := ⟨q2, 8, none⟩) hn (.int .u32 0)).setCell (p := ⟨q2, 9, none⟩) hn (.int .i64 0)).setCell (p := ⟨q2, 10, none⟩) hn (.string ⟨#[120]⟩)).setCell (p := ⟨q2, 11, none⟩) hn (.slice none 0 0)
  have HB10 := Lib.hid ((HB8.out.trans (hb9.mono HB8.out.size)).trans (hlow10 _ hwq2))
  have HL10 := Lib.hid ((HI8.out.below (hb9.mono (Nat.le_of_lt (Array.getElem?_eq_some_iff.1 HX8.out).1))).below (hlow10 _ (Nat.le_refl _)))
  have hq2w : q2 < ((((((w9.setCell ⟨q2, 6, none⟩ (.int .u8 2)).setCell ⟨q2, 7, none⟩ (.int .u8 0)).setCell ⟨q2, 8, none⟩ (.int .u32 0)).setCell ⟨q2, 9, none⟩ (.int .i64 0)).setCell ⟨q2, 10, none⟩ (.string ⟨#[120]⟩)).setCell ⟨q2, 11, none⟩ (.slice none 0 0)).heap.size := (Array.getElem?_eq_some_iff.1 HI10.out.box).1
  clear hx9 hr9 hf9 hlow10 hb9 HB8 HI8 HX8 HR8
  go_upto_region 5 with fail
  generalize ((((((w9.setCell ⟨q2, 6, none⟩ (.int .u8 2)).setCell ⟨q2, 7, none⟩ (.int .u8 0)).setCell ⟨q2, 8, none⟩ (.int .u32 0)).setCell ⟨q2, 9, none⟩ (.int .i64 0)).setCell ⟨q2, 10, none⟩ (.string ⟨#[120]⟩)).setCell ⟨q2, 11, none⟩ (.slice none 0 0)) = W10 at *
  clear d6 d7 d8 d9 d10 d11 e6 e7 e8 e9 e10 e11
  go_wp2_with fail
  refine (HSM.out _).mono ?_
  rintro o w11 ⟨b3, rfl, hr11, hb11⟩
  have hb12 : Below w11.heap.size w11 (w11.alloc (.cells (smallP ⟨some ⟨b3, 0, none⟩, 1⟩ Sp.none []).arr 39)) := (Below.refl _ _).alloc (Nat.le_refl _) _
  have HX12 := Lib.hid (World.alloc_heap_new w11 (.cells (smallP ⟨some ⟨b3, 0, none⟩, 1⟩ Sp.none []).arr 39))
  have HR12 := Lib.hid (hr11.below hb12)
  have hwq3 : w.heap.size ≤ w11.heap.size := Nat.le_trans HB10.out.size hb11.size
  have hq23 : q2 < w11.heap.size := Nat.lt_of_lt_of_le hq2w hb11.size
  have HB12 := Lib.hid (HB10.out.trans ((hb11.trans (hb12.mono hb11.size)).mono HB10.out.size))
  have HL12 := Lib.hid (((HL10.out.more (Nat.le_of_lt hq2w)).below hb11).more hb11.size |>.below hb12)
  have HI12 := Lib.hid (((HI10.out.at.below hb11).more hb11.size).below hb12)
  clear hr11 hb11 hb12 HB10 HL10 HI10
  go_upto_region 6 with (first
    | (refine wpList_allocRow (t := 39) rfl rfl (run_zeroP _) ?_)
    | (refine wpList_storeNew (t := 39) rfl _ _ rfl rfl rfl (arr_size _) rfl (arr_one _) ?_)
    | fail)
  generalize w11.alloc (.cells (smallP ⟨some ⟨b3, 0, none⟩, 1⟩ Sp.none []).arr 39) = W12 at *
  generalize w11.heap.size = q3 at *
  generalize (Value.agg (smallP ⟨some ⟨b3, 0, none⟩, 1⟩ Sp.none []).arr) = va3
  have hq3 := (Array.getElem?_eq_some_iff.1 HX12.out).1
  have c4 := arr_cells HX12.out 4 (v := .slice (some ⟨b3, 0, none⟩) 1 1) rfl
  have HV12 := Lib.hid (HR12.out.vars.row)
  have hbA : Below W12.heap.size W12 (W12.alloc (.cells #[.string ⟨#[120]⟩, .int .i64 1, .int .i64 0] 44)) := (Below.refl _ _).alloc (Nat.le_refl _) _
  have HGA := Lib.hid (World.alloc_heap_new W12 (.cells #[.string ⟨#[120]⟩, .int .i64 1, .int .i64 0] 44))
  have HVA := Lib.hid (HV12.out.below (hbA.mono (Nat.le_of_lt hq3)))
  have hsA : W12.heap.size ≤ (W12.alloc (.cells #[.string ⟨#[120]⟩, .int .i64 1, .int .i64 0] 44)).heap.size := hbA.size
  have HBA := Lib.hid hbA
  clear hbA
  go_wp2_with (first | (at_builtin; refine wpList_append_decl rfl _ _ rfl _ _ _ rfl HVA.out rfl HGA.out ?_) | fail)
  intro vb c w14 hvb hrow14 hb14
  have hbAll := HBA.out.trans (hb14.mono (Nat.le_succ _))
  have hx14 := (hbAll.block _ hq3).trans HX12.out
  have hq3le : q3 ≤ W12.heap.size := Nat.le_of_lt hq3
  have hr14 := HR12.out.below (hbAll.mono hq3le)
  have d4 := arr_cells hx14 4 (v := .slice (some ⟨b3, 0, none⟩) 1 1) rfl
  have f4 : w14.frozen? ⟨q3, 4, none⟩ = false := by simp [World.frozen?, hx14]
  have HI15 := twice_made hx14 hr14 (hrow14.setCell ⟨q3, 4, none⟩ (show q3 ≠ vb by omega) (.slice (some ⟨vb, 0, none⟩) 2 c))
  have hs15 : Below q3 w14 (w14.setCell ⟨q3, 4, none⟩ (.slice (some ⟨vb, 0, none⟩) 2 c)) := (Below.refl _ _).setCell (p := ⟨q3, 4, none⟩) (Nat.le_refl _) _
  have hq15 : q3 ≤ (w14.setCell ⟨q3, 4, none⟩ (.slice (some ⟨vb, 0, none⟩) 2 c)).heap.size := Nat.le_trans hq3le (Nat.le_trans hbAll.size hs15.size)
  have HAA := Lib.hid (AwSt.mk ((HL12.out.below ((hbAll.mono hq3le).trans hs15)).inb hq15) ((HI12.out.below ((hbAll.mono hq3le).trans hs15)).inb hq15) HI15 (HB12.out.trans ((hbAll.mono (Nat.le_trans hwq3 hq3le)).trans (hs15.mono hwq3))))
  clear hbAll hx14 hr14 HI15 hs15 hq15 hrow14 hb14 HB12 HL12 HI12 HX12 HR12 HV12 HGA HVA HBA c4 hsA
  go_upto_region 7 with fail
  generalize hW15 : w14.setCell ⟨q3, 4, none⟩ (.slice (some ⟨vb, 0, none⟩) 2 c) = W15 at *
  clear d4 f4 hW15

  go_wp2_with fail
  refine (HSM.out _).mono ?_
  rintro o w16 ⟨b16, rfl, hr16, hb16⟩
  have HA16 := Lib.hid (HAA.out.on hb16)
  have HP_16 := Lib.hid (hr16)
  clear hb16 HAA
  clear hr16
  go_wp2_with fail
  refine (right_exp _ _ HP_16.out (Nat.lt_of_lt_of_le hn0 HA16.out.low.size) (fit0 _ _) (HMX.out.below HA16.out.low hn0) (chk0 _ _)).mono ?_
  rintro o w17 ⟨rfl, hb17⟩
  have HA17 := Lib.hid (HA16.out.on hb17)
  have HP_17 := Lib.hid (HP_16.out.on hb17)
  clear HP_16
  clear hb17 HA16
  clear HP_17
  go_wp2_with fail
  refine (num_exp 1 3 _).mono ?_
  rintro o w18 ⟨rfl, hb18⟩
  have HA18 := Lib.hid (HA17.out.on hb18)
  have HX_18 := Lib.hid (num_now w18 1 3 (by decide) (by decide))
  clear hb18 HA17
  go_wp2_with fail
  refine (set_exp xB (by decide) (numE 1 3) _ HX_18.out).mono ?_
  rintro o w19 ⟨sp19, rfl, ht19, hb19⟩
  have HA19 := Lib.hid (HA18.out.on hb19)
  have HX_19 := Lib.hid (HX_18.out.on hb19)
  clear HX_18
  have HT_19 := Lib.hid (ht19)
  clear hb19 HA18
  clear ht19
  clear HX_19
  go_wp2_with fail
  refine (num_exp 0 1 _).mono ?_
  rintro o w20 ⟨rfl, hb20⟩
  have HA20 := Lib.hid (HA19.out.on hb20)
  have HT_20 := Lib.hid (HT_19.out.on hb20)
  clear HT_19
  have HX_20 := Lib.hid (num_now w20 0 1 (by decide) (by decide))
  clear hb20 HA19
  go_wp2_with fail
  refine (name_exp xB _).mono ?_
  rintro o w21 ⟨rfl, hb21⟩
  have HA21 := Lib.hid (HA20.out.on hb21)
  have HT_21 := Lib.hid (HT_20.out.on hb21)
  clear HT_20
  have HX_21 := Lib.hid (HX_20.out.on hb21)
  clear HX_20
  have HY_21 := Lib.hid (name_now w21 xB (by decide))
  clear hb21 HA20
  go_wp2_with fail
  refine (write_exp (numE 0 1) (nameE xB) _ HX_21.out HY_21.out).mono ?_
  rintro o w22 ⟨sp22, rfl, ht22, hb22⟩
  have HA22 := Lib.hid (HA21.out.on hb22)
  have HT_22 := Lib.hid (HT_21.out.on hb22)
  clear HT_21
  have HX_22 := Lib.hid (HX_21.out.on hb22)
  clear HX_21
  have HY_22 := Lib.hid (HY_21.out.on hb22)
  clear HY_21
  have HU_22 := Lib.hid (ht22)
  clear hb22 HA21
  clear ht22
  clear HX_22
  clear HY_22
  go_wp2_with fail
  refine (small_two HT_22.out HU_22.out).mono ?_
  rintro o w23 ⟨b23, rfl, hr23, hb23⟩
  have HA23 := Lib.hid (HA22.out.on hb23)
  have HT_23 := Lib.hid (HT_22.out.on hb23)
  clear HT_22
  have HU_23 := Lib.hid (HU_22.out.on hb23)
  clear HU_22
  have HP_23 := Lib.hid (hr23)
  clear hb23 HA22
  clear hr23
  clear HT_23
  clear HU_23
  go_wp2_with fail
  refine (wrong_exp _ _ HP_23.out (Nat.lt_of_lt_of_le hn0 HA23.out.low.size) (fit1 _ _ _ _) (HMX.out.below HA23.out.low hn0) 5 322 (chk1 _ _ _ _)).mono ?_
  rintro o w24 ⟨rfl, hb24⟩
  have HA24 := Lib.hid (HA23.out.on hb24)
  have HP_24 := Lib.hid (HP_23.out.on hb24)
  clear HP_23
  clear hb24 HA23
  clear HP_24
  go_wp2_with fail
  refine (num_exp 1 2 _).mono ?_
  rintro o w25 ⟨rfl, hb25⟩
  have HA25 := Lib.hid (HA24.out.on hb25)
  have HX_25 := Lib.hid (num_now w25 1 2 (by decide) (by decide))
  clear hb25 HA24
  go_wp2_with fail
  refine (set_exp xB (by decide) (numE 1 2) _ HX_25.out).mono ?_
  rintro o w26 ⟨sp26, rfl, ht26, hb26⟩
  have HA26 := Lib.hid (HA25.out.on hb26)
  have HX_26 := Lib.hid (HX_25.out.on hb26)
  clear HX_25
  have HT_26 := Lib.hid (ht26)
  clear hb26 HA25
  clear ht26
  clear HX_26
  go_wp2_with fail
  refine (small_one HT_26.out _ rfl).mono ?_
  rintro o w27 ⟨b27, rfl, hr27, hb27⟩
  have HA27 := Lib.hid (HA26.out.on hb27)
  have HT_27 := Lib.hid (HT_26.out.on hb27)
  clear HT_26
  have HP_27 := Lib.hid (hr27)
  clear hb27 HA26
  clear hr27
  clear HT_27
  go_wp2_with fail
  refine (wrong_exp _ _ HP_27.out (Nat.lt_of_lt_of_le hn0 HA27.out.low.size) (fit2 _ _ _ _) (HMX.out.below HA27.out.low hn0) 3 322 (chk2 _ _ _)).mono ?_
  rintro o w28 ⟨rfl, hb28⟩
  have HA28 := Lib.hid (HA27.out.on hb28)
  have HP_28 := Lib.hid (HP_27.out.on hb28)
  clear HP_27
  clear hb28 HA27
  clear HP_28
  go_wp2_with fail
  refine (num_exp 1 2 _).mono ?_
  rintro o w29 ⟨rfl, hb29⟩
  have HA29 := Lib.hid (HA28.out.on hb29)
  have HX_29 := Lib.hid (num_now w29 1 2 (by decide) (by decide))
  clear hb29 HA28
  go_wp2_with fail
  refine (set_exp ⟨#[121]⟩ (by decide) (numE 1 2) _ HX_29.out).mono ?_
  rintro o w30 ⟨sp30, rfl, ht30, hb30⟩
  have HA30 := Lib.hid (HA29.out.on hb30)
  have HX_30 := Lib.hid (HX_29.out.on hb30)
  clear HX_29
  have HT_30 := Lib.hid (ht30)
  clear hb30 HA29
  clear ht30
  clear HX_30
  go_wp2_with fail
  refine (small_one HT_30.out _ rfl).mono ?_
  rintro o w31 ⟨b31, rfl, hr31, hb31⟩
  have HA31 := Lib.hid (HA30.out.on hb31)
  have HT_31 := Lib.hid (HT_30.out.on hb31)
  clear HT_30
  have HP_31 := Lib.hid (hr31)
  clear hb31 HA30
  clear hr31
  clear HT_31
  go_wp2_with fail
  refine (wrong_exp _ _ HP_31.out (Nat.lt_of_lt_of_le hn0 HA31.out.low.size) (fit2 _ _ _ _) (HMX.out.below HA31.out.low hn0) 3 321 (chk3 _ _ _)).mono ?_
  rintro o w32 ⟨rfl, hb32⟩
  have HA32 := Lib.hid (HA31.out.on hb32)
  have HP_32 := Lib.hid (HP_31.out.on hb32)
  clear HP_31
  clear hb32 HA31
  clear HP_32
  go_wp2_with (first | (refine wpList_load_row_g (by rfl) 39 _ rfl q1 rfl 39 _ (0, 0) _ HA32.out.i1.box Tryz.underlying39 rfl (arr_size _) ?_) | fail)
  refine (wrong_exp _ _ HA32.out.i1.rd (Nat.lt_of_lt_of_le hn0 HA32.out.low.size) (fit4 _ _ _ _ _) (HMX.out.below HA32.out.low hn0) 4 328 (chk4 _ _ _ _ _)).mono ?_
  rintro o w33 ⟨rfl, hb33⟩
  have HA33 := Lib.hid (HA32.out.on hb33)
  clear hb33 HA32
  go_wp2_with fail
  refine (name_exp xB _).mono ?_
  rintro o w34 ⟨rfl, hb34⟩
  have HA34 := Lib.hid (HA33.out.on hb34)
  have HY_34 := Lib.hid (name_now w34 xB (by decide))
  clear hb34 HA33
  go_wp2_with fail
  refine (small_while HY_34.out).mono ?_
  rintro o w35 ⟨b35, rfl, hr35, hb35⟩
  have HA35 := Lib.hid (HA34.out.on hb35)
  have HY_35 := Lib.hid (HY_34.out.on hb35)
  clear HY_34
  have HP_35 := Lib.hid (hr35)
  clear hb35 HA34
  clear hr35
  clear HY_35
  go_wp2_with fail
  refine (wrong_exp _ _ HP_35.out (Nat.lt_of_lt_of_le hn0 HA35.out.low.size) (fit5 _ _ _) (HMX.out.below HA35.out.low hn0) 3 329 (chk5 _ _ _)).mono ?_
  rintro o w36 ⟨rfl, hb36⟩
  have HA36 := Lib.hid (HA35.out.on hb36)
  have HP_36 := Lib.hid (HP_35.out.on hb36)
  clear HP_35
  clear hb36 HA35
  clear HP_36
  go_wp2_with (first | (refine wpList_load_row_g (by rfl) 39 _ rfl q2 rfl 39 _ (0, 0) _ HA36.out.i2.box Tryz.underlying39 rfl (arr_size _) ?_) | fail)
  refine (wrong_exp _ _ HA36.out.i2.rd (Nat.lt_of_lt_of_le hn0 HA36.out.low.size) (fit6 _ _) (HMX.out.below HA36.out.low hn0) 2 326 (chk6 _ _)).mono ?_
  rintro o w37 ⟨rfl, hb37⟩
  have HA37 := Lib.hid (HA36.out.on hb37)
  clear hb37 HA36
  go_wp2_with fail
  refine (num_exp 5 2 _).mono ?_
  rintro o w38 ⟨rfl, hb38⟩
  have HA38 := Lib.hid (HA37.out.on hb38)
  have HX_38 := Lib.hid (num_now w38 5 2 (by decide) (by decide))
  clear hb38 HA37
  go_wp2_with fail
  refine (set_cast HX_38.out).mono ?_
  rintro o w39 ⟨sp39, rfl, ht39, hb39⟩
  have HA39 := Lib.hid (HA38.out.on hb39)
  have HX_39 := Lib.hid (HX_38.out.on hb39)
  clear HX_38
  have HT_39 := Lib.hid (ht39)
  clear hb39 HA38
  clear ht39
  clear HX_39
  go_wp2_with fail
  refine (small_one HT_39.out _ rfl).mono ?_
  rintro o w40 ⟨b40, rfl, hr40, hb40⟩
  have HA40 := Lib.hid (HA39.out.on hb40)
  have HT_40 := Lib.hid (HT_39.out.on hb40)
  clear HT_39
  have HP_40 := Lib.hid (hr40)
  clear hb40 HA39
  clear hr40
  clear HT_40
  go_wp2_with fail
  refine (wrong_exp _ _ HP_40.out (Nat.lt_of_lt_of_le hn0 HA40.out.low.size) (fit7 _ _ _ _) (HMX.out.below HA40.out.low hn0) 5 322 (chk7 _ _ _ _)).mono ?_
  rintro o w41 ⟨rfl, hb41⟩
  have HA41 := Lib.hid (HA40.out.on hb41)
  have HP_41 := Lib.hid (HP_40.out.on hb41)
  clear HP_40
  clear hb41 HA40
  clear HP_41
  go_wp2_with (first | (refine wpList_load_row_g (by rfl) 39 _ rfl q3 rfl 39 _ (0, 0) _ HA41.out.i3.box Tryz.underlying39 rfl (arr_size _) ?_) | fail)
  refine (wrong_exp _ _ HA41.out.i3.rd (Nat.lt_of_lt_of_le hn0 HA41.out.low.size) (fit8 _ _) (HMX.out.below HA41.out.low hn0) 2 321 (chk8 _ _)).mono ?_
  rintro o w42 ⟨rfl, hb42⟩
  have HA42 := Lib.hid (HA41.out.on hb42)
  clear hb42 HA41
  go_wp2_with fail
  go_ret
  exact ⟨rfl, HA42.out.low⟩
end Go.Proofs.YthcboallnbaimaaGreatDoor
namespace Go.Proofs.YthcboallnbaimaaGreatDoor
open Go Go.RowKit Go.Maps
/-- What the reference asks of the byte at i. -/
def okC (i : Nat) (c : UInt8) : Bool := lower c || (decide (i ≠ 0) && (decide (48 ≤ c.toNat ∧ c.toNat ≤ 57) || decide (c.toNat = 95)))
theorem bad_byte (s : ByteArray) (j : Nat) (hj : j < s.size) (h : okC j s[j] = false) : isName s.data.toList = false := by
  have hl : s.data.toList[j]? = some s[j] := by
    rw [Array.getElem?_toList]; exact Array.getElem?_eq_getElem hj
  unfold isName
  unfold okC at h
  rw [Bool.or_eq_false_iff] at h
  obtain ⟨h1, h2⟩ := h
  cases hc : s.data.toList with
  | nil => rw [hc] at hl; cases hl
  | cons c r =>
    rw [hc] at hl
    by_cases h0 : j = 0
    · subst h0
      have e : c = s[0] := by simpa using hl
      simp [e, h1]
    · have hmem : s[j] ∈ c :: r := List.mem_of_getElem? hl
      have hns : nameSign s[j] = false := by
        unfold nameSign
        rw [h1, Bool.false_or]
        simpa [h0] using h2
      have : (c :: r).all nameSign = false := by
        rw [Bool.eq_false_iff]; intro ha
        rw [List.all_eq_true] at ha
        rw [ha _ hmem] at hns; cases hns
      rw [this]; simp
theorem word_not {s : ByteArray} {x : List UInt8} (hx : x ∈ wordsB) (h : s.data.toList = x) : isName s.data.toList = false := by
  obtain ⟨w, hw, rfl⟩ := List.mem_map.1 hx
  unfold isName
  have : (words.all fun w => decide (w.toUTF8.data.toList ≠ s.data.toList)) = false := by
    rw [Bool.eq_false_iff]; intro ha
    rw [List.all_eq_true] at ha
    have := of_decide_eq_true (ha w hw)
    exact this h.symm
  rw [this]; simp
theorem name_good (s : ByteArray) (h : ∀ (j : Nat) (hj : j < s.size), okC j s[j] = true) (hw : ∀ x ∈ wordsB, s.data.toList ≠ x) : isName s.data.toList = (decide (0 < s.size) && decide (s.size < 17)) := by
  have hsz : s.data.toList.length = s.size := by simp
  have hall : s.data.toList.all nameSign = true := by
    rw [List.all_eq_true]
    intro c hc
    obtain ⟨j, hj, rfl⟩ := List.getElem_of_mem hc
    have := h j (by rw [← hsz]; exact hj)
    have e : s[j] = s.data.toList[j] := by rw [Array.getElem_toList]; rfl
    rw [e] at this
    unfold okC at this
    unfold nameSign
    rw [Bool.or_eq_true] at this
    rcases this with h1 | h1
    · rw [h1]; rfl
    · rw [Bool.and_eq_true] at h1
      rw [Bool.or_assoc, h1.2, Bool.or_true]
  have hws : (words.all fun w => decide (w.toUTF8.data.toList ≠ s.data.toList)) = true := by
    rw [List.all_eq_true]
    intro x hx
    exact decide_eq_true (fun e => hw _ (List.mem_map.2 ⟨x, hx, rfl⟩) e.symm)
  unfold isName
  rw [hall, hws, Bool.and_true, Bool.and_true, hsz]
  cases hc : s.data.toList with
  | nil =>
    have : s.size = 0 := by rw [← hsz, hc]; rfl
    simp [this]
  | cons c r =>
    have h0 : 0 < s.size := by rw [← hsz, hc]; simp
    have h2 := h 0 h0
    have e : s[0] = c := by
      have : s.data.toList[0]? = some s[0] := by rw [Array.getElem?_toList]; exact Array.getElem?_eq_getElem h0
      rw [hc] at this
      simpa using this.symm
    rw [e] at h2
    have h3 : lower c = true := by simpa [okC] using h2
    simp only [h3, Bool.and_true, h0, decide_true, Bool.true_and]
    exact decide_eq_decide.2 (by omega)
def wordsV : List ByteArray := wordsB.map fun x => ⟨x.toArray⟩
theorem wordsV_len : wordsV.length = 21 := by decide
theorem wordsV_mem {k : Nat} (h : k < wordsV.length) : (wordsV[k]).data.toList ∈ wordsB := by
  have : wordsV[k] ∈ wordsV := List.getElem_mem h
  obtain ⟨x, hx, e⟩ := List.mem_map.1 this
  rw [← e]; exact hx
theorem wordsV_all {s : ByteArray} (h : ∀ k (hk : k < wordsV.length), s ≠ wordsV[k]) : ∀ x ∈ wordsB, s.data.toList ≠ x := by
  intro x hx e
  have : (⟨x.toArray⟩ : ByteArray) ∈ wordsV := List.mem_map.2 ⟨x, hx, rfl⟩
  obtain ⟨k, hk, e2⟩ := List.getElem_of_mem this
  refine h k hk ?_
  rw [e2, ← e]
theorem words_any (w : World) : Calls Tryz.prog 39 #[] w fun o w' => (∃ b : Nat, o = .returned (.slice (some ⟨b, 0, none⟩) 21 21) ∧ b < w'.heap.size ∧ ∀ k (h : k < wordsV.length), w'.cell? ⟨b, k, none⟩ = some (.string wordsV[k])) ∧ Below w.heap.size w w' := by
  have key : ∀ A : Array Value, A = (wordsV.map Value.string).toArray → (∃ b : Nat, (Ending.returned (.slice (some ⟨w.heap.size, 0, none⟩) 21 21) : Ending) = .returned (.slice (some ⟨b, 0, none⟩) 21 21) ∧ b < (w.alloc (.cells A 9)).heap.size ∧ ∀ k (h : k < wordsV.length), (w.alloc (.cells A 9)).cell? ⟨b, k, none⟩ = some (.string wordsV[k])) ∧ Below w.heap.size w (w.alloc (.cells A 9)) := by
    rintro A rfl
    refine ⟨⟨w.heap.size, rfl, by simp, fun k hk => ?_⟩, (Below.refl _ _).alloc (Nat.le_refl _) _⟩
    have hA : (wordsV.map Value.string).toArray[k]? = some (.string wordsV[k]) := by simp [hk]
    generalize (wordsV.map Value.string).toArray = A at *
    have h := World.alloc_heap_new w (.cells A 9)
    simp only [World.cell?, h]
    exact hA
  go_enter Tryz.func39, Tryz.ntmps39
  go_wp2_with fail
  go_ret
  exact key _ (by kernel_rfl)
set_option maxRecDepth 100000 in
set_option maxHeartbeats 4000000 in
theorem refName_any (w : World) (s : ByteArray) (hs : s.size ≤ 100) :
    Calls Tryz.prog 11 #[.string s] w fun o w' => o = .returned (.bool (isName s.data.toList)) ∧ Below w.heap.size w w' := by
  have hW := fun W => words_any W
  have HW := Lib.hid hW
  clear hW
  go_enter Tryz.func11, Tryz.ntmps11
  go_wp2_with fail
  go_loopw [3] (fun v wr => ∃ j : Nat, j ≤ s.size ∧ v = .int .i64 j ∧ Hid (∀ (i : Nat) (hi : i < s.size), i < j → okC i s[i] = true) ∧ wr = w) (fun v _ => s.size - (intOf v).toNat)
  case atStart => exact ⟨0, Nat.zero_le _, rfl, Lib.hid (fun i _ h => absurd h (Nat.not_lt_zero _)), rfl⟩
  case round =>
    obtain ⟨j, hj, rfl, HOK, rfl⟩ := hrel
    by_cases hjk : j < s.size
    · have HBAD := Lib.hid (bad_byte s j hjk)
      have HON : Hid (okC j s[j] = true → ∀ (i : Nat) (hi : i < s.size), i < j + 1 → okC i s[i] = true) := Lib.hid fun h i hi hij => by
        by_cases e : i = j
        · subst e; exact h
        · exact HOK.out i hi (by omega)
      clear HOK
      obtain ⟨c, hc⟩ : ∃ c, s[j] = c := ⟨_, rfl⟩
      rw [hc] at HBAD HON
      obtain ⟨k, hk⟩ : ∃ k, c.toNat = k := ⟨_, rfl⟩
      have hck : (s[j]).toNat = k := by rw [hc, hk]
      have hok : okC j c = (decide (97 ≤ k ∧ k ≤ 122) || (decide (j ≠ 0) && (decide (48 ≤ k ∧ k ≤ 57) || decide (k = 95)))) := by unfold okC lower; rw [hk]
      rw [hok] at HBAD HON
      clear hc hk hok
      by_cases h97 : 97 ≤ k
      · by_cases h122 : k ≤ 122
        · have d97 : decide ((97 : Int) ≤ (k : Int)) = true := decide_eq_true (by omega)
          have d122 : decide ((k : Int) ≤ 122) = true := decide_eq_true (by omega)
          have HN := Lib.hid (HON.out (by simp; omega))
          clear HBAD HON h97 h122
          go_wp2_with fail
          case roundEnd => exact ⟨⟨j + 1, by omega, by simp, HN, trivial⟩, by simp only [intOf]; omega⟩
        · by_cases h0 : j = 0
          · have d97 : decide ((97 : Int) ≤ (k : Int)) = true := decide_eq_true (by omega)
            have d122 : decide ((k : Int) ≤ 122) = false := decide_eq_false (by omega)
            have dj : ((j : Int) == 0) = true := by simp; omega
            have HN := Lib.hid (HBAD.out (by simp; omega))
            clear HBAD HON h97 h122 h0
            go_wp2_with fail
            go_ret
            exact ⟨by rw [HN.out]; rfl, Below.refl _ _⟩
          · have d97 : decide ((97 : Int) ≤ (k : Int)) = true := decide_eq_true (by omega)
            have d122 : decide ((k : Int) ≤ 122) = false := decide_eq_false (by omega)
            have dj : ((j : Int) == 0) = false := by simp; omega
            have d48 : decide ((48 : Int) ≤ (k : Int)) = true := decide_eq_true (by omega)
            have d57 : decide ((k : Int) ≤ 57) = false := decide_eq_false (by omega)
            have d95 : ((k : Int) == 95) = false := by simp; omega
            have HN := Lib.hid (HBAD.out (by simp; omega))
            clear HBAD HON h97 h122 h0
            go_wp2_with fail
            go_ret
            exact ⟨by rw [HN.out]; rfl, Below.refl _ _⟩
      · by_cases h0 : j = 0
        · have d97 : decide ((97 : Int) ≤ (k : Int)) = false := decide_eq_false (by omega)
          have dj : ((j : Int) == 0) = true := by simp; omega
          have HN := Lib.hid (HBAD.out (by simp; omega))
          clear HBAD HON h97 h0
          go_wp2_with fail
          go_ret
          exact ⟨by rw [HN.out]; rfl, Below.refl _ _⟩
        · by_cases h48 : 48 ≤ k
          · by_cases h57 : k ≤ 57
            · have d97 : decide ((97 : Int) ≤ (k : Int)) = false := decide_eq_false (by omega)
              have dj : ((j : Int) == 0) = false := by simp; omega
              have d48 : decide ((48 : Int) ≤ (k : Int)) = true := decide_eq_true (by omega)
              have d57 : decide ((k : Int) ≤ 57) = true := decide_eq_true (by omega)
              have HN := Lib.hid (HON.out (by simp; omega))
              clear HBAD HON h97 h0 h48 h57
              go_wp2_with fail
              case roundEnd => exact ⟨⟨j + 1, by omega, by simp, HN, trivial⟩, by simp only [intOf]; omega⟩
            · by_cases h95 : k = 95
              · have d97 : decide ((97 : Int) ≤ (k : Int)) = false := decide_eq_false (by omega)
                have dj : ((j : Int) == 0) = false := by simp; omega
                have d48 : decide ((48 : Int) ≤ (k : Int)) = true := decide_eq_true (by omega)
                have d57 : decide ((k : Int) ≤ 57) = false := decide_eq_false (by omega)
                have d95 : ((k : Int) == 95) = true := by simp; omega
                have HN := Lib.hid (HON.out (by simp; omega))
                clear HBAD HON h97 h0 h48 h57 h95
                go_wp2_with fail
                case roundEnd => exact ⟨⟨j + 1, by omega, by simp, HN, trivial⟩, by simp only [intOf]; omega⟩
              · have d97 : decide ((97 : Int) ≤ (k : Int)) = false := decide_eq_false (by omega)
                have dj : ((j : Int) == 0) = false := by simp; omega
                have d48 : decide ((48 : Int) ≤ (k : Int)) = true := decide_eq_true (by omega)
                have d57 : decide ((k : Int) ≤ 57) = false := decide_eq_false (by omega)
                have d95 : ((k : Int) == 95) = false := by simp; omega
                have HN := Lib.hid (HBAD.out (by simp; omega))
                clear HBAD HON h97 h0 h48 h57 h95
                go_wp2_with fail
                go_ret
                exact ⟨by rw [HN.out]; rfl, Below.refl _ _⟩
          · have d97 : decide ((97 : Int) ≤ (k : Int)) = false := decide_eq_false (by omega)
            have dj : ((j : Int) == 0) = false := by simp; omega
            have d48 : decide ((48 : Int) ≤ (k : Int)) = false := decide_eq_false (by omega)
            have d95 : ((k : Int) == 95) = false := by simp; omega
            have HN := Lib.hid (HBAD.out (by simp; omega))
            clear HBAD HON h97 h0 h48
            go_wp2_with fail
            go_ret
            exact ⟨by rw [HN.out]; rfl, Below.refl _ _⟩
    · have hsj : s.size = j := by omega
      have HALL : Hid (∀ (i : Nat) (hi : i < s.size), okC i s[i] = true) := Lib.hid fun i hi => HOK.out i hi (by omega)
      clear HOK
      go_wp2_with fail
      refine (HW.out _).mono ?_
      clear HW
      rintro o w2 ⟨⟨b, rfl, hlt, hcl⟩, hb2⟩
      have HCL := Lib.hid hcl
      have HB2 := Lib.hid hb2
      clear hcl hb2
      go_wp2_with fail
      go_loopw [6] (fun v wx => ∃ j : Nat, j ≤ 21 ∧ v = .int .i64 j ∧ Hid (∀ i (hi : i < wordsV.length), i < j → s ≠ wordsV[i]) ∧ wx = w2) (fun v _ => 21 - (intOf v).toNat)
      case atStart => exact ⟨0, by omega, rfl, Lib.hid (fun i _ h => absurd h (Nat.not_lt_zero _)), rfl⟩
      case round =>
        obtain ⟨m, hm, rfl, HNO, rfl⟩ := hrel
        have hwl := wordsV_len
        by_cases hm21 : m < 21
        · have k0 := HCL.out m (by omega)
          have HMEM := Lib.hid (wordsV_mem (k := m) (by omega))
          have HON : Hid (s ≠ wordsV[m]'(by omega) → ∀ i (hi : i < wordsV.length), i < m + 1 → s ≠ wordsV[i]) := Lib.hid fun h i hi hij => by
            by_cases e : i = m
            · subst e; exact h
            · exact HNO.out i hi (by omega)
          clear HNO
          generalize wordsV[m]'(by omega) = x at *
          have hm0 : (0 : Int) ≤ (m : Int) := by omega
          have hm1 : (m : Int) < 21 := by omega
          by_cases e : s = x
          · have he : (s.toList == x.toList) = true := by rw [e]; simp
            have HN := Lib.hid (word_not (s := s) HMEM.out (by rw [e]))
            clear HON HMEM e
            go_wp2_with fail
            go_ret
            exact ⟨by rw [HN.out]; rfl, HB2.out⟩
          · have he : (s.toList == x.toList) = false := by
              rw [beq_eq_false_iff_ne]; intro h
              rw [ByteArray.toList_eq, ByteArray.toList_eq] at h
              exact e (ByteArray.ext (Array.toList_inj.1 h))
            have HN := Lib.hid (HON.out e)
            clear HON HMEM e
            go_wp2_with fail
            case roundEnd => exact ⟨⟨m + 1, by omega, by simp, HN, trivial⟩, by simp only [intOf]; omega⟩
        · obtain rfl : m = 21 := by omega
          have HG := Lib.hid (name_good s HALL.out (wordsV_all fun k hk => HNO.out k hk (by omega)))
          clear HNO HALL HCL hm21
          by_cases h0 : 0 < s.size
          · by_cases h17 : s.size < 17
            · have d0 : decide (0 < s.size) = true := decide_eq_true (by omega)
              have d17 : decide ((s.size : Int) < 17) = true := decide_eq_true (by omega)
              have HR : Hid (isName s.data.toList = true) := Lib.hid (by rw [HG.out, decide_eq_true h0, decide_eq_true h17]; rfl)
              clear h0 h17 HG hsj
              go_wp2_with fail
              go_ret
              exact ⟨by rw [HR.out]; rfl, HB2.out⟩
            · have d0 : decide (0 < s.size) = true := decide_eq_true (by omega)
              have d17 : decide ((s.size : Int) < 17) = false := decide_eq_false (by omega)
              have HR : Hid (isName s.data.toList = false) := Lib.hid (by rw [HG.out, decide_eq_true h0, decide_eq_false h17]; rfl)
              clear h0 h17 HG hsj
              go_wp2_with fail
              go_ret
              exact ⟨by rw [HR.out]; rfl, HB2.out⟩
          · have d0 : decide (0 < s.size) = false := decide_eq_false (by omega)
            have HR : Hid (isName s.data.toList = false) := Lib.hid (by rw [HG.out, decide_eq_false h0]; rfl)
            clear h0 HG hsj
            go_wp2_with fail
            go_ret
            exact ⟨by rw [HR.out]; rfl, HB2.out⟩
end Go.Proofs.YthcboallnbaimaaGreatDoor
namespace Go.Proofs.YthcboallnbaimaaGreatDoor
open Go Go.RowKit Go.Maps
attribute [local go_sem] Oper.semAt_some
def encP (x : Int × Int) : List Value := [.int .i64 x.1, .int .i64 x.2]
/-- The value v owns the list of problems l. -/
def PRow (B : Nat) (W : World) (v : Value) (l : List (Int × Int)) : Prop := W.ownsRow B 55 2 v l.length (l.flatMap encP)
theorem flat_len (l : List (Int × Int)) : (l.flatMap encP).length = l.length * 2 := by
  induction l with
  | nil => rfl
  | cons x l ih => rw [List.flatMap_cons, List.length_append, ih, List.length_cons]; show 2 + _ = _; omega
theorem PRow.kept {B : Nat} {W W' : World} {v : Value} {l : List (Int × Int)} (h : PRow B W v l) (hk : ∀ k cs fr, B ≤ k → W.heap[k]? = some (.cells cs 55 fr) → W'.heap[k]? = W.heap[k]?) : PRow B W' v l := by
  obtain ⟨hlen, ho⟩ := h
  refine ⟨hlen, ?_⟩
  rcases ho with h0 | ⟨g, cap, cur, rfl, h1, h2, h3⟩
  · exact .inl h0
  · exact .inr ⟨g, cap, cur, rfl, h1, (hk g _ _ h1 h2).trans h2, h3⟩
theorem PRow.on {B : Nat} {W W' : World} {v : Value} {l : List (Int × Int)} (h : PRow B W v l) (hb : Below W.heap.size W W') : PRow B W' v l := h.kept fun k _ _ _ hk => hb.block k (Array.getElem?_eq_some_iff.1 hk).1
theorem prob_info : (Tryz.prog.info? 55).map (fun i => (i.zero, i.size, i.bytes)) = some (some (.agg #[.int .i64 0, .int .i64 0]), 2, 16) := by kernel_rfl
theorem KeepsT.grown {T : TypeId → Bool} {B : Nat} {W W' : World} {row : Option Nat} {t : TypeId} (hg : W.grownBy W' row) (hr : ∀ r, row = some r → ∃ cs fr, W.heap[r]? = some (.cells cs t fr)) (ht : T t = false) : KeepsT T B W W' :=
  ⟨hg.size, fun k o _ hk ho => (hg.block k (Array.getElem?_eq_some_iff.1 hk).1 (fun e => by
    obtain ⟨cs, fr, h⟩ := hr k e.symm
    rw [h] at hk; cases hk; cases ho)).trans hk, fun k cs t' fr hk h2 => (hg.block k (Array.getElem?_eq_some_iff.1 hk).1 (fun e => by
    obtain ⟨cs', fr', h⟩ := hr k e.symm
    rw [h] at hk; cases hk; rw [ht] at h2; cases h2)).trans hk⟩
/-- The row that an append may turn. -/
theorem PRow.own {B : Nat} {W : World} {v : Value} {l : List (Int × Int)} (h : PRow B W v l) : ∀ r, v.ownBlock = some r → B ≤ r ∧ ∃ cs fr, W.heap[r]? = some (.cells cs 55 fr) := by
  intro r hr
  obtain ⟨_, ho⟩ := h
  rcases ho with ⟨rfl, _⟩ | ⟨g, cap, cur, rfl, h1, h2, _⟩
  · cases hr
  · cases hr; exact ⟨h1, _, _, h2⟩
set_option maxRecDepth 1000000 in
set_option maxHeartbeats 4000000 in
theorem appendSeq_any (w : World) (p : ProgV) (Bs : Nat) (hp : RdP w.heap.size w p) (hn0 : 0 < w.heap.size) (hf : Fit p) (hmx : MxAt w) (hBs : w.heap[Bs]? = some (.cells p.arr 39 (0, 0))) :
    Calls Tryz.prog 82 #[.slice none 0 0, .func (.func 83) #[] #[.pointer (some ⟨Bs, 0, none⟩)]] w fun o w' => (∃ v, o = .returned v ∧ PRow w.heap.size w' v (resP p)) ∧ Below w.heap.size w w' := by
  refine (callsIn_wide (n := 2)).1 ?_
  obtain ⟨i0, hi, hz0, hz1, hz2⟩ := info_of prob_info
  have hbA : Below w.heap.size w (w.alloc (.cells #[.slice none 0 0] 52)) := (Below.refl _ _).alloc (Nat.le_refl _) _
  have hxA := World.alloc_heap_new w (.cells #[.slice none 0 0] 52)
  have hsA : (w.alloc (.cells #[.slice none 0 0] 52)).heap.size = w.heap.size + 1 := by simp
  have hBlt := (Array.getElem?_eq_some_iff.1 hBs).1
  have HSEQ := Lib.hid (problems_seq p w.heap.size _ Bs (hp.below hbA) (by omega) hn0 hf (hmx.below hbA hn0) ((hbA.block _ hBlt).trans hBs))
  have HXA := Lib.hid hxA
  have HBA := Lib.hid hbA
  clear hxA hbA hp hf hmx hBs
  refine callsIn_of_wp_marks Tryz.func82 rfl trivial ?_ rfl
  simp only [Tryz.ntmps82, List.size_toArray, List.length_cons, List.length_nil, Nat.reduceAdd, Nat.reduceSub, Array.replicate_succ, Array.replicate_zero, List.push_toArray, List.append_toArray, List.nil_append, List.cons_append]
  gi_wp2_with fail
  generalize w.alloc (.cells #[.slice none 0 0] 52) = wA at *
  refine wpIn_rangeFunc_netD (T := TK) (Tc := 129) (n₀ := w.heap.size) rfl (fun h => by cases h) (gf := 83) (lb := #[.pointer (some ⟨Bs, 0, none⟩)]) rfl trivial (enters_of Tryz.func83 (by kernel_rfl) rfl)
    HSEQ.out (by omega) (Below.refl _ _) (fun _ => rfl)
    (fun pre W => ∃ v, W.heap[w.heap.size]? = some (.cells #[v] 52 (0, 0)) ∧ PRow w.heap.size W v pre ∧ Below w.heap.size w W ∧ wA.heap.size ≤ W.heap.size)
    (fun c pre W => False)
    ?hI ?hIx ⟨_, HXA.out, ⟨rfl, .inl ⟨rfl, rfl⟩⟩, HBA.out, Nat.le_refl _⟩
    (fun x a' W => ∃ b : Nat, wA.heap.size ≤ b ∧ W.heap[b]? = some (.cells #[.int .i64 x.1, .int .i64 x.2] 55 (0, 0)) ∧ a' = { tmps := #[.slice none 0 0, .func (.func 83) #[] #[.pointer (some ⟨Bs, 0, none⟩)], .pointer (some ⟨w.heap.size, 0, none⟩), undef, .slice none 0 0, .pointer (some ⟨b, 0, none⟩), .func (.func 83) #[] #[.pointer (some ⟨Bs, 0, none⟩)], .agg #[.int .i64 x.1, .int .i64 x.2], undef, undef, undef, undef, undef], defers := [] })
    ?hAx ?assign ?body ?done ?stop
  case hI =>
    rintro s X' Y rw ⟨v, h1, h2, h3, h4⟩ hg hr
    have hcl : ∀ (k : Nat) (cs : Array Value) (t : TypeId) (fr : Nat × Nat), X'.heap[k]? = some (Obj.cells cs t fr) → t ≠ 129 → Y.heap[k]? = X'.heap[k]? := fun k cs t fr hk ht => hg.block k (Array.getElem?_eq_some_iff.1 hk).1 (fun e => by
      obtain ⟨_, o, ho, hc⟩ := hr k e.symm
      rw [hk] at ho
      cases ho
      rcases hc with hc | ⟨cs', fr', hc⟩
      · cases hc
      · cases hc; exact ht rfl)
    exact ⟨v, (hcl _ _ _ _ h1 (by decide)).trans h1, h2.kept fun k cs fr _ hk => hcl k cs _ fr hk (by decide), h3.grown hg h3.size (fun q hq => by have := (hr q hq).1; omega), Nat.le_trans h4 hg.size⟩
  case hIx => rintro c s X' Y rw h; cases h
  case hAx =>
    rintro x a' _ X' Y rw ⟨b, h0, h1, h2⟩ hg hr
    exact ⟨b, h0, (hg.block b (Array.getElem?_eq_some_iff.1 h1).1 (fun e => by
      obtain ⟨_, o, ho, hc⟩ := hr b e.symm
      rw [h1] at ho
      cases ho
      rcases hc with hc | ⟨cs, fr, hc⟩ <;> cases hc)).trans h1, h2⟩
  case assign =>
    rintro l2 pre x Wc K ⟨v, h1, h2, h3, h4⟩ hK
    have hba : Below Wc.heap.size Wc (Wc.alloc (.cells #[.int .i64 x.1, .int .i64 x.2] 55)) := (Below.refl _ Wc).alloc (Nat.le_refl _) _
    gi_wp2
    exact hK _ _ (KeepsT.of_below hba) (hba.mono (by omega)) ⟨v, (hba.block _ (Array.getElem?_eq_some_iff.1 h1).1).trans h1, h2.on hba, h3.trans (hba.mono (by omega)), Nat.le_trans h4 hba.size⟩ ⟨_, h4, World.alloc_heap_new _ _, rfl⟩
  case body =>
    rintro l2 pre x a' Wc hl2 ⟨v, h1, h2, h3, h4⟩ ⟨b, hb0, hb, rfl⟩ hlen
    obtain ⟨q0, q1⟩ := two_cells hb
    have cB := one_cell h1
    have hba : Below Wc.heap.size Wc (Wc.alloc (.cells #[.int .i64 x.1, .int .i64 x.2] 55)) := (Below.refl _ Wc).alloc (Nat.le_refl _) _
    have hnew := World.alloc_heap_new Wc (.cells #[.int .i64 x.1, .int .i64 x.2] 55)
    have hcell : ∀ j u, (encP x)[j]? = some u → (Wc.alloc (.cells #[.int .i64 x.1, .int .i64 x.2] 55)).cell? ((⟨Wc.heap.size, 0, none⟩ : Addr).add j) = some u := fun j u hj => by
      rw [Addr.add_lit]
      simp only [World.cell?, Nat.zero_add, hnew]
      have e2 : (#[Value.int .i64 x.1, .int .i64 x.2] : Array Value)[j]? = some u := by simpa [encP] using hj
      exact e2
    have hone : ∀ u ∈ encP x, u.oneCell' = true := by intro u hu; simp [encP] at hu; rcases hu with rfl | rfl <;> rfl
    have HR2 := Lib.hid (h2.on hba)
    have HBX := Lib.hid ((hba.block _ (Array.getElem?_eq_some_iff.1 h1).1).trans h1)
    have HBA2 := Lib.hid hba
    have H3 := Lib.hid h3
    have H2 := Lib.hid h2
    obtain ⟨A, nn, cc, rfl⟩ : ∃ A n c, v = .slice A n c := by
      rcases h2.2 with ⟨rfl, _⟩ | ⟨g, cap, cur, rfl, _⟩
      · exact ⟨_, _, _, rfl⟩
      · exact ⟨_, _, _, rfl⟩
    clear h1 h2 h3 hb hba hnew
    gi_wp2_with (first | (gi_at_builtin; refine wpListIn_append_own_at _ rfl _ _ 52 rfl w.heap.size 55 i0 (.agg #[.int .i64 0, .int .i64 0]) 2 16 Tryz.underlying52 hi hz0 hz1 hz2 rfl (by decide) _ _ _ rfl HR2.out ⟨Wc.heap.size, 0, none⟩ 1 1 (encP x) rfl rfl hcell hone (by simp only [maxLen]; omega) (by omega) (by simp; omega) ?_) | fail)
    intro v2 w2 hown2 hg2 hnil hat
    obtain ⟨A2, n2, c3, rfl⟩ : ∃ A n c, v2 = .slice A n c := by
      rcases hown2.2 with ⟨rfl, _⟩ | ⟨g, cap, cur, rfl, _⟩
      · exact ⟨_, _, _, rfl⟩
      · exact ⟨_, _, _, rfl⟩
    have hne : some w.heap.size ≠ (Value.slice A nn cc).ownBlock := fun e => by
      obtain ⟨_, cs, fr, hh⟩ := HR2.out.own _ e.symm
      rw [HBX.out] at hh; cases hh
    have hlt := (Array.getElem?_eq_some_iff.1 HBX.out).1
    have hb2 := (hg2.block _ hlt hne).trans HBX.out
    have hk2 : KeepsT TK wA.heap.size Wc w2 := (KeepsT.of_below HBA2.out).trans (KeepsT.grown hg2 (fun r e => (HR2.out.own r e).2) rfl)
    have hl2 : Below w.heap.size Wc w2 := (HBA2.out.mono (by omega)).grown hg2 (Nat.le_trans (by omega : w.heap.size ≤ Wc.heap.size) HBA2.out.size) (fun q hq => (HR2.out.own q hq).1)
    have hrow2 : PRow w.heap.size w2 (.slice A2 n2 c3) (pre ++ [x]) := by
      unfold PRow
      rw [List.length_append, List.flatMap_append]
      simpa using hown2
    have f2 : w2.frozen? ⟨w.heap.size, 0, none⟩ = false := by simp [World.frozen?, hb2]
    have c2 := one_cell hb2
    have HK2 := Lib.hid hk2
    have HL2 := Lib.hid hl2
    have HRW2 := Lib.hid hrow2
    have HB2 := Lib.hid hb2
    have HS2 := Lib.hid hg2.size
    clear hown2 hg2 hnil hat hne hb2 hk2 hl2 hrow2
    gi_wp2
    exact ⟨HK2.out.trans (KeepsT.set (a := ⟨w.heap.size, 0, none⟩) HB2.out rfl _), HL2.out.setCell (p := ⟨w.heap.size, 0, none⟩) (Nat.le_refl _) _, _, (show Boxed w2 w.heap.size 52 _ from HB2.out).set _,
      HRW2.out.kept (fun k cs fr _ hk => Below.heap_setCell _ _ _ k (fun e => by
        have e2 : k = w.heap.size := e
        rw [e2, HB2.out] at hk; cases hk)),
      H3.out.trans (HL2.out.setCell (p := ⟨w.heap.size, 0, none⟩) (Nat.le_refl _) _), by have := HS2.out; have := HBA2.out.size; simp only [World.size_setCell]; omega⟩
  case done =>
    rintro Dq ys Wd hD rfl ⟨v, h1, h2, h3, h4⟩ hK
    have cB := one_cell h1
    have HKD := Lib.hid hK
    have H2 := Lib.hid h2
    have HB1 := Lib.hid h1
    clear hK h1 h2
    gi_wp2
    refine ⟨by simp, .inl ⟨_, _, rfl, run_takeDeferred (w := Wd) HKD.out, ?_⟩⟩
    exact ⟨_, results_tmp rfl _ _ _, ⟨v, rfl, H2.out.kept (fun k cs fr _ hk => World.putObj_heap_other (fun e => by rw [e, HKD.out] at hk; cases hk))⟩, h3.trans (below_put _ _ (by omega))⟩
  case stop => rintro Dq c pre Wd hD _ h; cases h
theorem PRow.less {B C : Nat} {W : World} {v : Value} {l : List (Int × Int)} (h : PRow C W v l) (hB : B ≤ C) : PRow B W v l := by
  obtain ⟨hlen, ho⟩ := h
  refine ⟨hlen, ?_⟩
  rcases ho with h0 | ⟨g, cap, cur, rfl, h1, h2⟩
  · exact .inl h0
  · exact .inr ⟨g, cap, cur, rfl, Nat.le_trans hB h1, h2⟩
theorem collect_any (w : World) (p : ProgV) (Bs : Nat) (hp : RdP w.heap.size w p) (hn0 : 0 < w.heap.size) (hf : Fit p) (hmx : MxAt w) (hBs : w.heap[Bs]? = some (.cells p.arr 39 (0, 0))) :
    Calls Tryz.prog 49 #[.func (.func 83) #[] #[.pointer (some ⟨Bs, 0, none⟩)]] w fun o w' => (∃ v, o = .returned v ∧ PRow w.heap.size w' v (resP p)) ∧ Below w.heap.size w w' := by
  have H := Lib.hid (appendSeq_any w p Bs hp hn0 hf hmx hBs)
  clear hp hf hmx hBs
  go_enter Tryz.func49, Tryz.ntmps49
  go_wp2_with fail
  refine H.out.mono ?_
  rintro o w1 ⟨⟨v, rfl, hr⟩, hb⟩
  have HR := Lib.hid hr
  have HB := Lib.hid hb
  clear hr hb
  go_wp2_with fail
  go_ret
  exact ⟨⟨v, rfl, HR.out⟩, HB.out⟩
set_option maxRecDepth 100000 in
/-- Problems of a light program. -/
theorem problemsList_any (w : World) (p : ProgV) (hp : RdP w.heap.size w p) (hn0 : 0 < w.heap.size) (hf : Fit p) (hmx : MxAt w) :
    Calls Tryz.prog 19 #[.agg p.arr] w fun o w' => (∃ v, o = .returned v ∧ PRow w.heap.size w' v (resP p)) ∧ Below w.heap.size w w' := by
  have hb1 : Below w.heap.size w (w.alloc (.cells p.arr 39)) := (Below.refl _ _).alloc (Nat.le_refl _) _
  have hB := World.alloc_heap_new w (.cells p.arr 39)
  have hs1 : w.heap.size < (w.alloc (.cells p.arr 39)).heap.size := by simp
  have hLG := lightP_any _ p ((hp.below hb1).more (Nat.le_of_lt hs1)) hf.weight
  rw [decide_eq_true hf.heft, arr_val] at hLG
  have hPR := fun W => problems_any p W
  have hCL := fun (W : World) (hW : Below w.heap.size w W) (Bs : Nat) (hBs : W.heap[Bs]? = some (.cells p.arr 39 (0, 0))) => collect_any W p Bs ((hp.below hW).more hW.size) (Nat.lt_of_lt_of_le hn0 hW.size) hf (hmx.below hW hn0) hBs
  have harrs := arr_size p
  have HLG := Lib.hid hLG
  have HPR := Lib.hid hPR
  have HCL := Lib.hid hCL
  have HB := Lib.hid hB
  have HB1 := Lib.hid hb1
  clear hLG hPR hCL hB hb1 hp hf hmx hs1
  generalize p.arr = arr at *
  go_enter Tryz.func19, Tryz.ntmps19
  go_wp2_with (first | (refine wpList_load_row rfl 39 _ rfl w.heap.size rfl 39 _ (0, 0) _ HB.out Tryz.underlying39 rfl harrs ?_) | fail)
  refine HLG.out.mono ?_
  rintro o w3 ⟨rfl, hb3⟩
  have hs1 : w.heap.size < (w.alloc (.cells arr 39)).heap.size := by simp
  have HX3 := Lib.hid ((hb3.block _ hs1).trans HB.out)
  have HB3 := Lib.hid (HB1.out.trans (hb3.mono (Nat.le_of_lt hs1)))
  clear hb3 hs1 HB HB1 HLG
  go_wp2_with (first | (refine wpList_load_row rfl 39 _ rfl w.heap.size rfl 39 _ (0, 0) _ HX3.out Tryz.underlying39 rfl harrs ?_) | fail)
  refine (HPR.out _).mono ?_
  rintro o w4 ⟨rfl, rfl⟩
  have hb4 : Below w3.heap.size w3 (w3.alloc (.cells arr 39)) := (Below.refl _ _).alloc (Nat.le_refl _) _
  have HB4 := Lib.hid (HB3.out.trans (hb4.mono HB3.out.size))
  have HC4 := Lib.hid (HCL.out _ HB4.out _ (World.alloc_heap_new w3 (.cells arr 39)))
  clear hb4
  go_wp2_with fail
  refine HC4.out.mono ?_
  rintro o w5 ⟨⟨v, rfl, hr⟩, hb5⟩
  have HR5 := Lib.hid (hr.less HB4.out.size)
  have HB5 := Lib.hid (HB4.out.trans (hb5.mono HB4.out.size))
  clear hr hb5 HC4
  go_wp2_with fail
  go_ret
  exact ⟨⟨v, rfl, HR5.out⟩, HB5.out⟩
end Go.Proofs.YthcboallnbaimaaGreatDoor
namespace Go.Proofs.YthcboallnbaimaaGreatDoor
open Go
def flatT (l : List StmtV) : Bool := l.all fun s => s.thn.isEmpty && s.els.isEmpty
theorem pre_flat : ∀ (l : List StmtV), flatT l = true → l.flatMap StmtV.pre = l
  | [], _ => rfl
  | s :: l, h => by
    unfold flatT at h
    rw [List.all_cons, Bool.and_eq_true, Bool.and_eq_true, List.isEmpty_iff, List.isEmpty_iff] at h
    rw [List.flatMap_cons, pre_flat l h.2, StmtV.pre_eq, h.1.1, h.1.2]
    rfl
def callsK (l : List StmtV) : List ByteArray := l.foldl (fun out s => if s.kind = 8 then withN out s.name else out) []
theorem callsK_eq {l : List StmtV} (h : flatT l = true) : callsN l = callsK l := by unfold callsN callsK; rw [pre_flat l h]
def nextK (p : ProgV) (i : Nat) : List Nat := match p.procs[i]? with
  | some q => (callsK q.body).filterMap fun s => (look (procsAt p) s).map Int.toNat
  | none => []
def leadsK (p : ProgV) (goal : Nat) : Nat → List Nat → List Nat → Bool
  | 0, _, _ => false
  | _ + 1, _, [] => false
  | n + 1, seen, i :: todo => if i = goal then true else if i ∈ seen then leadsK p goal n seen todo else leadsK p goal n (i :: seen) (todo ++ nextK p i)
def fuelK (p : ProgV) : Nat := 2 + ((List.range p.procs.length).map fun i => (nextK p i).length).sum
def flatP (p : ProgV) : Bool := p.procs.all fun q => flatT q.body
theorem nextK_eq {p : ProgV} (h : flatP p = true) (i : Nat) : nextP p i = nextK p i := by
  unfold nextP nextK
  cases e : p.procs[i]? with
  | none => rfl
  | some q =>
    have hq : flatT q.body = true := List.all_eq_true.1 h q (List.mem_of_getElem? e)
    simp only
    rw [callsK_eq hq]
theorem leadsK_eq {p : ProgV} (h : flatP p = true) (goal : Nat) : ∀ (n : Nat) (seen todo : List Nat), leadsF p goal n seen todo = leadsK p goal n seen todo
  | 0, _, _ => rfl
  | _ + 1, _, [] => rfl
  | n + 1, seen, i :: todo => by
    rw [leadsF, leadsK, leadsK_eq h goal n seen todo, leadsK_eq h goal n (i :: seen) (todo ++ nextP p i), nextK_eq h i]
theorem leadsB_eq {p : ProgV} (h : flatP p = true) (a b : Nat) : leadsB p a b = leadsK p b (fuelK p) [] [a] := by
  unfold leadsB
  rw [leadsK_eq h]
  have : fuelP p = fuelK p := by
    unfold fuelP fuelK
    simp only [nextK_eq h]
  rw [this]
def pN (i : Nat) : ByteArray := ⟨#[112, UInt8.ofNat (97 + i)]⟩
section
variable (v rs : Sp) (es bs : Nat → Sp) (e2 : Sp)
def ringB (n i j k : Nat) : List StmtV := (if k + 1 < n then [callT (es k) (pN (k + 1)) []] else []) ++ (if k = i then [callT e2 (pN j) []] else [])
/-- The chain of n procedures, with one more call from i to j; i = n: without. -/
def ringP (n i j : Nat) : ProgV := { smallP v Sp.none [] with rs := rs, procs := (List.range n).map fun k => ⟨pN k, Sp.none, [], bs k, ringB es e2 n i j k⟩ }
theorem ring_flat (n i j : Nat) : flatP (ringP v rs es bs e2 n i j) = true := by
  unfold flatP
  rw [List.all_eq_true]
  intro q hq
  obtain ⟨k, _, rfl⟩ := List.mem_map.1 (show q ∈ (List.range n).map _ from hq)
  unfold flatT ringB
  split <;> split <;> rfl
end
def wrongL (p : ProgV) (L : Nat → Nat → Bool) (E : Env) (s : StmtV) : Int :=
  if s.kind = 8 then
    (match look (procsAt p) s.name with
    | none => 321
    | some i => if argsB p E i.toNat s.exprs = true then 327
      else if E.within ≥ 0 ∧ L i.toNat E.within.toNat = true then 328 else 0)
  else wrongE p E s
theorem wrongL_eq (p : ProgV) (E : Env) (s : StmtV) : wrongE p E s = wrongL p (leadsB p) E s := by
  unfold wrongL
  by_cases h : s.kind = 8
  · rw [if_pos h]
    unfold wrongE
    rw [if_neg (by omega), if_neg (by omega), if_neg (by omega), if_neg (by omega), if_pos h]
    rfl
  · rw [if_neg h]
def stmtL (p : ProgV) (L : Nat → Nat → Bool) (E : Env) (s : StmtV) (d : Nat) : Int :=
  if formB s = true then (if wrongL p L E s = 0 then (if (d : Int) > limitP p 32 1000 then 319 else 0) else wrongL p L E s) else 325
def bodyL (p : ProgV) (L : Nat → Nat → Bool) (E : Env) (l : List StmtV) : List Int := l.flatMap fun s => stmtL p L E s 1 :: exprsC p E 0 s.exprs 1
theorem bodyL_eq {p : ProgV} {L : Nat → Nat → Bool} (hL : leadsB p = L) (E : Env) : ∀ l : List StmtV, flatT l = true → stmtsC p E l 1 = bodyL p L E l
  | [], _ => by rw [stmtsC]; rfl
  | s :: l, h => by
    unfold flatT at h
    rw [List.all_cons, Bool.and_eq_true, Bool.and_eq_true, List.isEmpty_iff, List.isEmpty_iff] at h
    rw [stmtsC, bodyL_eq hL E l h.2, stmtC_eq, h.1.1, h.1.2]
    have e : stmtE p E s 1 = stmtL p L E s 1 := by unfold stmtE stmtL; rw [wrongL_eq, hL]
    rw [e]
    have e2 : stmtsC p E [] (1 + 1) = [] := by rw [stmtsC]
    rw [e2]
    simp [bodyL]
def procsL (p : ProgV) (L : Nat → Nat → Bool) : List ProcV → Nat → List ByteArray → List Int
  | [], _, _ => []
  | q :: l, i, before => (procE p before q :: (declsC p false q.params (thingNames p) ++ bodyL p L (inside p i) q.body)) ++ procsL p L l (i + 1) (before ++ [q.name])
theorem procsL_eq {p : ProgV} {L : Nat → Nat → Bool} (hL : leadsB p = L) : ∀ (l : List ProcV) (i : Nat) (before : List ByteArray), (∀ q ∈ l, flatT q.body = true) → procsC p l i before = procsL p L l i before
  | [], _, _, _ => rfl
  | q :: l, i, before, h => by
    rw [procsC, procsL, procsL_eq hL l (i + 1) (before ++ [q.name]) (fun x hx => h x (List.mem_cons_of_mem _ hx))]
    unfold procC
    rw [bodyL_eq hL (inside p i) q.body (h q (List.mem_cons_self ..))]
def codesL (p : ProgV) (L : Nat → Nat → Bool) (size : Int) : List Int :=
  programE p size :: (declsC p false p.inputs [] ++ (declsC p false p.ghosts (names1 p) ++ (declsC p false p.vars (names2 p) ++ (declsC p true p.arrays (names3 p) ++
    (exprC p outside 1 p.require 1 ++ (initsC p p.inits [] ++ (procsL p L p.procs 0 (names4 p) ++ (stmtsC p outside p.work 1 ++ (stmtsC p outside p.recover 1 ++ exprC p outside 2 p.invariant 1)))))))))
theorem codesL_eq {p : ProgV} (h : flatP p = true) (size : Int) : codesP p size = codesL p (fun a b => leadsK p b (fuelK p) [] [a]) size := by
  unfold codesP codesL
  rw [procsL_eq (L := fun a b => leadsK p b (fuelK p) [] [a]) (by funext a b; exact leadsB_eq h a b) p.procs 0 (names4 p) (fun q hq => List.all_eq_true.1 h q hq)]
section
variable (v rs : Sp) (es bs : Nat → Sp) (e2 : Sp)
/-- What the law says of the chain with one more call. -/
def toldB (i j : Nat) (l : List (Int × Int)) : Bool := if j > i then l.isEmpty else decide (l.length = i - j + 1) && l.all fun x => decide (x.2 = 328)
/-- The chain's codes, as the kernel can reckon them. -/
def ringC (n i j : Nat) (size : Int) : List Int := codesL (ringP v rs es bs e2 n i j) (fun a b => leadsK (ringP v rs es bs e2 n i j) b (fuelK (ringP v rs es bs e2 n i j)) [] [a]) size
theorem ringC_eq (n i j : Nat) (size : Int) : codesP (ringP v rs es bs e2 n i j) size = ringC v rs es bs e2 n i j size := codesL_eq (ring_flat v rs es bs e2 n i j) size
theorem ring_told : ((List.range' 2 7).all fun n => (List.range n).all fun i => (List.range n).all fun j =>
    decide ((ringC v rs es bs e2 n i j 0).length ≤ 2000) && toldB i j (probs (ringC v rs es bs e2 n i j (ringC v rs es bs e2 n i j 0).length) 0)) = true := by kernel_rfl
theorem ring_right : ((List.range' 2 7).all fun n => decide ((ringC v rs es bs e2 n n 0 0).length ≤ 2000) && (probs (ringC v rs es bs e2 n n 0 (ringC v rs es bs e2 n n 0 0).length) 0).isEmpty) = true := by kernel_rfl
theorem ring_res {n i j : Nat} (hn : 2 ≤ n) (hn8 : n ≤ 8) (hi : i < n) (hj : j < n) : toldB i j (resP (ringP v rs es bs e2 n i j)) = true ∧ (codesP (ringP v rs es bs e2 n i j) 0).length ≤ 2000 := by
  have h1 := List.all_eq_true.1 (ring_told v rs es bs e2) n (List.mem_range'.2 ⟨n - 2, by omega, by omega⟩)
  have h2 := List.all_eq_true.1 (List.all_eq_true.1 h1 i (List.mem_range.2 hi)) j (List.mem_range.2 hj)
  rw [Bool.and_eq_true, decide_eq_true_eq] at h2
  have hk : (codesP (ringP v rs es bs e2 n i j) 0).length = (ringC v rs es bs e2 n i j 0).length := by rw [ringC_eq]
  rw [res_of hk (by omega), ringC_eq, hk]
  exact ⟨h2.2, h2.1⟩
theorem ring_ok {n : Nat} (hn : 2 ≤ n) (hn8 : n ≤ 8) : checkP (ringP v rs es bs e2 n n 0) = (0, 0) ∧ (codesP (ringP v rs es bs e2 n n 0) 0).length ≤ 2000 := by
  have h1 := List.all_eq_true.1 (ring_right v rs es bs e2) n (List.mem_range'.2 ⟨n - 2, by omega, by omega⟩)
  rw [Bool.and_eq_true, decide_eq_true_eq, List.isEmpty_iff] at h1
  have hk : (codesP (ringP v rs es bs e2 n n 0) 0).length = (ringC v rs es bs e2 n n 0 0).length := by rw [ringC_eq]
  exact ⟨check_of hk (by omega) (by rw [ringC_eq, h1.2]; rfl), by rw [hk]; exact h1.1⟩
end
end Go.Proofs.YthcboallnbaimaaGreatDoor
namespace Go.Proofs.YthcboallnbaimaaGreatDoor
open Go Go.RowKit Go.Maps
theorem isName_long (w : World) (s : ByteArray) (h : 16 < s.size) : Calls Tryz.prog 10 #[.string s] w fun o w' => o = .returned (.bool false) ∧ Below w.heap.size w w' := by
  have hem : s.toList.isEmpty = false := by
    rw [isEmpty_data]
    have : s.data.toList.length = s.size := by simp
    cases hc : s.data.toList with
    | nil => rw [hc] at this; simp at this; omega
    | cons => rfl
  have hd : decide ((16 : Int) < (s.size : Int)) = true := decide_eq_true (by omega)
  clear h
  go_enter Tryz.func10, Tryz.ntmps10
  go_wp2_with fail
  go_ret
  exact ⟨rfl, Below.refl _ _⟩
theorem long_not {s : ByteArray} (h : 16 < s.size) : isName s.data.toList = false := by
  have : s.data.toList.length = s.size := by simp
  unfold isName
  rw [this, decide_eq_false (by omega)]; rfl
theorem isName_every (w : World) (s : ByteArray) (hmx : MxAt w) : Calls Tryz.prog 10 #[.string s] w fun o w' => o = .returned (.bool (isName s.data.toList)) ∧ Below w.heap.size w w' := by
  by_cases h : 16 < s.size
  · rw [long_not h]; exact isName_long w s h
  · exact isName_any w s (by omega) hmx
theorem dotted (s : ByteArray) : isName (s ++ { data := #[46] }).data.toList = false := by
  have e : (s ++ { data := #[46] } : ByteArray).data.toList = s.data.toList ++ [46] := by simp
  rw [e]
  have : (s.data.toList ++ [46]).all nameSign = false := by
    rw [List.all_append]
    have : ([46] : List UInt8).all nameSign = false := by decide
    rw [this, Bool.and_false]
  unfold isName
  rw [this]; simp
theorem crossed (s : ByteArray) : isName (({ data := #[88] } : ByteArray) ++ s).data.toList = false := by
  have e : (({ data := #[88] } : ByteArray) ++ s).data.toList = 88 :: s.data.toList := by simp
  rw [e]
  have : lower 88 = false := by decide
  unfold isName
  simp [this]
theorem longname : isName (⟨#[97, 98, 99, 100, 101, 102, 103, 104, 105, 106, 107, 108, 109, 110, 111, 112, 113]⟩ : ByteArray).data.toList = false := by decide
/-- What the law itself says of a name. -/
theorem isName_parts (s : ByteArray) : isName s.data.toList = (decide (s.size ≤ 16) && (match s.data.toList with | c :: _ => lower c | [] => false) && decide (Lib.trimS s.data.toList signsB = []) && !hasN wordsV s) := by
  have hsz : s.data.toList.length = s.size := by simp
  have ht : decide (Lib.trimS s.data.toList signsB = []) = s.data.toList.all nameSign := by
    rw [Bool.eq_iff_iff, decide_eq_true_iff, trimS_nil, List.all_eq_true]
    constructor <;> intro h c hc <;> have := h c hc <;> rw [signs_eq] at * <;> exact this
  have hw : (words.all fun w => decide (w.toUTF8.data.toList ≠ s.data.toList)) = !hasN wordsV s := by
    rw [all_ne (fun w => w.toUTF8.data.toList) s.data.toList words]
    congr 1
    unfold hasN wordsV
    have key : ∀ l : List (List UInt8), l.any (fun x => decide (x = s.data.toList)) = (l.map fun x => (⟨x.toArray⟩ : ByteArray)).any (fun x => decide (x = s)) := by
      intro l
      rw [List.any_map]
      congr 1
      funext x
      apply decide_eq_decide.2
      constructor
      · intro e; rw [e]
      · intro e; have h := congrArg (fun b : ByteArray => b.data.toList) e; exact h
    exact key _
  unfold isName
  rw [ht, hw, hsz]
  rfl
def blocksP (v : Sp) (b : Int) : ProgV := { smallP v Sp.none [] with blocks := b }
def widthP (v : Sp) (x : Int) : ProgV := { smallP v Sp.none [] with width := x }
def wideP (v : Sp) (x : Int) : ProgV := { smallP v Sp.none [] with vars := [⟨xB, x, 0⟩] }
section
variable (v : Sp) (x : Int)
theorem chkB (h : x < 1 ∨ 8 < x) : checkP (blocksP v x) = (0, 320) := check_of (k := 4) (by kernel_rfl) (by decide) (by
  have e : programE (blocksP v x) (4 : Nat) = 320 := if_pos (by
    rcases h with h | h
    · exact Or.inl h
    · exact Or.inr (Or.inl h))
  unfold codesP
  rw [e]; rfl)
theorem chkW (h : wideW x = false) : checkP (widthP v x) = (0, 320) := check_of (k := 4) (by kernel_rfl) (by decide) (by
  have e : programE (widthP v x) (4 : Nat) = 320 := if_pos (Or.inr (Or.inr h))
  unfold codesP
  rw [e]; rfl)
theorem chkV (h : wideW x = false) : checkP (wideP v x) = (1, 322) := check_of (k := 4) (by kernel_rfl) (by decide) (by
  have e : programE (wideP v x) (4 : Nat) = 0 := by kernel_rfl
  have e2 : declE (wideP v x) [] false ⟨xB, x, 0⟩ = if wideW x = false then 322 else 0 := by kernel_rfl
  rw [if_pos h] at e2
  have e3 : codesP (wideP v x) (4 : Nat) = programE (wideP v x) (4 : Nat) :: declE (wideP v x) [] false ⟨xB, x, 0⟩ :: (codesP (wideP v x) (4 : Nat)).drop 2 := by kernel_rfl
  rw [e3, e, e2]; rfl)
theorem fitB : Fit (blocksP v x) := fit_of (k := 4) (by kernel_rfl) (by decide) ⟨(small_names v Sp.none []).decls, fun q h => absurd h (by simp [blocksP, smallP])⟩
theorem fitW : Fit (widthP v x) := fit_of (k := 4) (by kernel_rfl) (by decide) ⟨(small_names v Sp.none []).decls, fun q h => absurd h (by simp [widthP, smallP])⟩
theorem fitV : Fit (wideP v x) := fit_of (k := 4) (by kernel_rfl) (by decide) ⟨fun d h => by
  have h2 : d = ⟨xB, x, 0⟩ := by simpa [wideP, smallP] using h
  rw [h2]; exact (by decide : xB.size ≤ 4294967200), fun q h => absurd h (by simp [wideP, smallP])⟩
end
theorem blocks_made {W : World} {q : Nat} {v : Sp} {b : Int} (hb : (Lit.int .i64 b).wf = true) (hx : W.heap[q]? = some (.cells (smallP v Sp.none []).arr 39 (0, 0))) (hr : RdP q W (smallP v Sp.none [])) : InBox (W.setCell ⟨q, 0, none⟩ (.int .i64 b)) q (blocksP v b) := by
  have hbox : (W.setCell ⟨q, 0, none⟩ (.int .i64 b)).heap[q]? = some (.cells (blocksP v b).arr 39 (0, 0)) := by
    simp [World.setCell, Array.getElem?_modify, hx, ProgV.arr, ProgV.cells, smallP, blocksP, Sp.val]
  have hr2 := hr.below ((Below.refl q W).setCell (p := ⟨q, 0, none⟩) (Nat.le_refl _) (.int .i64 b))
  exact ⟨hbox, { hr2.more (Nat.le_of_lt (Array.getElem?_eq_some_iff.1 hbox).1) with blocks := hb }⟩
theorem width_made {W : World} {q : Nat} {v : Sp} {b : Int} (hb : (Lit.int .i64 b).wf = true) (hx : W.heap[q]? = some (.cells (smallP v Sp.none []).arr 39 (0, 0))) (hr : RdP q W (smallP v Sp.none [])) : InBox (W.setCell ⟨q, 1, none⟩ (.int .i64 b)) q (widthP v b) := by
  have hbox : (W.setCell ⟨q, 1, none⟩ (.int .i64 b)).heap[q]? = some (.cells (widthP v b).arr 39 (0, 0)) := by
    simp [World.setCell, Array.getElem?_modify, hx, ProgV.arr, ProgV.cells, smallP, widthP, Sp.val]
  have hr2 := hr.below ((Below.refl q W).setCell (p := ⟨q, 1, none⟩) (Nat.le_refl _) (.int .i64 b))
  exact ⟨hbox, { hr2.more (Nat.le_of_lt (Array.getElem?_eq_some_iff.1 hbox).1) with width := hb }⟩
theorem wide_made {W : World} {q vb : Nat} {x : Int} (hxw : (Lit.int .i64 x).wf = true) (hx : W.heap[q]? = some (.cells (smallP ⟨some ⟨vb, 0, none⟩, 1⟩ Sp.none []).arr 39 (0, 0))) (hr : RdP W.heap.size W (smallP ⟨some ⟨vb, 0, none⟩, 1⟩ Sp.none [])) (hne : vb ≠ q) : InBox (W.setCell ⟨vb, 1, none⟩ (.int .i64 x)) q (wideP ⟨some ⟨vb, 0, none⟩, 1⟩ x) := by
  have hbox : (W.setCell ⟨vb, 1, none⟩ (.int .i64 x)).heap[q]? = some (.cells (wideP ⟨some ⟨vb, 0, none⟩, 1⟩ x).arr 39 (0, 0)) := (Below.heap_setCell W ⟨vb, 1, none⟩ (.int .i64 x) q (fun h => hne h.symm)).trans hx
  have hs : (W.setCell ⟨vb, 1, none⟩ (.int .i64 x)).heap.size = W.heap.size := by simp
  obtain ⟨b', off, e, hlt, hc⟩ := hr.vars.row.row (by simp [smallP])
  obtain ⟨rfl, rfl⟩ : vb = b' ∧ 0 = off := by have := Option.some.inj e; exact ⟨(Addr.mk.inj this).1, (Addr.mk.inj this).2.1⟩
  have hd : RdDs (W.setCell ⟨vb, 1, none⟩ (.int .i64 x)).heap.size (W.setCell ⟨vb, 1, none⟩ (.int .i64 x)) Sp.none [] := none_rows
  have ht : RdTs (W.setCell ⟨vb, 1, none⟩ (.int .i64 x)).heap.size (W.setCell ⟨vb, 1, none⟩ (.int .i64 x)) Sp.none [] := none_stmts
  have hn : NowX (W.setCell ⟨vb, 1, none⟩ (.int .i64 x)) (numE 1 1) := num_now _ 1 1 (by decide) (by decide)
  have c0 : W.cell? ⟨vb, 0, none⟩ = some (.string xB) := hc 0 (by simp [smallP]) 0 _ rfl
  have c1 : W.cell? ⟨vb, 1, none⟩ = some (.int .i64 3) := hc 0 (by simp [smallP]) 1 _ rfl
  have c2 : W.cell? ⟨vb, 2, none⟩ = some (.int .i64 0) := hc 0 (by simp [smallP]) 2 _ rfl
  have hv : RowOf (W.setCell ⟨vb, 1, none⟩ (.int .i64 x)).heap.size (W.setCell ⟨vb, 1, none⟩ (.int .i64 x)) ⟨some ⟨vb, 0, none⟩, 1⟩ 3 DeclV.cells [⟨xB, x, 0⟩] := by
    refine ⟨Nat.le_refl _, show (1 : Nat) ≤ maxLen by decide, by simp, fun _ => ⟨vb, 0, rfl, by rw [hs]; exact hlt, fun j hj r u hu => ?_⟩⟩
    have : j = 0 := by simp at hj; omega
    subst this
    simp only [List.getElem_cons_zero, DeclV.cells] at hu
    match r, hu with
    | 0, hu => cases hu; exact (World.cell?_setCell_other _ _ _ _ (by simp)).trans c0
    | 1, hu => cases hu; exact World.cell?_setCell_same _ _ _ c1
    | 2, hu => cases hu; exact (World.cell?_setCell_other _ _ _ _ (by simp)).trans c2
    | r + 3, hu => simp at hu
  refine ⟨hbox, ⟨show (Lit.int .i64 1).wf = true by decide, show (Lit.int .i64 2).wf = true by decide, hd, hd, ⟨hv, fun d h => ?_⟩, hd, hn, RowOf.nil, fun _ h => absurd h (by simp [wideP, smallP]), RowOf.nil, fun _ h => absurd h (by simp [wideP, smallP]), ht, ht, hn⟩⟩
  have : d = ⟨xB, x, 0⟩ := by simpa [wideP] using h
  rw [this]
  exact ⟨(by decide : xB.size ≤ maxLen), hxw, (by decide : (Lit.int .i64 0).wf = true)⟩
theorem wf_min {b : Int} (h : (Lit.int .i64 b).wf = true) : (Lit.int .i64 (min b 0)).wf = true := by
  rcases Int.le_total b 0 with h0 | h0
  · rw [Int.min_eq_left h0]; exact h
  · rw [Int.min_eq_right h0]; decide
theorem wf_max {b k : Int} (h : (Lit.int .i64 b).wf = true) (hk : (Lit.int .i64 k).wf = true) : (Lit.int .i64 (max b k)).wf = true := by
  rcases Int.le_total b k with h0 | h0
  · rw [Int.max_eq_right h0]; exact hk
  · rw [Int.max_eq_left h0]; exact h
set_option maxRecDepth 1000000 in
set_option maxHeartbeats 2000000 in
theorem small_new (w : World) : Calls Tryz.prog 15 #[.slice none 0 0] w fun o w' => ∃ b : Nat, o = .returned (.agg (smallP ⟨some ⟨b, 0, none⟩, 1⟩ Sp.none []).arr) ∧ RdP w'.heap.size w' (smallP ⟨some ⟨b, 0, none⟩, 1⟩ Sp.none []) ∧ Below w.heap.size w w' ∧ w.heap.size ≤ b ∧ w'.heap[b]? = some (.cells #[.string xB, .int .i64 3, .int .i64 0] 44 (0, 0)) := by
  have h : RdTs w.heap.size w Sp.none [] := none_stmts
  have HTS := Lib.hid h
  have hb0 : Below w.heap.size w (w.alloc (.cells zeroP.arr 39)) := (Below.refl _ _).alloc (Nat.le_refl _) _
  have hB0 := World.alloc_heap_new w (.cells zeroP.arr 39)
  have hs0 : (w.alloc (.cells zeroP.arr 39)).heap.size = w.heap.size + 1 := by simp
  have hN := fun W => num_any 1 1 W
  simp only [numE, ExprV.val, ExprV.kind, ExprV.op, ExprV.value, ExprV.width, ExprV.name, ExprV.sp, ExprV.subs, Sp.val, Sp.none, List.length_nil] at hN
  have HNM := Lib.hid hN
  clear h hN
  go_enter Tryz.func15, Tryz.ntmps15
  go_upto_region 1 with (first | (refine wpList_allocRow (t := 39) rfl rfl (run_zeroP _) ?_) | fail)
  generalize w.alloc (.cells zeroP.arr 39) = W0 at *
  have HB0 := Lib.hid hb0
  have HX0 := Lib.hid hB0
  have hb1 : Below W0.heap.size W0 (W0.alloc (.cells #[.string xB, .int .i64 3, .int .i64 0] 44)) := (Below.refl _ _).alloc (Nat.le_refl _) _
  have hB1 := World.alloc_heap_new W0 (.cells #[.string xB, .int .i64 3, .int .i64 0] 44)
  have HB1 := Lib.hid hb1
  have HX1 := Lib.hid hB1
  clear hb0 hB0 hb1 hB1
  have hst : (W0.alloc (.cells #[.string xB, .int .i64 3, .int .i64 0] 44)).heap[w.heap.size]? = some (.cells zeroP.arr 39 (0, 0)) ∧ (W0.alloc (.cells #[.string xB, .int .i64 3, .int .i64 0] 44)).heap[w.heap.size + 1]? = some (.cells #[.string xB, .int .i64 3, .int .i64 0] 44 (0, 0)) ∧ Below w.heap.size w (W0.alloc (.cells #[.string xB, .int .i64 3, .int .i64 0] 44)) :=
    ⟨(HB1.out.block _ (by omega)).trans HX0.out, by have h := HX1.out; rw [hs0] at h; exact h, HB0.out.trans (HB1.out.mono (by omega))⟩
  have UPD : Hid (∀ A B : World, Below A.heap.size A B → (A.heap[w.heap.size]? = some (.cells zeroP.arr 39 (0, 0)) ∧ A.heap[w.heap.size + 1]? = some (.cells #[.string xB, .int .i64 3, .int .i64 0] 44 (0, 0)) ∧ Below w.heap.size w A) → (B.heap[w.heap.size]? = some (.cells zeroP.arr 39 (0, 0)) ∧ B.heap[w.heap.size + 1]? = some (.cells #[.string xB, .int .i64 3, .int .i64 0] 44 (0, 0)) ∧ Below w.heap.size w B)) := Lib.hid fun A B hb ⟨h1, h2, h3⟩ =>
    ⟨(hb.block _ (Array.getElem?_eq_some_iff.1 h1).1).trans h1, (hb.block _ (Array.getElem?_eq_some_iff.1 h2).1).trans h2, h3.trans (hb.mono h3.size)⟩
  have HST := Lib.hid hst
  clear hst
  go_wp2_with (first
    | (go_at_call 22; refine (HNM.out _).mono ?_; rintro o2 w2 ⟨rfl, hb2⟩; have HST := Lib.hid (UPD.out _ _ hb2 HST.out); clear hb2)
    | (refine wpList_store_row rfl 39 _ _ rfl w.heap.size (smallP ⟨some ⟨w.heap.size + 1, 0, none⟩, 1⟩ Sp.none []).arr (by rfl) (by rfl) 39 zeroP.arr HST.out.1 (arr_size _) (by kernel_rfl) (arr_one _) ?_)
    | fail)
  obtain ⟨h1, h2, h3⟩ := HST.out
  have h4 := setRow_heap w2 w.heap.size zeroP.arr (smallP ⟨some ⟨w.heap.size + 1, 0, none⟩, 1⟩ Sp.none []).arr 39 (0, 0) h1
  have h5 : Below w.heap.size w (w2.setRow w.heap.size (smallP ⟨some ⟨w.heap.size + 1, 0, none⟩, 1⟩ Sp.none []).arr) := below_setRow h3 (Nat.le_refl _) _
  refine bodyPost_ret (results_cell_row rfl _ _ w.heap.size 39 _ (0, 0) _ rfl h4 Tryz.underlying39 rfl (arr_size _)) rfl ⟨w.heap.size + 1, rfl, ?_, h5, Nat.le_succ _, (setRow_other _ _ _ _ (by omega)).trans h2⟩
  refine small_now (row_one (enc := DeclV.cells) (x := ⟨xB, 3, 0⟩) (t := 44) (fr := (0, 0)) ((setRow_other _ _ _ _ (by omega)).trans h2)) (HTS.out.on h5)
end Go.Proofs.YthcboallnbaimaaGreatDoor
namespace Go.Proofs.YthcboallnbaimaaGreatDoor
open Go Go.RowKit
def mask (q : Nat) (W : World) : World := W.putObj q (.cells #[] 0)
section
variable {q : Nat} {W W' : World}
theorem mask_size : (mask q W).heap.size = W.heap.size := by simp [mask, World.putObj]
theorem mask_heap {k : Nat} (h : k ≠ q) : (mask q W).heap[k]? = W.heap[k]? := by
  simp only [mask, World.putObj]
  rw [Array.getElem?_setIfInBounds, if_neg (fun e => h e.symm)]
theorem mask_at : (mask q W).heap[q]? = if q < W.heap.size then some (.cells #[] 0) else none := by
  simp only [mask, World.putObj]
  rw [Array.getElem?_setIfInBounds, if_pos rfl]
theorem heap_ext {A B : World} (h1 : A.os = B.os) (h2 : A.tape = B.tape) (h3 : A.output = B.output) (h4 : A.drawn = B.drawn) (h5 : ∀ k : Nat, A.heap[k]? = B.heap[k]?) : A = B := by
  obtain ⟨h, _, _, _, _⟩ := A
  obtain ⟨h', _, _, _, _⟩ := B
  simp only at h1 h2 h3 h4 h5
  have : h = h' := by
    apply Array.ext_getElem?
    exact h5
  subst this h1 h2 h3 h4
  rfl
theorem mask_setCell (i : Nat) (v : Value) : mask q (W.setCell ⟨q, i, none⟩ v) = mask q W := by
  refine heap_ext rfl rfl rfl rfl fun k => ?_
  by_cases h : k = q
  · subst h
    rw [mask_at, mask_at]; simp
  · rw [mask_heap h, mask_heap h]
    exact Below.heap_setCell _ _ _ _ h
theorem mask_alloc (hq : q < W.heap.size) (o : Obj) : mask q (W.alloc o) = (mask q W).alloc o := by
  refine heap_ext rfl rfl rfl rfl fun k => ?_
  by_cases h : k = q
  · subst h
    rw [mask_at, Below.heap_alloc _ _ _ (by rw [mask_size]; exact hq), mask_at, if_pos (by simp; omega), if_pos hq]
  · rw [mask_heap h]
    show (W.heap.push o)[k]? = ((mask q W).heap.push o)[k]?
    rw [Array.getElem?_push, Array.getElem?_push, mask_size, mask_heap h]
theorem mask_cell {a : Addr} {u : Value} (h : (mask q W).cell? a = some u) : W.cell? a = some u := by
  by_cases e : a.block = q
  · simp only [World.cell?, e, mask_at] at h
    split at h
    · next hh =>
      split at hh
      · cases hh
        split at h
        · cases h
        · simp at h
      · cases hh
    · cases h
  · rw [World.cell?_of_block (w := mask q W) (mask_heap e).symm]; exact h
theorem mask_below_q : Below q W (mask q W) := ⟨rfl, rfl, rfl, by rw [mask_size]; exact Nat.le_refl _, fun k hk => mask_heap (by omega)⟩
theorem below_mask {B : Nat} (hq : q < W.heap.size) (h : Below B W W') : Below B (mask q W) (mask q W') := by
  refine ⟨h.os, h.tape, h.output, by rw [mask_size, mask_size]; exact h.size, fun k hk => ?_⟩
  by_cases e : k = q
  · subst e
    rw [mask_at, mask_at, if_pos hq, if_pos (Nat.lt_of_lt_of_le hq h.size)]
  · rw [mask_heap e, mask_heap e]; exact h.block k hk
theorem unmask_below {B : Nat} (hB : B ≤ q) (h : Below B (mask q W) (mask q W')) : Below B W W' := by
  refine ⟨h.os, h.tape, h.output, by have := h.size; rw [mask_size, mask_size] at this; exact this, fun k hk => ?_⟩
  have := h.block k hk
  rw [mask_heap (by omega), mask_heap (by omega)] at this
  exact this
theorem RowOf.unmask {α : Type} {n k : Nat} {s : Sp} {enc : α → List Value} {l : List α} (h : RowOf n (mask q W) s k enc l) : RowOf n W s k enc l :=
  ⟨h.cap, h.big, h.few, fun h0 => by
    obtain ⟨b, off, e, hlt, hc⟩ := h.row h0
    exact ⟨b, off, e, hlt, fun j hj r u hu => mask_cell (hc j hj r u hu)⟩⟩
theorem RdX.unmask {n : Nat} {e : ExprV} (h : RdX n (mask q W) e) : RdX n W e := by
  induction h with
  | mk e k o v w n row _ ih => exact .mk e k o v w n row.unmask ih
theorem RdT.unmask {n : Nat} {s : StmtV} (h : RdT n (mask q W) s) : RdT n W s := by
  induction h with
  | mk s k b n er ex tr _ or _ ih1 ih2 => exact .mk s k b n er.unmask (fun e he => (ex e he).unmask) tr.unmask ih1 or.unmask ih2
theorem RdDs.unmask {n : Nat} {s : Sp} {l : List DeclV} (h : RdDs n (mask q W) s l) : RdDs n W s l := ⟨h.row.unmask, h.ok⟩
theorem RdTs.unmask {n : Nat} {s : Sp} {l : List StmtV} (h : RdTs n (mask q W) s l) : RdTs n W s l := ⟨h.row.unmask, fun t ht => (h.ok t ht).unmask⟩
theorem RdP.unmask {n : Nat} {p : ProgV} (h : RdP n (mask q W) p) : RdP n W p :=
  ⟨h.blocks, h.width, h.inputs.unmask, h.ghosts.unmask, h.vars.unmask, h.arrays.unmask, h.require.unmask, h.irow.unmask, fun i hi => ⟨(h.inits i hi).block, (h.inits i hi).value.unmask⟩, h.prow.unmask, fun x hx => ⟨(h.procs x hx).name, (h.procs x hx).params.unmask, (h.procs x hx).body.unmask⟩, h.work.unmask, h.recover.unmask, h.invariant.unmask⟩
/-- A row whose block is another one. -/
theorem RowOf.mask {α : Type} {n k b off : Nat} {c : Nat} {enc : α → List Value} {l : List α} (h : RowOf n W ⟨some ⟨b, off, none⟩, c⟩ k enc l) (hb : b ≠ q) : RowOf n (mask q W) ⟨some ⟨b, off, none⟩, c⟩ k enc l :=
  ⟨h.cap, h.big, h.few, fun h0 => by
    obtain ⟨b', off', e, hlt, hc⟩ := h.row h0
    have e2 : b = b' := by have := Option.some.inj e; exact (Addr.mk.inj this).1
    exact ⟨b', off', e, hlt, fun j hj r u hu => (World.cell?_of_block (w := W) (a := ⟨b', off' + j * k + r, none⟩) (mask_heap (by rw [← e2]; exact hb))).trans (hc j hj r u hu)⟩⟩
end
end Go.Proofs.YthcboallnbaimaaGreatDoor
namespace Go.Proofs.YthcboallnbaimaaGreatDoor
open Go Go.RowKit
section
variable {α : Type} {k : Nat} {enc : α → List Value}
theorem flat_len' (hk : ∀ x, (enc x).length = k) : ∀ l : List α, (l.flatMap enc).length = l.length * k
  | [] => by simp
  | x :: l => by rw [List.flatMap_cons, List.length_append, flat_len' hk l, hk, List.length_cons, Nat.add_mul]; omega
theorem flat_split (hk : ∀ x, (enc x).length = k) : ∀ (l : List α) (j : Nat) (u : Value), (l.flatMap enc)[j]? = some u → ∃ i r, ∃ hi : i < l.length, j = i * k + r ∧ (enc (l[i]))[r]? = some u
  | [], j, u, h => by simp at h
  | x :: l, j, u, h => by
    rw [List.flatMap_cons] at h
    by_cases hj : j < k
    · rw [List.getElem?_append_left (by rw [hk]; exact hj)] at h
      exact ⟨0, j, by simp, by omega, h⟩
    · rw [List.getElem?_append_right (by rw [hk]; omega), hk] at h
      obtain ⟨i, r, hi, e, h2⟩ := flat_split hk l (j - k) u h
      refine ⟨i + 1, r, by simp; omega, ?_, by simpa using h2⟩
      rw [Nat.add_mul]; omega
theorem flat_at (hk : ∀ x, (enc x).length = k) : ∀ (l : List α) (i r : Nat) (u : Value) (hi : i < l.length), (enc (l[i]))[r]? = some u → (l.flatMap enc)[i * k + r]? = some u
  | [], i, r, u, hi, _ => by simp at hi
  | x :: l, 0, r, u, hi, h => by
    have hr := (List.getElem?_eq_some_iff.1 h).1
    rw [List.flatMap_cons, Nat.zero_mul, Nat.zero_add, List.getElem?_append_left (by simpa using hr)]
    exact h
  | x :: l, i + 1, r, u, hi, h => by
    rw [List.flatMap_cons, List.getElem?_append_right (by rw [hk, Nat.add_mul]; omega), hk]
    have := flat_at hk l i r u (by simpa using hi) (by simpa using h)
    rw [← this]
    congr 1
    rw [Nat.add_mul]; omega
/-- The value v owns the list l, from block B on. -/
def OwnL (B : Nat) (W : World) (t : TypeId) (k : Nat) (enc : α → List Value) (v : Value) (l : List α) : Prop := W.ownsRow B t k v l.length (l.flatMap enc)
variable {B n : Nat} {W W' : World} {t : TypeId} {v : Value} {l : List α}
theorem OwnL.kept (h : OwnL B W t k enc v l) (hk : ∀ g cs fr, B ≤ g → W.heap[g]? = some (.cells cs t fr) → W'.heap[g]? = W.heap[g]?) : OwnL B W' t k enc v l := by
  obtain ⟨hlen, ho⟩ := h
  refine ⟨hlen, ?_⟩
  rcases ho with h0 | ⟨g, cap, cur, rfl, h1, h2, h3⟩
  · exact .inl h0
  · exact .inr ⟨g, cap, cur, rfl, h1, (hk g _ _ h1 h2).trans h2, h3⟩
theorem OwnL.on (h : OwnL B W t k enc v l) (hb : Below W.heap.size W W') : OwnL B W' t k enc v l := h.kept fun g _ _ _ hg => hb.block g (Array.getElem?_eq_some_iff.1 hg).1
theorem OwnL.less {C : Nat} (h : OwnL C W t k enc v l) (hB : B ≤ C) : OwnL B W t k enc v l := by
  obtain ⟨hlen, ho⟩ := h
  refine ⟨hlen, ?_⟩
  rcases ho with h0 | ⟨g, cap, cur, rfl, h1, h2⟩
  · exact .inl h0
  · exact .inr ⟨g, cap, cur, rfl, Nat.le_trans hB h1, h2⟩
theorem OwnL.nil : OwnL B W t k enc (.slice none 0 0) ([] : List α) := ⟨by simp, .inl ⟨rfl, rfl⟩⟩
theorem OwnL.slice (h : OwnL B W t k enc v l) : ∃ sp : Sp, v = sp.val l.length := by
  rcases h.2 with ⟨rfl, h0⟩ | ⟨g, cap, cur, rfl, _⟩
  · exact ⟨Sp.none, by simp [Sp.val, Sp.none, h0]⟩
  · exact ⟨⟨some ⟨g, 0, none⟩, cap⟩, rfl⟩
/-- What a slice owns is a row. -/
theorem OwnL.row (h : OwnL B W t k enc v l) (hk : ∀ x, (enc x).length = k) (hfew : l.length ≤ 2199023255552) : ∃ sp : Sp, v = sp.val l.length ∧ RowOf W.heap.size W sp k enc l ∧ (∀ a, sp.at_ = some a → B ≤ a.block ∧ a.off = 0 ∧ a.spot = none) := by
  rcases h.2 with ⟨rfl, h0⟩ | ⟨g, cap, cur, rfl, h1, h2, h3, h4, h5, h6⟩
  · have : l = [] := List.eq_nil_of_length_eq_zero h0
    subst this
    exact ⟨Sp.none, rfl, RowOf.nil, fun a ha => by cases ha⟩
  · refine ⟨⟨some ⟨g, 0, none⟩, cap⟩, rfl, ⟨h3, h4, hfew, fun _ => ⟨g, 0, rfl, (Array.getElem?_eq_some_iff.1 h2).1, fun j hj r u hu => ?_⟩⟩, fun a ha => by cases ha; exact ⟨h1, rfl, rfl⟩⟩
    have e := flat_at hk l j r u hj hu
    have hlt := (List.getElem?_eq_some_iff.1 e).1
    have e2 : (cur.toList.take (l.length * k))[j * k + r]? = some u := by rw [h6]; exact e
    have hlt2 : j * k + r < l.length * k := by rw [← flat_len' hk l]; exact hlt
    rw [List.getElem?_take_of_lt hlt2, Array.getElem?_toList] at e2
    simp only [World.cell?, h2, Nat.zero_add]
    exact e2
theorem RowOf.news {sp : Sp} (h : RowOf n W sp k enc l) (hk : ∀ x, (enc x).length = k) (h0 : 0 < l.length) : ∃ b off, sp.at_ = some ⟨b, off, none⟩ ∧ b < n ∧ ∀ j u, (l.flatMap enc)[j]? = some u → W.cell? ((⟨b, off, none⟩ : Addr).add j) = some u := by
  obtain ⟨b, off, e, hb, hc⟩ := h.row h0
  refine ⟨b, off, e, hb, fun j u hj => ?_⟩
  obtain ⟨i, r, hi, rfl, hu⟩ := flat_split hk l j u hj
  rw [Addr.add_lit, show off + (i * k + r) = off + i * k + r by omega]
  exact hc i hi r u hu
/-- A row whose block is not q. -/
theorem OwnL.mask {q : Nat} (h : OwnL B W t k enc v l) (hq : q < B) : OwnL B (mask q W) t k enc v l := by
  obtain ⟨hlen, ho⟩ := h
  refine ⟨hlen, ?_⟩
  rcases ho with h0 | ⟨g, cap, cur, rfl, h1, h2, h3⟩
  · exact .inl h0
  · exact .inr ⟨g, cap, cur, rfl, h1, (mask_heap (by omega)).trans h2, h3⟩
end
theorem one_decl : ∀ x : DeclV, ∀ u ∈ x.cells, u.oneCell' = true := by
  intro x u hu
  simp [DeclV.cells] at hu
  rcases hu with rfl | rfl | rfl <;> rfl
theorem one_stmt : ∀ x : StmtV, ∀ u ∈ x.cells, u.oneCell' = true := by
  intro x u hu
  simp [StmtV.cells, Sp.val] at hu
  rcases hu with rfl | rfl | rfl | rfl | rfl | rfl <;> rfl
theorem one_expr : ∀ x : ExprV, ∀ u ∈ x.cells, u.oneCell' = true := by
  intro x u hu
  simp [ExprV.cells, Sp.val] at hu
  rcases hu with rfl | rfl | rfl | rfl | rfl | rfl <;> rfl
theorem one_proc : ∀ x : ProcV, ∀ u ∈ x.cells, u.oneCell' = true := by
  intro x u hu
  simp [ProcV.cells, Sp.val] at hu
  rcases hu with rfl | rfl | rfl <;> rfl
theorem one_init : ∀ x : InitV, ∀ u ∈ x.cells, u.oneCell' = true := by
  intro x u hu
  simp only [InitV.cells, List.mem_cons] at hu
  rcases hu with rfl | hu
  · rfl
  · exact one_expr _ u hu
theorem one_flat {α : Type} {enc : α → List Value} (h : ∀ x : α, ∀ u ∈ enc x, u.oneCell' = true) (l : List α) : ∀ u ∈ l.flatMap enc, u.oneCell' = true := by
  intro u hu
  obtain ⟨x, _, hx⟩ := List.mem_flatMap.1 hu
  exact h x u hx
end Go.Proofs.YthcboallnbaimaaGreatDoor
namespace Go.Proofs.YthcboallnbaimaaGreatDoor
open Go Go.RowKit Go.Maps
theorem decl_inf : (Tryz.prog.info? 44).map (fun i => (i.zero, i.size, i.bytes)) = some (some (.agg #[.string ⟨#[]⟩, .int .i64 0, .int .i64 0]), 3, 32) := by kernel_rfl
set_option maxRecDepth 1000000 in
theorem clone_decl (w : World) (sp : Sp) (l : List DeclV) (B : Nat) (h : RowOf B w sp 3 DeclV.cells l) (hl : l.length ≤ 1000000) :
    Calls Tryz.prog 72 #[.slice sp.at_ l.length sp.cap] w fun o w' => (∃ v, o = .returned v ∧ OwnL w.heap.size w' 44 3 DeclV.cells v l) ∧ Below w.heap.size w w' := by
  obtain ⟨i0, hi, hz0, hz1, hz2⟩ := info_of decl_inf
  have q22 : ∀ (w : World) (a : Option Addr) (n c n' c' : Nat), (binOp .eql 28 (.slice a n c) (.slice none n' c')).run Tryz.prog w = .ok (.bool a.isNone) w := fun w a n c n' c' => Lib.run_eql_slice_nil w _ _ a n c n' c' Tryz.underlying28
  cases hat : sp.at_ with
  | none =>
    have h0 : l = [] := by
      cases l with
      | nil => rfl
      | cons x l => obtain ⟨b, off, e, _⟩ := h.row (by simp); rw [hat] at e; cases e
    subst h0
    clear h
    go_enter Tryz.func72, Tryz.ntmps72
    go_wp2_with fail
    go_ret
    exact ⟨⟨_, rfl, OwnL.nil⟩, Below.refl _ _⟩
  | some a =>
    have HN : ∃ ad : Addr, some a = some ad ∧ ∀ j u, (l.flatMap DeclV.cells)[j]? = some u → (w.alloc (.cells #[] 44)).cell? (ad.add j) = some u := by
      refine ⟨a, rfl, fun j u hj => ?_⟩
      have h0 : 0 < l.length := by
        cases l with
        | nil => simp at hj
        | cons x l => simp
      obtain ⟨b, off, e, hlt, hc⟩ := h.news (fun _ => rfl) h0
      rw [hat] at e
      cases e
      have hcc := hc j u hj
      have hblk := World.block_lt_of_cell? w _ hcc
      exact (World.cell?_of_block (w := w) (Below.heap_alloc _ _ _ hblk)).trans hcc
    obtain ⟨ad, e1, hnews⟩ := HN
    cases e1
    have HNEWS := Lib.hid hnews
    clear hnews h hat
    have hl63 : l.length ≤ maxLen := by simp only [maxLen]; omega
    have hLN := flat_len' (enc := DeclV.cells) (k := 3) (fun _ => rfl) l
    have hO1 := one_flat one_decl l
    have HLN := Lib.hid hLN
    have HO1 := Lib.hid hO1
    clear hLN hO1
    obtain ⟨n, hn⟩ : ∃ n, l.length = n := ⟨_, rfl⟩
    have HNN := Lib.hid hn
    rw [hn] at HLN hl hl63 ⊢
    clear hn
    go_enter Tryz.func72, Tryz.ntmps72
    go_wp2_with (first | (at_builtin; refine wpList_append_own _ rfl _ _ 28 rfl w.heap.size 44 i0 _ 3 32 Tryz.underlying28 hi hz0 hz1 hz2 rfl (by decide) _ _ _ rfl (World.ownsRow_made w #[] 0 (Nat.le_refl _) (Nat.zero_le _) (by simp)) a n sp.cap (l.flatMap DeclV.cells) rfl HLN.out HNEWS.out HO1.out (by omega) (by omega) (by simp) ?_) | fail)
    intro v' w1 hown hgrow hnil
    go_wp2_with fail
    go_ret
    refine ⟨⟨v', rfl, by simpa [OwnL, HNN.out] using hown⟩, ?_⟩
    exact ((Below.refl _ w).alloc (Nat.le_refl _) _).grown hgrow (by simp) (by intro k hk; simp [Value.ownBlock] at hk; omega)
theorem stmt_inf : (Tryz.prog.info? 49).map (fun i => (i.zero, i.size, i.bytes)) = some (some (.agg #[.int .u8 0, .string ⟨#[]⟩, .slice none 0 0, .int .i64 0, .slice none 0 0, .slice none 0 0]), 6, 104) := by kernel_rfl
set_option maxRecDepth 1000000 in
theorem clone_stmt (w : World) (sp : Sp) (l : List StmtV) (B : Nat) (h : RowOf B w sp 6 StmtV.cells l) (hl : l.length ≤ 1000000) :
    Calls Tryz.prog 26 #[.slice sp.at_ l.length sp.cap] w fun o w' => (∃ v, o = .returned v ∧ OwnL w.heap.size w' 49 6 StmtV.cells v l) ∧ Below w.heap.size w w' := by
  obtain ⟨i0, hi, hz0, hz1, hz2⟩ := info_of stmt_inf
  have q22 : ∀ (w : World) (a : Option Addr) (n c n' c' : Nat), (binOp .eql 37 (.slice a n c) (.slice none n' c')).run Tryz.prog w = .ok (.bool a.isNone) w := fun w a n c n' c' => Lib.run_eql_slice_nil w _ _ a n c n' c' Tryz.underlying37
  cases hat : sp.at_ with
  | none =>
    have h0 : l = [] := by
      cases l with
      | nil => rfl
      | cons x l => obtain ⟨b, off, e, _⟩ := h.row (by simp); rw [hat] at e; cases e
    subst h0
    clear h
    go_enter Tryz.func26, Tryz.ntmps26
    go_wp2_with fail
    go_ret
    exact ⟨⟨_, rfl, OwnL.nil⟩, Below.refl _ _⟩
  | some a =>
    have HN : ∃ ad : Addr, some a = some ad ∧ ∀ j u, (l.flatMap StmtV.cells)[j]? = some u → (w.alloc (.cells #[] 49)).cell? (ad.add j) = some u := by
      refine ⟨a, rfl, fun j u hj => ?_⟩
      have h0 : 0 < l.length := by
        cases l with
        | nil => simp at hj
        | cons x l => simp
      obtain ⟨b, off, e, hlt, hc⟩ := h.news (fun _ => rfl) h0
      rw [hat] at e
      cases e
      have hcc := hc j u hj
      have hblk := World.block_lt_of_cell? w _ hcc
      exact (World.cell?_of_block (w := w) (Below.heap_alloc _ _ _ hblk)).trans hcc
    obtain ⟨ad, e1, hnews⟩ := HN
    cases e1
    have HNEWS := Lib.hid hnews
    clear hnews h hat
    have hl63 : l.length ≤ maxLen := by simp only [maxLen]; omega
    have hLN := flat_len' (enc := StmtV.cells) (k := 6) (fun _ => rfl) l
    have hO1 := one_flat one_stmt l
    have HLN := Lib.hid hLN
    have HO1 := Lib.hid hO1
    clear hLN hO1
    obtain ⟨n, hn⟩ : ∃ n, l.length = n := ⟨_, rfl⟩
    have HNN := Lib.hid hn
    rw [hn] at HLN hl hl63 ⊢
    clear hn
    go_enter Tryz.func26, Tryz.ntmps26
    go_wp2_with (first | (at_builtin; refine wpList_append_own _ rfl _ _ 37 rfl w.heap.size 49 i0 _ 6 104 Tryz.underlying37 hi hz0 hz1 hz2 rfl (by decide) _ _ _ rfl (World.ownsRow_made w #[] 0 (Nat.le_refl _) (Nat.zero_le _) (by simp)) a n sp.cap (l.flatMap StmtV.cells) rfl HLN.out HNEWS.out HO1.out (by omega) (by omega) (by simp) ?_) | fail)
    intro v' w1 hown hgrow hnil
    go_wp2_with fail
    go_ret
    refine ⟨⟨v', rfl, by simpa [OwnL, HNN.out] using hown⟩, ?_⟩
    exact ((Below.refl _ w).alloc (Nat.le_refl _) _).grown hgrow (by simp) (by intro k hk; simp [Value.ownBlock] at hk; omega)
theorem proc_inf : (Tryz.prog.info? 47).map (fun i => (i.zero, i.size, i.bytes)) = some (some (.agg #[.string ⟨#[]⟩, .slice none 0 0, .slice none 0 0]), 3, 64) := by kernel_rfl
set_option maxRecDepth 1000000 in
theorem clone_proc (w : World) (sp : Sp) (l : List ProcV) (B : Nat) (h : RowOf B w sp 3 ProcV.cells l) (hl : l.length ≤ 1000000) :
    Calls Tryz.prog 36 #[.slice sp.at_ l.length sp.cap] w fun o w' => (∃ v, o = .returned v ∧ OwnL w.heap.size w' 47 3 ProcV.cells v l) ∧ Below w.heap.size w w' := by
  obtain ⟨i0, hi, hz0, hz1, hz2⟩ := info_of proc_inf
  have q22 : ∀ (w : World) (a : Option Addr) (n c n' c' : Nat), (binOp .eql 36 (.slice a n c) (.slice none n' c')).run Tryz.prog w = .ok (.bool a.isNone) w := fun w a n c n' c' => Lib.run_eql_slice_nil w _ _ a n c n' c' Tryz.underlying36
  cases hat : sp.at_ with
  | none =>
    have h0 : l = [] := by
      cases l with
      | nil => rfl
      | cons x l => obtain ⟨b, off, e, _⟩ := h.row (by simp); rw [hat] at e; cases e
    subst h0
    clear h
    go_enter Tryz.func36, Tryz.ntmps36
    go_wp2_with fail
    go_ret
    exact ⟨⟨_, rfl, OwnL.nil⟩, Below.refl _ _⟩
  | some a =>
    have HN : ∃ ad : Addr, some a = some ad ∧ ∀ j u, (l.flatMap ProcV.cells)[j]? = some u → (w.alloc (.cells #[] 47)).cell? (ad.add j) = some u := by
      refine ⟨a, rfl, fun j u hj => ?_⟩
      have h0 : 0 < l.length := by
        cases l with
        | nil => simp at hj
        | cons x l => simp
      obtain ⟨b, off, e, hlt, hc⟩ := h.news (fun _ => rfl) h0
      rw [hat] at e
      cases e
      have hcc := hc j u hj
      have hblk := World.block_lt_of_cell? w _ hcc
      exact (World.cell?_of_block (w := w) (Below.heap_alloc _ _ _ hblk)).trans hcc
    obtain ⟨ad, e1, hnews⟩ := HN
    cases e1
    have HNEWS := Lib.hid hnews
    clear hnews h hat
    have hl63 : l.length ≤ maxLen := by simp only [maxLen]; omega
    have hLN := flat_len' (enc := ProcV.cells) (k := 3) (fun _ => rfl) l
    have hO1 := one_flat one_proc l
    have HLN := Lib.hid hLN
    have HO1 := Lib.hid hO1
    clear hLN hO1
    obtain ⟨n, hn⟩ : ∃ n, l.length = n := ⟨_, rfl⟩
    have HNN := Lib.hid hn
    rw [hn] at HLN hl hl63 ⊢
    clear hn
    go_enter Tryz.func36, Tryz.ntmps36
    go_wp2_with (first | (at_builtin; refine wpList_append_own _ rfl _ _ 36 rfl w.heap.size 47 i0 _ 3 64 Tryz.underlying36 hi hz0 hz1 hz2 rfl (by decide) _ _ _ rfl (World.ownsRow_made w #[] 0 (Nat.le_refl _) (Nat.zero_le _) (by simp)) a n sp.cap (l.flatMap ProcV.cells) rfl HLN.out HNEWS.out HO1.out (by omega) (by omega) (by simp) ?_) | fail)
    intro v' w1 hown hgrow hnil
    go_wp2_with fail
    go_ret
    refine ⟨⟨v', rfl, by simpa [OwnL, HNN.out] using hown⟩, ?_⟩
    exact ((Below.refl _ w).alloc (Nat.le_refl _) _).grown hgrow (by simp) (by intro k hk; simp [Value.ownBlock] at hk; omega)
theorem init_inf : (Tryz.prog.info? 118).map (fun i => (i.zero, i.size, i.bytes)) = some (some (.agg #[.int .i64 0, .int .u8 0, .int .u8 0, .int .u32 0, .int .i64 0, .string ⟨#[]⟩, .slice none 0 0]), 7, 64) := by kernel_rfl
set_option maxRecDepth 1000000 in
theorem clone_init (w : World) (sp : Sp) (l : List InitV) (B : Nat) (h : RowOf B w sp 7 InitV.cells l) (hl : l.length ≤ 1000000) :
    Calls Tryz.prog 74 #[.slice sp.at_ l.length sp.cap] w fun o w' => (∃ v, o = .returned v ∧ OwnL w.heap.size w' 118 7 InitV.cells v l) ∧ Below w.heap.size w w' := by
  obtain ⟨i0, hi, hz0, hz1, hz2⟩ := info_of init_inf
  have q22 : ∀ (w : World) (a : Option Addr) (n c n' c' : Nat), (binOp .eql 35 (.slice a n c) (.slice none n' c')).run Tryz.prog w = .ok (.bool a.isNone) w := fun w a n c n' c' => Lib.run_eql_slice_nil w _ _ a n c n' c' Tryz.underlying35
  cases hat : sp.at_ with
  | none =>
    have h0 : l = [] := by
      cases l with
      | nil => rfl
      | cons x l => obtain ⟨b, off, e, _⟩ := h.row (by simp); rw [hat] at e; cases e
    subst h0
    clear h
    go_enter Tryz.func74, Tryz.ntmps74
    go_wp2_with fail
    go_ret
    exact ⟨⟨_, rfl, OwnL.nil⟩, Below.refl _ _⟩
  | some a =>
    have HN : ∃ ad : Addr, some a = some ad ∧ ∀ j u, (l.flatMap InitV.cells)[j]? = some u → (w.alloc (.cells #[] 118)).cell? (ad.add j) = some u := by
      refine ⟨a, rfl, fun j u hj => ?_⟩
      have h0 : 0 < l.length := by
        cases l with
        | nil => simp at hj
        | cons x l => simp
      obtain ⟨b, off, e, hlt, hc⟩ := h.news (fun _ => rfl) h0
      rw [hat] at e
      cases e
      have hcc := hc j u hj
      have hblk := World.block_lt_of_cell? w _ hcc
      exact (World.cell?_of_block (w := w) (Below.heap_alloc _ _ _ hblk)).trans hcc
    obtain ⟨ad, e1, hnews⟩ := HN
    cases e1
    have HNEWS := Lib.hid hnews
    clear hnews h hat
    have hl63 : l.length ≤ maxLen := by simp only [maxLen]; omega
    have hLN := flat_len' (enc := InitV.cells) (k := 7) (fun _ => rfl) l
    have hO1 := one_flat one_init l
    have HLN := Lib.hid hLN
    have HO1 := Lib.hid hO1
    clear hLN hO1
    obtain ⟨n, hn⟩ : ∃ n, l.length = n := ⟨_, rfl⟩
    have HNN := Lib.hid hn
    rw [hn] at HLN hl hl63 ⊢
    clear hn
    go_enter Tryz.func74, Tryz.ntmps74
    go_wp2_with (first | (at_builtin; refine wpList_append_own _ rfl _ _ 35 rfl w.heap.size 118 i0 _ 7 64 Tryz.underlying35 hi hz0 hz1 hz2 rfl (by decide) _ _ _ rfl (World.ownsRow_made w #[] 0 (Nat.le_refl _) (Nat.zero_le _) (by simp)) a n sp.cap (l.flatMap InitV.cells) rfl HLN.out HNEWS.out HO1.out (by omega) (by omega) (by simp) ?_) | fail)
    intro v' w1 hown hgrow hnil
    go_wp2_with fail
    go_ret
    refine ⟨⟨v', rfl, by simpa [OwnL, HNN.out] using hown⟩, ?_⟩
    exact ((Below.refl _ w).alloc (Nat.le_refl _) _).grown hgrow (by simp) (by intro k hk; simp [Value.ownBlock] at hk; omega)
theorem expr_inf : (Tryz.prog.info? 34).map (fun i => (i.zero, i.size, i.bytes)) = some (some (.agg #[.int .u8 0, .int .u8 0, .int .u32 0, .int .i64 0, .string ⟨#[]⟩, .slice none 0 0]), 6, 56) := by kernel_rfl
set_option maxRecDepth 1000000 in
theorem clone_expr (w : World) (sp : Sp) (l : List ExprV) (B : Nat) (h : RowOf B w sp 6 ExprV.cells l) (hl : l.length ≤ 1000000) :
    Calls Tryz.prog 112 #[.slice sp.at_ l.length sp.cap] w fun o w' => (∃ v, o = .returned v ∧ OwnL w.heap.size w' 34 6 ExprV.cells v l) ∧ Below w.heap.size w w' := by
  obtain ⟨i0, hi, hz0, hz1, hz2⟩ := info_of expr_inf
  have q22 : ∀ (w : World) (a : Option Addr) (n c n' c' : Nat), (binOp .eql 32 (.slice a n c) (.slice none n' c')).run Tryz.prog w = .ok (.bool a.isNone) w := fun w a n c n' c' => Lib.run_eql_slice_nil w _ _ a n c n' c' Tryz.underlying32
  cases hat : sp.at_ with
  | none =>
    have h0 : l = [] := by
      cases l with
      | nil => rfl
      | cons x l => obtain ⟨b, off, e, _⟩ := h.row (by simp); rw [hat] at e; cases e
    subst h0
    clear h
    go_enter Tryz.func112, Tryz.ntmps112
    go_wp2_with fail
    go_ret
    exact ⟨⟨_, rfl, OwnL.nil⟩, Below.refl _ _⟩
  | some a =>
    have HN : ∃ ad : Addr, some a = some ad ∧ ∀ j u, (l.flatMap ExprV.cells)[j]? = some u → (w.alloc (.cells #[] 34)).cell? (ad.add j) = some u := by
      refine ⟨a, rfl, fun j u hj => ?_⟩
      have h0 : 0 < l.length := by
        cases l with
        | nil => simp at hj
        | cons x l => simp
      obtain ⟨b, off, e, hlt, hc⟩ := h.news (fun _ => rfl) h0
      rw [hat] at e
      cases e
      have hcc := hc j u hj
      have hblk := World.block_lt_of_cell? w _ hcc
      exact (World.cell?_of_block (w := w) (Below.heap_alloc _ _ _ hblk)).trans hcc
    obtain ⟨ad, e1, hnews⟩ := HN
    cases e1
    have HNEWS := Lib.hid hnews
    clear hnews h hat
    have hl63 : l.length ≤ maxLen := by simp only [maxLen]; omega
    have hLN := flat_len' (enc := ExprV.cells) (k := 6) (fun _ => rfl) l
    have hO1 := one_flat one_expr l
    have HLN := Lib.hid hLN
    have HO1 := Lib.hid hO1
    clear hLN hO1
    obtain ⟨n, hn⟩ : ∃ n, l.length = n := ⟨_, rfl⟩
    have HNN := Lib.hid hn
    rw [hn] at HLN hl hl63 ⊢
    clear hn
    go_enter Tryz.func112, Tryz.ntmps112
    go_wp2_with (first | (at_builtin; refine wpList_append_own _ rfl _ _ 32 rfl w.heap.size 34 i0 _ 6 56 Tryz.underlying32 hi hz0 hz1 hz2 rfl (by decide) _ _ _ rfl (World.ownsRow_made w #[] 0 (Nat.le_refl _) (Nat.zero_le _) (by simp)) a n sp.cap (l.flatMap ExprV.cells) rfl HLN.out HNEWS.out HO1.out (by omega) (by omega) (by simp) ?_) | fail)
    intro v' w1 hown hgrow hnil
    go_wp2_with fail
    go_ret
    refine ⟨⟨v', rfl, by simpa [OwnL, HNN.out] using hown⟩, ?_⟩
    exact ((Below.refl _ w).alloc (Nat.le_refl _) _).grown hgrow (by simp) (by intro k hk; simp [Value.ownBlock] at hk; omega)
end Go.Proofs.YthcboallnbaimaaGreatDoor
namespace Go.Proofs.YthcboallnbaimaaGreatDoor
open Go Go.RowKit
/-- The slice type t of elements e of k cells. -/
def ElemK (P : Program) (t e : TypeId) (k : Nat) : Prop := ∃ i z bytes, P.underlying t = some (.slice e) ∧ P.info? e = some i ∧ i.zero = some z ∧ i.size = k ∧ i.bytes = bytes ∧ bytes ≤ 1000 ∧ z.cells.size = k ∧ 0 < k
theorem elemK_of {P : Program} {t e : TypeId} {k b : Nat} {z : Value} (h : (P.info? e).map (fun i => (i.zero, i.size, i.bytes)) = some (some z, k, b)) (ht : P.underlying t = some (.slice e)) (hb : b ≤ 1000) (hz : z.cells.size = k) (hk : 0 < k) : ElemK P t e k := by
  obtain ⟨i, h1, h2, h3, h4⟩ := info_of h
  exact ⟨i, z, b, ht, h1, h2, h3, h4, hb, hz, hk⟩
section
variable {P : Program} {α : Type} {k : Nat} {enc : α → List Value} {w : World}
theorem run_append_row {B : Nat} {t ty e : TypeId} (hE : ElemK P t e k) (hk : ∀ x, (enc x).length = k) (h1 : ∀ x : α, ∀ u ∈ enc x, u.oneCell' = true) {v : Value} {l : List α} (hown : OwnL B w e k enc v l)
    {n : Nat} {sp : Sp} {l2 : List α} (hr : RowOf n w sp k enc l2) (hlen : l.length + l2.length ≤ 1000000) (hB : B ≤ w.heap.size) :
    ∃ v' w', (Builtin.append_ #[t, t] ty #[v, .slice sp.at_ l2.length sp.cap]).run P w = .ok v' w' ∧ OwnL B w' e k enc v' (l ++ l2) ∧ w.grownBy w' v.ownBlock ∧ (v'.ownBlock = v.ownBlock ∨ v'.ownBlock = some w.heap.size) := by
  obtain ⟨i, z, bytes, ht, hi, hz, hsz, hby, hbb, hzs, hk0⟩ := hE
  cases hat : sp.at_ with
  | none =>
    have h0 : l2 = [] := by
      cases l2 with
      | nil => rfl
      | cons x l2 => obtain ⟨b, off, e, _⟩ := hr.row (by simp); rw [hat] at e; cases e
    subst h0
    refine ⟨v, w, ?_, by simpa using hown, World.grownBy.refl w _, .inl rfl⟩
    rcases hown.2 with ⟨rfl, h0⟩ | ⟨g, cap, cur, rfl, _, _, hnc, _⟩
    · simp [Builtin.append_, run_underlying ht, sizeOf, typeInfo, hi, Builtin.lenOf, Builtin.firstCells]
    · simp [Builtin.append_, run_underlying ht, sizeOf, typeInfo, hi, Builtin.lenOf, Builtin.firstCells, hnc, storeCells]
  | some a =>
    have hnews : ∀ j u, (l2.flatMap enc)[j]? = some u → w.cell? (a.add j) = some u := fun j u hj => by
      have h0 : 0 < l2.length := by
        cases l2 with
        | nil => simp at hj
        | cons x l => simp
      obtain ⟨b, off, e, _, hc⟩ := hr.news hk h0
      rw [hat] at e
      cases e
      exact hc j u hj
    obtain ⟨v', w', hrun, h2, h3, _, h5⟩ := run_append_own_at (P := P) w B t ty e i z k bytes ht hi hz hsz hby hzs hk0 v l.length (l.flatMap enc) hown a l2.length sp.cap (l2.flatMap enc) (flat_len' hk l2) hnews (one_flat h1 l2) (by simp only [maxLen]; omega) (by
      have := Nat.mul_le_mul hlen hbb
      omega) hB
    refine ⟨v', w', hrun, ?_, h3, h5⟩
    unfold OwnL
    rw [List.length_append, List.flatMap_append]
    exact h2
theorem wpList_append_row {ops : Array Oper} {rest : List Oper} {o : Oper} {a : Act} {Q : Exit → Act → World → Prop} (hgd : o.guard = none) (s x : Operand) (t : TypeId)
    (ho : o.op = .call { callee := .builtin .append, args := #[s, x], argTypes := #[t, t] }) {B : Nat} {e : TypeId} (hE : ElemK P t e k) (hk : ∀ x, (enc x).length = k) (h1 : ∀ x : α, ∀ u ∈ enc x, u.oneCell' = true) (v : Value) (l : List α) (hs : a.eval s = v) (hown : OwnL B w e k enc v l)
    {n : Nat} (sp : Sp) (l2 : List α) (hx : a.eval x = .slice sp.at_ l2.length sp.cap) (hr : RowOf n w sp k enc l2) (hlen : l.length + l2.length ≤ 1000000) (hB : B ≤ w.heap.size)
    (h : ∀ v' w', OwnL B w' e k enc v' (l ++ l2) → w.grownBy w' v.ownBlock → (v'.ownBlock = v.ownBlock ∨ v'.ownBlock = some w.heap.size) → wpList P ops Q rest (a.put o.dst v') w') : wpList P ops Q (o :: rest) a w :=
  wpList_plain hgd fun _ hK => by
    obtain ⟨v', w', hrun, h2, h3, h4⟩ := run_append_row (P := P) (ty := o.type) hE hk h1 hown hr hlen hB
    unfold Oper.wp execOp
    simp only [ho, resolve, invoke, builtin, Sem.run_bind, Sem.run_pure, Result.andThen_ok, List.map_toArray, List.map_cons, List.map_nil, hs, hx, hrun]
    exact hK _ _ (h v' w' h2 h3 h4)
theorem OwnL.below {B C : Nat} {e : TypeId} {v : Value} {l : List α} (h : OwnL B w e k enc v l) {W' : World} (hg : w.grownBy W' v.ownBlock) (hC : C ≤ B) {W0 : World} (hb : Below C W0 w) (hs : B ≤ w.heap.size) : Below C W0 W' :=
  hb.grown hg (by omega) fun q hq => by
    rcases h.2 with ⟨rfl, _⟩ | ⟨g, cap, cur, rfl, hlt, _⟩
    · simp [Value.ownBlock] at hq
    · simp [Value.ownBlock] at hq; omega
/-- The own block of a list has cells of its element type. -/
theorem OwnL.own_type {B : Nat} {e : TypeId} {v : Value} {l : List α} (h : OwnL B w e k enc v l) {g : Nat} (hg : v.ownBlock = some g) : B ≤ g ∧ ∃ cs fr, w.heap[g]? = some (.cells cs e fr) := by
  rcases h.2 with ⟨rfl, _⟩ | ⟨g', cap, cur, rfl, hlt, hh, _⟩
  · simp [Value.ownBlock] at hg
  · simp [Value.ownBlock] at hg; subst hg; exact ⟨hlt, _, _, hh⟩
/-- A list stays while another one, of another type, grows. -/
theorem OwnL.other {β : Type} {k2 : Nat} {enc2 : β → List Value} {B B2 : Nat} {e e2 : TypeId} {v v2 : Value} {l : List α} {l2 : List β} (h : OwnL B w e k enc v l) (h2 : OwnL B2 w e2 k2 enc2 v2 l2) {W' : World} (hg : w.grownBy W' v2.ownBlock) (hne : e ≠ e2) : OwnL B W' e k enc v l :=
  h.kept fun g cs fr _ hh => hg.block g (Array.getElem?_eq_some_iff.1 hh).1 (fun eq => by
    obtain ⟨_, cs2, fr2, hh2⟩ := h2.own_type eq.symm
    rw [hh] at hh2; cases hh2; exact hne rfl)
/-- An element's cells. -/
theorem OwnL.cell {B : Nat} {e : TypeId} {A : Option Addr} {n c : Nat} {l : List α} (h : OwnL B w e k enc (.slice A n c) l) (hk : ∀ x, (enc x).length = k) {j : Nat} (hj : j < l.length) : ∃ g, A = some ⟨g, 0, none⟩ ∧ B ≤ g ∧ g < w.heap.size ∧ ∀ r u, (enc (l[j]))[r]? = some u → w.cell? ⟨g, j * k + r, none⟩ = some u := by
  rcases h.2 with ⟨_, h0⟩ | ⟨g, cap, cur, hv, hlt, hh, _, _, hle, htk⟩
  · omega
  · cases hv
    refine ⟨g, rfl, hlt, (Array.getElem?_eq_some_iff.1 hh).1, fun r u hu => ?_⟩
    have e1 := flat_at hk l j r u hj hu
    have hlt1 := (List.getElem?_eq_some_iff.1 e1).1
    rw [← htk] at e1
    have hlt2 : j * k + r < l.length * k := by rw [← flat_len' hk l]; exact hlt1
    rw [List.getElem?_take_of_lt hlt2, Array.getElem?_toList] at e1
    simp only [World.cell?, hh]
    exact e1
theorem OwnL.len {B : Nat} {e : TypeId} {A : Option Addr} {n c : Nat} {l : List α} (h : OwnL B w e k enc (.slice A n c) l) : n = l.length := by
  rcases h.2 with ⟨hv, h0⟩ | ⟨g, cap, cur, hv, _⟩
  · cases hv; exact h0.symm
  · cases hv; rfl
theorem OwnL.form {B : Nat} {e : TypeId} {v : Value} {l : List α} (h : OwnL B w e k enc v l) : ∃ A c, v = .slice A l.length c := by
  rcases h.2 with ⟨hv, h0⟩ | ⟨g, cap, cur, hv, _⟩
  · exact ⟨none, 0, by rw [hv, h0]⟩
  · exact ⟨_, _, hv⟩
end
theorem declK : ElemK Tryz.prog 28 44 3 := elemK_of decl_inf Tryz.underlying28 (by decide) rfl (by decide)
theorem stmtK : ElemK Tryz.prog 37 49 6 := elemK_of stmt_inf Tryz.underlying37 (by decide) rfl (by decide)
theorem procK : ElemK Tryz.prog 36 47 3 := elemK_of proc_inf Tryz.underlying36 (by decide) rfl (by decide)
theorem initK : ElemK Tryz.prog 35 118 7 := elemK_of init_inf Tryz.underlying35 (by decide) rfl (by decide)
theorem exprK : ElemK Tryz.prog 32 34 6 := elemK_of expr_inf Tryz.underlying32 (by decide) rfl (by decide)
theorem str_inf : (Tryz.prog.info? 9).map (fun i => (i.zero, i.size, i.bytes)) = some (some (.string ⟨#[]⟩), 1, 16) := by kernel_rfl
theorem strK : ElemK Tryz.prog 26 9 1 := elemK_of str_inf Tryz.underlying26 (by decide) rfl (by decide)
end Go.Proofs.YthcboallnbaimaaGreatDoor
namespace Go.Proofs.YthcboallnbaimaaGreatDoor
open Go Go.RowKit
theorem set_row1 {W : World} {b i : Nat} {t : TypeId} {cs : Array Value} {v : Value} (h : W.heap[b]? = some (.cells cs t (0, 0))) : W.setCell ⟨b, i, none⟩ v = W.setRow b (cs.setIfInBounds i v) := by
  refine heap_ext rfl rfl rfl rfl fun k => ?_
  by_cases hk : k = b
  · subst hk
    rw [setRow_heap _ _ _ _ _ _ h]
    simp [World.setCell, Array.getElem?_modify, h]
  · rw [setRow_other _ _ _ _ hk]
    exact Below.heap_setCell _ _ _ _ hk
theorem row_row1 {W : World} {b : Nat} {cs ds : Array Value} : (W.setRow b cs).setRow b ds = W.setRow b ds := by
  refine heap_ext rfl rfl rfl rfl fun k => ?_
  simp only [World.setRow, Array.getElem?_modify]
  by_cases hk : b = k
  · simp only [hk, if_true]
    cases W.heap[k]? with
    | none => rfl
    | some o => cases o <;> rfl
  · simp only [hk, if_false]
theorem set_of_row1 {W : World} {b i : Nat} {t : TypeId} {old cs : Array Value} {v : Value} (h : W.heap[b]? = some (.cells old t (0, 0))) : (W.setRow b cs).setCell ⟨b, i, none⟩ v = W.setRow b (cs.setIfInBounds i v) := by
  rw [set_row1 (setRow_heap W b old cs t (0, 0) h), row_row1]
theorem OwnL.far1 {α : Type} {k B b : Nat} {enc : α → List Value} {e t : TypeId} {v : Value} {l : List α} {w W' : World} {cs : Array Value} {fr : Nat × Nat} (h : OwnL B w e k enc v l) (hg : w.grownBy W' v.ownBlock) (hb : w.heap[b]? = some (.cells cs t fr)) (hne : t ≠ e) : W'.heap[b]? = some (.cells cs t fr) :=
  (hg.block b (Array.getElem?_eq_some_iff.1 hb).1 (fun eq => by
    obtain ⟨_, cs2, fr2, hh2⟩ := h.own_type eq.symm
    rw [hb] at hh2; cases hh2; exact hne rfl)).trans hb
end Go.Proofs.YthcboallnbaimaaGreatDoor
namespace Go.Proofs.YthcboallnbaimaaGreatDoor
open Go Go.RowKit Go.Maps
def sN (k : Nat) : ByteArray := ⟨#[UInt8.ofNat (97 + k)]⟩
/-- The names of the procedures, as the law makes them. -/
theorem rune_runs (k : Nat) (h : k < 9) (w : World) : (convert 21 9 (.int .i32 (97 + (k : Int)))).run Tryz.prog w = .ok (.string (sN k)) w := by
  have hk : k = 0 ∨ k = 1 ∨ k = 2 ∨ k = 3 ∨ k = 4 ∨ k = 5 ∨ k = 6 ∨ k = 7 ∨ k = 8 := by omega
  rcases hk with rfl | rfl | rfl | rfl | rfl | rfl | rfl | rfl | rfl <;> (show _ = _; kernel_rfl)
theorem next_runs (k : Nat) (h : k < 8) (w : World) : (convert 21 9 (.int .i32 (97 + (k : Int) + 1))).run Tryz.prog w = .ok (.string (sN (k + 1))) w := by
  have hk : k = 0 ∨ k = 1 ∨ k = 2 ∨ k = 3 ∨ k = 4 ∨ k = 5 ∨ k = 6 ∨ k = 7 := by omega
  rcases hk with rfl | rfl | rfl | rfl | rfl | rfl | rfl | rfl <;> (show _ = _; kernel_rfl)
theorem wrap_names (k : Nat) (h : k < 8) : IntKind.i64.wrap (97 + (k : Int)) = 97 + (k : Int) ∧ IntKind.i32.wrap (97 + (k : Int)) = 97 + (k : Int) := by
  have hk : k = 0 ∨ k = 1 ∨ k = 2 ∨ k = 3 ∨ k = 4 ∨ k = 5 ∨ k = 6 ∨ k = 7 := by omega
  rcases hk with rfl | rfl | rfl | rfl | rfl | rfl | rfl | rfl <;> decide
theorem name_eq (k : Nat) : ({ data := #[112] } : ByteArray) ++ sN k = pN k := by
  apply ByteArray.ext
  simp [sN, pN]
theorem sN_size (k : Nat) : (sN k).size ≤ 140737488355328 := by
  have : (sN k).size = 1 := rfl
  omega
def bodyV (n k : Nat) : List StmtV := if k + 1 < n then [callT Sp.none (pN (k + 1)) []] else []
def linkV (bs : Nat → Sp) (n k : Nat) : ProcV := ⟨pN k, Sp.none, [], bs k, bodyV n k⟩
def linksV (bs : Nat → Sp) (n m : Nat) : List ProcV := (List.range m).map (linkV bs n)
theorem links_len (bs : Nat → Sp) (n m : Nat) : (linksV bs n m).length = m := by simp [linksV]
theorem links_snoc (bs : Nat → Sp) (n m : Nat) (s : Sp) : linksV (fun j => if j = m then s else bs j) n (m + 1) = linksV bs n m ++ [⟨pN m, Sp.none, [], s, bodyV n m⟩] := by
  unfold linksV
  rw [List.range_succ, List.map_append]
  congr 1
  · refine List.map_congr_left fun j hj => ?_
    have : j ≠ m := by have := List.mem_range.1 hj; omega
    simp [linkV, this]
  · simp [linkV]
theorem ring_links (v rs : Sp) (bs : Nat → Sp) (n : Nat) : ringP v rs (fun _ => Sp.none) bs Sp.none n n 0 = { smallP v Sp.none [] with rs := rs, procs := linksV bs n n } := by
  have e : ((List.range n).map fun k => (⟨pN k, Sp.none, [], bs k, ringB (fun _ => Sp.none) Sp.none n n 0 k⟩ : ProcV)) = (List.range n).map (linkV bs n) := by
    refine List.map_congr_left fun j hj => ?_
    have : j ≠ n := by have := List.mem_range.1 hj; omega
    unfold linkV ringB bodyV
    simp [this]
  unfold ringP
  rw [e]; rfl
/-- The program while its procedures are appended. -/
def chainP (b2 : Nat) (A : Option Addr) (c : Nat) (bs : Nat → Sp) (n m : Nat) : ProgV := { smallP ⟨some ⟨b2, 0, none⟩, 1⟩ Sp.none [] with rs := ⟨A, c⟩, procs := linksV bs n m }
structure Chn (q b2 n m : Nat) (A : Option Addr) (c : Nat) (bs : Nat → Sp) (W : World) : Prop where
  box : W.heap[q]? = some (.cells (chainP b2 A c bs n m).arr 39 (0, 0))
  own : OwnL (q + 1) W 47 3 ProcV.cells (.slice A (linksV bs n m).length c) (linksV bs n m)
  bod : ∀ k, k < m → k + 1 < n → ∃ g, bs k = ⟨some ⟨g, 0, none⟩, 1⟩ ∧ q + 1 ≤ g ∧ W.heap[g]? = some (.cells (callT Sp.none (pN (k + 1)) []).cells.toArray 49 (0, 0))
  non : ∀ k, k < m → ¬ k + 1 < n → bs k = Sp.none
  rd : RdP q W (smallP ⟨some ⟨b2, 0, none⟩, 1⟩ Sp.none [])
theorem Chn.lt {q b2 n m : Nat} {A : Option Addr} {c : Nat} {bs : Nat → Sp} {W : World} (h : Chn q b2 n m A c bs W) : q < W.heap.size := (Array.getElem?_eq_some_iff.1 h.box).1
theorem Chn.on {q b2 n m : Nat} {A : Option Addr} {c : Nat} {bs : Nat → Sp} {W W' : World} (h : Chn q b2 n m A c bs W) (hb : Below W.heap.size W W') : Chn q b2 n m A c bs W' :=
  ⟨(hb.block _ h.lt).trans h.box, h.own.on hb, fun k h1 h2 => by
    obtain ⟨g, e, hg, hh⟩ := h.bod k h1 h2
    exact ⟨g, e, hg, (hb.block _ (Array.getElem?_eq_some_iff.1 hh).1).trans hh⟩, h.non, h.rd.below (hb.mono (Nat.le_of_lt h.lt))⟩
/-- What holds at the head of the loop that appends the procedures. -/
def ChnAt (q b2 n : Nat) (w : World) (s24 : Value) (wr : World) : Prop := ∃ (m : Nat) (A : Option Addr) (cp : Nat) (bs : Nat → Sp), m ≤ n ∧ s24 = .int .i64 m ∧ Chn q b2 n m A cp bs wr ∧ Below w.heap.size w wr
/-- What a procedure's body is. -/
def BodAt (q n k : Nat) (s : Sp) (W : World) : Prop := if k + 1 < n then ∃ g, s = ⟨some ⟨g, 0, none⟩, 1⟩ ∧ q + 1 ≤ g ∧ W.heap[g]? = some (.cells (callT Sp.none (pN (k + 1)) []).cells.toArray 49 (0, 0)) else s = Sp.none
theorem Chn.step {q b2 n m : Nat} {A : Option Addr} {c : Nat} {bs : Nat → Sp} {W : World} (h : Chn q b2 n m A c bs W) (s : Sp) (hs : BodAt q n m s W) {W2 : World} {A2 : Option Addr} {c2 : Nat}
    (hown : OwnL (q + 1) W2 47 3 ProcV.cells (.slice A2 (linksV bs n m ++ [(⟨pN m, Sp.none, [], s, bodyV n m⟩ : ProcV)]).length c2) (linksV bs n m ++ [(⟨pN m, Sp.none, [], s, bodyV n m⟩ : ProcV)])) (hg : W.grownBy W2 (Value.slice A (linksV bs n m).length c).ownBlock) :
    Chn q b2 n (m + 1) A2 c2 (fun j => if j = m then s else bs j) (W2.setCell ⟨q, 13, none⟩ (.slice A2 (linksV bs n m ++ [(⟨pN m, Sp.none, [], s, bodyV n m⟩ : ProcV)]).length c2)) := by
  have e := links_snoc bs n m s
  have hlow : Below (q + 1) W W2 := h.own.below hg (Nat.le_refl _) (Below.refl _ _) h.lt
  have hbx : W2.heap[q]? = some (.cells (chainP b2 A c bs n m).arr 39 (0, 0)) := (hlow.block _ (Nat.lt_succ_self _)).trans h.box
  have hst : ∀ g cs, W.heap[g]? = some (.cells cs 49 (0, 0)) → q + 1 ≤ g → (W2.setCell ⟨q, 13, none⟩ (.slice A2 (linksV bs n m ++ [(⟨pN m, Sp.none, [], s, bodyV n m⟩ : ProcV)]).length c2)).heap[g]? = some (.cells cs 49 (0, 0)) := fun g cs hh hq =>
    (Below.heap_setCell _ _ _ _ (show g ≠ q by omega)).trans (h.own.far1 hg hh (by decide))
  rw [← e] at hown hst ⊢
  refine ⟨?_, hown.kept fun g _ _ hB _ => Below.heap_setCell _ _ _ _ (show g ≠ q by omega), fun k hk hk2 => ?_, fun k hk hk2 => ?_, ?_⟩
  · rw [set_row1 hbx, setRow_heap _ _ _ _ _ _ hbx]
    rfl
  · by_cases hkm : k = m
    · subst hkm
      unfold BodAt at hs
      rw [if_pos hk2] at hs
      obtain ⟨g, e1, e2, e3⟩ := hs
      exact ⟨g, by simp [e1], e2, hst _ _ e3 e2⟩
    · obtain ⟨g, e1, e2, e3⟩ := h.bod k (by omega) hk2
      exact ⟨g, by simp [hkm, e1], e2, hst _ _ e3 e2⟩
  · by_cases hkm : k = m
    · subst hkm
      unfold BodAt at hs
      rw [if_neg hk2] at hs
      simp [hs]
    · simp [hkm, h.non k (by omega) hk2]
  · exact h.rd.below ((hlow.mono (Nat.le_succ _)).setCell (p := ⟨q, 13, none⟩) (Nat.le_refl _) _)
theorem chn_rdp {q b2 n : Nat} {A : Option Addr} {c : Nat} {bs : Nat → Sp} {W : World} (h : Chn q b2 n n A c bs W) (hn : n ≤ 8) : RdP W.heap.size W (chainP b2 A c bs n n) := by
  have hlen := links_len bs n n
  have hrow : RowOf W.heap.size W ⟨A, c⟩ 3 ProcV.cells (linksV bs n n) := by
    obtain ⟨sp, e, hr, _⟩ := h.own.row (fun _ => rfl) (by omega)
    have : sp = ⟨A, c⟩ := by
      unfold Sp.val at e
      injection e with e1 e2 e3
      rw [e1, e3]
    subst this
    exact hr
  refine { (h.rd.more (Nat.le_of_lt h.lt)) with prow := hrow, procs := fun x hx => ?_ }
  obtain ⟨k, hk, rfl⟩ := List.mem_map.1 hx
  have hkn := List.mem_range.1 hk
  refine ⟨show (2 : Nat) ≤ maxLen by decide, ⟨RowOf.nil, fun _ h => absurd h (by simp [linkV])⟩, ?_⟩
  unfold linkV bodyV
  by_cases hk2 : k + 1 < n
  · obtain ⟨g, e1, _, e3⟩ := h.bod k hkn hk2
    simp only [e1, if_pos hk2]
    exact ⟨row_one (enc := StmtV.cells) (x := callT Sp.none (pN (k + 1)) []) e3, fun t ht => by rw [List.mem_singleton.1 ht]; exact call_now (show (2 : Nat) ≤ maxLen by decide)⟩
  · rw [if_neg hk2, h.non k hkn hk2]
    exact none_stmts
theorem chain_names (b2 : Nat) (A : Option Addr) (c : Nat) (bs : Nat → Sp) (n m : Nat) : NamesOk (chainP b2 A c bs n m) :=
  ⟨(small_names ⟨some ⟨b2, 0, none⟩, 1⟩ Sp.none []).decls, fun x hx => by
    obtain ⟨k, _, rfl⟩ := List.mem_map.1 hx
    exact ⟨show (2 : Nat) ≤ 4294967200 by decide, fun d hd => absurd hd (by simp [linkV])⟩⟩
/-- append to a full row, inside a region that draws its order: a new block. -/
theorem step_append_full {P : Program} {α : Type} {k : Nat} {enc : α → List Value} {w : World} {ops : Array Oper} {o : Oper} {a : Act} {K : Act → World → Prop} {Q : Exit → Act → World → Prop} {E : Prop} (hgd : o.guard = none) (s x : Operand) (t : TypeId)
    (ho : o.op = .call { callee := .builtin .append, args := #[s, x], argTypes := #[t, t] }) {e : TypeId} (hE : ElemK P t e k) (hk : ∀ x, (enc x).length = k) (h1 : ∀ x : α, ∀ u ∈ enc x, u.oneCell' = true) {n : Nat} (sp : Sp) (l : List α) (hs : a.eval s = .slice sp.at_ l.length sp.cap) (hrow : RowOf n w sp k enc l) (hnone : sp.at_ = none → sp.cap = 0) (hfull : sp.cap < l.length + 1)
    {n2 zb : Nat} (y : α) (hx : a.eval x = .slice (some ⟨zb, 0, none⟩) 1 1) (hr : RowOf n2 w ⟨some ⟨zb, 0, none⟩, 1⟩ k enc [y]) (hlen : l.length + 1 ≤ 1000000)
    (h : ∀ v' w', OwnL w.heap.size w' e k enc v' (l ++ [y]) → Below w.heap.size w w' → K (a.put o.dst v') w') :
    if Region.wanted o (yielded ops a.tmps) = true then Oper.wp P o a w K Q else E := by
  obtain ⟨i, z, bytes, ht, hi, hz, hsz, hby, hbb, hzs, hk0⟩ := hE
  have hz0 : ∀ l : List α, sp.at_ = none → RowOf n w sp k enc l → l = [] := fun l h0 hr => by
    cases l with
    | nil => rfl
    | cons x l => obtain ⟨b, off, e, _⟩ := hr.row (by simp); rw [h0] at e; cases e
  obtain ⟨b2, off2, e2, _, hc2⟩ := hr.news hk (by simp)
  cases e2
  refine step_append_grows hgd s x t ho e i z k bytes ht hi hz hsz hby hzs hk0 sp.at_ l.length sp.cap (l.flatMap enc) hs (fun h0 => ⟨by rw [hz0 l h0 hrow]; rfl, hnone h0⟩) (flat_len' hk l) (fun b hb j u hj => ?_) ⟨zb, 0, none⟩ 1 1 ([y].flatMap enc) hx (flat_len' hk [y]) hc2 (one_flat h1 [y]) hfull (by simp only [maxLen]; omega) (by have := Nat.mul_le_mul hlen hbb; omega) (fun v' w' hown hg => h v' w' ?_ ((Below.refl _ _).grown hg (Nat.le_refl _) (fun q hq => by cases hq)))
  · have h0 : 0 < l.length := by
      cases l with
      | nil => simp at hj
      | cons x l => simp
    obtain ⟨b', off', e', _, hc⟩ := hrow.news hk h0
    rw [hb] at e'
    cases e'
    exact hc j u hj
  · unfold OwnL
    rw [List.length_append, List.flatMap_append]
    exact hown
theorem below_both {B : Nat} {W U : World} {p : Addr} {v : Value} (h : Below B W U) : Below B (W.setCell p v) (U.setCell p v) := by
  refine ⟨h.os, h.tape, h.output, by rw [World.size_setCell, World.size_setCell]; exact h.size, fun k hk => ?_⟩
  by_cases e : k = p.block
  · have := h.block k hk
    subst e
    simp only [World.setCell, Array.getElem?_modify, if_true]
    rw [this]
  · rw [Below.heap_setCell _ _ _ _ e, Below.heap_setCell _ _ _ _ e]
    exact h.block k hk
/-- The chain with one more call lies in the memory. -/
structure Rng (q b2 n i j : Nat) (A : Option Addr) (c : Nat) (bs : Nat → Sp) (W : World) : Prop where
  box : W.heap[q]? = some (.cells (ringP ⟨some ⟨b2, 0, none⟩, 1⟩ ⟨A, c⟩ (fun _ => Sp.none) bs Sp.none n i j).arr 39 (0, 0))
  rd : RdP W.heap.size W (ringP ⟨some ⟨b2, 0, none⟩, 1⟩ ⟨A, c⟩ (fun _ => Sp.none) bs Sp.none n i j)
theorem ring_done {q b2 n i j gp c : Nat} {bs : Nat → Sp} {W W' : World} (h : Chn q b2 n n (some ⟨gp, 0, none⟩) c bs W) (hi : i < n) (hn : n ≤ 8) (hqp : q + 1 ≤ gp) {A2 : Option Addr} {L c2 : Nat} {B2 : Nat}
    (hb : Below W.heap.size (W.setCell ⟨gp, i * 3 + 2, none⟩ (.slice A2 L c2)) W') (hown : OwnL B2 W' 49 6 StmtV.cells (.slice A2 L c2) (bodyV n i ++ [callT Sp.none (pN j) []])) :
    Rng q b2 n i j (some ⟨gp, 0, none⟩) c (fun k => if k = i then ⟨A2, c2⟩ else bs k) W' := by
  have hlen := links_len bs n n
  obtain ⟨hgq, cs, fr, hgh⟩ := h.own.own_type (g := gp) rfl
  have hgl : gp < W.heap.size := (Array.getElem?_eq_some_iff.1 hgh).1
  have hql := h.lt
  have hst : ∀ (g : Nat) (cs : Array Value), W.heap[g]? = some (.cells cs 49 (0, 0)) → W'.heap[g]? = some (.cells cs 49 (0, 0)) := fun g cs hh => by
    have hne : g ≠ gp := fun e => by rw [e, hgh] at hh; cases hh
    exact (hb.block _ (Array.getElem?_eq_some_iff.1 hh).1).trans ((Below.heap_setCell _ _ _ _ hne).trans hh)
  have hcell : ∀ a : Addr, a.block < W.heap.size → W'.cell? a = (W.setCell ⟨gp, i * 3 + 2, none⟩ (.slice A2 L c2)).cell? a := fun a ha => hb.cell ha
  have hL := hown.len
  have hrow0 : RowOf W.heap.size W ⟨some ⟨gp, 0, none⟩, c⟩ 3 ProcV.cells (linksV bs n n) := by
    obtain ⟨sp, e, hr, _⟩ := h.own.row (fun _ => rfl) (by omega)
    have : sp = ⟨some ⟨gp, 0, none⟩, c⟩ := by
      unfold Sp.val at e
      injection e with e1 e2 e3
      rw [e1, e3]
    subst this
    exact hr
  have hsz : W.heap.size ≤ W'.heap.size := by have := hb.size; rwa [World.size_setCell] at this
  have hbq : Below q W W' := ((Below.refl q W).setCell (p := ⟨gp, i * 3 + 2, none⟩) (by show q ≤ gp; omega) _).trans (hb.mono (by omega))
  have hB : ∀ k, k ≠ i → ringB (fun _ => Sp.none) Sp.none n i j k = bodyV n k := fun k hk => by unfold ringB bodyV; rw [if_neg hk, List.append_nil]
  have hBi : ringB (fun _ => Sp.none) Sp.none n i j i = bodyV n i ++ [callT Sp.none (pN j) []] := by unfold ringB bodyV; rw [if_pos rfl]
  refine ⟨?_, ?_⟩
  · refine (hb.block q hql).trans ((Below.heap_setCell _ _ _ _ (show q ≠ gp by omega)).trans (h.box.trans ?_))
    have e1 : (ringP ⟨some ⟨b2, 0, none⟩, 1⟩ ⟨some ⟨gp, 0, none⟩, c⟩ (fun _ => Sp.none) (fun k => if k = i then (⟨A2, c2⟩ : Sp) else bs k) Sp.none n i j).procs.length = (chainP b2 (some ⟨gp, 0, none⟩) c bs n n).procs.length := by
      show ((List.range n).map _).length = (linksV bs n n).length
      rw [hlen]; simp
    unfold ProgV.arr ProgV.cells
    rw [e1]
    rfl
  · have hprow : RowOf W'.heap.size W' ⟨some ⟨gp, 0, none⟩, c⟩ 3 ProcV.cells ((List.range n).map fun k => (⟨pN k, Sp.none, [], (fun k => if k = i then (⟨A2, c2⟩ : Sp) else bs k) k, ringB (fun _ => Sp.none) Sp.none n i j k⟩ : ProcV)) := by
      refine ⟨by have h1 : (linksV bs n n).length ≤ c := hrow0.cap; simp; omega, hrow0.big, by simp; omega, fun _ => ?_⟩
      obtain ⟨b, off, e, hlt, hc⟩ := hrow0.row (by omega)
      cases e
      refine ⟨gp, 0, rfl, by omega, fun k hk r u hu => ?_⟩
      have hk2 : k < n := by simpa using hk
      have hck := hc k (by omega) r
      rw [hcell _ (by exact hgl)]
      simp only [List.getElem_map, List.getElem_range] at hu
      have hlk : (linksV bs n n)[k]'(by omega) = linkV bs n k := by simp [linksV]
      rw [hlk] at hck
      by_cases hki : k = i
      · subst hki
        match r, hu with
        | 0, hu => exact (World.cell?_setCell_other _ _ _ _ (by intro e; have := (Addr.mk.inj e).2.1; omega)).trans (hck u hu)
        | 1, hu => exact (World.cell?_setCell_other _ _ _ _ (by intro e; have := (Addr.mk.inj e).2.1; omega)).trans (hck u hu)
        | 2, hu =>
          have h2 := hck _ rfl
          simp only [if_true, ProcV.cells, List.getElem?_cons_succ, List.getElem?_cons_zero, Option.some.injEq, hBi, Sp.val] at hu
          rw [← hL] at hu
          rw [← hu, Nat.zero_add]
          rw [Nat.zero_add] at h2
          exact World.cell?_setCell_same _ _ _ h2
        | r + 3, hu => simp [ProcV.cells] at hu
      · refine (World.cell?_setCell_other _ _ _ _ (by
          intro e
          have h1 := (Addr.mk.inj e).2.1
          have hr3 : r < 3 := by have := (List.getElem?_eq_some_iff.1 hu).1; simpa [ProcV.cells] using this
          omega)).trans (hck u ?_)
        rw [← hu]
        simp only [hki, if_false, hB k hki]
        rfl
    refine { ((h.rd.below hbq).more (by omega)) with prow := hprow, procs := fun x hx => ?_ }
    obtain ⟨k, hk, rfl⟩ := List.mem_map.1 hx
    have hkn := List.mem_range.1 hk
    refine ⟨show (2 : Nat) ≤ maxLen by decide, ⟨RowOf.nil, fun _ h => absurd h (by simp)⟩, ?_⟩
    by_cases hki : k = i
    · subst hki
      simp only [if_true, hBi]
      obtain ⟨sp, e, hr, _⟩ := hown.row (fun _ => rfl) (by unfold bodyV; split <;> simp)
      have : sp = ⟨A2, c2⟩ := by
        unfold Sp.val at e
        injection e with e1 e2 e3
        rw [e1, e3]
      subst this
      refine ⟨hr, fun t ht => ?_⟩
      rcases List.mem_append.1 ht with ht | ht
      · unfold bodyV at ht
        split at ht
        · rw [List.mem_singleton.1 ht]; exact call_now (show (2 : Nat) ≤ maxLen by decide)
        · cases ht
      · rw [List.mem_singleton.1 ht]; exact call_now (show (2 : Nat) ≤ maxLen by decide)
    · simp only [hki, if_false, hB k hki]
      unfold bodyV
      by_cases hk2 : k + 1 < n
      · obtain ⟨g, e1, _, e3⟩ := h.bod k hkn hk2
        simp only [e1, if_pos hk2]
        exact ⟨row_one (enc := StmtV.cells) (x := callT Sp.none (pN (k + 1)) []) (hst _ _ e3), fun t ht => by rw [List.mem_singleton.1 ht]; exact call_now (show (2 : Nat) ≤ maxLen by decide)⟩
      · rw [if_neg hk2, h.non k hkn hk2]
        exact none_stmts
theorem Chn.body {q b2 n : Nat} {A : Option Addr} {c : Nat} {bs : Nat → Sp} {W : World} (h : Chn q b2 n n A c bs W) {i : Nat} (hi : i < n) : RowOf W.heap.size W (bs i) 6 StmtV.cells (bodyV n i) ∧ ((bs i).at_ = none → (bs i).cap = 0) ∧ (bs i).cap < (bodyV n i).length + 1 ∧ (bodyV n i).length ≤ 1 := by
  unfold bodyV
  by_cases hk : i + 1 < n
  · obtain ⟨g, e1, _, e3⟩ := h.bod i hi hk
    rw [e1, if_pos hk]
    exact ⟨row_one (enc := StmtV.cells) (x := callT Sp.none (pN (i + 1)) []) e3, (fun e => by cases e), by simp, by simp⟩
  · rw [h.non i hi hk, if_neg hk]
    exact ⟨RowOf.nil, fun _ => rfl, by simp [Sp.none], by simp⟩
theorem own_frozen {α : Type} {k B g : Nat} {enc : α → List Value} {e : TypeId} {v : Value} {l : List α} {W : World} (h : OwnL B W e k enc v l) (hg : v.ownBlock = some g) (o : Nat) : W.frozen? ⟨g, o, none⟩ = false := by
  rcases h.2 with ⟨rfl, _⟩ | ⟨g', cap, cur, rfl, _, hh, _⟩
  · simp [Value.ownBlock] at hg
  · simp [Value.ownBlock] at hg
    subst hg
    simp [World.frozen?, hh]
theorem ring_names (v rs : Sp) (es bs : Nat → Sp) (e2 : Sp) (n i j : Nat) (h : ∀ d ∈ (smallP v Sp.none []).inputs ++ (smallP v Sp.none []).ghosts ++ (smallP v Sp.none []).vars ++ (smallP v Sp.none []).arrays, d.name.size ≤ 4294967200) : NamesOk (ringP v rs es bs e2 n i j) :=
  ⟨h, fun x hx => by
    obtain ⟨k, _, rfl⟩ := List.mem_map.1 (show x ∈ (List.range n).map _ from hx)
    exact ⟨show (2 : Nat) ≤ 4294967200 by decide, fun d hd => absurd hd (by simp)⟩⟩
theorem told_no {i j : Nat} {l : List (Int × Int)} (h : toldB i j l = true) (hj : j > i) : l = [] := by
  unfold toldB at h; rw [if_pos hj] at h; exact List.isEmpty_iff.1 h
theorem told_yes {i j : Nat} {l : List (Int × Int)} (h : toldB i j l = true) (hj : ¬ j > i) : l.length = i - j + 1 ∧ ∀ x ∈ l, x.2 = 328 := by
  unfold toldB at h
  rw [if_neg hj, Bool.and_eq_true, decide_eq_true_eq, List.all_eq_true] at h
  exact ⟨h.1, fun x hx => by simpa using h.2 x hx⟩
def zS : StmtV := .mk 0 ⟨#[]⟩ Sp.none [] 0 Sp.none [] Sp.none []
theorem set_last (F T : List Value) (x0 x1 x2 x3 x4 x5 v0 v1 v2 v3 v4 v5 : Value) : ((((((F ++ ([x0, x1, x2, x3, x4, x5] ++ T)).set F.length v0).set (F.length + 1) v1).set (F.length + 2) v2).set (F.length + 3) v3).set (F.length + 4) v4).set (F.length + 5) v5 = F ++ ([v0, v1, v2, v3, v4, v5] ++ T) := by
  simp
/-- The last element of a list of one's own is stored over. -/
theorem own_last {B g c L : Nat} {W : World} {l : List StmtV} {y : StmtV} {v0 v1 v2 v3 v4 v5 : Value} (h : OwnL B W 49 6 StmtV.cells (.slice (some ⟨g, 0, none⟩) (L + 1) c) (l ++ [zS])) (hL : l.length = L) (hy : y.cells = [v0, v1, v2, v3, v4, v5]) :
    OwnL B ((((((W.setCell ⟨g, L * 6, none⟩ v0).setCell ⟨g, L * 6 + 1, none⟩ v1).setCell ⟨g, L * 6 + 2, none⟩ v2).setCell ⟨g, L * 6 + 3, none⟩ v3).setCell ⟨g, L * 6 + 4, none⟩ v4).setCell ⟨g, L * 6 + 5, none⟩ v5) 49 6 StmtV.cells (.slice (some ⟨g, 0, none⟩) (L + 1) c) (l ++ [y]) := by
  have hfl : (l.flatMap StmtV.cells).length = L * 6 := by rw [flat_len' (k := 6) (fun _ => rfl) l, hL]
  obtain ⟨hlen, ho⟩ := h
  rcases ho with ⟨h0, _⟩ | ⟨g', cap, cur, hv, h1, h2, h3, h4, h5, h6⟩
  · cases h0
  · injection hv with e1 e2 e3
    cases e1
    subst e3
    refine ⟨by rw [flat_len' (k := 6) (fun _ => rfl)], .inr ⟨g, c, (((((cur.setIfInBounds (L * 6) v0).setIfInBounds (L * 6 + 1) v1).setIfInBounds (L * 6 + 2) v2).setIfInBounds (L * 6 + 3) v3).setIfInBounds (L * 6 + 4) v4).setIfInBounds (L * 6 + 5) v5, by rw [List.length_append, hL]; rfl, h1, ?_, by simp only [List.length_append, List.length_cons, List.length_nil] at h3 ⊢; exact h3, h4, by simpa using h5, ?_⟩⟩
    · rw [set_row1 h2, set_of_row1 h2, set_of_row1 h2, set_of_row1 h2, set_of_row1 h2, set_of_row1 h2]
      exact setRow_heap _ _ _ _ _ _ h2
    · have e : cur.toList = l.flatMap StmtV.cells ++ ([.int .u8 0, .string ⟨#[]⟩, .slice none 0 0, .int .i64 0, .slice none 0 0, .slice none 0 0] ++ cur.toList.drop ((l ++ [zS]).length * 6)) := by
        have e1 := List.take_append_drop ((l ++ [zS]).length * 6) cur.toList
        rw [h6, List.flatMap_append] at e1
        exact e1.symm.trans (by rw [List.append_assoc]; rfl)
      simp only [Array.toList_setIfInBounds]
      rw [e, ← hfl, set_last, List.flatMap_append]
      have e3 : [y].flatMap StmtV.cells = [v0, v1, v2, v3, v4, v5] := by simp [hy]
      rw [e3, ← List.append_assoc]
      have e4 : (l ++ [y]).length * 6 = (l.flatMap StmtV.cells ++ [v0, v1, v2, v3, v4, v5]).length := by simp only [List.length_append, List.length_cons, List.length_nil, hfl, hL]; omega
      rw [e4, List.take_left']
      rfl
end Go.Proofs.YthcboallnbaimaaGreatDoor
namespace Go.Proofs.YthcboallnbaimaaGreatDoor
open Go Go.RowKit Go.Maps
def findCond (t : Nat) : Code → Option Code
  | .seq a b => match findCond t a with
    | some c => some c
    | none => findCond t b
  | .loop c => findCond t c
  | .block _ c => findCond t c
  | .scope c => findCond t c
  | .cond (.tmp n) a b => if n = t then some (.cond (.tmp n) a b) else match findCond t a with
    | some c => some c
    | none => findCond t b
  | .cond _ a b => match findCond t a with
    | some c => some c
    | none => findCond t b
  | _ => none
def OnlyNormal (R : Act → World → Prop) : Exit → Act → World → Prop
  | .normal, a, w => R a w
  | _, _, _ => False
theorem OnlyNormal.mk {R : Act → World → Prop} {a : Act} {w : World} (h : R a w) : OnlyNormal R .normal a w := h
noncomputable def cond65 : Code := ((Tryz.f5.body.bind (findCond 65)).getD .skip)
end Go.Proofs.YthcboallnbaimaaGreatDoor
