/- check: tell, where a problem only says that an expression is no invariant. check.Width of a light program. check.Invariant of a right program. Chapter 32's law CheckWiths: its closure. salvorlaw32.binary: an operation of two words. CheckWiths: what its closure and check.Invariant are called with; its regions by number. -/
import Derived.Test.YthcboallnbaimaaGreatDoorTell
import Derived.StillTailTactics
import Derived.Test.YthcboallnbaimaaGreatDoorUB
import Derived.Test.YthcboallnbaimaaGreatDoorEnter
import Derived.Test.YthcboallnbaimaaGreatDoorExpr
namespace Go.Proofs.YthcboallnbaimaaGreatDoor
open Go Go.RowKit Go.Maps
def goodIs (g : Nat) (b : Bool) (W : World) : Prop := W.heap[g]? = some (.cells #[.bool b] 4 (0, 0))
def InvJ (g : Nat) (pre : List (Int × Int)) (W : World) : Prop := pre = [] ∧ goodIs g true W
def InvJx (g : Nat) (pre : List (Int × Int)) (W : World) : Prop := pre ≠ [] ∧ goodIs g false W
theorem goodIs_own {B g : Nat} {b : Bool} {W W' : World} {row : Option Nat} (h : goodIs g b W) (hg : W.grownBy W' row) (hr : ∀ r, row = some r → B ≤ r ∧ ∃ o : Obj, W.heap[r]? = some o ∧ (o.isCells = false ∨ ∃ cs fr, o = .cells cs 129 fr)) : goodIs g b W' :=
  (hg.block g (Array.getElem?_eq_some_iff.1 h).1 (fun e => by
    obtain ⟨_, o, ho, hc⟩ := hr g e.symm
    have h' : W.heap[g]? = _ := h
    rw [h'] at ho
    cases ho
    rcases hc with hc | ⟨cs, fr, hc⟩
    · cases hc
    · cases hc)).trans h
theorem invJ_own (B g : Nat) : OwnC 129 B (InvJ g) := fun _ _ _ _ hs hg hr => ⟨hs.1, goodIs_own hs.2 hg hr⟩
theorem invJx_own (B g : Nat) : OwnC 129 B (InvJx g) := fun _ _ _ _ hs hg hr => ⟨hs.1, goodIs_own hs.2 hg hr⟩
theorem inv1_any (a b : Int) (g : Nat) (W : World) (h : goodIs g true W) : Calls Tryz.prog 69 #[.agg #[.int .i64 a, .int .i64 b], .pointer (some ⟨g, 0, none⟩)] W fun o w' => o = .returned (.bool false) ∧ w' = (W.alloc (.cells #[.int .i64 a, .int .i64 b] 55)).setCell ⟨g, 0, none⟩ (.bool false) := by
  have h' : (W.alloc (.cells #[.int .i64 a, .int .i64 b] 55)).heap[g]? = some (.cells #[.bool true] 4 (0, 0)) := (Below.heap_alloc _ _ _ (Array.getElem?_eq_some_iff.1 (h : W.heap[g]? = _)).1).trans h
  have cg := one_cell h'
  have fg : (W.alloc (.cells #[.int .i64 a, .int .i64 b] 55)).frozen? ⟨g, 0, none⟩ = false := by simp [World.frozen?, h']
  clear h h'
  go_enter Tryz.func69, Tryz.ntmps69
  go_wp2
  go_ret
  exact ⟨rfl, rfl⟩
/-- What the closure's store leaves alone. -/
theorem good_keeps {K : CkE} {g : Nat} {W : World} (h : goodIs g true W) (hgn : K.n₀ ≤ g) : KeepsQ K W (W.setCell ⟨g, 0, none⟩ (.bool false)) ∧ goodIs g false (W.setCell ⟨g, 0, none⟩ (.bool false)) := by
  have h' : W.heap[g]? = some (.cells #[.bool true] 4 (0, 0)) := h
  refine ⟨⟨by simp, fun k o _ hk ho => (Below.heap_setCell _ _ _ k (fun e => by simp only at e; subst e; rw [h'] at hk; cases hk; cases ho)).trans hk,
    fun k cs t fr hk ht _ => (Below.heap_setCell _ _ _ k (fun e => by simp only at e; subst e; rw [h'] at hk; cases hk; cases ht)).trans hk, (Below.refl _ _).setCell hgn _⟩, ?_⟩
  show (W.setCell ⟨g, 0, none⟩ (.bool false)).heap[g]? = _
  simp [World.setCell, Array.getElem?_modify, h']
set_option maxRecDepth 1000000 in
set_option maxHeartbeats 2000000 in
theorem tell_inv (K : CkE) (g : Nat) (hy : K.yv = .func (.func 69) #[] #[.pointer (some ⟨g, 0, none⟩)]) (hgn : K.n₀ ≤ g) : TellOk K (InvJ g) (InvJx g) := by
  have hJ := invJ_own K.B g
  have hJx := invJx_own K.B g
  intro pm E cs W c hst hlen
  obtain ⟨over, hk, hs⟩ := hst.ex
  clear hst
  have c26 := hk.c26
  have c28 := hk.c28
  have c29 := hk.c29
  have f26 := hk.frozen 26
  have f29 := hk.frozen 29
  rw [hy] at c28
  have hb0 : ∀ nq, Below W.heap.size W (W.drewN nq) := fun nq => ⟨rfl, rfl, rfl, Nat.le_refl _, fun _ _ => rfl⟩
  have hn : K.n₀ ≤ W.heap.size := by have := hk.lt; have := hk.q; have := hk.n0; omega
  have HQ : Hid (∀ nq, (c = 0 ∨ over = true) → Told K (InvJ g) (InvJx g) pm E (cs ++ [c]) W ((W.drewN nq).setCell ⟨K.q, 26, none⟩ (.int .i64 ((cs.length : Int) + 1)))) :=
    Lib.hid fun nq hc => tell_end hJ hJx (.of_below (hb0 nq) hn) (hk.new (hb0 nq)) ((hs.quiet hc).keep (fun l hl => hJ.new hl (hb0 nq)) (fun l hl => hJx.new hl (hb0 nq)))
  have HK := Lib.hid hk
  have HS := Lib.hid hs
  clear hk hs hb0 hn
  by_cases hc : c = 0
  · subst hc
    clear hy
    go_enter Tryz.func110, Tryz.ntmps110
    go_wp2
    go_quiet (fail)
    go_wp2
    go_returns
    exact ⟨rfl, HQ.out nq (by simp)⟩
  · have h0 : (c == 0) = false := by simpa using hc
    have h1 : (c != 0) = true := by simpa using hc
    cases over with
    | true =>
      clear hy
      go_enter Tryz.func110, Tryz.ntmps110
      go_wp2
      go_quiet (fail)
      go_wp2
      go_returns
      exact ⟨rfl, HQ.out nq (by simp)⟩
    | false =>
      have hn : K.n₀ ≤ W.heap.size := by have := HK.out.lt; have := HK.out.q; have := HK.out.n0; omega
      have hgood : probs cs 0 = [] ∧ goodIs g true W := by
        rcases HS.out with ⟨_, h⟩ | ⟨e, _⟩
        · exact h
        · cases e
      obtain ⟨hpn, hg⟩ := hgood
      have HC := Lib.hid hc
      have HPN := Lib.hid hpn
      have HG := Lib.hid hg
      have hbd : Below W.heap.size W W.drew := (Below.refl _ _).drew
      have HBD := Lib.hid hbd
      have hgd : goodIs g true W.drew := (hbd.block g (Array.getElem?_eq_some_iff.1 (hg : W.heap[g]? = _)).1).trans hg
      have HI := Lib.hid (inv1_any (cs.length : Int) c g W.drew hgd)
      have hbd2 : Below W.heap.size W (W.drew.alloc (.cells #[.int .i64 (cs.length : Int), .int .i64 c] 55)) := hbd.alloc hbd.size _
      replace hgd : goodIs g true (W.drew.alloc (.cells #[.int .i64 (cs.length : Int), .int .i64 c] 55)) := (hbd2.block g (Array.getElem?_eq_some_iff.1 (hg : W.heap[g]? = _)).1).trans hg
      obtain ⟨hkg, hg2⟩ := good_keeps hgd hgn
      have hbox := (hbd2.block _ HK.out.lt).trans HK.out.box
      have hq3 : KeepsQ K W ((W.drew.alloc (.cells #[.int .i64 (cs.length : Int), .int .i64 c] 55)).setCell ⟨g, 0, none⟩ (.bool false)) := KeepsQ.trans (.of_below hbd2 hn) hkg
      have hbx3 : ((W.drew.alloc (.cells #[.int .i64 (cs.length : Int), .int .i64 c] 55)).setCell ⟨g, 0, none⟩ (.bool false)).heap[K.q]? = some (.cells (K.cells pm E cs.length false) 129 (0, 0)) :=
        (Below.heap_setCell _ _ _ _ (fun e => by
          simp only at e
          rw [e] at hbox
          rw [(hgd : (W.drew.alloc (.cells #[.int .i64 (cs.length : Int), .int .i64 c] 55)).heap[g]? = _)] at hbox
          cases hbox)).trans hbox
      have hck := HK.out.stays hq3 hbx3
      have HQ3 := Lib.hid hq3
      have HCK := Lib.hid hck
      have HG2 := Lib.hid hg2
      clear hy HQ hc hpn hg hbd hbd2 hgd hkg hg2 hbox hq3 hbx3 hck
      go_enter Tryz.func110, Tryz.ntmps110
      go_wp2
      go_still_tail 20, (by kernel_rfl)
      change wpList _ _ _ _ _ W.drew
      go_wp2_with fail
      refine HI.out.mono ?_
      rintro o w1 ⟨rfl, rfl⟩
      generalize (W.drew.alloc (.cells #[.int .i64 (cs.length : Int), .int .i64 c] 55)).setCell ⟨g, 0, none⟩ (.bool false) = W3 at *
      have hck := HCK.out
      have f29 := hck.frozen 29
      have c29 := hck.c29
      have hn3 : K.n₀ ≤ K.q := by have := hck.q; have := hck.n0; omega
      have hq4 : KeepsQ K W (W3.setCell ⟨K.q, 29, none⟩ (.bool true)) := HQ3.out.trans (.set hck.box hn3 _)
      have hck4 := HK.out.stays hq4 (set_over (over' := true) hck.box)
      have c26 := hck4.c26
      have f26 := hck4.frozen 26
      have HE := Lib.hid (tell_end hJ hJx hq4 hck4 (.inr ⟨rfl, probs cs 0 ++ [((cs.length : Int), c)], by simp, by rw [probs_snoc, if_neg HC.out]; exact List.prefix_refl _, hJx.cell _ (⟨by simp, HG2.out⟩ : InvJx g (probs cs 0 ++ [((cs.length : Int), c)]) W3) hck.q hck.box⟩ : TellSt (InvJ g) (InvJx g) (cs ++ [c]) true _))
      clear hq4 hck4 hck
      go_wp2
      go_returns
      exact ⟨rfl, HE.out⟩
end Go.Proofs.YthcboallnbaimaaGreatDoor
namespace Go.Proofs.YthcboallnbaimaaGreatDoor
open Go Go.RowKit Go.Maps
def Any2 : List (Int × Int) → World → Prop := fun _ _ => True
theorem any2_own (B : Nat) : OwnC 129 B Any2 := fun _ _ _ _ _ _ _ => trivial
theorem size_pos (e : ExprV) (h : e.pre.length ≤ 20000) : sizedN (cntN e.pre.length 0) = e.pre.length ∧ 1 ≤ e.pre.length := by
  have h1 : 1 ≤ e.pre.length := pre_pos e
  refine ⟨?_, h1⟩
  rw [cntN_of (by omega)]
  unfold sizedN
  rw [if_pos (by omega)]
  omega
set_option maxRecDepth 1000000 in
set_option maxHeartbeats 4000000 in
theorem widthOut_any (w : World) (p : ProgV) (e : ExprV) (hp : RdP w.heap.size w p) (he : RdX w.heap.size w e) (hl : countP p ≤ 20000) (hwt : weightP p ≤ 1125899906842624) (hel : e.pre.length ≤ 20000) :
    Calls Tryz.prog 32 #[.agg p.arr, .int .i64 (-1), e.val] w fun o w' => o = .returned (.tuple #[.int .i64 (widthE p outside e), .bool (decide (0 < widthE p outside e))]) ∧ Below w.heap.size w w' := by
  have hbE : Below w.heap.size w ((w.alloc (.cells p.arr 39)).alloc (.cells e.cells.toArray 34)) := ((Below.refl _ _).alloc (Nat.le_refl _) _).alloc (by simp) _
  obtain ⟨x1, x2, xs, -⟩ := alloc2 w (.cells p.arr 39) (.cells e.cells.toArray 34)
  have c13 := arr_cells x1 13 (v := .slice p.rs.at_ p.procs.length p.rs.cap) rfl
  obtain ⟨y0, y1, y2, y3, y4, y5⟩ := six_cells x2
  have HE := Lib.hid he
  have HP := Lib.hid hp
  have HX1 := Lib.hid x1
  have HE1 := Lib.hid x2
  have HBE := Lib.hid hbE
  have HWT := Lib.hid hwt
  have HL := Lib.hid (decide_eq_true hl)
  have HSZ := Lib.hid (size_pos e hel)
  have hlt : decide ((p.procs.length : Int) ≤ -1) = false := decide_eq_false (by omega)
  have hav := arr_val p
  have HAV := Lib.hid hav
  clear he hp x1 x2 hbE hwt hl hel xs hav
  simp only [ExprV.val, ExprV.cells, Sp.val] at *
  go_enter Tryz.func32, Tryz.ntmps32
  go_wp2_with (first | (refine wpList_load_row_g (by rfl) 39 _ rfl w.heap.size rfl 39 _ (0, 0) _ HX1.out Tryz.underlying39 rfl (arr_size _) ?_) | fail)
  have hLT := lightP_any _ p (HP.out.on HBE.out) HWT.out
  rw [HL.out, HAV.out] at hLT
  refine hLT.mono ?_
  clear hLT
  rintro o w3 ⟨rfl, hb3⟩
  have hs2 : w.heap.size + 2 = ((w.alloc (.cells p.arr 39)).alloc (.cells #[.int .u8 e.kind, .int .u8 e.op, .int .u32 e.value, .int .i64 e.width, .string e.name, .slice e.sp.at_ e.subs.length e.sp.cap] 34)).heap.size := by simp
  have HX3 := Lib.hid ((hb3.block _ (by omega)).trans HX1.out)
  have z0 := (hb3.cell (p := ⟨w.heap.size + 1, 0, none⟩) (by show w.heap.size + 1 < _; omega)).trans y0
  have z1 := (hb3.cell (p := ⟨w.heap.size + 1, 1, none⟩) (by show w.heap.size + 1 < _; omega)).trans y1
  have z2 := (hb3.cell (p := ⟨w.heap.size + 1, 2, none⟩) (by show w.heap.size + 1 < _; omega)).trans y2
  have z3 := (hb3.cell (p := ⟨w.heap.size + 1, 3, none⟩) (by show w.heap.size + 1 < _; omega)).trans y3
  have z4 := (hb3.cell (p := ⟨w.heap.size + 1, 4, none⟩) (by show w.heap.size + 1 < _; omega)).trans y4
  have z5 := (hb3.cell (p := ⟨w.heap.size + 1, 5, none⟩) (by show w.heap.size + 1 < _; omega)).trans y5
  have HE3 := Lib.hid ((hb3.block _ (show w.heap.size + 1 < _ by omega)).trans HE1.out)
  have HB3 := Lib.hid (HBE.out.trans (hb3.mono (by omega)))
  have HZS := Lib.hid (show w.heap.size + 2 ≤ w3.heap.size by have := hb3.size; omega)
  clear hb3 y0 y1 y2 y3 y4 y5 c13 hs2 HX1 HBE
  go_wp2_with fail
  have hSE := sizeExpr_any w3 e ((HE.out.stays HB3.out).more HB3.out.size)
  rw [HSZ.out.1] at hSE
  simp only [ExprV.val, Sp.val] at hSE
  refine hSE.mono ?_
  clear hSE
  rintro o w4 ⟨rfl, hb4⟩
  have hne : ((e.pre.length : Int) == 0) = false := by have := HSZ.out.2; rw [beq_eq_false_iff_ne]; omega
  have HX4 := Lib.hid ((hb4.block _ (by have := HZS.out; omega)).trans HX3.out)
  have hzs := HZS.out
  have HE4 := Lib.hid ((hb4.block _ (show w.heap.size + 1 < _ by omega)).trans HE3.out)
  have HB4 := Lib.hid (HB3.out.trans (hb4.mono HB3.out.size))
  have HZ4 := Lib.hid (show w.heap.size + 2 ≤ w4.heap.size by have := hb4.size; omega)
  clear hb4 hzs HX3 HB3 HZS HSZ z0 z1 z2 z3 z4 z5
  go_wp2_with (first | (refine wpList_load_row rfl 39 _ rfl w.heap.size rfl 39 _ (0, 0) _ HX4.out Tryz.underlying39 rfl (arr_size _) ?_) | fail)
  have hNW := new_any w4 p w.heap.size w4.heap.size (HP.out.below HB4.out) HB4.out.size (Nat.le_refl _)
  rw [HAV.out] at hNW
  refine hNW.mono ?_
  clear hNW hne
  rintro o w5 ⟨q, mt, mp, rfl, hck, hq, hmt, hmp, hb5⟩
  have HCK := Lib.hid hck
  have HB5 := Lib.hid (HB4.out.trans (hb5.mono HB4.out.size))
  have hz4 := HZ4.out
  have HE5 := Lib.hid ((hb5.block _ (show w.heap.size + 1 < _ by omega)).trans HE4.out)
  clear hck hb5
  go_wp2_with fail
  refine (leave_any (K := ⟨q, p, w.heap.size, w4.heap.size, yv0, mt, mp⟩) (J := Any2) (Jx := Any2) (any2_own _) (any2_own _) w5 (pm := none) (E := outside) (cs := []) ⟨false, HCK.out, .inl ⟨rfl, trivial⟩⟩).mono ?_
  rintro o w6 ⟨rfl, hen⟩
  obtain ⟨pm, hst, -⟩ := hen.st
  obtain ⟨over, hk6, -⟩ := hst.ex
  have HK6 := Lib.hid hk6
  have hx6 := hen.keeps.cells _ _ _ _ HE5.out rfl (show w.heap.size + 1 ≠ q by omega)
  obtain ⟨z0, z1, z2, z3, z4, z5⟩ := six_cells hx6
  have HB6 := Lib.hid (HB5.out.trans hen.keeps.low)
  clear hst hk6 hen hx6 HE5 HB5 HCK
  go_wp2_with fail
  have hWD := width_any (K := ⟨q, p, w.heap.size, w4.heap.size, yv0, mt, mp⟩) HE.out w6 HB6.out HB6.out.size HK6.out
  simp only [ExprV.val, Sp.val] at hWD
  refine hWD.mono ?_
  clear hWD
  rintro o w7 ⟨rfl, hb7⟩
  have HB7 := Lib.hid (HB6.out.trans (hb7.mono HB6.out.size))
  clear hb7
  go_wp2_with fail
  go_ret2
  exact ⟨by simp, HB7.out⟩
set_option maxRecDepth 1000000 in
set_option maxHeartbeats 4000000 in
theorem widthIn_any (w : World) (p : ProgV) (e : ExprV) (i : Nat) (hi : i < p.procs.length) (hp : RdP w.heap.size w p) (he : RdX w.heap.size w e) (hl : countP p ≤ 20000) (hwt : weightP p ≤ 1125899906842624) (hel : e.pre.length ≤ 20000) :
    Calls Tryz.prog 32 #[.agg p.arr, .int .i64 (i : Nat), e.val] w fun o w' => o = .returned (.tuple #[.int .i64 (widthE p (inside p i) e), .bool (decide (0 < widthE p (inside p i) e))]) ∧ Below w.heap.size w w' := by
  have hbE : Below w.heap.size w ((w.alloc (.cells p.arr 39)).alloc (.cells e.cells.toArray 34)) := ((Below.refl _ _).alloc (Nat.le_refl _) _).alloc (by simp) _
  obtain ⟨x1, x2, xs, -⟩ := alloc2 w (.cells p.arr 39) (.cells e.cells.toArray 34)
  have c13 := arr_cells x1 13 (v := .slice p.rs.at_ p.procs.length p.rs.cap) rfl
  obtain ⟨y0, y1, y2, y3, y4, y5⟩ := six_cells x2
  have HE := Lib.hid he
  have HP := Lib.hid hp
  have HX1 := Lib.hid x1
  have HE1 := Lib.hid x2
  have HBE := Lib.hid hbE
  have HWT := Lib.hid hwt
  have HL := Lib.hid (decide_eq_true hl)
  have HSZ := Lib.hid (size_pos e hel)
  have hlt : decide (p.procs.length ≤ i) = false := decide_eq_false (by omega)
  have hlt2 : ¬ p.procs.length ≤ i := by omega
  have hmx : max (i : Int) (-1) = (i : Int) := by omega
  have hav := arr_val p
  have HAV := Lib.hid hav
  clear he hp x1 x2 hbE hwt hl hel xs hav
  simp only [ExprV.val, ExprV.cells, Sp.val] at *
  go_enter Tryz.func32, Tryz.ntmps32
  go_wp2_with (first | (refine wpList_load_row_g (by rfl) 39 _ rfl w.heap.size rfl 39 _ (0, 0) _ HX1.out Tryz.underlying39 rfl (arr_size _) ?_) | fail)
  have hLT := lightP_any _ p (HP.out.on HBE.out) HWT.out
  rw [HL.out, HAV.out] at hLT
  refine hLT.mono ?_
  clear hLT
  rintro o w3 ⟨rfl, hb3⟩
  have hs2 : w.heap.size + 2 = ((w.alloc (.cells p.arr 39)).alloc (.cells #[.int .u8 e.kind, .int .u8 e.op, .int .u32 e.value, .int .i64 e.width, .string e.name, .slice e.sp.at_ e.subs.length e.sp.cap] 34)).heap.size := by simp
  have HX3 := Lib.hid ((hb3.block _ (by omega)).trans HX1.out)
  have z0 := (hb3.cell (p := ⟨w.heap.size + 1, 0, none⟩) (by show w.heap.size + 1 < _; omega)).trans y0
  have z1 := (hb3.cell (p := ⟨w.heap.size + 1, 1, none⟩) (by show w.heap.size + 1 < _; omega)).trans y1
  have z2 := (hb3.cell (p := ⟨w.heap.size + 1, 2, none⟩) (by show w.heap.size + 1 < _; omega)).trans y2
  have z3 := (hb3.cell (p := ⟨w.heap.size + 1, 3, none⟩) (by show w.heap.size + 1 < _; omega)).trans y3
  have z4 := (hb3.cell (p := ⟨w.heap.size + 1, 4, none⟩) (by show w.heap.size + 1 < _; omega)).trans y4
  have z5 := (hb3.cell (p := ⟨w.heap.size + 1, 5, none⟩) (by show w.heap.size + 1 < _; omega)).trans y5
  have HE3 := Lib.hid ((hb3.block _ (show w.heap.size + 1 < _ by omega)).trans HE1.out)
  have HB3 := Lib.hid (HBE.out.trans (hb3.mono (by omega)))
  have HZS := Lib.hid (show w.heap.size + 2 ≤ w3.heap.size by have := hb3.size; omega)
  clear hb3 y0 y1 y2 y3 y4 y5 c13 hs2 HX1 HBE
  go_wp2_with fail
  have hSE := sizeExpr_any w3 e ((HE.out.stays HB3.out).more HB3.out.size)
  rw [HSZ.out.1] at hSE
  simp only [ExprV.val, Sp.val] at hSE
  refine hSE.mono ?_
  clear hSE
  rintro o w4 ⟨rfl, hb4⟩
  have hne : ((e.pre.length : Int) == 0) = false := by have := HSZ.out.2; rw [beq_eq_false_iff_ne]; omega
  have HX4 := Lib.hid ((hb4.block _ (by have := HZS.out; omega)).trans HX3.out)
  have hzs := HZS.out
  have HE4 := Lib.hid ((hb4.block _ (show w.heap.size + 1 < _ by omega)).trans HE3.out)
  have HB4 := Lib.hid (HB3.out.trans (hb4.mono HB3.out.size))
  have HZ4 := Lib.hid (show w.heap.size + 2 ≤ w4.heap.size by have := hb4.size; omega)
  clear hb4 hzs HX3 HB3 HZS HSZ z0 z1 z2 z3 z4 z5
  go_wp2_with (first | (refine wpList_load_row rfl 39 _ rfl w.heap.size rfl 39 _ (0, 0) _ HX4.out Tryz.underlying39 rfl (arr_size _) ?_) | fail)
  have hNW := new_any w4 p w.heap.size w4.heap.size (HP.out.below HB4.out) HB4.out.size (Nat.le_refl _)
  rw [HAV.out] at hNW
  refine hNW.mono ?_
  clear hNW hne
  rintro o w5 ⟨q, mt, mp, rfl, hck, hq, hmt, hmp, hb5⟩
  have HCK := Lib.hid hck
  have HB5 := Lib.hid (HB4.out.trans (hb5.mono HB4.out.size))
  have hz4 := HZ4.out
  have HE5 := Lib.hid ((hb5.block _ (show w.heap.size + 1 < _ by omega)).trans HE4.out)
  clear hck hb5
  go_wp2_with fail
  refine (enter_any (K := ⟨q, p, w.heap.size, w4.heap.size, yv0, mt, mp⟩) (J := Any2) (Jx := Any2) (any2_own _) (any2_own _) w5 (pm := none) (E := outside) (cs := []) ⟨false, HCK.out, .inl ⟨rfl, trivial⟩⟩ i hi).mono ?_
  rintro o w6 ⟨rfl, hen⟩
  obtain ⟨pm, hst, -⟩ := hen.st
  obtain ⟨over, hk6, -⟩ := hst.ex
  have HK6 := Lib.hid hk6
  have hx6 := hen.keeps.cells _ _ _ _ HE5.out rfl (show w.heap.size + 1 ≠ q by omega)
  obtain ⟨z0, z1, z2, z3, z4, z5⟩ := six_cells hx6
  have HB6 := Lib.hid (HB5.out.trans hen.keeps.low)
  clear hst hk6 hen hx6 HE5 HB5 HCK
  go_wp2_with fail
  have hWD := width_any (K := ⟨q, p, w.heap.size, w4.heap.size, yv0, mt, mp⟩) HE.out w6 HB6.out HB6.out.size HK6.out
  simp only [ExprV.val, Sp.val] at hWD
  refine hWD.mono ?_
  clear hWD
  rintro o w7 ⟨rfl, hb7⟩
  have HB7 := Lib.hid (HB6.out.trans (hb7.mono HB6.out.size))
  clear hb7
  go_wp2_with fail
  go_ret2
  exact ⟨by simp, HB7.out⟩
set_option maxRecDepth 1000000 in
theorem widthNo_any (w : World) (p : ProgV) (e : ExprV) (i : Nat) (hi : p.procs.length ≤ i) :
    Calls Tryz.prog 32 #[.agg p.arr, .int .i64 (i : Nat), e.val] w fun o w' => o = .returned (.tuple #[.int .i64 0, .bool false]) ∧ Below w.heap.size w w' := by
  have hbE : Below w.heap.size w ((w.alloc (.cells p.arr 39)).alloc (.cells e.cells.toArray 34)) := ((Below.refl _ _).alloc (Nat.le_refl _) _).alloc (by simp) _
  obtain ⟨x1, x2, xs, -⟩ := alloc2 w (.cells p.arr 39) (.cells e.cells.toArray 34)
  have c13 := arr_cells x1 13 (v := .slice p.rs.at_ p.procs.length p.rs.cap) rfl
  have HBE := Lib.hid hbE
  have hlt : decide (p.procs.length ≤ i) = true := decide_eq_true hi
  clear x1 x2 xs hbE
  simp only [ExprV.val, ExprV.cells, Sp.val] at *
  go_enter Tryz.func32, Tryz.ntmps32
  go_wp2_with fail
  go_ret2
  exact ⟨by simp, HBE.out⟩
end Go.Proofs.YthcboallnbaimaaGreatDoor
namespace Go.Proofs.YthcboallnbaimaaGreatDoor
open Go Go.RowKit Go.Maps
/-- The closure that Invariant hands to its checker. -/
def invV (g : Nat) : Value := .func (.func 69) #[] #[.pointer (some ⟨g, 0, none⟩)]
theorem ckr_yield {q n₀ B mt mp : Nat} {p : ProgV} {yv v : Value} {pm : Option Nat} {E : Env} {n : Int} {over : Bool} {W : World} (h : Ckr ⟨q, p, n₀, B, yv, mt, mp⟩ pm E n over W) : Ckr ⟨q, p, n₀, B, v, mt, mp⟩ pm E n over (W.setCell ⟨q, 28, none⟩ v) := by
  have hn := h.n0
  have hq := h.q
  simp only at hn hq
  have hbox : (W.setCell ⟨q, 28, none⟩ v).heap[q]? = some (.cells (CkE.cells ⟨q, p, n₀, B, v, mt, mp⟩ pm E n over) 129 (0, 0)) := by
    simp [World.setCell, Array.getElem?_modify, h.box, CkE.cells]
  have hk : KeepsQ ⟨q, p, n₀, B, yv, mt, mp⟩ W (W.setCell ⟨q, 28, none⟩ v) := KeepsQ.set (K := ⟨q, p, n₀, B, yv, mt, mp⟩) h.box (by show n₀ ≤ q; omega) v
  exact ⟨hbox, h.params.stays hk.same, map_stays h.things h.mt hk.same, map_stays h.procs h.mp hk.same, h.prog.below hk.low, h.n0, h.q, h.mt, h.mp⟩
set_option maxRecDepth 1000000 in
set_option maxHeartbeats 4000000 in
theorem invariant_any (w : World) (p : ProgV) (e : ExprV) (hn0 : 0 < w.heap.size) (hp : RdP w.heap.size w p) (he : RdX w.heap.size w e) (hN : NamesOk p) (hwt : weightP p ≤ 1125899906842624) (hmx : MxAt w) (hr : (checkP p).2 = 0) (hel : e.pre.length ≤ 20000) :
    Calls Tryz.prog 34 #[.agg p.arr, e.val] w fun o w' => o = .returned (.bool (decide (probs (exprC p outside 2 e 1) 0 = []))) ∧ Below w.heap.size w w' := by
  have hbE : Below w.heap.size w ((w.alloc (.cells p.arr 39)).alloc (.cells e.cells.toArray 34)) := ((Below.refl _ _).alloc (Nat.le_refl _) _).alloc (by simp) _
  obtain ⟨x1, x2, xs, -⟩ := alloc2 w (.cells p.arr 39) (.cells e.cells.toArray 34)
  have HRT := Lib.hid (right_any _ p (hp.on hbE) (Nat.lt_of_lt_of_le hn0 hbE.size) hN hwt (hmx.below hbE hn0))
  rw [hr] at HRT
  have HE := Lib.hid he
  have HP := Lib.hid hp
  have HX1 := Lib.hid x1
  have HE1 := Lib.hid x2
  have HBE := Lib.hid hbE
  have HSZ := Lib.hid (size_pos e hel)
  have HEL := Lib.hid hel
  have HAV := Lib.hid (arr_val p)
  have HN0 := Lib.hid hn0
  clear he hp x1 x2 hbE hwt hel xs hmx hN hr hn0
  simp only [ExprV.val, ExprV.cells, Sp.val] at *
  go_enter Tryz.func34, Tryz.ntmps34
  go_wp2_with (first | (refine wpList_load_row rfl 39 _ rfl w.heap.size rfl 39 _ (0, 0) _ HX1.out Tryz.underlying39 rfl (arr_size _) ?_) | fail)
  refine HRT.out.mono ?_
  clear HRT
  rintro o w3 ⟨rfl, hb3⟩
  have hs2 : w.heap.size + 2 = ((w.alloc (.cells p.arr 39)).alloc (.cells #[.int .u8 e.kind, .int .u8 e.op, .int .u32 e.value, .int .i64 e.width, .string e.name, .slice e.sp.at_ e.subs.length e.sp.cap] 34)).heap.size := by simp
  have HX3 := Lib.hid ((hb3.block _ (by omega)).trans HX1.out)
  have HE3 := Lib.hid ((hb3.block _ (show w.heap.size + 1 < _ by omega)).trans HE1.out)
  have HB3 := Lib.hid (HBE.out.trans (hb3.mono (by omega)))
  have HZS := Lib.hid (show w.heap.size + 2 ≤ w3.heap.size by have := hb3.size; omega)
  clear hb3 hs2 HX1 HBE HE1
  obtain ⟨z0, z1, z2, z3, z4, z5⟩ := six_cells HE3.out
  go_wp2_with fail
  have hSE := sizeExpr_any w3 e ((HE.out.stays HB3.out).more HB3.out.size)
  rw [HSZ.out.1] at hSE
  simp only [ExprV.val, Sp.val] at hSE
  refine hSE.mono ?_
  clear hSE
  rintro o w4 ⟨rfl, hb4⟩
  have hne : ((e.pre.length : Int) == 0) = false := by have := HSZ.out.2; rw [beq_eq_false_iff_ne]; omega
  have HX4 := Lib.hid ((hb4.block _ (by have := HZS.out; omega)).trans HX3.out)
  have hzs := HZS.out
  have HE4 := Lib.hid ((hb4.block _ (show w.heap.size + 1 < _ by omega)).trans HE3.out)
  have HB4 := Lib.hid (HB3.out.trans (hb4.mono HB3.out.size))
  have HZ4 := Lib.hid (show w.heap.size + 2 ≤ w4.heap.size by have := hb4.size; omega)
  clear hb4 hzs HX3 HB3 HZS HSZ HE3 z0 z1 z2 z3 z4 z5
  go_wp2_with (first | (refine wpList_load_row rfl 39 _ rfl w.heap.size rfl 39 _ (0, 0) _ HX4.out Tryz.underlying39 rfl (arr_size _) ?_) | fail)
  have hNW := new_any w4 p w.heap.size w4.heap.size (HP.out.below HB4.out) HB4.out.size (Nat.le_refl _)
  rw [HAV.out] at hNW
  refine hNW.mono ?_
  clear hNW hne
  rintro o w5 ⟨q, mt, mp, rfl, hck, hq, hmt, hmp, hb5⟩
  have hbg : Below w5.heap.size w5 (w5.alloc (.cells #[.bool true] 4)) := (Below.refl _ _).alloc (Nat.le_refl _) _
  have hck6 := hck.new hbg
  have HG6 := Lib.hid (show goodIs w5.heap.size true (w5.alloc (.cells #[.bool true] 4)) from World.alloc_heap_new _ _)
  have hz4 := HZ4.out
  have HE6 := Lib.hid ((hbg.block _ (show w.heap.size + 1 < _ by have := hb5.size; omega)).trans ((hb5.block _ (show w.heap.size + 1 < _ by omega)).trans HE4.out))
  have HB6 := Lib.hid ((HB4.out.trans (hb5.mono HB4.out.size)).trans (hbg.mono (Nat.le_trans HB4.out.size hb5.size)))
  have HCK6 := Lib.hid hck6
  have hgs : w.heap.size ≤ w5.heap.size := Nat.le_trans HB4.out.size hb5.size
  have hqs : q < w5.heap.size := hck.lt
  have c28 := HCK6.out.c28
  have f28 := HCK6.out.frozen 28
  simp only at c28 f28
  clear hck hb5 hbg hck6 HE4 HB4 HX4
  have hcom := World.setCell_alloc_past (w := w5) (.cells #[.bool true] 4) q 28 (invV w5.heap.size) hqs
  have HCK7 := Lib.hid (ckr_yield (v := invV w5.heap.size) HCK6.out)
  have HB7 := Lib.hid (HB6.out.setCell (p := ⟨q, 28, none⟩) (show w.heap.size ≤ q by omega) (invV w5.heap.size))
  have HG7 := Lib.hid (show goodIs w5.heap.size true ((w5.alloc (.cells #[.bool true] 4)).setCell ⟨q, 28, none⟩ (invV w5.heap.size)) from (Below.heap_setCell _ ⟨q, 28, none⟩ (invV w5.heap.size) w5.heap.size (show w5.heap.size ≠ q by omega)).trans HG6.out)
  have HE7 := Lib.hid ((Below.heap_setCell _ ⟨q, 28, none⟩ (invV w5.heap.size) (w.heap.size + 1) (show w.heap.size + 1 ≠ q by omega)).trans HE6.out)
  rw [hcom] at HCK7 HB7 HG7 HE7
  clear hcom HCK6 HB6 HG6 HE6
  unfold invV at HCK7 HB7 HG7 HE7
  go_upto_region 5 with fail
  clear c28 f28
  generalize (w5.setCell ⟨q, 28, none⟩ (.func (.func 69) #[] #[.pointer (some ⟨w5.heap.size, 0, none⟩)])).alloc (.cells #[.bool true] 4) = W7 at *
  generalize w5.heap.size = g at *
  obtain ⟨z0, z1, z2, z3, z4, z5⟩ := six_cells HE7.out
  have hst : CkSt ⟨q, p, w.heap.size, w4.heap.size, .func (.func 69) #[] #[.pointer (some ⟨g, 0, none⟩)], mt, mp⟩ (InvJ g) (InvJx g) none outside [] W7 := ⟨⟨false, HCK7.out, Or.inl ⟨rfl, rfl, HG7.out⟩⟩⟩
  have hEX := expr_any (invJ_own w4.heap.size g) (invJx_own w4.heap.size g) (tell_inv _ g rfl hgs) (wh := 2) (W0 := w) (show RdX _ w e from HE.out) [] 1 W7 HB7.out hst (by rw [exprC_len]; have := HEL.out; simp only [List.length_nil]; omega) (by rw [exprC_len]; have := HEL.out; omega)
  simp only [ExprV.val, Sp.val, List.nil_append] at hEX
  have HEX := Lib.hid hEX
  clear hEX hst HCK7 HG7 HE7 HE HEL
  go_wp2_with fail
  refine HEX.out.mono ?_
  rintro o w8 ⟨rfl, ht⟩
  have HB8 := Lib.hid (HB7.out.trans ht.keeps.low)
  obtain ⟨b, hb, hg8⟩ : ∃ b, decide (probs (exprC p outside 2 e 1) 0 = []) = b ∧ goodIs g b w8 := by
    obtain ⟨over, -, h⟩ := ht.st.ex
    rcases h with ⟨-, h1, h2⟩ | ⟨-, l, hl, hp, h1, h2⟩
    · exact ⟨true, decide_eq_true h1, h2⟩
    · exact ⟨false, decide_eq_false (fun h0 => by rw [h0] at hp; exact hl (List.prefix_nil.1 hp)), h2⟩
  have cg := one_cell hg8
  clear hg8 ht HEX HB7 z0 z1 z2 z3 z4 z5
  have HB := Lib.hid hb
  clear hb
  go_wp2_with fail
  go_ret
  exact ⟨by rw [HB.out]; rfl, HB8.out⟩
end Go.Proofs.YthcboallnbaimaaGreatDoor
namespace Go.Proofs.YthcboallnbaimaaGreatDoor
open Go Go.RowKit Go.Maps
set_option maxRecDepth 1000000 in
set_option maxHeartbeats 4000000 in
theorem is_out (W : World) (q : ProgV) (bp : Nat) (e : ExprV) (want : Int) (hbox : W.heap[bp]? = some (.cells q.arr 39 (0, 0))) (hq : RdP W.heap.size W q) (hF : Fit q) (he : NowX W e) (hel : e.pre.length ≤ 20000) (hw : widthE q outside e = want) :
    Calls Tryz.prog 31 #[.int .i64 (-1), e.val, .int .i64 want, .pointer (some ⟨bp, 0, none⟩)] W fun o w' => o = .returned (.bool true) ∧ Below W.heap.size W w' := by
  have hbE : Below W.heap.size W (W.alloc (.cells e.cells.toArray 34)) := (Below.refl _ _).alloc (Nat.le_refl _) _
  have hxE := World.alloc_heap_new W (.cells e.cells.toArray 34)
  have HBP := Lib.hid ((hbE.block bp (Array.getElem?_eq_some_iff.1 hbox).1).trans hbox)
  have hWI := widthOut_any _ q e (hq.on hbE) ((show NowX W e from he).on hbE) hF.heft hF.weight hel
  rw [hw] at hWI
  have HWI := Lib.hid hWI
  have HBE := Lib.hid hbE
  have HXE := Lib.hid hxE
  clear hbE hxE hWI hbox hq hF he hel hw
  simp only [ExprV.val, ExprV.cells, Sp.val] at *
  obtain ⟨z0, z1, z2, z3, z4, z5⟩ := six_cells HXE.out
  go_enter Tryz.func31, Tryz.ntmps31
  go_wp2_with (first | (refine wpList_load_row rfl 39 _ rfl bp rfl 39 _ (0, 0) _ HBP.out Tryz.underlying39 rfl (arr_size _) ?_) | fail)
  refine HWI.out.mono ?_
  clear HWI
  rintro o w3 ⟨rfl, hb3⟩
  have HB3 := Lib.hid (HBE.out.trans (hb3.mono HBE.out.size))
  clear hb3 HBE HXE HBP z0 z1 z2 z3 z4 z5
  go_wp2_with fail
  go_ret
  exact ⟨by simp, HB3.out⟩
set_option maxRecDepth 1000000 in
set_option maxHeartbeats 4000000 in
theorem is_in (W : World) (q : ProgV) (bp : Nat) (e : ExprV) (want : Int) (hbox : W.heap[bp]? = some (.cells q.arr 39 (0, 0))) (hq : RdP W.heap.size W q) (hF : Fit q) (he : NowX W e) (hel : e.pre.length ≤ 20000) (h1 : 0 < q.procs.length) (hw : widthE q (inside q 0) e = want) :
    Calls Tryz.prog 31 #[.int .i64 0, e.val, .int .i64 want, .pointer (some ⟨bp, 0, none⟩)] W fun o w' => o = .returned (.bool true) ∧ Below W.heap.size W w' := by
  have hbE : Below W.heap.size W (W.alloc (.cells e.cells.toArray 34)) := (Below.refl _ _).alloc (Nat.le_refl _) _
  have hxE := World.alloc_heap_new W (.cells e.cells.toArray 34)
  have HBP := Lib.hid ((hbE.block bp (Array.getElem?_eq_some_iff.1 hbox).1).trans hbox)
  have hWI := widthIn_any _ q e 0 h1 (hq.on hbE) ((show NowX W e from he).on hbE) hF.heft hF.weight hel
  rw [hw] at hWI
  simp only [Int.cast_ofNat_Int] at hWI
  have HWI := Lib.hid hWI
  have HBE := Lib.hid hbE
  have HXE := Lib.hid hxE
  clear hbE hxE hWI hbox hq hF he hel hw h1
  simp only [ExprV.val, ExprV.cells, Sp.val] at *
  obtain ⟨z0, z1, z2, z3, z4, z5⟩ := six_cells HXE.out
  go_enter Tryz.func31, Tryz.ntmps31
  go_wp2_with (first | (refine wpList_load_row rfl 39 _ rfl bp rfl 39 _ (0, 0) _ HBP.out Tryz.underlying39 rfl (arr_size _) ?_) | fail)
  refine HWI.out.mono ?_
  clear HWI
  rintro o w3 ⟨rfl, hb3⟩
  have HB3 := Lib.hid (HBE.out.trans (hb3.mono HBE.out.size))
  clear hb3 HBE HXE HBP z0 z1 z2 z3 z4 z5
  go_wp2_with fail
  go_ret
  exact ⟨by simp, HB3.out⟩
set_option maxRecDepth 1000000 in
set_option maxHeartbeats 4000000 in
theorem is_no (W : World) (q : ProgV) (bp : Nat) (e : ExprV) (hbox : W.heap[bp]? = some (.cells q.arr 39 (0, 0))) (h1 : q.procs.length ≤ 1) :
    Calls Tryz.prog 31 #[.int .i64 1, e.val, .int .i64 0, .pointer (some ⟨bp, 0, none⟩)] W fun o w' => o = .returned (.bool true) ∧ Below W.heap.size W w' := by
  have hbE : Below W.heap.size W (W.alloc (.cells e.cells.toArray 34)) := (Below.refl _ _).alloc (Nat.le_refl _) _
  have hxE := World.alloc_heap_new W (.cells e.cells.toArray 34)
  have HBP := Lib.hid ((hbE.block bp (Array.getElem?_eq_some_iff.1 hbox).1).trans hbox)
  have hWI := widthNo_any (W.alloc (.cells e.cells.toArray 34)) q e 1 h1
  simp only [Int.cast_ofNat_Int] at hWI
  have HWI := Lib.hid hWI
  have HBE := Lib.hid hbE
  have HXE := Lib.hid hxE
  clear hbE hxE hWI hbox h1
  simp only [ExprV.val, ExprV.cells, Sp.val] at *
  obtain ⟨z0, z1, z2, z3, z4, z5⟩ := six_cells HXE.out
  go_enter Tryz.func31, Tryz.ntmps31
  go_wp2_with (first | (refine wpList_load_row rfl 39 _ rfl bp rfl 39 _ (0, 0) _ HBP.out Tryz.underlying39 rfl (arr_size _) ?_) | fail)
  refine HWI.out.mono ?_
  clear HWI
  rintro o w3 ⟨rfl, hb3⟩
  have HB3 := Lib.hid (HBE.out.trans (hb3.mono HBE.out.size))
  clear hb3 HBE HXE HBP z0 z1 z2 z3 z4 z5
  go_wp2_with fail
  go_ret
  exact ⟨by simp, HB3.out⟩
end Go.Proofs.YthcboallnbaimaaGreatDoor
namespace Go.Proofs.YthcboallnbaimaaGreatDoor
open Go Go.RowKit Go.Maps
theorem binary_any (op : Int) (ho : 0 ≤ op ∧ op ≤ 255) (e1 e2 : ExprV) (w : World) (he1 : NowX w e1) (he2 : NowX w e2) : Calls Tryz.prog 33 #[.int .u8 op, e1.val, e2.val] w fun o w' => ∃ sp : Sp, o = .returned (.agg #[.int .u8 6, .int .u8 op, .int .u32 0, .int .i64 0, .string ⟨#[]⟩, .slice sp.at_ 2 sp.cap]) ∧ NowX w' (binX op e1 e2 sp) ∧ Below w.heap.size w w' := by
  have HE1 := Lib.hid he1
  have HE2 := Lib.hid he2
  clear he1 he2
  simp only [ExprV.val, Sp.val]
  go_enter Tryz.func33, Tryz.ntmps33
  go_wp2_with fail
  obtain ⟨h1, h2, h3, h4, h6, h5⟩ := alloc4 w (.cells #[.int .u8 e1.kind, .int .u8 e1.op, .int .u32 e1.value, .int .i64 e1.width, .string e1.name, .slice e1.sp.at_ e1.subs.length e1.sp.cap] 34) (.cells #[.int .u8 e2.kind, .int .u8 e2.op, .int .u32 e2.value, .int .i64 e2.width, .string e2.name, .slice e2.sp.at_ e2.subs.length e2.sp.cap] 34) (.cells #[.int .u8 6, .int .u8 op, .int .u32 0, .int .i64 0, .string ⟨#[]⟩, .slice (some ⟨w.heap.size + 1 + 1 + 1, 0, none⟩) 2 2] 34) (.cells #[.int .u8 e1.kind, .int .u8 e1.op, .int .u32 e1.value, .int .i64 e1.width, .string e1.name, .slice e1.sp.at_ e1.subs.length e1.sp.cap, .int .u8 e2.kind, .int .u8 e2.op, .int .u32 e2.value, .int .i64 e2.width, .string e2.name, .slice e2.sp.at_ e2.subs.length e2.sp.cap] 34)
  refine bodyPost_ret (results_cell_row rfl _ _ (w.heap.size + 1 + 1) 34 _ (0, 0) _ rfl h3 Tryz.underlying34 rfl (by kernel_rfl)) rfl ⟨⟨some ⟨w.heap.size + 1 + 1 + 1, 0, none⟩, 2⟩, rfl, ?_, h5⟩
  exact .mk _ (show (0 : Int) ≤ 6 ∧ (6 : Int) ≤ 255 by decide) ho (show (0 : Int) ≤ 0 ∧ (0 : Int) ≤ 4294967295 by decide) (show (Lit.int .i64 0).wf = true by decide) (show (0 : Nat) ≤ maxLen by decide) (row_two (enc := ExprV.cells) (x := e1) (y := e2) rfl h4) (fun y hy => by
    have hy2 : y = e1 ∨ y = e2 := by simpa [binX, ExprV.subs] using hy
    rcases hy2 with rfl | rfl
    · exact HE1.out.on h5
    · exact HE2.out.on h5)
end Go.Proofs.YthcboallnbaimaaGreatDoor
namespace Go.Proofs.YthcboallnbaimaaGreatDoor
open Go Go.RowKit Go.Maps
theorem withs_box {W : World} {b : Nat} {p : ProgV} {rs ps : Sp} (h : W.heap[b]? = some (.cells p.arr 39 (0, 0))) :
    (((W.setCell ⟨b, 13, none⟩ (.slice rs.at_ 1 rs.cap)).setCell ⟨b, 14, none⟩ (.slice none 0 0)).setCell ⟨b, 15, none⟩ (.slice none 0 0)).heap[b]? = some (.cells (withsP p rs ps).arr 39 (0, 0)) := by
  simp [World.setCell, Array.getElem?_modify, h, ProgV.arr, ProgV.cells, withsP, Sp.none, Sp.val]
theorem withs_rd {n : Nat} {W : World} {p : ProgV} {rs ps : Sp} (h : RdP n W p) (hr : RowOf n W rs 3 ProcV.cells [⟨pB, ps, [⟨xB, 5, 0⟩], Sp.none, []⟩]) (hd : RowOf n W ps 3 DeclV.cells [⟨xB, 5, 0⟩]) : RdP n W (withsP p rs ps) := by
  refine ⟨h.blocks, h.width, h.inputs, h.ghosts, h.vars, h.arrays, h.require, h.irow, h.inits, hr, fun q hq => ?_, ⟨RowOf.nil, fun _ h => absurd h (by simp [withsP])⟩, ⟨RowOf.nil, fun _ h => absurd h (by simp [withsP])⟩, h.invariant⟩
  rw [List.mem_singleton.1 (show q ∈ [_] from hq)]
  refine ⟨show pB.size ≤ maxLen by decide, ⟨hd, fun d hd => ?_⟩, ⟨RowOf.nil, fun _ h => absurd h (by simp)⟩⟩
  rw [List.mem_singleton.1 (show d ∈ [_] from hd)]
  exact ⟨show xB.size ≤ maxLen by decide, show (Lit.int .i64 5).wf = true by decide, show (Lit.int .i64 0).wf = true by decide⟩
theorem one_now {W : World} {b : Nat} {fr : Nat × Nat} {t : TypeId} {k op v wd : Int} {nm : ByteArray} {a : ExprV} (hb : W.heap[b]? = some (.cells a.cells.toArray t fr)) (ha : NowX W a) (hk : 0 ≤ k ∧ k ≤ 255) (ho : 0 ≤ op ∧ op ≤ 255) (hv : 0 ≤ v ∧ v ≤ 4294967295) (hw : (Lit.int .i64 wd).wf = true) (hn : nm.size ≤ maxLen) : NowX W (.mk k op v wd nm ⟨some ⟨b, 0, none⟩, 1⟩ [a]) :=
  .mk _ hk ho hv hw hn (row_one (enc := ExprV.cells) (x := a) hb) fun s hs => by
    rw [List.mem_singleton.1 (show s ∈ [a] from hs)]; exact ha
theorem wf_width {k : Nat} (h : k < 16) : (Lit.int .i64 (1 + (k : Int))).wf = true := by
  have : ∀ j : Fin 16, (Lit.int .i64 (1 + ((j.val : Nat) : Int))).wf = true := by decide
  exact this ⟨k, h⟩
theorem pre_one {k op v wd : Int} {nm : ByteArray} {sp : Sp} {a : ExprV} {n : Nat} (h : a.pre.length ≤ n) : (ExprV.mk k op v wd nm sp [a]).pre.length ≤ n + 1 := by
  rw [ExprV.pre_eq]
  simpa [ExprV.subs] using h
/-- What the closure is called with in region 11. -/
inductive WArgs (q : ProgV) (bp s7 k : Nat) (W : World) : Array Value → Prop
  | h1 : WArgs q bp s7 k W #[.int .i64 (-1), .agg #[.int .u8 8, .int .u8 0, .int .u32 0, .int .i64 (1 + (k : Int)), .string ⟨#[]⟩, .slice (some ⟨s7, 0, none⟩) 1 1], .int .i64 (1 + (k : Int)), .pointer (some ⟨bp, 0, none⟩)]
  | h2 : WArgs q bp s7 k W #[.int .i64 0, .agg #[.int .u8 q.invariant.kind, .int .u8 q.invariant.op, .int .u32 q.invariant.value, .int .i64 q.invariant.width, .string q.invariant.name, .slice q.invariant.sp.at_ q.invariant.subs.length q.invariant.sp.cap], .int .i64 1, .pointer (some ⟨bp, 0, none⟩)]
  | h3 (b3 : Nat) : W.heap[b3]? = some (.cells #[.int .u8 8, .int .u8 0, .int .u32 0, .int .i64 (1 + (k : Int)), .string ⟨#[]⟩, .slice (some ⟨s7, 0, none⟩) 1 1] 34 (0, 0)) → WArgs q bp s7 k W #[.int .i64 (-1), .agg #[.int .u8 4, .int .u8 0, .int .u32 0, .int .i64 0, .string ⟨#[]⟩, .slice (some ⟨b3, 0, none⟩) 1 1], .int .i64 q.width, .pointer (some ⟨bp, 0, none⟩)]
  | h4 : WArgs q bp s7 k W #[.int .i64 0, .agg #[.int .u8 2, .int .u8 0, .int .u32 0, .int .i64 0, .string ⟨#[120]⟩, .slice none 0 0], .int .i64 5, .pointer (some ⟨bp, 0, none⟩)]
  | h5 : WArgs q bp s7 k W #[.int .i64 (-1), .agg #[.int .u8 2, .int .u8 0, .int .u32 0, .int .i64 0, .string ⟨#[120]⟩, .slice none 0 0], .int .i64 0, .pointer (some ⟨bp, 0, none⟩)]
  | h6 : WArgs q bp s7 k W #[.int .i64 1, .agg #[.int .u8 2, .int .u8 0, .int .u32 0, .int .i64 0, .string ⟨#[118]⟩, .slice none 0 0], .int .i64 0, .pointer (some ⟨bp, 0, none⟩)]
  | h7 : WArgs q bp s7 k W #[.int .i64 (-1), .agg #[.int .u8 2, .int .u8 0, .int .u32 0, .int .i64 0, .string ⟨#[118]⟩, .slice none 0 0], .int .i64 q.width, .pointer (some ⟨bp, 0, none⟩)]
  | h8 : WArgs q bp s7 k W #[.int .i64 (-1), .agg #[.int .u8 2, .int .u8 0, .int .u32 0, .int .i64 0, .string ⟨#[97]⟩, .slice none 0 0], .int .i64 0, .pointer (some ⟨bp, 0, none⟩)]
/-- The row that block b holds. -/
def rowAt (W : World) (b : Nat) : Array Value := match W.heap[b]? with
  | some (.cells cs _ _) => cs
  | _ => #[]
def IsRow (W : World) (b : Nat) : Prop := ∃ cs, W.heap[b]? = some (.cells cs 39 (0, 0)) ∧ (Tryz.prog.info? 39).map (·.size) = some cs.size
theorem rowAt_of {W : World} {b : Nat} {cs : Array Value} {t : TypeId} {fr : Nat × Nat} (h : W.heap[b]? = some (.cells cs t fr)) : rowAt W b = cs := by
  unfold rowAt; rw [h]
def blkOf : Value → Nat
  | .pointer (some a) => a.block
  | _ => 0
theorem blkOf_ptr (b : Nat) : blkOf (.pointer (some ⟨b, 0, none⟩)) = b := rfl
/-- A program, loaded whole out of its box: the row that the box holds, not cell by cell. -/
theorem exec_load39 (ρ : Operand → Value) (d : Option Tmp) (x : Operand) (ty : TypeId) (pos : String) (after : Array _) (g : Option _) (W : World) (hx : ρ x = .pointer (some ⟨blkOf (ρ x), 0, none⟩)) (h : IsRow W (blkOf (ρ x))) :
    (execOp ρ ⟨d, .load 39 x, ty, pos, after, g⟩).run Tryz.prog W = .ok (.value (.agg (rowAt W (blkOf (ρ x))))) W := by
  obtain ⟨cs, hg, hs⟩ := h
  rw [rowAt_of hg]
  generalize blkOf (ρ x) = b at *
  unfold execOp
  simp only [hx, Instr.loadAt, Instr.sureAddr, Sem.run_bind, Sem.run_pure, Result.andThen_ok, run_loadVar_row W b 39 39 cs (0, 0) _ hg Tryz.underlying39 rfl hs]
/-- What check.Invariant is called with in region 23, and what it returns. -/
inductive IArgs (q : ProgV) (s7 k : Nat) (W : World) : Array Value → Bool → Prop
  | h1 : IArgs q s7 k W #[.agg q.arr, .agg #[.int .u8 8, .int .u8 0, .int .u32 0, .int .i64 (1 + (k : Int)), .string ⟨#[]⟩, .slice (some ⟨s7, 0, none⟩) 1 1]] true
  | h2 : IArgs q s7 k W #[.agg q.arr, .agg #[.int .u8 2, .int .u8 0, .int .u32 0, .int .i64 0, .string ⟨#[118]⟩, .slice none 0 0]] false
  | h3 : IArgs q s7 k W #[.agg q.arr, .agg #[.int .u8 2, .int .u8 0, .int .u32 0, .int .i64 0, .string ⟨#[120]⟩, .slice none 0 0]] false
  | h4 (b3 : Nat) : W.heap[b3]? = some (.cells #[.int .u8 8, .int .u8 0, .int .u32 0, .int .i64 (1 + (k : Int)), .string ⟨#[]⟩, .slice (some ⟨s7, 0, none⟩) 1 1] 34 (0, 0)) → IArgs q s7 k W #[.agg q.arr, .agg #[.int .u8 3, .int .u8 0, .int .u32 0, .int .i64 0, .string ⟨#[97]⟩, .slice (some ⟨b3, 0, none⟩) 1 1]] false
  | h5 : IArgs q s7 k W #[.agg q.arr, .agg #[.int .u8 2, .int .u8 0, .int .u32 0, .int .i64 0, .string ⟨#[103]⟩, .slice none 0 0]] true
theorem lift_below {fn : Nat} {args : Array Value} {W8 W : World} {r : Value} (hW : Below W8.heap.size W8 W) (h : Calls Tryz.prog fn args W fun o w' => o = .returned r ∧ Below W.heap.size W w') : Calls Tryz.prog fn args W fun o w' => o = .returned r ∧ Below W8.heap.size W8 w' :=
  h.mono fun _ _ h2 => ⟨h2.1, hW.trans (h2.2.mono hW.size)⟩
theorem name_few (s : ByteArray) : (nameE s).pre.length ≤ 20000 := by
  rw [pre_cons]; simp [nameE, ExprV.subs]
def findReg (n : Nat) : Code → Option Code
  | .region id ops b => if id = n then some (.region id ops b) else none
  | .seq a b => match findReg n a with
    | some c => some c
    | none => findReg n b
  | .loop c => findReg n c
  | .block _ c => findReg n c
  | .scope c => findReg n c
  | .cond _ a b => match findReg n a with
    | some c => some c
    | none => findReg n b
  | _ => none
def NormalIs (R : Act → World → Prop) : Exit → Act → World → Prop
  | .normal, a, w => R a w
  | _, _, _ => False
theorem NormalIs.mk {R : Act → World → Prop} {a : Act} {w : World} (h : R a w) : NormalIs R .normal a w := h
noncomputable def regW (n : Nat) : Code := ((Tryz.f8.body.bind (findReg n)).getD .skip)
end Go.Proofs.YthcboallnbaimaaGreatDoor
