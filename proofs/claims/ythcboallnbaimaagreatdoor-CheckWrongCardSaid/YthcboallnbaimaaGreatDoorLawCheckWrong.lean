/- Chapter 32's law CheckNames, walked. Chapter 32's law CheckWrong: what its walk needs. Chapter 32's law CheckWrong, walked. What the rows of this seat share: the row's last step over a call that only lays new blocks; an argument that is a slice of bytes reads as a list. CheckWrong: the law's row for every input, and its card; the listed tables are tied to the program's text. No further condition. -/
import Derived.Test.YthcboallnbaimaaGreatDoorRefName
import Derived.Test.YthcboallnbaimaaGreatDoorAwake
import Derived.Test.YthcboallnbaimaaGreatDoorRows
import Derived.Test.YthcboallnbaimaaGreatDoorProg
import Derived.WalkKit
import Derived.ProofKit
import Derived.OpenShut
import Derived.Below
import Derived.Test.YthcboallnbaimaaGreatDoorCards
import Derived.Test.YthcboallnbaimaaGreatDoorTie
import Derived.Deep.DeepHandedRow
import Derived.Lib.LaidTab
import Derived.SevenTiedAt
import Derived.ShutString
namespace Go.Proofs.YthcboallnbaimaaGreatDoor
open Go Go.RowKit Go.Maps
theorem MxAt.pos {W : World} (h : MxAt W) : 0 < W.heap.size := by
  obtain ⟨m, hm⟩ := h
  rcases Nat.eq_zero_or_pos W.heap.size with h0 | h0
  · have : W.heap[0]? = none := by simp [h0]
    simp [World.cell?, this] at hm
  · exact h0
theorem MxAt.shaped {W : World} (h : W.ShapedOpen Tryz.prog) : MxAt W := Tryz.laysM144.s1_3 W h
theorem string_reach {H : Type} {P : Program} {t : TypeId} {ts : List TypeId} {s : ByteArray} {r : List (DataW H)} (h : (DataW.weightsEach P (t :: ts) (DataW.lit (.string s.data.toList) :: r)).all (· ≤ reachBytes) = true) : s.size ≤ 140737488355328 := by
  simp only [DataW.weightsEach, DataW.weights, List.cons_append, List.nil_append, List.all_cons, Bool.and_eq_true, decide_eq_true_eq] at h
  have h1 := h.1
  have : s.data.toList.length = s.size := by simp
  rw [this] at h1
  unfold reachBytes at h1
  omega
theorem checkNames_any (w : World) (hn0 : 0 < w.heap.size) (hmx : MxAt w) (s : ByteArray) :
    Calls Tryz.prog 3 #[.string s] w fun o w' => o = .returned (.bool true) ∧ Below w.heap.size w w' := by
  by_cases h : s.size ≤ 100
  · have hA := isName_any w s (by omega) hmx
    have hB := fun W => refName_any W s h
    have HA := Lib.hid hA
    have HB := Lib.hid hB
    have HAW := Lib.hid (fun W (hb : Below w.heap.size w W) => awake_any W (Nat.lt_of_lt_of_le hn0 hb.size) (hmx.below hb hn0))
    have hd : decide ((100 : Int) < (s.size : Int)) = false := decide_eq_false (by omega)
    generalize isName s.data.toList = r at *
    clear hA hB hmx h
    go_enter Tryz.func3, Tryz.ntmps3
    go_wp2_with fail
    refine HA.out.mono ?_
    rintro o w1 ⟨rfl, hb1⟩
    have HB1 := Lib.hid hb1
    clear hb1
    go_wp2_with fail
    refine (HB.out _).mono ?_
    rintro o w2 ⟨rfl, hb2⟩
    have HB2 := Lib.hid (HB1.out.trans (hb2.mono HB1.out.size))
    clear hb2
    have hrr : (r == r) = true := by simp
    go_wp2_with fail
    refine (HAW.out _ HB2.out).mono ?_
    rintro o w3 ⟨rfl, hb3⟩
    have HB3 := Lib.hid (HB2.out.trans (hb3.mono HB2.out.size))
    clear hb3
    go_wp2_with fail
    go_ret
    exact ⟨by simp, HB3.out⟩
  · have hd : decide ((100 : Int) < (s.size : Int)) = true := decide_eq_true (by omega)
    clear h hmx
    go_enter Tryz.func3, Tryz.ntmps3
    go_wp2_with fail
    go_ret
    exact ⟨by simp, Below.refl _ _⟩
end Go.Proofs.YthcboallnbaimaaGreatDoor
namespace Go.Proofs.YthcboallnbaimaaGreatDoor
open Go Go.RowKit Go.Maps
theorem isName_long (w : World) (s : ByteArray) (h : 16 < s.size) : Calls Tryz.prog 10 #[.string s] w fun o w' => o = .returned (.bool false) ∧ Below w.heap.size w w' := by
  have hem : s.toList.isEmpty = false := by
    rw [isEmpty_data]
    have : s.data.toList.length = s.size := by simp
    cases hc : s.data.toList with
    | nil => rw [hc] at this; simp at this; omega
    | cons => rfl
  have hd : decide ((16 : Int) < (s.size : Int)) = true := decide_eq_true (by omega)
  clear h
  go_enter Tryz.func10, Tryz.ntmps10
  go_wp2_with fail
  go_ret
  exact ⟨rfl, Below.refl _ _⟩
theorem long_not {s : ByteArray} (h : 16 < s.size) : isName s.data.toList = false := by
  have : s.data.toList.length = s.size := by simp
  unfold isName
  rw [this, decide_eq_false (by omega)]; rfl
theorem isName_every (w : World) (s : ByteArray) (hmx : MxAt w) : Calls Tryz.prog 10 #[.string s] w fun o w' => o = .returned (.bool (isName s.data.toList)) ∧ Below w.heap.size w w' := by
  by_cases h : 16 < s.size
  · rw [long_not h]; exact isName_long w s h
  · exact isName_any w s (by omega) hmx
theorem dotted (s : ByteArray) : isName (s ++ { data := #[46] }).data.toList = false := by
  have e : (s ++ { data := #[46] } : ByteArray).data.toList = s.data.toList ++ [46] := by simp
  rw [e]
  have : (s.data.toList ++ [46]).all nameSign = false := by
    rw [List.all_append]
    have : ([46] : List UInt8).all nameSign = false := by decide
    rw [this, Bool.and_false]
  unfold isName
  rw [this]; simp
theorem crossed (s : ByteArray) : isName (({ data := #[88] } : ByteArray) ++ s).data.toList = false := by
  have e : (({ data := #[88] } : ByteArray) ++ s).data.toList = 88 :: s.data.toList := by simp
  rw [e]
  have : lower 88 = false := by decide
  unfold isName
  simp [this]
theorem longname : isName (⟨#[97, 98, 99, 100, 101, 102, 103, 104, 105, 106, 107, 108, 109, 110, 111, 112, 113]⟩ : ByteArray).data.toList = false := by decide
/-- What the law itself says of a name. -/
theorem isName_parts (s : ByteArray) : isName s.data.toList = (decide (s.size ≤ 16) && (match s.data.toList with | c :: _ => lower c | [] => false) && decide (Lib.trimS s.data.toList signsB = []) && !hasN wordsV s) := by
  have hsz : s.data.toList.length = s.size := by simp
  have ht : decide (Lib.trimS s.data.toList signsB = []) = s.data.toList.all nameSign := by
    rw [Bool.eq_iff_iff, decide_eq_true_iff, trimS_nil, List.all_eq_true]
    constructor <;> intro h c hc <;> have := h c hc <;> rw [signs_eq] at * <;> exact this
  have hw : (words.all fun w => decide (w.toUTF8.data.toList ≠ s.data.toList)) = !hasN wordsV s := by
    rw [all_ne (fun w => w.toUTF8.data.toList) s.data.toList words]
    congr 1
    unfold hasN wordsV
    have key : ∀ l : List (List UInt8), l.any (fun x => decide (x = s.data.toList)) = (l.map fun x => (⟨x.toArray⟩ : ByteArray)).any (fun x => decide (x = s)) := by
      intro l
      rw [List.any_map]
      congr 1
      funext x
      apply decide_eq_decide.2
      constructor
      · intro e; rw [e]
      · intro e; have h := congrArg (fun b : ByteArray => b.data.toList) e; exact h
    exact key _
  unfold isName
  rw [ht, hw, hsz]
  rfl
def blocksP (v : Sp) (b : Int) : ProgV := { smallP v Sp.none [] with blocks := b }
def widthP (v : Sp) (x : Int) : ProgV := { smallP v Sp.none [] with width := x }
def wideP (v : Sp) (x : Int) : ProgV := { smallP v Sp.none [] with vars := [⟨xB, x, 0⟩] }
section
variable (v : Sp) (x : Int)
theorem chkB (h : x < 1 ∨ 8 < x) : checkP (blocksP v x) = (0, 320) := check_of (k := 4) (by kernel_rfl) (by decide) (by
  have e : programE (blocksP v x) (4 : Nat) = 320 := if_pos (by
    rcases h with h | h
    · exact Or.inl h
    · exact Or.inr (Or.inl h))
  unfold codesP
  rw [e]; rfl)
theorem chkW (h : wideW x = false) : checkP (widthP v x) = (0, 320) := check_of (k := 4) (by kernel_rfl) (by decide) (by
  have e : programE (widthP v x) (4 : Nat) = 320 := if_pos (Or.inr (Or.inr h))
  unfold codesP
  rw [e]; rfl)
theorem chkV (h : wideW x = false) : checkP (wideP v x) = (1, 322) := check_of (k := 4) (by kernel_rfl) (by decide) (by
  have e : programE (wideP v x) (4 : Nat) = 0 := by kernel_rfl
  have e2 : declE (wideP v x) [] false ⟨xB, x, 0⟩ = if wideW x = false then 322 else 0 := by kernel_rfl
  rw [if_pos h] at e2
  have e3 : codesP (wideP v x) (4 : Nat) = programE (wideP v x) (4 : Nat) :: declE (wideP v x) [] false ⟨xB, x, 0⟩ :: (codesP (wideP v x) (4 : Nat)).drop 2 := by kernel_rfl
  rw [e3, e, e2]; rfl)
theorem fitB : Fit (blocksP v x) := fit_of (k := 4) (by kernel_rfl) (by decide) ⟨(small_names v Sp.none []).decls, fun q h => absurd h (by simp [blocksP, smallP])⟩
theorem fitW : Fit (widthP v x) := fit_of (k := 4) (by kernel_rfl) (by decide) ⟨(small_names v Sp.none []).decls, fun q h => absurd h (by simp [widthP, smallP])⟩
theorem fitV : Fit (wideP v x) := fit_of (k := 4) (by kernel_rfl) (by decide) ⟨fun d h => by
  have h2 : d = ⟨xB, x, 0⟩ := by simpa [wideP, smallP] using h
  rw [h2]; exact (by decide : xB.size ≤ 4294967200), fun q h => absurd h (by simp [wideP, smallP])⟩
end
theorem blocks_made {W : World} {q : Nat} {v : Sp} {b : Int} (hb : (Lit.int .i64 b).wf = true) (hx : W.heap[q]? = some (.cells (smallP v Sp.none []).arr 39 (0, 0))) (hr : RdP q W (smallP v Sp.none [])) : InBox (W.setCell ⟨q, 0, none⟩ (.int .i64 b)) q (blocksP v b) := by
  have hbox : (W.setCell ⟨q, 0, none⟩ (.int .i64 b)).heap[q]? = some (.cells (blocksP v b).arr 39 (0, 0)) := by
    simp [World.setCell, Array.getElem?_modify, hx, ProgV.arr, ProgV.cells, smallP, blocksP, Sp.val]
  have hr2 := hr.below ((Below.refl q W).setCell (p := ⟨q, 0, none⟩) (Nat.le_refl _) (.int .i64 b))
  exact ⟨hbox, { hr2.more (Nat.le_of_lt (Array.getElem?_eq_some_iff.1 hbox).1) with blocks := hb }⟩
theorem width_made {W : World} {q : Nat} {v : Sp} {b : Int} (hb : (Lit.int .i64 b).wf = true) (hx : W.heap[q]? = some (.cells (smallP v Sp.none []).arr 39 (0, 0))) (hr : RdP q W (smallP v Sp.none [])) : InBox (W.setCell ⟨q, 1, none⟩ (.int .i64 b)) q (widthP v b) := by
  have hbox : (W.setCell ⟨q, 1, none⟩ (.int .i64 b)).heap[q]? = some (.cells (widthP v b).arr 39 (0, 0)) := by
    simp [World.setCell, Array.getElem?_modify, hx, ProgV.arr, ProgV.cells, smallP, widthP, Sp.val]
  have hr2 := hr.below ((Below.refl q W).setCell (p := ⟨q, 1, none⟩) (Nat.le_refl _) (.int .i64 b))
  exact ⟨hbox, { hr2.more (Nat.le_of_lt (Array.getElem?_eq_some_iff.1 hbox).1) with width := hb }⟩
theorem wide_made {W : World} {q vb : Nat} {x : Int} (hxw : (Lit.int .i64 x).wf = true) (hx : W.heap[q]? = some (.cells (smallP ⟨some ⟨vb, 0, none⟩, 1⟩ Sp.none []).arr 39 (0, 0))) (hr : RdP W.heap.size W (smallP ⟨some ⟨vb, 0, none⟩, 1⟩ Sp.none [])) (hne : vb ≠ q) : InBox (W.setCell ⟨vb, 1, none⟩ (.int .i64 x)) q (wideP ⟨some ⟨vb, 0, none⟩, 1⟩ x) := by
  have hbox : (W.setCell ⟨vb, 1, none⟩ (.int .i64 x)).heap[q]? = some (.cells (wideP ⟨some ⟨vb, 0, none⟩, 1⟩ x).arr 39 (0, 0)) := (Below.heap_setCell W ⟨vb, 1, none⟩ (.int .i64 x) q (fun h => hne h.symm)).trans hx
  have hs : (W.setCell ⟨vb, 1, none⟩ (.int .i64 x)).heap.size = W.heap.size := by simp
  obtain ⟨b', off, e, hlt, hc⟩ := hr.vars.row.row (by simp [smallP])
  obtain ⟨rfl, rfl⟩ : vb = b' ∧ 0 = off := by have := Option.some.inj e; exact ⟨(Addr.mk.inj this).1, (Addr.mk.inj this).2.1⟩
  have hd : RdDs (W.setCell ⟨vb, 1, none⟩ (.int .i64 x)).heap.size (W.setCell ⟨vb, 1, none⟩ (.int .i64 x)) Sp.none [] := none_rows
  have ht : RdTs (W.setCell ⟨vb, 1, none⟩ (.int .i64 x)).heap.size (W.setCell ⟨vb, 1, none⟩ (.int .i64 x)) Sp.none [] := none_stmts
  have hn : NowX (W.setCell ⟨vb, 1, none⟩ (.int .i64 x)) (numE 1 1) := num_now _ 1 1 (by decide) (by decide)
  have c0 : W.cell? ⟨vb, 0, none⟩ = some (.string xB) := hc 0 (by simp [smallP]) 0 _ rfl
  have c1 : W.cell? ⟨vb, 1, none⟩ = some (.int .i64 3) := hc 0 (by simp [smallP]) 1 _ rfl
  have c2 : W.cell? ⟨vb, 2, none⟩ = some (.int .i64 0) := hc 0 (by simp [smallP]) 2 _ rfl
  have hv : RowOf (W.setCell ⟨vb, 1, none⟩ (.int .i64 x)).heap.size (W.setCell ⟨vb, 1, none⟩ (.int .i64 x)) ⟨some ⟨vb, 0, none⟩, 1⟩ 3 DeclV.cells [⟨xB, x, 0⟩] := by
    refine ⟨Nat.le_refl _, show (1 : Nat) ≤ maxLen by decide, by simp, fun _ => ⟨vb, 0, rfl, by rw [hs]; exact hlt, fun j hj r u hu => ?_⟩⟩
    have : j = 0 := by simp at hj; omega
    subst this
    simp only [List.getElem_cons_zero, DeclV.cells] at hu
    match r, hu with
    | 0, hu => cases hu; exact (World.cell?_setCell_other _ _ _ _ (by simp)).trans c0
    | 1, hu => cases hu; exact World.cell?_setCell_same _ _ _ c1
    | 2, hu => cases hu; exact (World.cell?_setCell_other _ _ _ _ (by simp)).trans c2
    | r + 3, hu => simp at hu
  refine ⟨hbox, ⟨show (Lit.int .i64 1).wf = true by decide, show (Lit.int .i64 2).wf = true by decide, hd, hd, ⟨hv, fun d h => ?_⟩, hd, hn, RowOf.nil, fun _ h => absurd h (by simp [wideP, smallP]), RowOf.nil, fun _ h => absurd h (by simp [wideP, smallP]), ht, ht, hn⟩⟩
  have : d = ⟨xB, x, 0⟩ := by simpa [wideP] using h
  rw [this]
  exact ⟨(by decide : xB.size ≤ maxLen), hxw, (by decide : (Lit.int .i64 0).wf = true)⟩
theorem wf_min {b : Int} (h : (Lit.int .i64 b).wf = true) : (Lit.int .i64 (min b 0)).wf = true := by
  rcases Int.le_total b 0 with h0 | h0
  · rw [Int.min_eq_left h0]; exact h
  · rw [Int.min_eq_right h0]; decide
theorem wf_max {b k : Int} (h : (Lit.int .i64 b).wf = true) (hk : (Lit.int .i64 k).wf = true) : (Lit.int .i64 (max b k)).wf = true := by
  rcases Int.le_total b k with h0 | h0
  · rw [Int.max_eq_right h0]; exact hk
  · rw [Int.max_eq_left h0]; exact h
set_option maxRecDepth 1000000 in
set_option maxHeartbeats 2000000 in
theorem small_new (w : World) : Calls Tryz.prog 15 #[.slice none 0 0] w fun o w' => ∃ b : Nat, o = .returned (.agg (smallP ⟨some ⟨b, 0, none⟩, 1⟩ Sp.none []).arr) ∧ RdP w'.heap.size w' (smallP ⟨some ⟨b, 0, none⟩, 1⟩ Sp.none []) ∧ Below w.heap.size w w' ∧ w.heap.size ≤ b ∧ w'.heap[b]? = some (.cells #[.string xB, .int .i64 3, .int .i64 0] 44 (0, 0)) := by
  have h : RdTs w.heap.size w Sp.none [] := none_stmts
  have HTS := Lib.hid h
  have hb0 : Below w.heap.size w (w.alloc (.cells zeroP.arr 39)) := (Below.refl _ _).alloc (Nat.le_refl _) _
  have hB0 := World.alloc_heap_new w (.cells zeroP.arr 39)
  have hs0 : (w.alloc (.cells zeroP.arr 39)).heap.size = w.heap.size + 1 := by simp
  have hN := fun W => num_any 1 1 W
  simp only [numE, ExprV.val, ExprV.kind, ExprV.op, ExprV.value, ExprV.width, ExprV.name, ExprV.sp, ExprV.subs, Sp.val, Sp.none, List.length_nil] at hN
  have HNM := Lib.hid hN
  clear h hN
  go_enter Tryz.func15, Tryz.ntmps15
  go_upto_region 1 with (first | (refine wpList_allocRow (t := 39) rfl rfl (run_zeroP _) ?_) | fail)
  generalize w.alloc (.cells zeroP.arr 39) = W0 at *
  have HB0 := Lib.hid hb0
  have HX0 := Lib.hid hB0
  have hb1 : Below W0.heap.size W0 (W0.alloc (.cells #[.string xB, .int .i64 3, .int .i64 0] 44)) := (Below.refl _ _).alloc (Nat.le_refl _) _
  have hB1 := World.alloc_heap_new W0 (.cells #[.string xB, .int .i64 3, .int .i64 0] 44)
  have HB1 := Lib.hid hb1
  have HX1 := Lib.hid hB1
  clear hb0 hB0 hb1 hB1
  have hst : (W0.alloc (.cells #[.string xB, .int .i64 3, .int .i64 0] 44)).heap[w.heap.size]? = some (.cells zeroP.arr 39 (0, 0)) ∧ (W0.alloc (.cells #[.string xB, .int .i64 3, .int .i64 0] 44)).heap[w.heap.size + 1]? = some (.cells #[.string xB, .int .i64 3, .int .i64 0] 44 (0, 0)) ∧ Below w.heap.size w (W0.alloc (.cells #[.string xB, .int .i64 3, .int .i64 0] 44)) :=
    ⟨(HB1.out.block _ (by omega)).trans HX0.out, by have h := HX1.out; rw [hs0] at h; exact h, HB0.out.trans (HB1.out.mono (by omega))⟩
  have UPD : Hid (∀ A B : World, Below A.heap.size A B → (A.heap[w.heap.size]? = some (.cells zeroP.arr 39 (0, 0)) ∧ A.heap[w.heap.size + 1]? = some (.cells #[.string xB, .int .i64 3, .int .i64 0] 44 (0, 0)) ∧ Below w.heap.size w A) → (B.heap[w.heap.size]? = some (.cells zeroP.arr 39 (0, 0)) ∧ B.heap[w.heap.size + 1]? = some (.cells #[.string xB, .int .i64 3, .int .i64 0] 44 (0, 0)) ∧ Below w.heap.size w B)) := Lib.hid fun A B hb ⟨h1, h2, h3⟩ =>
    ⟨(hb.block _ (Array.getElem?_eq_some_iff.1 h1).1).trans h1, (hb.block _ (Array.getElem?_eq_some_iff.1 h2).1).trans h2, h3.trans (hb.mono h3.size)⟩
  have HST := Lib.hid hst
  clear hst
  go_wp2_with (first
    | (go_at_call 22; refine (HNM.out _).mono ?_; rintro o2 w2 ⟨rfl, hb2⟩; have HST := Lib.hid (UPD.out _ _ hb2 HST.out); clear hb2)
    | (refine wpList_store_row rfl 39 _ _ rfl w.heap.size (smallP ⟨some ⟨w.heap.size + 1, 0, none⟩, 1⟩ Sp.none []).arr (by rfl) (by rfl) 39 zeroP.arr HST.out.1 (arr_size _) (by kernel_rfl) (arr_one _) ?_)
    | fail)
  obtain ⟨h1, h2, h3⟩ := HST.out
  have h4 := setRow_heap w2 w.heap.size zeroP.arr (smallP ⟨some ⟨w.heap.size + 1, 0, none⟩, 1⟩ Sp.none []).arr 39 (0, 0) h1
  have h5 : Below w.heap.size w (w2.setRow w.heap.size (smallP ⟨some ⟨w.heap.size + 1, 0, none⟩, 1⟩ Sp.none []).arr) := below_setRow h3 (Nat.le_refl _) _
  refine bodyPost_ret (results_cell_row rfl _ _ w.heap.size 39 _ (0, 0) _ rfl h4 Tryz.underlying39 rfl (arr_size _)) rfl ⟨w.heap.size + 1, rfl, ?_, h5, Nat.le_succ _, (setRow_other _ _ _ _ (by omega)).trans h2⟩
  refine small_now (row_one (enc := DeclV.cells) (x := ⟨xB, 3, 0⟩) (t := 44) (fr := (0, 0)) ((setRow_other _ _ _ _ (by omega)).trans h2)) (HTS.out.on h5)
end Go.Proofs.YthcboallnbaimaaGreatDoor
namespace Go.Proofs.YthcboallnbaimaaGreatDoor
open Go Go.RowKit Go.Maps
theorem contains_words (W : World) (A : Array Value) (s : ByteArray) (hA : A = (wordsV.map Value.string).toArray) : Calls Tryz.prog 14 #[.slice (some ⟨W.heap.size, 0, none⟩) 21 21, .string s] (W.alloc (.cells A 9)) fun o w' => o = .returned (.bool (hasN wordsV s)) ∧ W.alloc (.cells A 9) = w' := by
  refine containsN_any _ _ wordsV s (by decide) ⟨_, 21, rfl, fun _ => ⟨W.heap.size, 0, rfl, fun j hj => ?_⟩⟩
  have h := World.alloc_heap_new W (.cells A 9)
  have h2 : A[j]? = some (.string wordsV[j]) := by rw [hA]; simp [hj]
  simp only [World.cell?, h, Nat.zero_add]
  exact h2
set_option maxRecDepth 1000000 in
set_option maxHeartbeats 8000000 in
theorem checkWrong_any (w : World) (hn0 : 0 < w.heap.size) (hmx : MxAt w) (s : ByteArray) (hs : s.size ≤ 140737488355328) (b x : Int) (hb : (Lit.int .i64 b).wf = true) (hx : (Lit.int .i64 x).wf = true) :
    Calls Tryz.prog 4 #[.string s, .int .i64 b, .int .i64 x] w fun o w' => o = .returned (.bool true) ∧ Below w.heap.size w w' := by
  have HMX := Lib.hid hmx
  have HAW := Lib.hid (awake_any w hn0 hmx)
  have HBW := Lib.hid hb
  have HXW := Lib.hid hx
  have hN1 := fun W (h : MxAt W) => isName_every W s h
  have hN2 := fun W (h : MxAt W) => isName_every W (s ++ { data := #[46] }) h
  have hN3 := fun W (h : MxAt W) => isName_every W (({ data := #[88] } : ByteArray) ++ s) h
  have hN4 := fun W (h : MxAt W) => isName_every W ⟨#[97, 98, 99, 100, 101, 102, 103, 104, 105, 106, 107, 108, 109, 110, 111, 112, 113]⟩ h
  rw [dotted] at hN2
  rw [crossed] at hN3
  rw [longname] at hN4
  have hPT := isName_parts s
  obtain ⟨r, hr⟩ : ∃ r, isName s.data.toList = r := ⟨_, rfl⟩
  rw [hr] at hN1 hPT
  have HN1 := Lib.hid hN1
  have HN2 := Lib.hid hN2
  have HN3 := Lib.hid hN3
  have HN4 := Lib.hid hN4
  have HPT := Lib.hid hPT
  clear hN1 hN2 hN3 hN4 hPT hr
  clear hmx hb hx
  go_enter Tryz.func4, Tryz.ntmps4
  go_wp2_with fail
  refine HAW.out.mono ?_
  clear HAW
  rintro o w1 ⟨rfl, hb1⟩
  have HB1 := Lib.hid hb1
  clear hb1
  go_upto_region 3 with fail
  go_cut [6, 7] (fun s6 s7 wx => s6 = .bool false ∧ s7 = .bool r ∧ Below w.heap.size w wx)
  case first =>
    clear HN1 HN2 HN3 HN4 HBW HXW
    have hsz : s.size = s.data.toList.length := by simp
    have hem := isEmpty_data s
    cases hL : s.data.toList with
    | nil =>
      have hem2 : s.toList.isEmpty = true := by rw [hem, hL]; rfl
      have HR : Hid (r = false) := Lib.hid (by rw [HPT.out, hL]; simp)
      clear hem hsz hL HPT
      go_wp2_with fail
      go_meet
      case rel => exact ⟨rfl, congrArg Value.bool HR.out.symm, HB1.out⟩
    | cons c l =>
      have hem2 : s.toList.isEmpty = false := by rw [hem, hL]; rfl
      have h0 : 0 < s.size := by rw [hsz, hL]; simp
      have hc0 : s[0]'h0 = c := by
        show s.data[0] = c
        rw [← Array.getElem_toList]
        simp only [hL, List.getElem_cons_zero]
      have hP := HPT.out
      rw [hL] at hP
      have HP := Lib.hid hP
      clear hem hsz HPT hP
      by_cases h16 : s.size ≤ 16
      · have hd16 : decide ((s.size : Int) ≤ 16) = true := decide_eq_true (by omega)
        have hT := fun W => Any.strings_Trim_laid Tryz.lays160 (by kernel_rfl) s signsV W (by omega) (by decide) (ascii_of_all (by decide))
        rw [signsV_eq, hL] at hT
        obtain ⟨tr, htr⟩ : ∃ tr, Lib.trimS (c :: l) signsB = tr := ⟨_, rfl⟩
        rw [htr] at hT HP
        have HT := Lib.hid hT
        unfold signsV at HT
        clear hT htr hL
        obtain ⟨k, hk⟩ : ∃ k, c.toNat = k := ⟨_, rfl⟩
        have hca : (s[0]'h0).toNat = k := by rw [hc0, hk]
        have hlw : lower c = decide (97 ≤ k ∧ k ≤ 122) := by unfold lower; rw [hk]
        have HLW := Lib.hid hlw
        have HSZ := Lib.hid h16
        clear hlw hk hc0
        by_cases h97 : 97 ≤ k
        · have hd97 : decide ((97 : Int) ≤ (k : Int)) = true := decide_eq_true (by omega)
          by_cases h122 : k ≤ 122
          · have hd122 : decide ((k : Int) ≤ 122) = true := decide_eq_true (by omega)
            have HR : Hid (r = (decide (tr = []) && !hasN wordsV s)) := Lib.hid (by rw [HP.out]; simp only [HLW.out, HSZ.out, h97, h122, and_self, decide_true, Bool.true_and])
            clear h97 h122 HP HLW HSZ
            have hte := isEmpty_data ⟨tr.toArray⟩
            cases htt : tr.isEmpty with
            | true =>
              have hte2 : (ByteArray.mk tr.toArray).toList.isEmpty = true := hte.trans htt
              have HTT : Hid (tr = []) := Lib.hid (List.isEmpty_iff.1 htt)
              clear hte htt
              go_wp2_with fail
              refine (HT.out _).mono ?_
              rintro o3 w3 ⟨rfl, hb3⟩
              have HB3 := Lib.hid (HB1.out.trans (hb3.mono HB1.out.size))
              clear hb3 HT HB1
              go_wp2_with fail
              refine (contains_words _ _ s (by kernel_rfl)).mono ?_
              rintro o4 w4 ⟨rfl, rfl⟩
              go_wp2_with fail
              go_meet
              case rel => exact ⟨rfl, congrArg Value.bool (by rw [HR.out, HTT.out]; simp), HB3.out.alloc HB3.out.size _⟩
            | false =>
              have hte2 : (ByteArray.mk tr.toArray).toList.isEmpty = false := hte.trans htt
              have HTT : Hid (decide (tr = []) = false) := Lib.hid (decide_eq_false (fun e => by rw [e] at htt; cases htt))
              have hne : (tr = []) = False := eq_false (fun e => by rw [e] at htt; cases htt)
              have hne2 : (tr == []) = false := by rw [beq_eq_false_iff_ne]; intro e; rw [e] at htt; cases htt
              clear hte
              go_wp2_with fail
              refine (HT.out _).mono ?_
              rintro o3 w3 ⟨rfl, hb3⟩
              have HB3 := Lib.hid (HB1.out.trans (hb3.mono HB1.out.size))
              clear hb3 HT HB1
              go_wp2_with fail
              go_meet
              case rel => exact ⟨rfl, congrArg Value.bool (by rw [HR.out, HTT.out]; rfl), HB3.out⟩
          · have hd122 : decide ((k : Int) ≤ 122) = false := decide_eq_false (by omega)
            have HR : Hid (r = false) := Lib.hid (by rw [HP.out]; simp [HLW.out, h122])
            clear h97 h122 HP HLW HSZ HT
            go_wp2_with fail
            go_meet
            case rel => exact ⟨rfl, congrArg Value.bool HR.out.symm, HB1.out⟩
        · have hd97 : decide ((97 : Int) ≤ (k : Int)) = false := decide_eq_false (by omega)
          have HR : Hid (r = false) := Lib.hid (by rw [HP.out]; simp [HLW.out, h97])
          clear h97 HP HLW HSZ HT
          go_wp2_with fail
          go_meet
          case rel => exact ⟨rfl, congrArg Value.bool HR.out.symm, HB1.out⟩
      · have hd16 : decide ((s.size : Int) ≤ 16) = false := decide_eq_false (by omega)
        have HR : Hid (r = false) := Lib.hid (by rw [HP.out, decide_eq_false h16]; rfl)
        clear h16 HP hL hc0
        go_wp2_with fail
        go_meet
        case rel => exact ⟨rfl, congrArg Value.bool HR.out.symm, HB1.out⟩
  case rest =>
    obtain ⟨rfl, rfl, hbx⟩ := hcut
    have HB2 := Lib.hid hbx
    clear hbx HB1
    have hrr : (r != r) = false := by simp
    go_wp2_with fail
    refine (HN1.out _ (HMX.out.below HB2.out hn0)).mono ?_
    rintro o3 w3 ⟨rfl, hb3⟩
    have HB3 := Lib.hid (HB2.out.trans (hb3.mono HB2.out.size))
    clear hb3 HB2
    go_wp2_with fail
    refine (HN2.out _ (HMX.out.below HB3.out hn0)).mono ?_
    rintro o3 w4 ⟨rfl, hb3⟩
    have HB4 := Lib.hid (HB3.out.trans (hb3.mono HB3.out.size))
    clear hb3 HB3
    go_wp2_with fail
    refine (HN3.out _ (HMX.out.below HB4.out hn0)).mono ?_
    rintro o3 w5 ⟨rfl, hb3⟩
    have HB5 := Lib.hid (HB4.out.trans (hb3.mono HB4.out.size))
    clear hb3 HB4
    go_wp2_with fail
    refine (HN4.out _ (HMX.out.below HB5.out hn0)).mono ?_
    rintro o3 w6 ⟨rfl, hb3⟩
    have HB6 := Lib.hid (HB5.out.trans (hb3.mono HB5.out.size))
    clear hb3 HB5
    clear HN1 HN2 HN3 HN4 HPT hrr
    go_upto_region 6 with fail
    go_wp2_with fail
    have hx6 := World.alloc_heap_new w6 (.cells #[.int .i64 (min b 0), .int .i64 (max b 9)] 3)
    have hb7 : Below w6.heap.size w6 (w6.alloc (.cells #[.int .i64 (min b 0), .int .i64 (max b 9)] 3)) := (Below.refl _ _).alloc (Nat.le_refl _) _
    have HB7 := Lib.hid (HB6.out.trans (hb7.mono HB6.out.size))
    have hmm : min b 0 < 1 ∧ 8 < max b 9 := by constructor <;> omega
    have hwm := wf_min HBW.out
    have hwM := wf_max (k := 9) HBW.out (by decide)
    have HIT : Hid (∀ j : Nat, j < 2 → ∃ y, (w6.alloc (.cells #[.int .i64 (min b 0), .int .i64 (max b 9)] 3)).cell? ⟨w6.heap.size, j, none⟩ = some (.int .i64 y) ∧ (y < 1 ∨ 8 < y) ∧ (Lit.int .i64 y).wf = true) := Lib.hid fun j hj => by
      have hj2 : j = 0 ∨ j = 1 := by omega
      rcases hj2 with rfl | rfl
      · exact ⟨min b 0, by simp only [World.cell?, hx6]; rfl, Or.inl hmm.1, hwm⟩
      · exact ⟨max b 9, by simp only [World.cell?, hx6]; rfl, Or.inr hmm.2, hwM⟩
    have hq7 := (Array.getElem?_eq_some_iff.1 hx6).1
    have hwq : w.heap.size ≤ w6.heap.size := HB6.out.size
    clear hmm hwm hwM hx6 hb7 HB6 HBW
    generalize w6.alloc (.cells #[.int .i64 (min b 0), .int .i64 (max b 9)] 3) = W7 at *
    generalize w6.heap.size = q7 at *
    go_loopw [68] (fun v wr => ∃ j : Nat, j ≤ 2 ∧ v = .int .i64 j ∧ Below W7.heap.size W7 wr) (fun v _ => 2 - (intOf v).toNat)
    case atStart => exact ⟨0, by omega, rfl, Below.refl _ _⟩
    case round =>
      obtain ⟨j, hj, rfl, hbr⟩ := hrel
      have HBR := Lib.hid hbr
      clear hbr
      by_cases hj2 : j < 2
      · obtain ⟨y, hy, hyr, hyw⟩ := HIT.out j hj2
        have k0 : wr.cell? ⟨q7, j, none⟩ = some (.int .i64 y) := (HBR.out.cell (p := ⟨q7, j, none⟩) hq7).trans hy
        have HYR := Lib.hid hyr
        have HYW := Lib.hid hyw
        have hj0 : (0 : Int) ≤ (j : Int) := by omega
        have hj1 : (j : Int) < 2 := by omega
        clear hy hyr hyw
        go_wp2_with fail
        refine (small_exp Sp.none [] _ none_stmts).mono ?_
        rintro o w8 ⟨b8, rfl, hr8, hb8⟩
        have hb9 : Below w8.heap.size w8 (w8.alloc (.cells (smallP ⟨some ⟨b8, 0, none⟩, 1⟩ Sp.none []).arr 39)) := (Below.refl _ _).alloc (Nat.le_refl _) _
        have hx9 := World.alloc_heap_new w8 (.cells (smallP ⟨some ⟨b8, 0, none⟩, 1⟩ Sp.none []).arr 39)
        have hr9 := hr8.below hb9
        have HB9 := Lib.hid (HBR.out.trans ((hb8.trans (hb9.mono hb8.size)).mono HBR.out.size))
        have hwq8 : W7.heap.size ≤ w8.heap.size := Nat.le_trans HBR.out.size hb8.size
        clear hr8 hb8 hb9 k0
        go_upto_region 10 with (first
        | (refine wpList_allocRow (t := 39) rfl rfl (run_zeroP _) ?_)
        | (refine wpList_storeNew (t := 39) rfl _ _ rfl rfl rfl (arr_size _) rfl (arr_one _) ?_)
        | fail)
        generalize w8.alloc (.cells (smallP ⟨some ⟨b8, 0, none⟩, 1⟩ Sp.none []).arr 39) = W9 at *
        generalize w8.heap.size = q9 at *
        generalize (Value.agg (smallP ⟨some ⟨b8, 0, none⟩, 1⟩ Sp.none []).arr) = va9
        have c0 := arr_cells hx9 0 (v := .int .i64 1) rfl
        have f0 : W9.frozen? ⟨q9, 0, none⟩ = false := by simp [World.frozen?, hx9]
        have HI10 := Lib.hid (blocks_made HYW.out hx9 hr9)
        have HB10 := Lib.hid (HB9.out.setCell (p := ⟨q9, 0, none⟩) hwq8 (.int .i64 y))
        clear hx9 hr9 HB9
        go_upto_region 11 with fail
        generalize W9.setCell ⟨q9, 0, none⟩ (.int .i64 y) = W10 at *
        clear c0 f0
        have hlow := HB7.out.trans (HB10.out.mono HB7.out.size)
        have HCK := Lib.hid (wrong_exp _ _ HI10.out.rd (Nat.lt_of_lt_of_le hn0 hlow.size) (fitB _ _) (HMX.out.below hlow hn0) 0 320 (chkB _ _ HYR.out))
        clear hlow
        go_wp2_with (first | (refine wpList_load_row rfl 39 _ rfl q9 rfl 39 _ (0, 0) _ HI10.out.box Tryz.underlying39 rfl (arr_size _) ?_) | fail)
        refine HCK.out.mono ?_
        rintro o w11 ⟨rfl, hb11⟩
        have HB11 := Lib.hid (HB10.out.trans (hb11.mono HB10.out.size))
        clear hb11 HCK HB10 HI10 HYR HYW
        go_wp2_with fail
        case roundEnd => exact ⟨⟨j + 1, by omega, by simp, HB11.out⟩, by simp only [intOf]; omega⟩
      · obtain rfl : j = 2 := by omega
        have HBZ := Lib.hid (HB7.out.trans (HBR.out.mono HB7.out.size))
        clear HIT HBR HB7 hj2
        go_wp2_with fail
        have hxr := World.alloc_heap_new wr (.cells #[.int .i64 (min x 0), .int .i64 (max x 17)] 3)
        have hbr2 : Below wr.heap.size wr (wr.alloc (.cells #[.int .i64 (min x 0), .int .i64 (max x 17)] 3)) := (Below.refl _ _).alloc (Nat.le_refl _) _
        have HBV := Lib.hid (HBZ.out.trans (hbr2.mono HBZ.out.size))
        have hmm : wideW (min x 0) = false ∧ wideW (max x 17) = false := by constructor <;> exact decide_eq_false (by omega)
        have hwm := wf_min HXW.out
        have hwM := wf_max (k := 17) HXW.out (by decide)
        have HIT : Hid (∀ j : Nat, j < 2 → ∃ y, (wr.alloc (.cells #[.int .i64 (min x 0), .int .i64 (max x 17)] 3)).cell? ⟨wr.heap.size, j, none⟩ = some (.int .i64 y) ∧ wideW y = false ∧ (Lit.int .i64 y).wf = true) := Lib.hid fun j hj => by
          have hj2 : j = 0 ∨ j = 1 := by omega
          rcases hj2 with rfl | rfl
          · exact ⟨min x 0, by simp only [World.cell?, hxr]; rfl, hmm.1, hwm⟩
          · exact ⟨max x 17, by simp only [World.cell?, hxr]; rfl, hmm.2, hwM⟩
        have hqV := (Array.getElem?_eq_some_iff.1 hxr).1
        have hwqV : w.heap.size ≤ wr.heap.size := HBZ.out.size
        clear hmm hwm hwM hxr hbr2 HBZ HXW hq7 hwq
        generalize wr.alloc (.cells #[.int .i64 (min x 0), .int .i64 (max x 17)] 3) = V at *
        generalize wr.heap.size = qV at *
        go_loopw [85] (fun v ws => ∃ j : Nat, j ≤ 2 ∧ v = .int .i64 j ∧ Below V.heap.size V ws) (fun v _ => 2 - (intOf v).toNat)
        case atStart => exact ⟨0, by omega, rfl, Below.refl _ _⟩
        case round =>
          obtain ⟨j, hj, rfl, hbr⟩ := hrel
          have HBR := Lib.hid hbr
          clear hbr
          by_cases hj2 : j < 2
          · obtain ⟨y, hy, hyr, hyw⟩ := HIT.out j hj2
            have k0 : wr.cell? ⟨qV, j, none⟩ = some (.int .i64 y) := (HBR.out.cell (p := ⟨qV, j, none⟩) hqV).trans hy
            have HYR := Lib.hid hyr
            have HYW := Lib.hid hyw
            have hj0 : (0 : Int) ≤ (j : Int) := by omega
            have hj1 : (j : Int) < 2 := by omega
            clear hy hyr hyw
            go_wp2_with fail
            refine (small_new _).mono ?_
            rintro o wA ⟨bA, rfl, hrA, hbA, -, hxA⟩
            have HRA := Lib.hid hrA
            have HBA := Lib.hid (HBR.out.trans (hbA.mono HBR.out.size))
            have hVA0 := HBA.out.size
            have hltA := (Array.getElem?_eq_some_iff.1 hxA).1
            clear hrA hbA hxA k0 HBR
            go_wp2_with fail
            refine (small_new _).mono ?_
            rintro o wB ⟨bB, rfl, hrB, hbB, hfB, hxB⟩
            have HRA2 := Lib.hid (HRA.out.below hbB)
            have HRB := Lib.hid hrB
            have HBB := Lib.hid (HBA.out.trans (hbB.mono HBA.out.size))
            have hltB := (Array.getElem?_eq_some_iff.1 hxB).1
            have hAB := hbB.size
            obtain ⟨g1, g2, g3, g4⟩ := alloc2 wB (.cells zeroP.arr 39) (.cells zeroP.arr 39)
            have hz2 : (((wB.alloc (.cells zeroP.arr 39)).alloc (.cells zeroP.arr 39)).setRow wB.heap.size (smallP ⟨some ⟨bA, 0, none⟩, 1⟩ Sp.none []).arr).heap[wB.heap.size + 1]? = some (.cells zeroP.arr 39 (0, 0)) := (setRow_other _ _ _ _ (by omega)).trans g2
            have hA3 : ((((wB.alloc (.cells zeroP.arr 39)).alloc (.cells zeroP.arr 39)).setRow wB.heap.size (smallP ⟨some ⟨bA, 0, none⟩, 1⟩ Sp.none []).arr).setRow (wB.heap.size + 1) (smallP ⟨some ⟨bB, 0, none⟩, 1⟩ Sp.none []).arr).heap[wB.heap.size]? = some (.cells (smallP ⟨some ⟨bA, 0, none⟩, 1⟩ Sp.none []).arr 39 (0, 0)) := (setRow_other _ _ _ _ (by omega)).trans (setRow_heap _ _ zeroP.arr (smallP ⟨some ⟨bA, 0, none⟩, 1⟩ Sp.none []).arr 39 (0, 0) g1)
            have hB3 : ((((wB.alloc (.cells zeroP.arr 39)).alloc (.cells zeroP.arr 39)).setRow wB.heap.size (smallP ⟨some ⟨bA, 0, none⟩, 1⟩ Sp.none []).arr).setRow (wB.heap.size + 1) (smallP ⟨some ⟨bB, 0, none⟩, 1⟩ Sp.none []).arr).heap[wB.heap.size + 1]? = some (.cells (smallP ⟨some ⟨bB, 0, none⟩, 1⟩ Sp.none []).arr 39 (0, 0)) := setRow_heap _ _ zeroP.arr (smallP ⟨some ⟨bB, 0, none⟩, 1⟩ Sp.none []).arr 39 (0, 0) hz2
            have hlow3 : Below wB.heap.size wB ((((wB.alloc (.cells zeroP.arr 39)).alloc (.cells zeroP.arr 39)).setRow wB.heap.size (smallP ⟨some ⟨bA, 0, none⟩, 1⟩ Sp.none []).arr).setRow (wB.heap.size + 1) (smallP ⟨some ⟨bB, 0, none⟩, 1⟩ Sp.none []).arr) := below_setRow (below_setRow g4 (Nat.le_refl _) _) (Nat.le_succ _) _
            have HZ1 := Lib.hid g1
            have hz3 := hz2
            rw [← World.size_alloc wB (.cells zeroP.arr 39)] at hz3
            have HZ2 := Lib.hid hz3
            clear hz3
            have HA3 := Lib.hid hA3
            have HB3 := Lib.hid hB3
            have HL3 := Lib.hid hlow3
            have HXB := Lib.hid hxB
            clear hrB hbB hxB g1 g2 g3 g4 hz2 hA3 hB3 hlow3 HRA HBA
            go_upto_region 18 with (first
              | (refine wpList_allocRow (t := 39) rfl rfl (run_zeroP _) ?_)
              | (refine wpList_store_row rfl 39 _ _ rfl wB.heap.size (smallP ⟨some ⟨bA, 0, none⟩, 1⟩ Sp.none []).arr (by rfl) (by rfl) 39 zeroP.arr HZ1.out (arr_size _) (by kernel_rfl) (arr_one _) ?_; refine wpList_store_row rfl 39 _ _ rfl (wB.alloc (.cells zeroP.arr 39)).heap.size (smallP ⟨some ⟨bB, 0, none⟩, 1⟩ Sp.none []).arr (by rfl) (by rfl) 39 zeroP.arr HZ2.out (arr_size _) (by kernel_rfl) (arr_one _) ?_)
              | fail)
            clear HZ1 HZ2
            simp only [World.size_alloc]
            generalize ((((wB.alloc (.cells zeroP.arr 39)).alloc (.cells zeroP.arr 39)).setRow wB.heap.size (smallP ⟨some ⟨bA, 0, none⟩, 1⟩ Sp.none []).arr).setRow (wB.heap.size + 1) (smallP ⟨some ⟨bB, 0, none⟩, 1⟩ Sp.none []).arr) = W3 at *
            have c4 := arr_cells HB3.out 4 (v := .slice (some ⟨bB, 0, none⟩) 1 1) rfl
            have d1 := arr_cells HA3.out 1 (v := .int .i64 2) rfl
            have hvB := (HL3.out.block _ hltB).trans HXB.out
            have e1 : W3.cell? ⟨bB, 1, none⟩ = some (.int .i64 3) := by simp only [World.cell?, hvB]; rfl
            have f1 : W3.frozen? ⟨wB.heap.size, 1, none⟩ = false := by simp [World.frozen?, HA3.out]
            have fe : W3.frozen? ⟨bB, 1, none⟩ = false := by simp [World.frozen?, hvB]
            clear hvB
            go_simp
            go_region
            have hn3 := HL3.out.size
            have hrA3 := HRA2.out.below (HL3.out.mono hAB)
            have hA4 := width_made HYW.out HA3.out (hrA3.more hAB)
            have hrA5 := (hrA3.below ((Below.refl _ W3).setCell (p := ⟨wB.heap.size, 1, none⟩) hAB (.int .i64 y))).below ((Below.refl _ _).setCell (p := ⟨bB, 1, none⟩) hfB (.int .i64 y))
            have hs5 : ((W3.setCell ⟨wB.heap.size, 1, none⟩ (.int .i64 y)).setCell ⟨bB, 1, none⟩ (.int .i64 y)).heap.size = W3.heap.size := by simp
            have hs4 : (W3.setCell ⟨wB.heap.size, 1, none⟩ (.int .i64 y)).heap.size = W3.heap.size := by simp
            have IA5 : InBox ((W3.setCell ⟨wB.heap.size, 1, none⟩ (.int .i64 y)).setCell ⟨bB, 1, none⟩ (.int .i64 y)) wB.heap.size (widthP ⟨some ⟨bA, 0, none⟩, 1⟩ y) :=
              ⟨(Below.heap_setCell _ ⟨bB, 1, none⟩ _ _ (fun h => by have h2 : wB.heap.size = bB := h; omega)).trans hA4.box, { hrA5.more (by omega) with width := HYW.out }⟩
            have hrB4 := (HRB.out.below HL3.out).below ((Below.refl _ W3).setCell (p := ⟨wB.heap.size, 1, none⟩) (Nat.le_refl _) (.int .i64 y))
            have hbB4 := (Below.heap_setCell W3 ⟨wB.heap.size, 1, none⟩ (.int .i64 y) (wB.heap.size + 1) (by simp)).trans HB3.out
            have IB5 := wide_made HYW.out hbB4 (hrB4.more (by omega)) (by omega)
            have hVB := HBB.out.size
            have hVA : V.heap.size ≤ wA.heap.size := hVA0
            have HV6 := Lib.hid ((((HBB.out.trans (HL3.out.mono hVB)).setCell (p := ⟨wB.heap.size, 1, none⟩) hVB (.int .i64 y)).setCell (p := ⟨bB, 1, none⟩) (show V.heap.size ≤ bB by omega) (.int .i64 y)).drew)
            have HIA := Lib.hid (IA5.on (Below.refl _ _).drew)
            have HIB := Lib.hid (IB5.on (Below.refl _ _).drew)
            clear IA5 IB5 hbB4 hrB4 hA4 hrA3 hrA5 hs5 hs4 hn3 HA3 HB3 HL3 HXB HRA2 HRB c4 d1 e1 f1 fe
            generalize ((W3.setCell ⟨wB.heap.size, 1, none⟩ (.int .i64 y)).setCell ⟨bB, 1, none⟩ (.int .i64 y)).drew = W6 at *
            have hlow := HBV.out.trans (HV6.out.mono HBV.out.size)
            have HCK := Lib.hid (wrong_exp _ _ HIA.out.rd (Nat.lt_of_lt_of_le hn0 hlow.size) (fitW _ _) (HMX.out.below hlow hn0) 0 320 (chkW _ _ HYR.out))
            clear hlow
            go_upto_region 19 with fail
            go_wp2_with (first | (refine wpList_load_row rfl 39 _ rfl wB.heap.size rfl 39 _ (0, 0) _ HIA.out.box Tryz.underlying39 rfl (arr_size _) ?_) | fail)
            refine HCK.out.mono ?_
            rintro o w11 ⟨rfl, hb11⟩
            have HV11 := Lib.hid (HV6.out.trans (hb11.mono HV6.out.size))
            have HIB11 := Lib.hid (HIB.out.on hb11)
            clear hb11 HCK HIA HIB HV6
            have hlow := HBV.out.trans (HV11.out.mono HBV.out.size)
            have HCK := Lib.hid (wrong_exp _ _ HIB11.out.rd (Nat.lt_of_lt_of_le hn0 hlow.size) (fitV _ _) (HMX.out.below hlow hn0) 1 322 (chkV _ _ HYR.out))
            clear hlow
            go_wp2_with (first | (refine wpList_load_row_g (by rfl) 39 _ rfl (wB.heap.size + 1) rfl 39 _ (0, 0) _ HIB11.out.box Tryz.underlying39 rfl (arr_size _) ?_) | fail)
            refine HCK.out.mono ?_
            rintro o w12 ⟨rfl, hb12⟩
            have HV12 := Lib.hid (HV11.out.trans (hb12.mono HV11.out.size))
            clear hb12 HCK HIB11 HV11 HYR HYW
            go_wp2_with fail
            go_roundw
            case rel =>
              repeat apply Exists.intro
              exact ⟨⟨j + 1, by omega, by go_num, HV12.out⟩, rfl⟩
            case measure => simp [intOf]; omega
          · obtain rfl : j = 2 := by omega
            have HBZ := Lib.hid (HBV.out.trans (HBR.out.mono HBV.out.size))
            go_wp2_with fail
            go_ret
            exact ⟨rfl, HBZ.out⟩
end Go.Proofs.YthcboallnbaimaaGreatDoor
namespace Go.Proofs.YthcboallnbaimaaGreatDoor
open Go Go.RowKit Go.WideShapes Go.ChangeShapes
section
variable {H : Type} {enc : TypeId × Value → H} {P : Program}
/-- The row's last step where the call has laid new blocks and turned nothing that was there. -/
theorem post_below {f : Func} {s : ChangeSpec} {apart fresh handsOn again : Bool} {W W' : World} {args : Array Value} {v : Value} {ds gs : List (DataW H)} {bf pa pv : List MemPlace}
    (hW : DataW.Whole enc P f.params.toList s.vars apart W args.toList ds gs bf)
    (hres : ∀ (b : Nat) (sp : Nat → Bool) (hd : Bool), DataW.TrodAll enc P W' b sp hd f.resultTypes.toList (v.resultList f.resultTypes.size) (s.fn H (ds ++ gs)).results [])
    (hargs : ∀ sp : Nat → Bool, (∀ x ∈ bf, sp x.block = true) → DataW.TrodAll enc P W' 0 sp true f.params.toList args.toList (s.fn H (ds ++ gs)).args pa)
    (hvars : ∀ sp : Nat → Bool, (∀ x ∈ bf, sp x.block = true) → DataW.TrodVars enc P W' sp s.vars (s.fn H (ds ++ gs)).vars pv)
    (hps : bf = pa ++ pv) (hb : Below W.heap.size W W')
    (hok : ∀ (j : Nat) (t : TypeId) (r : Value), f.resultTypes[j]? = some t → (v.resultList f.resultTypes.size)[j]? = some r → Value.okWide P W' .any 0 t r) :
    s.post enc P f apart fresh handsOn again W args v W' := by
  have hlt : ∀ x ∈ bf, x.block < W.heap.size := fun x hx => hW.lt x hx
  have hold : ∀ x ∈ bf, (fun b => decide (b < W.heap.size)) x.block = true := fun x hx => by simpa using hlt x hx
  refine ⟨ds, gs, bf, [], pa, pv, hW, hres _ _ _, hargs _ hold, hvars _ hold, World.keptBut_mono (fun x hx => ⟨hx, ?_⟩) (hb.frame (· ∈ bf)), fun _ => ?_⟩
  · rw [hps, List.mem_append] at hx
    exact Or.inr hx
  · obtain ⟨_, _, _, _, _, hz, hn⟩ := hW
    refine ⟨hok, _, _, ([] ++ pa) ++ pv, ⟨[] ++ pa, pv, trodAll_append (hargs _ (fun _ _ => rfl)) (hres _ _ _), hvars _ (fun _ _ => rfl), rfl, ?_, ?_⟩, ?_⟩
    · intro b off hx
      have hin : MemPlace.cell b off ∈ bf := by rw [hps]; simpa using hx
      rw [hb.frozen (hlt _ hin)]
      exact hz b off hin
    · intro ha
      have := hn ha
      rw [hps] at this
      simpa using this
    · intro x hx _
      rw [hps]
      simpa using hx
end
end Go.Proofs.YthcboallnbaimaaGreatDoor
namespace Go.Proofs.YthcboallnbaimaaGreatDoor.lawCheckWrong
open Go.ChangeShapes Go.WideShapes Go.ChangeAt Go.RowKit
theorem own : ownKnob Tryz.prog.godebug = none := by kernel_rfl
noncomputable def laidWorld (os : Os) : World :=
  { World.holding Tryz.prog os ⟨#[], #[], []⟩ with heap := (((World.holding Tryz.prog os ⟨#[], #[], []⟩).heap).modify 2 (fun o => match o with | .cells _ t frozen => .cells #[.int .u8 128, .int .u8 191, .int .u8 160, .int .u8 191, .int .u8 128, .int .u8 159, .int .u8 144, .int .u8 191, .int .u8 128, .int .u8 143, .int .u8 0, .int .u8 0, .int .u8 0, .int .u8 0, .int .u8 0, .int .u8 0, .int .u8 0, .int .u8 0, .int .u8 0, .int .u8 0, .int .u8 0, .int .u8 0, .int .u8 0, .int .u8 0, .int .u8 0, .int .u8 0, .int .u8 0, .int .u8 0, .int .u8 0, .int .u8 0, .int .u8 0, .int .u8 0] t frozen | o => o)).modify 1 (fun o => match o with | .cells _ t frozen => .cells #[.int .u8 240, .int .u8 240, .int .u8 240, .int .u8 240, .int .u8 240, .int .u8 240, .int .u8 240, .int .u8 240, .int .u8 240, .int .u8 240, .int .u8 240, .int .u8 240, .int .u8 240, .int .u8 240, .int .u8 240, .int .u8 240, .int .u8 240, .int .u8 240, .int .u8 240, .int .u8 240, .int .u8 240, .int .u8 240, .int .u8 240, .int .u8 240, .int .u8 240, .int .u8 240, .int .u8 240, .int .u8 240, .int .u8 240, .int .u8 240, .int .u8 240, .int .u8 240, .int .u8 240, .int .u8 240, .int .u8 240, .int .u8 240, .int .u8 240, .int .u8 240, .int .u8 240, .int .u8 240, .int .u8 240, .int .u8 240, .int .u8 240, .int .u8 240, .int .u8 240, .int .u8 240, .int .u8 240, .int .u8 240, .int .u8 240, .int .u8 240, .int .u8 240, .int .u8 240, .int .u8 240, .int .u8 240, .int .u8 240, .int .u8 240, .int .u8 240, .int .u8 240, .int .u8 240, .int .u8 240, .int .u8 240, .int .u8 240, .int .u8 240, .int .u8 240, .int .u8 240, .int .u8 240, .int .u8 240, .int .u8 240, .int .u8 240, .int .u8 240, .int .u8 240, .int .u8 240, .int .u8 240, .int .u8 240, .int .u8 240, .int .u8 240, .int .u8 240, .int .u8 240, .int .u8 240, .int .u8 240, .int .u8 240, .int .u8 240, .int .u8 240, .int .u8 240, .int .u8 240, .int .u8 240, .int .u8 240, .int .u8 240, .int .u8 240, .int .u8 240, .int .u8 240, .int .u8 240, .int .u8 240, .int .u8 240, .int .u8 240, .int .u8 240, .int .u8 240, .int .u8 240, .int .u8 240, .int .u8 240, .int .u8 240, .int .u8 240, .int .u8 240, .int .u8 240, .int .u8 240, .int .u8 240, .int .u8 240, .int .u8 240, .int .u8 240, .int .u8 240, .int .u8 240, .int .u8 240, .int .u8 240, .int .u8 240, .int .u8 240, .int .u8 240, .int .u8 240, .int .u8 240, .int .u8 240, .int .u8 240, .int .u8 240, .int .u8 240, .int .u8 240, .int .u8 240, .int .u8 240, .int .u8 240, .int .u8 240, .int .u8 240, .int .u8 241, .int .u8 241, .int .u8 241, .int .u8 241, .int .u8 241, .int .u8 241, .int .u8 241, .int .u8 241, .int .u8 241, .int .u8 241, .int .u8 241, .int .u8 241, .int .u8 241, .int .u8 241, .int .u8 241, .int .u8 241, .int .u8 241, .int .u8 241, .int .u8 241, .int .u8 241, .int .u8 241, .int .u8 241, .int .u8 241, .int .u8 241, .int .u8 241, .int .u8 241, .int .u8 241, .int .u8 241, .int .u8 241, .int .u8 241, .int .u8 241, .int .u8 241, .int .u8 241, .int .u8 241, .int .u8 241, .int .u8 241, .int .u8 241, .int .u8 241, .int .u8 241, .int .u8 241, .int .u8 241, .int .u8 241, .int .u8 241, .int .u8 241, .int .u8 241, .int .u8 241, .int .u8 241, .int .u8 241, .int .u8 241, .int .u8 241, .int .u8 241, .int .u8 241, .int .u8 241, .int .u8 241, .int .u8 241, .int .u8 241, .int .u8 241, .int .u8 241, .int .u8 241, .int .u8 241, .int .u8 241, .int .u8 241, .int .u8 241, .int .u8 241, .int .u8 241, .int .u8 241, .int .u8 2, .int .u8 2, .int .u8 2, .int .u8 2, .int .u8 2, .int .u8 2, .int .u8 2, .int .u8 2, .int .u8 2, .int .u8 2, .int .u8 2, .int .u8 2, .int .u8 2, .int .u8 2, .int .u8 2, .int .u8 2, .int .u8 2, .int .u8 2, .int .u8 2, .int .u8 2, .int .u8 2, .int .u8 2, .int .u8 2, .int .u8 2, .int .u8 2, .int .u8 2, .int .u8 2, .int .u8 2, .int .u8 2, .int .u8 2, .int .u8 19, .int .u8 3, .int .u8 3, .int .u8 3, .int .u8 3, .int .u8 3, .int .u8 3, .int .u8 3, .int .u8 3, .int .u8 3, .int .u8 3, .int .u8 3, .int .u8 3, .int .u8 35, .int .u8 3, .int .u8 3, .int .u8 52, .int .u8 4, .int .u8 4, .int .u8 4, .int .u8 68, .int .u8 241, .int .u8 241, .int .u8 241, .int .u8 241, .int .u8 241, .int .u8 241, .int .u8 241, .int .u8 241, .int .u8 241, .int .u8 241, .int .u8 241] t frozen | o => o) }
theorem laid_met (os : Os) : laidMet Tryz.prog Rows.checkWrongRow.laid ((laidWorld os).forCall (fun _ _ => 0) ⟨#[], #[.string ⟨#[]⟩, .int .i64 0, .int .i64 0], []⟩).memory :=
  laidMet_of_run' 70 (by kernel_rfl) (by kernel_rfl)
theorem reads (os : Os) {H : Type} (enc : TypeId × Value → H) : ∃ places, DataW.whole enc Tryz.prog ((laidWorld os).forCall (fun _ _ => 0) ⟨#[], #[.string ⟨#[]⟩, .int .i64 0, .int .i64 0], []⟩).memory Tryz.f4.params.toList Rows.checkWrongSpec.vars false (#[.string ⟨#[]⟩, .int .i64 0, .int .i64 0] : Array Value).toList 8 = some ([.lit (.string []), .lit (.int .i64 0), .lit (.int .i64 0)], [], places) :=
  ⟨[], by kernel_rfl⟩
set_option maxRecDepth 100000 in
theorem contract (H : Type) (enc : TypeId × Value → H) (W : World) (base : Nat) (args : Array Value) (ds gs : List (DataW H)) (before : List MemPlace)
    (hval : ∀ (j : Nat) t v, Tryz.f4.params[j]? = some t → args[j]? = some v → Value.okWide Tryz.prog W .any base t v)
    (hW : DataW.Whole enc Tryz.prog Tryz.f4.params.toList Rows.checkWrongSpec.vars false W args.toList ds gs before) (hL : laidMetH Tryz.prog Rows.checkWrongRow.laid W)
    (hreach : (DataW.weightsEach Tryz.prog (Tryz.f4.params.toList ++ ((OpenSpec.ofChange Rows.checkWrongSpec).bare.plain.varTypes Tryz.prog)) (ds ++ gs)).all (· ≤ reachBytes) = true) (hsh : W.ShapedOpen Tryz.prog) :
    Calls Tryz.prog 4 args W fun e W' => ∃ v, e = .returned v ∧ Rows.checkWrongSpec.post enc Tryz.prog Tryz.f4 false true false false W args v W' := by
  have hW' := hW
  have _ := hL
  obtain ⟨p, q, hA0, hV, rfl, hfz, hnd⟩ := hW
  have hA : DataW.TrodAll enc Tryz.prog W 0 (fun _ => true) true Tryz.f4.params.toList args.toList ds p := hA0
  rw [Tryz.params4] at hA hval
  obtain ⟨v0, vs0, d0, ds0, p0, q0, hargs, rfl, rfl, h0, r0⟩ := trodAll_cons hA
  obtain ⟨v1, vs1, d1, ds1, p1, q1, rfl, rfl, rfl, h1, r1⟩ := trodAll_cons r0
  obtain ⟨v2, vs2, d2, ds2, p2, q2, rfl, rfl, rfl, h2, r2⟩ := trodAll_cons r1
  obtain ⟨rfl, rfl, rfl⟩ := trodAll_nil r2
  obtain rfl : args = #[v0, v1, v2] := by cases args; simp_all
  obtain ⟨rfl, rfl⟩ := trodVars_none hV
  obtain ⟨x0, rfl, rfl, rfl, wx0⟩ := Go.ChangeMaps.open_string Tryz.underlying9 (hval 0 9 v0 rfl rfl) h0
  obtain ⟨x1, rfl, rfl, rfl, wx1⟩ := open_int Tryz.underlying3 (hval 1 3 v1 rfl rfl) h1
  have bx1 := bounds_i64 wx1
  obtain ⟨x2, rfl, rfl, rfl, wx2⟩ := open_int Tryz.underlying3 (hval 2 3 v2 rfl rfl) h2
  have bx2 := bounds_i64 wx2
  clear hA0
  simp only [List.append_nil] at hW'
  have hS : x0.size ≤ 140737488355328 := string_reach (by rw [Tryz.params4] at hreach; exact hreach)
  refine (checkWrong_any W (MxAt.shaped hsh).pos (MxAt.shaped hsh) x0 hS x1 x2 wx1 wx2).mono fun e W' ⟨he, hb⟩ => ?_
  subst he
  exact ⟨_, rfl, post_below (pa := []) (pv := []) hW' (fun _ _ _ => trodAll_cons_mk (shut_bool Tryz.underlying4 _) trodAll_mk0) (fun _ _ => (trodAll_cons_mk (Go.ChangeMaps.shut_string Tryz.underlying9 wx0) (trodAll_cons_mk (shut_int Tryz.underlying3 wx1) (trodAll_cons_mk (shut_int Tryz.underlying3 wx2) trodAll_mk0)))) (fun _ _ => rfl) rfl hb (ok_one (by kernel_rfl) rfl (okWide_bool_mk Tryz.underlying4 _))⟩
set_option maxRecDepth 100000 in
theorem lifted (os : Os) (started : os.Started) (H : Type) (enc : TypeId × Value → H) (F : Stop.Interp) :
    ReturnsInHanded {} Tryz.checked os 4 .any ((OpenSpec.ofChange Rows.checkWrongSpec).preRow enc Tryz.prog Tryz.f4 Rows.checkWrongRow.domain false Rows.checkWrongRow.laid) (((OpenSpec.ofChange Rows.checkWrongSpec).at F).post enc Tryz.prog Tryz.f4 false true false false) := by
  obtain ⟨places, hx⟩ := reads os enc
  refine returnsInHanded_of_row (C := Tryz.checked) (s := OpenSpec.ofChange Rows.checkWrongSpec) own started (by kernel_rfl) Tryz.func4
    (witness_row_at (enc := enc) (C := Tryz.checked) false (laidWorld os) #[.string ⟨#[]⟩, .int .i64 0, .int .i64 0] rfl (by kernel_rfl) (by kernel_rfl) (by kernel_rfl)
      (OpenSpec.preRow_of_cond 8 hx (by kernel_rfl) (fun k hk => by cases hk) (by kernel_rfl) (laid_met os))) ?_
  intro W base args ds gs before hval hW _ _ hreach hL hsh _
  exact contract H enc W base args ds gs before hval hW hL hreach hsh
theorem said : Rows.CheckWrongSaid :=
  OpenClaim.holds_of_cond 4 Tryz.f4 rfl rfl rfl rfl rfl rfl rfl ⟨rfl, rfl, rfl, rfl, rfl⟩ rfl rfl rfl rfl rfl (by kernel_rfl) Tryz.func4 (by kernel_rfl)
    (of_decide_eq_true (by kernel_rfl)) (by unfold Func.isWrapper; rw [if_neg (of_decide_eq_false (by kernel_rfl))]; exact ⟨rfl, rfl⟩)
    (fun os started H enc _ F => by rw [OpenClaim.pre_eq_preRow]; exact lifted os started H enc F)
theorem plain (f : FuncId) (fn : Func) (hf : Tryz.pinned.checked.prog.funcNamed "salvor/salvorlaw32.CheckWrong" = some f) (hfn : Tryz.pinned.checked.prog.funcs[f]? = some fn) :
    false = Tryz.pinned.checked.prog.looks [] ∧ ∀ (j : Nat) t, fn.params[j]? = some t → Tryz.pinned.checked.prog.wantsStandIn t = false := by
  obtain rfl : f = 4 := Option.some.inj ((show Tryz.prog.funcNamed "salvor/salvorlaw32.CheckWrong" = some 4 by kernel_rfl).symm.trans hf) |>.symm
  obtain rfl : fn = Tryz.f4 := (Option.some.inj (Tryz.func4.symm.trans hfn)).symm
  refine ⟨by kernel_rfl, fun j t ht => ?_⟩
  rw [Tryz.params4] at ht
  have hm : t = 3 ∨ t = 9 := by have := Array.mem_of_getElem? ht; simp at this; first | exact this | exact this.symm | omega | (rcases this with h | h | h <;> subst h <;> simp)
  rcases hm with rfl | rfl
  · exact (show Tryz.prog.wantsStandIn 3 = false by kernel_rfl)
  · exact (show Tryz.prog.wantsStandIn 9 = false by kernel_rfl)
theorem card : Rows.CheckWrongCardSaid :=
  Claim7.holds_tied_plain_at .later [] _ _ _ _ said (fun _ h => by cases h) (by kernel_rfl) (fun _ h => by cases h) checkWrong_row_tie rfl ⟨rfl, rfl⟩ (by kernel_rfl) rfl plain (by kernel_rfl)
#print axioms card
end Go.Proofs.YthcboallnbaimaaGreatDoor.lawCheckWrong
