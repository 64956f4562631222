/- bitword: Name, Rank, Two, Width. -/
import Derived.Test.YthcboallnbaimaaGreatDoorOps
namespace Go.Proofs.YthcboallnbaimaaGreatDoor
open Go Go.RowKit
def opNames : List ByteArray := [⟨#[]⟩, ⟨#[126]⟩, ⟨#[45]⟩, ⟨#[43]⟩, ⟨#[45]⟩, ⟨#[42]⟩, ⟨#[47]⟩, ⟨#[37]⟩, ⟨#[38]⟩, ⟨#[124]⟩, ⟨#[94]⟩, ⟨#[60, 60]⟩, ⟨#[62, 62]⟩, ⟨#[61, 61]⟩, ⟨#[33, 61]⟩, ⟨#[60]⟩, ⟨#[60, 61]⟩]
def opName (k : Nat) : ByteArray := opNames.getD k ⟨#[]⟩
def opRank (k : Nat) : Int := [0, 0, 0, 5, 5, 6, 6, 6, 2, 1, 1, 4, 4, 3, 3, 3, 3].getD k 0
def opFn (k : Nat) : Value := tabCells.getD (k * 4 + 3) undef
theorem upto16 {p : Nat → Prop} (k : Nat) (h : k ≤ 16) (h0 : p 0) (h1 : p 1) (h2 : p 2) (h3 : p 3) (h4 : p 4) (h5 : p 5) (h6 : p 6) (h7 : p 7) (h8 : p 8) (h9 : p 9) (h10 : p 10) (h11 : p 11) (h12 : p 12) (h13 : p 13) (h14 : p 14) (h15 : p 15) (h16 : p 16) : p k := by
  rcases (show k = 0 ∨ k = 1 ∨ k = 2 ∨ k = 3 ∨ k = 4 ∨ k = 5 ∨ k = 6 ∨ k = 7 ∨ k = 8 ∨ k = 9 ∨ k = 10 ∨ k = 11 ∨ k = 12 ∨ k = 13 ∨ k = 14 ∨ k = 15 ∨ k = 16 by omega) with rfl | rfl | rfl | rfl | rfl | rfl | rfl | rfl | rfl | rfl | rfl | rfl | rfl | rfl | rfl | rfl | rfl <;> assumption
theorem tab_name (k : Nat) (h : k ≤ 16) : tabCells[k * 4]? = some (.string (opName k)) := by
  refine upto16 (p := fun k => tabCells[k * 4]? = some (.string (opName k))) k h ?_ ?_ ?_ ?_ ?_ ?_ ?_ ?_ ?_ ?_ ?_ ?_ ?_ ?_ ?_ ?_ ?_ <;> rfl
theorem opName_empty (k : Nat) (h : k ≤ 16) : (opName k).toList.isEmpty = decide (k = 0) := by
  refine upto16 (p := fun k => (opName k).toList.isEmpty = decide (k = 0)) k h ?_ ?_ ?_ ?_ ?_ ?_ ?_ ?_ ?_ ?_ ?_ ?_ ?_ ?_ ?_ ?_ ?_ <;> (rw [ByteArray.toList_eq]; rfl)
theorem tab_index (k : Nat) (h : k ≤ 16) (w : World) : (Instr.index 205 (.agg tabCells) (.int .u8 (k : Int))).run Tryz.prog w = .ok (.agg #[.string (opName k), .int .i64 (opRank k), .bool (opTruth (k : Int)), opFn k]) w := by
  refine upto16 (p := fun k => (Instr.index 205 (.agg tabCells) (.int .u8 (k : Int))).run Tryz.prog w = .ok (.agg #[.string (opName k), .int .i64 (opRank k), .bool (opTruth (k : Int)), opFn k]) w) k h ?_ ?_ ?_ ?_ ?_ ?_ ?_ ?_ ?_ ?_ ?_ ?_ ?_ ?_ ?_ ?_ ?_ <;> kernel_rfl
theorem tab_rank (k : Nat) (h : k ≤ 16) (w : World) : (Instr.field 204 (.agg #[.string (opName k), .int .i64 (opRank k), .bool (opTruth (k : Int)), opFn k]) 1).run Tryz.prog w = .ok (.int .i64 (opRank k)) w := by
  refine upto16 (p := fun k => (Instr.field 204 (.agg #[.string (opName k), .int .i64 (opRank k), .bool (opTruth (k : Int)), opFn k]) 1).run Tryz.prog w = .ok (.int .i64 (opRank k)) w) k h ?_ ?_ ?_ ?_ ?_ ?_ ?_ ?_ ?_ ?_ ?_ ?_ ?_ ?_ ?_ ?_ ?_ <;> kernel_rfl
theorem tab_truth (k : Nat) (h : k ≤ 16) (w : World) : (Instr.field 204 (.agg #[.string (opName k), .int .i64 (opRank k), .bool (opTruth (k : Int)), opFn k]) 2).run Tryz.prog w = .ok (.bool (opTruth (k : Int))) w := by
  refine upto16 (p := fun k => (Instr.field 204 (.agg #[.string (opName k), .int .i64 (opRank k), .bool (opTruth (k : Int)), opFn k]) 2).run Tryz.prog w = .ok (.bool (opTruth (k : Int))) w) k h ?_ ?_ ?_ ?_ ?_ ?_ ?_ ?_ ?_ ?_ ?_ ?_ ?_ ?_ ?_ ?_ ?_ <;> kernel_rfl
set_option maxRecDepth 1000000 in
set_option maxHeartbeats 2000000 in
theorem name_some (k : Nat) (h : k ≤ 16) (w : World) : Calls Tryz.prog 137 #[.int .u8 (k : Int)] w fun o w' => o = .returned (.string (opName k)) ∧ Below w.heap.size w w' := by
  have hb : Below w.heap.size w (w.alloc (.cells tabCells 205)) := (Below.refl _ _).alloc (Nat.le_refl _) _
  have hT := table_any w
  have hc : ∀ w1 : World, (w1.alloc (.cells tabCells 205)).cell? ⟨w1.heap.size, k * 4, none⟩ = some (.string (opName k)) := fun w1 => (cell_of_row _ _ _ _ _ _ (heap_alloc_last w1 _)).trans (tab_name k h)
  have h0 : (0 : Int) ≤ (k : Int) := by omega
  have h1 : decide (17 ≤ (k : Int)) = false := decide_eq_false (by omega)
  have h1' : decide (17 ≤ k) = false := decide_eq_false (by omega)
  have h2 : (k : Int) < 17 := by omega
  have HT := Lib.hid hT
  have HB := Lib.hid hb
  clear hT hb
  go_enter Tryz.func137, Tryz.ntmps137
  go_wp2_with fail
  refine HT.out.mono ?_
  rintro o w1 ⟨rfl, rfl⟩
  have hcc := hc (w.alloc (.cells tabCells 205))
  have HB2 := Lib.hid (HB.out.alloc HB.out.size (.cells tabCells 205))
  clear hc
  generalize w.alloc (.cells tabCells 205) = w1 at *
  go_wp2_with (first
    | (refine wpList_allocRow (t := 205) rfl rfl (run_zeroTab _) ?_)
    | (refine wpList_storeNew (t := 205) rfl _ _ rfl rfl rfl tab_info (by kernel_rfl) tab_one ?_)
    | fail)
  go_ret
  exact ⟨rfl, HB2.out⟩
set_option maxRecDepth 1000000 in
set_option maxHeartbeats 2000000 in
theorem name_none (k : Nat) (h : 17 ≤ k) (h' : k ≤ 255) (w : World) : Calls Tryz.prog 137 #[.int .u8 (k : Int)] w fun o w' => o = .returned (.string ⟨#[]⟩) ∧ Below w.heap.size w w' := by
  have hb : Below w.heap.size w (w.alloc (.cells tabCells 205)) := (Below.refl _ _).alloc (Nat.le_refl _) _
  have hT := table_any w
  have h0 : (0 : Int) ≤ (k : Int) := by omega
  have h1 : decide (17 ≤ (k : Int)) = true := decide_eq_true (by omega)
  have h1' : decide (17 ≤ k) = true := decide_eq_true (by omega)
  have h2 : (k : Int) < 256 := by omega
  have HT := Lib.hid hT
  have HB := Lib.hid hb
  clear hT hb
  go_enter Tryz.func137, Tryz.ntmps137
  go_wp2_with fail
  refine HT.out.mono ?_
  rintro o w1 ⟨rfl, rfl⟩
  have HB2 := Lib.hid (HB.out.alloc HB.out.size (.cells tabCells 205))
  generalize w.alloc (.cells tabCells 205) = w1 at *
  go_wp2_with (first
    | (refine wpList_allocRow (t := 205) rfl rfl (run_zeroTab _) ?_)
    | (refine wpList_storeNew (t := 205) rfl _ _ rfl rfl rfl tab_info (by kernel_rfl) tab_one ?_)
    | fail)
  go_ret
  exact ⟨rfl, HB2.out⟩
/-- The name of an operation; no sign if there is none. -/
def opText (k : Nat) : ByteArray := if k ≤ 16 then opName k else ⟨#[]⟩
theorem name_any (k : Nat) (h : k ≤ 255) (w : World) : Calls Tryz.prog 137 #[.int .u8 (k : Int)] w fun o w' => o = .returned (.string (opText k)) ∧ Below w.heap.size w w' := by
  by_cases hk : k ≤ 16
  · rw [opText, if_pos hk]; exact name_some k hk w
  · rw [opText, if_neg hk]; exact name_none k (by omega) h w
theorem opText_empty (k : Nat) : (opText k).toList.isEmpty = !opOk (k : Int) := by
  unfold opText
  by_cases hk : k ≤ 16
  · rw [if_pos hk, opName_empty k hk, opOk]
    by_cases h0 : k = 0
    · subst h0; rfl
    · rw [decide_eq_false h0, decide_eq_true (by omega : 1 ≤ (k : Int) ∧ (k : Int) ≤ 16)]; rfl
  · rw [if_neg hk, opOk, decide_eq_false (by omega : ¬ (1 ≤ (k : Int) ∧ (k : Int) ≤ 16)), ByteArray.toList_eq]; rfl
set_option maxRecDepth 1000000 in
set_option maxHeartbeats 2000000 in
theorem rank_any (k : Nat) (h : k ≤ 255) (w : World) : Calls Tryz.prog 171 #[.int .u8 (k : Int)] w fun o w' => o = .returned (.int .i64 (if opOk (k : Int) = true then opRank k else 0)) ∧ Below w.heap.size w w' := by
  have HN := Lib.hid (name_any k h w)
  have hE := opText_empty k
  cases ho : opOk (k : Int) with
  | false =>
    rw [ho] at hE
    have hE' : (opText k).toList = [] := by simpa using hE
    generalize opText k = s at *
    go_enter Tryz.func171, Tryz.ntmps171
    go_wp2_with fail
    refine HN.out.mono ?_
    rintro o w1 ⟨rfl, hb1⟩
    have HB1 := Lib.hid hb1
    clear hb1
    go_wp2_with fail
    go_ret
    exact ⟨by simp, HB1.out⟩
  | true =>
    rw [ho] at hE
    have hk : k ≤ 16 := by have := of_decide_eq_true ho; omega
    have hE' : (!(opText k).toList.isEmpty) = true := by rw [hE]; rfl
    simp only [Bool.not_true] at hE
    have hT := fun W => table_any W
    have hI := tab_index k hk
    have hF := tab_rank k hk
    generalize opText k = s at *
    have HT := Lib.hid hT
    clear hT
    go_enter Tryz.func171, Tryz.ntmps171
    go_wp2_with fail
    refine HN.out.mono ?_
    rintro o w1 ⟨rfl, hb1⟩
    have HB1 := Lib.hid hb1
    clear hb1
    go_wp2_with fail
    refine (HT.out _).mono ?_
    rintro o w2 ⟨rfl, rfl⟩
    have HB2 := Lib.hid (HB1.out.alloc HB1.out.size (.cells tabCells 205))
    generalize w1.alloc (.cells tabCells 205) = w2 at *
    go_wp2_with fail
    go_ret
    exact ⟨by simp, HB2.out⟩
theorem opRank_two (k : Nat) : decide ((0 : Int) < (if opOk (k : Int) = true then opRank k else 0)) = opTwo (k : Int) := by
  by_cases hk : k ≤ 16
  · refine upto16 (p := fun k => decide ((0 : Int) < (if opOk (k : Int) = true then opRank k else 0)) = opTwo (k : Int)) k hk ?_ ?_ ?_ ?_ ?_ ?_ ?_ ?_ ?_ ?_ ?_ ?_ ?_ ?_ ?_ ?_ ?_ <;> rfl
  · rw [opOk, decide_eq_false (by omega : ¬ (1 ≤ (k : Int) ∧ (k : Int) ≤ 16)), opTwo, decide_eq_false (by omega : ¬ (3 ≤ (k : Int) ∧ (k : Int) ≤ 16))]; rfl
set_option maxRecDepth 1000000 in
theorem two_any (k : Nat) (h : k ≤ 255) (w : World) : Calls Tryz.prog 139 #[.int .u8 (k : Int)] w fun o w' => o = .returned (.bool (opTwo (k : Int))) ∧ Below w.heap.size w w' := by
  have HN := Lib.hid (rank_any k h w)
  have hE := opRank_two k
  rw [← hE]
  clear hE
  generalize (if opOk (k : Int) = true then opRank k else 0) = r at *
  go_enter Tryz.func139, Tryz.ntmps139
  go_wp2_with fail
  refine HN.out.mono ?_
  rintro o w1 ⟨rfl, hb1⟩
  have HB1 := Lib.hid hb1
  clear hb1
  go_wp2_with fail
  go_ret
  exact ⟨rfl, HB1.out⟩
/-- A width, some error, new memory. -/
def OpW (w : World) (r : Int) (o : Ending) (w' : World) : Prop := ∃ er : Int, o = .returned (.tuple #[.int .i64 r, .int .i64 er]) ∧ Below w.heap.size w w'
set_option maxRecDepth 1000000 in
set_option maxHeartbeats 2000000 in
theorem opWidth_any (k : Nat) (h : k ≤ 255) (n : Int) (w : World) : Calls Tryz.prog 105 #[.int .u8 (k : Int), .int .i64 n] w (OpW w (opWidth (k : Int) n)) := by
  have HN := Lib.hid (name_any k h w)
  have hE := opText_empty k
  unfold opWidth
  cases ho : opOk (k : Int) with
  | false =>
    rw [ho] at hE
    have hE' : (opText k).toList = [] := by simpa using hE
    generalize opText k = s at *
    go_enter Tryz.func105, Tryz.ntmps105
    go_wp2_with fail
    refine HN.out.mono ?_
    rintro o w1 ⟨rfl, hb1⟩
    have HB1 := Lib.hid hb1
    clear hb1
    go_wp2_with fail
    go_returns
    exact ⟨_, rfl, HB1.out⟩
  | true =>
    rw [ho] at hE
    have hk : k ≤ 16 := by have := of_decide_eq_true ho; omega
    have hE' : (!(opText k).toList.isEmpty) = true := by rw [hE]; rfl
    simp only [Bool.not_true] at hE
    have hM := fun W => most_any n W
    generalize opText k = s at *
    have HM := Lib.hid hM
    clear hM
    cases hw : wideW n with
    | false =>
      have e2 : mostE n = 220 := by simp [mostE, hw]
      rw [e2] at HM
      generalize mostW n = mw at *
      go_enter Tryz.func105, Tryz.ntmps105
      go_wp2_with fail
      refine HN.out.mono ?_
      rintro o w1 ⟨rfl, hb1⟩
      have HB1 := Lib.hid hb1
      clear hb1
      go_wp2_with fail
      refine (HM.out _).mono ?_
      rintro o w2 ⟨rfl, rfl⟩
      go_wp2_with fail
      go_returns
      exact ⟨_, rfl, HB1.out⟩
    | true =>
      have e2 : mostE n = 0 := by simp [mostE, hw]
      rw [e2] at HM
      generalize mostW n = mw at *
      have hI := tab_index k hk
      have hF := tab_truth k hk
      have hT := fun W => table_any W
      have HT := Lib.hid hT
      clear hT
      cases ht : opTruth (k : Int) with
      | false =>
        simp only [ht] at hI hF
        go_enter Tryz.func105, Tryz.ntmps105
        go_wp2_with fail
        refine HN.out.mono ?_
        rintro o w1 ⟨rfl, hb1⟩
        have HB1 := Lib.hid hb1
        clear hb1
        go_wp2_with fail
        refine (HM.out _).mono ?_
        rintro o w2 ⟨rfl, rfl⟩
        go_wp2_with fail
        refine (HT.out _).mono ?_
        rintro o w2 ⟨rfl, rfl⟩
        have HB2 := Lib.hid (HB1.out.alloc HB1.out.size (.cells tabCells 205))
        generalize w1.alloc (.cells tabCells 205) = w2 at *
        go_wp2_with fail
        go_returns
        exact ⟨_, rfl, HB2.out⟩
      | true =>
        simp only [ht] at hI hF
        go_enter Tryz.func105, Tryz.ntmps105
        go_wp2_with fail
        refine HN.out.mono ?_
        rintro o w1 ⟨rfl, hb1⟩
        have HB1 := Lib.hid hb1
        clear hb1
        go_wp2_with fail
        refine (HM.out _).mono ?_
        rintro o w2 ⟨rfl, rfl⟩
        go_wp2_with fail
        refine (HT.out _).mono ?_
        rintro o w2 ⟨rfl, rfl⟩
        have HB2 := Lib.hid (HB1.out.alloc HB1.out.size (.cells tabCells 205))
        generalize w1.alloc (.cells tabCells 205) = w2 at *
        go_wp2_with fail
        go_returns
        exact ⟨_, rfl, HB2.out⟩
end Go.Proofs.YthcboallnbaimaaGreatDoor
