/- awake of chapter 43 gives true, whatever is drawn, where block 0 begins with an int: reckoned by the kernel. -/
import Derived.Test.YtlibeobmdjeilaaGreatDoorExMv
import Derived.Test.YtlibeobmdjeilaaGreatDoorPN
import Derived.Test.YtlibeobmdjeilaaGreatDoorPO
import Derived.Test.YtlibeobmdjeilaaGreatDoorOrcW
import Derived.KernelRfl
set_option linter.all false
namespace Go.Proofs.YtlibeobmdjeilaaGreatDoor
open Go Go.RowKit Go.Proofs.YtlibeobmdjeilaaGreatDoor.Ex
set_option maxRecDepth 1000000
noncomputable section
/-- A call without arguments, known: whatever the memory holds. -/
theorem closedK {P : Program} {f : Nat} {b : Bool} (h : KeyOk P f ⟨[], []⟩ b) (w : World) (hw : MxRow w) : Calls P f #[] w fun o w' => o = .returned (.bool b) ∧ Below w.heap.size w w' := by
  refine (callsIn_wide (n := 0)).1 ?_
  refine h w (fun i => if i = 0 then some ⟨0, 0, 0⟩ else none) [] ⟨rfl, hw, fun j lb cs hj => by simp at hj, fun i e hi => ?_⟩ rfl 0
  by_cases q : i = 0
  · subst q; exact Nat.zero_lt_one
  · rw [if_neg q] at hi; cases hi
/-- The program of replay.Example. -/
def keyE : Key := ⟨[(.agg [(.int .i64 2), (.int .i64 2), .nsl, .nsl, .nsl, .nsl, (.int .u8 1), (.int .u8 0), (.int .u32 1), (.int .i64 1), (.str []), .nsl, .nsl, .nsl, (.sl 1 0 2 (.ex 2)), .nsl, (.int .u8 6), (.int .u8 13), (.int .u32 0), (.int .i64 0), (.str []), (.sl 4 0 2 (.ex 2))])],
  [(0, [(.int .u8 3), (.str []), (.sl 2 0 2 (.ex 2)), (.int .i64 0), .nsl, .nsl, (.int .u8 3), (.str []), (.sl 3 0 2 (.ex 2)), (.int .i64 0), .nsl, .nsl]),
  (0, [(.int .u8 1), (.int .u8 0), (.int .u32 0), (.int .i64 1), (.str []), .nsl, (.int .u8 1), (.int .u8 0), (.int .u32 1), (.int .i64 2), (.str []), .nsl]),
  (0, [(.int .u8 1), (.int .u8 0), (.int .u32 1), (.int .i64 1), (.str []), .nsl, (.int .u8 1), (.int .u8 0), (.int .u32 1), (.int .i64 2), (.str []), .nsl]),
  (0, [(.int .u8 4), (.int .u8 0), (.int .u32 0), (.int .i64 0), (.str []), (.sl 5 0 1 (.ex 1)), (.int .u8 1), (.int .u8 0), (.int .u32 0), (.int .i64 2), (.str []), .nsl]),
  (0, [(.int .u8 1), (.int .u8 0), (.int .u32 0), (.int .i64 1), (.str []), .nsl])]⟩
theorem eqs43 : eqsOk Tryz.prog [62, 95, 205] = true := by kernel_rfl
def orcC : Nat → List XV → St → Option XV := orcT 404 405 isName
theorem orcC_ok {fl : Nat} : OrcF Tryz.prog fl orcC := orcT_ok (C := ctxN fl Tryz.prog [62] orcC) rfl cut36 nm36 (fun s sep m w hs hm => Tryz.strings_Cut s sep m w hs hm) (fun w s hs hm => isName_any w s hs hm)
theorem right_fn : fnB Tryz.prog 123 = true := by kernel_rfl
theorem write_fn : fnB Tryz.prog 70 = true := by kernel_rfl
theorem check_fn : fnB Tryz.prog 65 = true := by kernel_rfl
theorem play_fn : fnB Tryz.prog 63 = true := by kernel_rfl
theorem keyE_run (m : Int) : isB true (Y (ctxN 6 Tryz.prog [62] orcC) 100000 200 true 123 keyE.args (S0 m keyE.rows)) = true := by kernel_rfl
theorem keyE_ok : KeyOk Tryz.prog 123 keyE true := keyOk (k := keyE) eqs36 (orcC_ok (fl := 6)) names36 mixed36 keyE_run
def orcE0 : Nat → List XV → St → Option XV := orc2 (memo 123 true [keyE]) orcC
theorem orcE0_ok {fl : Nat} : OrcF Tryz.prog fl orcE0 :=
  orc2_ok (memo_ok right_fn fun q hq => by rw [List.mem_singleton.1 hq]; exact ⟨rfl, keyE_ok⟩) orcC_ok
/-- A schedule of that program. -/
def keyS (s : XV) (r : Nat × List XV) : Key := ⟨keyE.args ++ [s], keyE.rows ++ [r]⟩
abbrev keyCh0 : Key := keyS (.agg [.nsl, (.int .i64 2), (.sl 6 0 2 (.ex 2))]) (0, [(.bool true), (.bool true)])
theorem runCh0 (m : Int) : isX (.int .i64 0) (Y (ctxN 7 Tryz.prog [62, 95, 205] orcE0) 100000 200 true 65 keyCh0.args (S0 m keyCh0.rows)) = true := by kernel_rfl
abbrev keyCh1 : Key := keyS (.agg [.nsl, (.int .i64 0), (.sl 6 0 0 (.ex 0))]) (0, [])
theorem runCh1 (m : Int) : isX (.int .i64 0) (Y (ctxN 7 Tryz.prog [62, 95, 205] orcE0) 100000 200 true 65 keyCh1.args (S0 m keyCh1.rows)) = true := by kernel_rfl
abbrev keyCh2 : Key := keyS (.agg [.nsl, (.int .i64 1), (.sl 6 0 1 (.ex 1))]) (0, [(.bool true)])
theorem runCh2 (m : Int) : isX (.int .i64 0) (Y (ctxN 7 Tryz.prog [62, 95, 205] orcE0) 100000 200 true 65 keyCh2.args (S0 m keyCh2.rows)) = true := by kernel_rfl
abbrev keyCh3 : Key := keyS (.agg [.nsl, (.int .i64 2), (.sl 6 0 2 (.op 0))]) (2, [(.bool false), (.bool true)])
theorem runCh3 (m : Int) : isX (.int .i64 0) (Y (ctxN 7 Tryz.prog [62, 95, 205] orcE0) 100000 200 true 65 keyCh3.args (S0 m keyCh3.rows)) = true := by kernel_rfl
abbrev keyCh4 : Key := keyS (.agg [.nsl, (.int .i64 2), (.sl 6 0 2 (.op 0))]) (2, [(.bool true), (.bool false)])
theorem runCh4 (m : Int) : isX (.int .i64 0) (Y (ctxN 7 Tryz.prog [62, 95, 205] orcE0) 100000 200 true 65 keyCh4.args (S0 m keyCh4.rows)) = true := by kernel_rfl
abbrev keyCh5 : Key := keyS (.agg [.nsl, (.int .i64 1), (.sl 6 0 1 (.op 0))]) (1, [(.bool false)])
theorem runCh5 (m : Int) : isX (.int .i64 0) (Y (ctxN 7 Tryz.prog [62, 95, 205] orcE0) 100000 200 true 65 keyCh5.args (S0 m keyCh5.rows)) = true := by kernel_rfl
def keysCh : List (Key × XV) := [(keyCh0, (.int .i64 0)), (keyCh1, (.int .i64 0)), (keyCh2, (.int .i64 0)), (keyCh3, (.int .i64 0)), (keyCh4, (.int .i64 0)), (keyCh5, (.int .i64 0))]
theorem keysCh_ok : ∀ p ∈ keysCh, onesB p.1.rows = true ∧ KeyA Tryz.prog 65 p.1 p.2 := by
  intro p hp
  simp only [keysCh, List.mem_cons, List.not_mem_nil, or_false] at hp
  rcases hp with rfl | rfl | rfl | rfl | rfl | rfl
  · exact ⟨rfl, keyA (k := keyCh0) eqs43 (orcE0_ok (fl := 7)) names36 mixed36 runCh0⟩
  · exact ⟨rfl, keyA (k := keyCh1) eqs43 (orcE0_ok (fl := 7)) names36 mixed36 runCh1⟩
  · exact ⟨rfl, keyA (k := keyCh2) eqs43 (orcE0_ok (fl := 7)) names36 mixed36 runCh2⟩
  · exact ⟨rfl, keyA (k := keyCh3) eqs43 (orcE0_ok (fl := 7)) names36 mixed36 runCh3⟩
  · exact ⟨rfl, keyA (k := keyCh4) eqs43 (orcE0_ok (fl := 7)) names36 mixed36 runCh4⟩
  · exact ⟨rfl, keyA (k := keyCh5) eqs43 (orcE0_ok (fl := 7)) names36 mixed36 runCh5⟩
abbrev keyPl0 : Key := keyS (.agg [.nsl, (.int .i64 2), (.sl 6 0 2 (.ex 2))]) (0, [(.bool true), (.bool true)])
theorem runPl0 (m : Int) : isX (.tup [(.int .u8 2), (.int .i64 0)]) (Y (ctxN 7 Tryz.prog [62, 95, 205] orcE0) 100000 200 true 63 keyPl0.args (S0 m keyPl0.rows)) = true := by kernel_rfl
abbrev keyPl1 : Key := keyS (.agg [.nsl, (.int .i64 0), (.sl 6 0 0 (.ex 0))]) (0, [])
theorem runPl1 (m : Int) : isX (.tup [(.int .u8 1), (.int .i64 0)]) (Y (ctxN 7 Tryz.prog [62, 95, 205] orcE0) 100000 200 true 63 keyPl1.args (S0 m keyPl1.rows)) = true := by kernel_rfl
abbrev keyPl2 : Key := keyS (.agg [.nsl, (.int .i64 1), (.sl 6 0 1 (.op 0))]) (1, [(.bool true)])
theorem runPl2 (m : Int) : isX (.tup [(.int .u8 2), (.int .i64 0)]) (Y (ctxN 7 Tryz.prog [62, 95, 205] orcE0) 100000 200 true 63 keyPl2.args (S0 m keyPl2.rows)) = true := by kernel_rfl
abbrev keyPl3 : Key := keyS (.agg [.nsl, (.int .i64 1), (.sl 6 0 1 (.op 0))]) (1, [(.bool false)])
theorem runPl3 (m : Int) : isX (.tup [(.int .u8 1), (.int .i64 0)]) (Y (ctxN 7 Tryz.prog [62, 95, 205] orcE0) 100000 200 true 63 keyPl3.args (S0 m keyPl3.rows)) = true := by kernel_rfl
def keysPl : List (Key × XV) := [(keyPl0, (.tup [(.int .u8 2), (.int .i64 0)])), (keyPl1, (.tup [(.int .u8 1), (.int .i64 0)])), (keyPl2, (.tup [(.int .u8 2), (.int .i64 0)])), (keyPl3, (.tup [(.int .u8 1), (.int .i64 0)]))]
theorem keysPl_ok : ∀ p ∈ keysPl, onesB p.1.rows = true ∧ KeyA Tryz.prog 63 p.1 p.2 := by
  intro p hp
  simp only [keysPl, List.mem_cons, List.not_mem_nil, or_false] at hp
  rcases hp with rfl | rfl | rfl | rfl
  · exact ⟨rfl, keyA (k := keyPl0) eqs43 (orcE0_ok (fl := 7)) names36 mixed36 runPl0⟩
  · exact ⟨rfl, keyA (k := keyPl1) eqs43 (orcE0_ok (fl := 7)) names36 mixed36 runPl1⟩
  · exact ⟨rfl, keyA (k := keyPl2) eqs43 (orcE0_ok (fl := 7)) names36 mixed36 runPl2⟩
  · exact ⟨rfl, keyA (k := keyPl3) eqs43 (orcE0_ok (fl := 7)) names36 mixed36 runPl3⟩
def orcE : Nat → List XV → St → Option XV := orc2 (memoV 65 keysCh) (orc2 (memoV 63 keysPl) (orc2 (memo 123 true [keyE]) (orc2 (orcW 70) orcC)))
theorem orcE_ok {fl : Nat} : OrcF Tryz.prog fl orcE :=
  orc2_ok (memoV_ok check_fn keysCh_ok) (orc2_ok (memoV_ok play_fn keysPl_ok) (orc2_ok (memo_ok right_fn fun q hq => by rw [List.mem_singleton.1 hq]; exact ⟨rfl, keyE_ok⟩) (orc2_ok (orcW_ok write_fn) orcC_ok)))
theorem run43 (m : Int) : isB true (Y (ctxN 1 Tryz.prog [62, 95, 205] orcE) 100000 200 true 46 [] (S0 m [])) = true := by kernel_rfl
theorem awake43_any (w : World) (hw : MxRow w) : Calls Tryz.prog 46 #[] w fun o w' => o = .returned (.bool true) ∧ Below w.heap.size w w' :=
  closedK (keyOk (k := ⟨[], []⟩) eqs43 (orcE_ok (fl := 1)) names36 mixed36 run43) w hw
end
end Go.Proofs.YtlibeobmdjeilaaGreatDoor
