/- bitword: the table of operations; Name, Rank, Two, Width. -/
import Derived.Test.YthcboallnbaimaaGreatDoorLeaf
import Derived.Deep.WholeRow
import Derived.Laws.Tables
import Derived.Outline
namespace Go.Proofs.YthcboallnbaimaaGreatDoor
open Go Go.RowKit
def tabCells : Array Value := #[.string ⟨#[]⟩, .int .i64 0, .bool false, .nilFunc,
    .string ⟨#[126]⟩, .int .i64 0, .bool false, .func (.func 154) #[] #[],
    .string ⟨#[45]⟩, .int .i64 0, .bool false, .func (.func 155) #[] #[],
    .string ⟨#[43]⟩, .int .i64 5, .bool false, .func (.func 156) #[] #[],
    .string ⟨#[45]⟩, .int .i64 5, .bool false, .func (.func 157) #[] #[],
    .string ⟨#[42]⟩, .int .i64 6, .bool false, .func (.func 158) #[] #[],
    .string ⟨#[47]⟩, .int .i64 6, .bool false, .func (.func 159) #[] #[],
    .string ⟨#[37]⟩, .int .i64 6, .bool false, .func (.func 160) #[] #[],
    .string ⟨#[38]⟩, .int .i64 2, .bool false, .func (.func 161) #[] #[],
    .string ⟨#[124]⟩, .int .i64 1, .bool false, .func (.func 162) #[] #[],
    .string ⟨#[94]⟩, .int .i64 1, .bool false, .func (.func 163) #[] #[],
    .string ⟨#[60, 60]⟩, .int .i64 4, .bool false, .func (.func 164) #[] #[],
    .string ⟨#[62, 62]⟩, .int .i64 4, .bool false, .func (.func 165) #[] #[],
    .string ⟨#[61, 61]⟩, .int .i64 3, .bool true, .func (.func 166) #[] #[],
    .string ⟨#[33, 61]⟩, .int .i64 3, .bool true, .func (.func 168) #[] #[],
    .string ⟨#[60]⟩, .int .i64 3, .bool true, .func (.func 169) #[] #[],
    .string ⟨#[60, 61]⟩, .int .i64 3, .bool true, .func (.func 170) #[] #[]]
def zeroTab : Array Value := #[.string ⟨#[]⟩, .int .i64 0, .bool false, .nilFunc, .string ⟨#[]⟩, .int .i64 0, .bool false, .nilFunc, .string ⟨#[]⟩, .int .i64 0, .bool false, .nilFunc, .string ⟨#[]⟩, .int .i64 0, .bool false, .nilFunc, .string ⟨#[]⟩, .int .i64 0, .bool false, .nilFunc, .string ⟨#[]⟩, .int .i64 0, .bool false, .nilFunc, .string ⟨#[]⟩, .int .i64 0, .bool false, .nilFunc, .string ⟨#[]⟩, .int .i64 0, .bool false, .nilFunc, .string ⟨#[]⟩, .int .i64 0, .bool false, .nilFunc, .string ⟨#[]⟩, .int .i64 0, .bool false, .nilFunc, .string ⟨#[]⟩, .int .i64 0, .bool false, .nilFunc, .string ⟨#[]⟩, .int .i64 0, .bool false, .nilFunc, .string ⟨#[]⟩, .int .i64 0, .bool false, .nilFunc, .string ⟨#[]⟩, .int .i64 0, .bool false, .nilFunc, .string ⟨#[]⟩, .int .i64 0, .bool false, .nilFunc, .string ⟨#[]⟩, .int .i64 0, .bool false, .nilFunc, .string ⟨#[]⟩, .int .i64 0, .bool false, .nilFunc]
theorem tab_info : (Tryz.prog.info? 205).map (·.size) = some tabCells.size := by kernel_rfl
theorem tab_under : Tryz.prog.underlying 205 = some (.array 17 204) := by kernel_rfl
theorem tab_one : tabCells.all (·.oneCell') = true := by kernel_rfl
section
variable {P : Program} {ops : Array Oper} {Q : Exit → Act → World → Prop} {a : Act} {w w' : World} {rest : List Oper} {o : Oper}
theorem wpList_run {v : Value} (hg : o.guard = none) (h : (execOp a.eval o).run P w = .ok (.value v) w') (k : wpList P ops Q rest (a.put o.dst v) w') : wpList P ops Q (o :: rest) a w :=
  wpList_plain hg fun K hK => by unfold Oper.wp; rw [h]; exact hK _ _ k
theorem wpList_runS (hg : o.guard = none) (h : (execOp a.eval o).run P w = .ok .skip w') (k : wpList P ops Q rest (a.put o.dst undef) w') : wpList P ops Q (o :: rest) a w :=
  wpList_plain hg fun K hK => by unfold Oper.wp; rw [h]; exact hK _ _ k
theorem wpList_storeNew {t : TypeId} {c c' : Array Value} (hg : o.guard = none) (x v : Operand) (ho : o.op = .store t x v) (hx : a.eval x = .pointer (some ⟨w.heap.size, 0, none⟩)) (hv : a.eval v = .agg c')
    (hi : (P.info? t).map (·.size) = some c'.size) (hs : c.size = c'.size) (h1 : c'.all (·.oneCell') = true) (k : wpList P ops Q rest (a.put o.dst undef) (w.alloc (.cells c' t))) : wpList P ops Q (o :: rest) a (w.alloc (.cells c t)) :=
  wpList_runS hg (by simp only [execOp, ho, hx, hv, Sem.run_bind, run_storeAt_new w t c c' hi hs h1]; rfl) k
theorem wpList_allocRow {t : TypeId} {z : Array Value} (hg : o.guard = none) (ho : o.op = .alloc t) (hz : (zeroValue t).run P w = .ok (.agg z) w) (k : wpList P ops Q rest (a.put o.dst (.pointer (some ⟨w.heap.size, 0, none⟩))) (w.alloc (.cells z t))) : wpList P ops Q (o :: rest) a w :=
  wpList_run hg (by simp [execOp, ho, Sem.run_bind, Instr.alloc, hz, go_sem, Value.cells]) k
theorem wpList_build (hg : o.guard = none) (t : TypeId) (parts : Array (Nat × Operand)) (ho : o.op = .build t parts) (cells : Array Value)
    (h : P.built t (parts.map fun (i, x) => (i, a.eval x)).toList = some cells) (k : wpList P ops Q rest (a.put o.dst (.agg cells)) w) : wpList P ops Q (o :: rest) a w :=
  wpList_plain hg fun K hK => wp_build t parts ho (by rw [h]; rfl) (hK _ _ (by rw [h]; exact k))
end
theorem run_zeroTab (w : World) : (zeroValue 205).run Tryz.prog w = .ok (.agg zeroTab) w := (zero_of_info (n := 68) (by kernel_rfl)).1 w
set_option maxRecDepth 1000000 in
set_option maxHeartbeats 4000000 in
theorem table_any (w : World) : Calls Tryz.prog 138 #[] w fun o w' => o = .returned (.agg tabCells) ∧ w' = w.alloc (.cells tabCells 205) := by
  go_enter Tryz.func138, Tryz.ntmps138
  go_wp2_with (first
    | (refine wpList_allocRow (t := 205) rfl rfl (run_zeroTab _) ?_)
    | (refine wpList_build rfl 205 _ rfl tabCells (by kernel_rfl) ?_)
    | (refine wpList_storeNew (t := 205) rfl _ _ rfl rfl rfl tab_info (by kernel_rfl) tab_one ?_)
    | fail)
  exact bodyPost_ret (v := .agg tabCells) (results_cell_row rfl _ _ w.heap.size _ tabCells (0, 0) _ rfl (heap_alloc_last w _) tab_under rfl tab_info) rfl ⟨rfl, rfl⟩
end Go.Proofs.YthcboallnbaimaaGreatDoor
