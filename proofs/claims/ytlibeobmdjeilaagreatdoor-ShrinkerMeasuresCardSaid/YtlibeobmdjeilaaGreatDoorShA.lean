/- Schedules and measures: as a row's arguments; slices.Clone of words and of booleans. -/
import Derived.Test.YtlibeobmdjeilaaGreatDoorWriR
import Derived.Test.YtlibeobmdjeilaaGreatDoorRow
import Derived.Deep.Strs
import Derived.Deep.Grids
import Derived.Lib.SliceRun
set_option linter.all false
namespace Go.Proofs.YtlibeobmdjeilaaGreatDoor
open Go Go.RowKit Go.WideShapes Go.ChangeShapes
theorem cellsOfWdS : Tryz.prog.cellsOf 24 = 1 := by kernel_rfl
theorem cellsOfIS : Tryz.prog.cellsOf 3 = 1 := by kernel_rfl
theorem cellsOfBS : Tryz.prog.cellsOf 4 = 1 := by kernel_rfl
theorem cellsOfWsS : Tryz.prog.cellsOf 45 = 1 := by kernel_rfl
theorem cellsOfBsS : Tryz.prog.cellsOf 91 = 1 := by kernel_rfl
theorem cellsOfMS : Tryz.prog.cellsOf 95 = 3 := by kernel_rfl
theorem cellsOfSS : Tryz.prog.cellsOf 93 = 3 := by kernel_rfl
section
variable {H : Type} {enc : TypeId × Value → H} {W : World}
theorem words_of {fuel : Nat} {cs : List Value} {x : DataW H × List MemPlace} (hf : DataW.trod enc Tryz.prog W 0 (fun _ => true) true fuel 45 cs = some x) :
    ∃ (A : Option Addr) (c : Nat) (xs : List Int), cs = [.slice A xs.length c] ∧ RdG (.int .u32) W (.slice A xs.length c) xs ∧ xs.length ≤ maxLen ∧ ∀ x ∈ xs, 0 ≤ x ∧ x ≤ 4294967295 := by
  rcases open_ints Tryz.underlying45 Tryz.underlying24 cellsOfWdS hf with ⟨hcs, hx⟩ | ⟨a, len, cap, zs, hcs, _, hl, hm, hz, hx, hcell, hwz⟩
  · exact ⟨none, 0, [], hcs, ⟨none, 0, rfl, fun h => absurd h (by simp)⟩, Nat.zero_le _, fun _ h => by cases h⟩
  · simp only [if_true] at hz
    have hlen : (zs.take len).length = len := by rw [List.length_take]; omega
    refine ⟨some a, cap, zs.take len, by rw [hlen]; exact hcs, ⟨some a, cap, rfl, fun h0 => ?_⟩, by omega, fun z hz => bounds_u32 (hwz z (List.mem_of_mem_take hz))⟩
    obtain ⟨b, off, rfl, hc⟩ := Go.ints_at hcell (by omega)
    refine ⟨b, off, rfl, fun j hj => ?_⟩
    have hj' : j < zs.length := by rw [hlen] at hj; omega
    have h2 := hc j hj'
    rw [h2]
    simp [hj']
theorem bools_of {fuel : Nat} {cs : List Value} {x : DataW H × List MemPlace} (hf : DataW.trod enc Tryz.prog W 0 (fun _ => true) true fuel 91 cs = some x) :
    ∃ (A : Option Addr) (c : Nat) (bs : List Bool), cs = [.slice A bs.length c] ∧ RdG .bool W (.slice A bs.length c) bs ∧ bs.length ≤ maxLen := by
  rcases Go.Deep.open_bools Tryz.underlying91 Tryz.underlying4 cellsOfBS hf with ⟨hcs, hx⟩ | ⟨a, len, cap, B, hcs, _, hl, hm, hx, hcell⟩
  · exact ⟨none, 0, [], hcs, ⟨none, 0, rfl, fun h => absurd h (by simp)⟩, Nat.zero_le _⟩
  · have hlen : ((List.range len).map B).length = len := by simp
    refine ⟨some a, cap, (List.range len).map B, by rw [hlen]; exact hcs, ⟨some a, cap, rfl, fun h0 => ?_⟩, by omega⟩
    rw [hlen] at h0
    have g0 := hcell 0 (by omega)
    have hspot : a.spot = none := by
      have := World.cell?_spot g0
      simpa [Addr.add] using this
    obtain ⟨b, off, spot⟩ := a
    simp only at hspot
    subst hspot
    refine ⟨b, off, rfl, fun j hj => ?_⟩
    rw [hlen] at hj
    have := hcell j (by omega)
    rw [add_plain] at this
    rw [this]
    simp
set_option maxRecDepth 100000 in
/-- An argument that is a schedule. -/
theorem sched_of_arg {base : Nat} {v : Value} {d : DataW H} {p : List MemPlace} (hval : Value.okWide Tryz.prog W .any base 93 v) (h : DataW.Trod enc Tryz.prog W 0 (fun _ => true) true 93 v d p) :
    ∃ (A1 : Option Addr) (c1 : Nat) (xs : List Int) (pt : Int) (A3 : Option Addr) (c3 : Nat) (bs : List Bool), v = .agg #[.slice A1 xs.length c1, .int .i64 pt, .slice A3 bs.length c3] ∧
      RdG (.int .u32) W (.slice A1 xs.length c1) xs ∧ RdG .bool W (.slice A3 bs.length c3) bs ∧ (∀ x ∈ xs, 0 ≤ x ∧ x ≤ 4294967295) ∧ -9223372036854775808 ≤ pt ∧ pt ≤ 9223372036854775807 := by
  obtain ⟨cs, rfl, _⟩ := okWide_struct Tryz.underlying93 hval
  obtain ⟨fuel, hf⟩ := h
  obtain ⟨y0, y1, y2, n, -, hl, h0, h1, h2⟩ := Go.Deep.trod_struct3 Tryz.underlying93 hf
  rw [cellsOfSS] at hl
  obtain ⟨l, rfl⟩ : ∃ l : List Value, cs = l.toArray := ⟨cs.toList, (Array.toArray_toList ..).symm⟩
  match l, hl with
  | [u0, u1, u2], _ =>
    dsimp only at h0 h1 h2
    rw [cellsOfWsS] at h0
    rw [cellsOfIS] at h1
    rw [cellsOfBsS] at h2
    obtain ⟨A1, c1, xs, e0, r0, -, hx⟩ := words_of (show DataW.trod enc Tryz.prog W 0 (fun _ => true) true n 45 [u0] = some y0 from h0)
    obtain ⟨pt, e1, -, wp⟩ := DataW.trod_int Tryz.underlying3 (show DataW.trod enc Tryz.prog W 0 (fun _ => true) true n 3 [u1] = some y1 from h1)
    obtain ⟨A3, c3, bs, e2, r2, -⟩ := bools_of (show DataW.trod enc Tryz.prog W 0 (fun _ => true) true n 91 [u2] = some y2 from h2)
    injection e0 with e0
    injection e1 with e1
    injection e2 with e2
    subst e0 e1 e2
    exact ⟨A1, c1, xs, pt, A3, c3, bs, rfl, r0, r2, hx, bounds_i64 wp⟩
set_option maxRecDepth 100000 in
/-- An argument that is a measure. -/
theorem meas_of_arg {base : Nat} {v : Value} {d : DataW H} {p : List MemPlace} (hval : Value.okWide Tryz.prog W .any base 95 v) (h : DataW.Trod enc Tryz.prog W 0 (fun _ => true) true 95 v d p) :
    ∃ x y z : Int, v = .agg #[.int .i64 x, .int .i64 y, .int .i64 z] ∧ (-9223372036854775808 ≤ x ∧ x ≤ 9223372036854775807) ∧ (-9223372036854775808 ≤ y ∧ y ≤ 9223372036854775807) ∧ (-9223372036854775808 ≤ z ∧ z ≤ 9223372036854775807) := by
  obtain ⟨cs, rfl, _⟩ := okWide_struct Tryz.underlying95 hval
  obtain ⟨fuel, hf⟩ := h
  obtain ⟨y0, y1, y2, n, -, hl, h0, h1, h2⟩ := Go.Deep.trod_struct3 Tryz.underlying95 hf
  rw [cellsOfMS] at hl
  obtain ⟨l, rfl⟩ : ∃ l : List Value, cs = l.toArray := ⟨cs.toList, (Array.toArray_toList ..).symm⟩
  match l, hl with
  | [u0, u1, u2], _ =>
    dsimp only at h0 h1 h2
    rw [cellsOfIS] at h0 h1 h2
    obtain ⟨x, e0, -, w0⟩ := DataW.trod_int Tryz.underlying3 (show DataW.trod enc Tryz.prog W 0 (fun _ => true) true n 3 [u0] = some y0 from h0)
    obtain ⟨y, e1, -, w1⟩ := DataW.trod_int Tryz.underlying3 (show DataW.trod enc Tryz.prog W 0 (fun _ => true) true n 3 [u1] = some y1 from h1)
    obtain ⟨z, e2, -, w2⟩ := DataW.trod_int Tryz.underlying3 (show DataW.trod enc Tryz.prog W 0 (fun _ => true) true n 3 [u2] = some y2 from h2)
    injection e0 with e0
    injection e1 with e1
    injection e2 with e2
    subst e0 e1 e2
    exact ⟨x, y, z, rfl, bounds_i64 w0, bounds_i64 w1, bounds_i64 w2⟩
end
end Go.Proofs.YtlibeobmdjeilaaGreatDoor
