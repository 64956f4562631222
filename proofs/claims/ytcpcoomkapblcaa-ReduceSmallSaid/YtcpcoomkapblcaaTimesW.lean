import Derived.Test.YtcpcoomkapblcaaTimes
import Derived.Deep.RegionHeld3
import Derived.RangeFuncRecord
open Go Go.RowKit
namespace Go.Proofs.Ytcpcoomkapblcaa
/-- The reference's times: first, step, count, came. -/
structure Rt where
  f : Int
  s : Int
  n : Int
  c : Int
def Rt.val (r : Rt) : Value := .agg #[.int .i64 r.f, .int .i64 r.s, .int .i64 r.n, .int .i64 r.c]
def leftR (r : Rt) : Int := r.f + r.n * r.s - r.c
structure Rt.Ok (r : Rt) : Prop where
  f0 : 0 ≤ r.f
  f1 : r.f ≤ 1048576
  s0 : 0 ≤ r.s
  s1 : r.s ≤ 1048576
  n0 : 0 ≤ r.n
  n1 : r.n ≤ 100000
  c0 : 0 ≤ r.c
  c1 : r.c ≤ 1099511627776
theorem Rt.Ok.mul {r : Rt} (h : r.Ok) : 0 ≤ r.n * r.s ∧ r.n * r.s ≤ 104857600000 :=
  ⟨Int.mul_nonneg h.n0 h.s0, Int.le_trans (Int.mul_le_mul h.n1 h.s1 h.s0 (by omega)) (by omega)⟩
theorem Rt.Ok.mul1 {r : Rt} (h : r.Ok) : 0 ≤ (r.n + 1) * r.s ∧ (r.n + 1) * r.s ≤ 104858648576 := by
  rw [Int.add_mul, Int.one_mul]
  have := h.mul; have := h.s0; have := h.s1
  omega
def refCon (r : Rt) : Rt × Bool × Int :=
  if 1 < leftR r then (⟨r.f, r.s, r.n, r.c + 1⟩, false, 0) else if 1099511627776 < r.f + (r.n + 1) * r.s then (r, false, 4) else (⟨r.f, r.s, r.n + 1, 0⟩, true, 0)
theorem wrap_mul {a b : Int} {B : Int} (h : 0 ≤ a * b ∧ a * b ≤ B) (hB : B ≤ 9223372036854775807) : IntKind.i64.wrap (a * b) = a * b := by
  have h1 := h.1
  have h2 := h.2
  generalize a * b = x at *
  simp only [IntKind.wrap, IntKind.signed, IntKind.bits]
  simp
  omega
set_option maxRecDepth 1000000 in
theorem refLeft_any (r : Rt) (hr : r.Ok) (w : World) :
    Calls Try.prog 41 #[.agg #[.int .i64 r.f, .int .i64 r.s, .int .i64 r.n, .int .i64 r.c]] w fun e w' => e = .returned (.int .i64 (leftR r)) ∧ Below w.heap.size w w' := by
  obtain ⟨f, s, n, c⟩ := r
  obtain ⟨f0, f1, s0, s1, n0, n1, c0, c1⟩ := hr
  simp only [] at *
  have hm := Rt.Ok.mul (r := ⟨f, s, n, c⟩) ⟨f0, f1, s0, s1, n0, n1, c0, c1⟩
  have hw := wrap_mul hm (by omega)
  simp only [] at hm hw
  obtain ⟨hm0, hm1⟩ := hm
  go_enter Try.func41, Try.ntmps41
  go_wp2
  go_ret
  exact ⟨rfl, (Below.refl _ _).alloc (Nat.le_refl _) _⟩
theorem four_cells {W : World} {b : Nat} {v0 v1 v2 v3 : Value} {t : TypeId} (h : W.heap[b]? = some (.cells #[v0, v1, v2, v3] t)) :
    (W.cell? ⟨b, 0, none⟩ = some v0 ∧ W.cell? ⟨b, 1, none⟩ = some v1 ∧ W.cell? ⟨b, 2, none⟩ = some v2 ∧ W.cell? ⟨b, 3, none⟩ = some v3) ∧
    (W.frozen? ⟨b, 0, none⟩ = false ∧ W.frozen? ⟨b, 1, none⟩ = false ∧ W.frozen? ⟨b, 2, none⟩ = false ∧ W.frozen? ⟨b, 3, none⟩ = false) := by
  simp [World.cell?, World.frozen?, h]
theorem bcellT {W w1 : World} (hb : Below W.heap.size W w1) : (∀ b o, b < W.heap.size → w1.cell? ⟨b, o, none⟩ = W.cell? ⟨b, o, none⟩) ∧ (∀ b o, b < W.heap.size → w1.frozen? ⟨b, o, none⟩ = W.frozen? ⟨b, o, none⟩) :=
  ⟨fun b o h => hb.cell (p := ⟨b, o, none⟩) h, fun b o h => hb.frozen (p := ⟨b, o, none⟩) h⟩
def RefConP (r : Rt) (w : World) (e : Ending) (w' : World) : Prop :=
  e = .returned (.tuple #[(refCon r).1.val, .bool (refCon r).2.1, .int .i64 (refCon r).2.2]) ∧ Below w.heap.size w w'
theorem heap_two (w : World) (o o' : Obj) : ((w.alloc o).alloc o').heap[w.heap.size]? = some o ∧ ((w.alloc o).alloc o').heap[w.heap.size + 1]? = some o' := by
  have h1 := World.alloc_heap_new w o
  have h2 := World.alloc_heap_new (w.alloc o) o'
  have hs : (w.alloc o).heap.size = w.heap.size + 1 := by simp
  rw [hs] at h2
  exact ⟨(Below.heap_alloc _ _ _ (by rw [hs]; omega)).trans h1, h2⟩
set_option maxRecDepth 1000000 in
set_option maxHeartbeats 2000000 in
theorem refCon_any (r : Rt) (hr : r.Ok) (w : World) :
    Calls Try.prog 40 #[.agg #[.int .i64 r.f, .int .i64 r.s, .int .i64 r.n, .int .i64 r.c]] w (RefConP r w) := by
  have hm1 := hr.mul1
  have hL := fun w => refLeft_any r hr w
  have hRc : refCon r = if 1 < leftR r then (⟨r.f, r.s, r.n, r.c + 1⟩, false, 0) else if 1099511627776 < r.f + (r.n + 1) * r.s then (r, false, 4) else (⟨r.f, r.s, r.n + 1, 0⟩, true, 0) := rfl
  obtain ⟨f, s, n, c⟩ := r
  obtain ⟨f0, f1, s0, s1, n0, n1, c0, c1⟩ := hr
  simp only [] at *
  have hw := wrap_mul hm1 (by omega)
  obtain ⟨hm0, hm1⟩ := hm1
  have hfull : ¬ 1099511627776 < f + (n + 1) * s := by omega
  generalize leftR ⟨f, s, n, c⟩ = L at *
  have HL := Lib.hid hL; clear hL
  have b0 : Below w.heap.size w ((w.alloc (.cells #[.int .i64 f, .int .i64 s, .int .i64 n, .int .i64 c] 69)).alloc (.cells #[.int .i64 0, .int .i64 0, .int .i64 0, .int .i64 0] 69)) := ((Below.refl _ _).alloc (Nat.le_refl _) _).alloc (by simp) _
  have hp := heap_two w (.cells #[.int .i64 f, .int .i64 s, .int .i64 n, .int .i64 c] 69) (.cells #[.int .i64 0, .int .i64 0, .int .i64 0, .int .i64 0] 69)
  have HP := Lib.hid hp; clear hp
  by_cases h1 : 1 < L
  all_goals
    first
      | rw [if_pos h1] at hRc
      | rw [if_neg h1, if_neg hfull] at hRc
    have HR := Lib.hid hRc; clear hRc
    go_enter Try.func40, Try.ntmps40
    go_wp2_with fail
    refine (HL.out _).mono ?_
    rintro e w1 ⟨rfl, hb1⟩
    have e1 : w1.heap[w.heap.size]? = some (.cells #[.int .i64 f, .int .i64 s, .int .i64 n, .int .i64 c] 69) := (hb1.block _ (by simp; omega)).trans HP.out.1
    have e2 : w1.heap[w.heap.size + 1]? = some (.cells #[.int .i64 0, .int .i64 0, .int .i64 0, .int .i64 0] 69) := (hb1.block _ (by simp)).trans HP.out.2
    have b1 : Below w.heap.size w w1 := b0.trans (hb1.mono (by simp; omega))
    obtain ⟨⟨c10, c11, c12, c13⟩, f10, f11, f12, f13⟩ := four_cells e1
    obtain ⟨⟨c20, c21, c22, c23⟩, f20, f21, f22, f23⟩ := four_cells e2
    clear e1 e2
    go_wp2_with fail
    refine bodyPost_ret (by simp [results, Try.results40, go_sem, c20, c21, c22, c23]; try rfl) rfl ?_
    exact ⟨by rw [HR.out]; rfl, by repeat' (first | refine Below.setCell ?_ (by simp) _ | exact b1)⟩
end Go.Proofs.Ytcpcoomkapblcaa
