/- Schedules: replay.Copy. -/
import Derived.Test.YtlibeobmdjeilaaGreatDoorShD
set_option linter.all false
namespace Go.Proofs.YtlibeobmdjeilaaGreatDoor
open Go Go.RowKit
theorem three_cells {W : World} {b : Nat} {x y z : Value} {t : TypeId} (h : W.heap[b]? = some (.cells #[x, y, z] t (0, 0))) : W.cell? ⟨b, 0, none⟩ = some x ∧ W.cell? ⟨b, 1, none⟩ = some y ∧ W.cell? ⟨b, 2, none⟩ = some z := by
  refine ⟨?_, ?_, ?_⟩ <;> (rw [Lib.cell_of_heap h]; rfl)
theorem three_on {W W' : World} {b : Nat} {x y z : Value} {t : TypeId} (h : W.heap[b]? = some (.cells #[x, y, z] t (0, 0))) (hb : Below W.heap.size W W') : W'.cell? ⟨b, 0, none⟩ = some x ∧ W'.cell? ⟨b, 1, none⟩ = some y ∧ W'.cell? ⟨b, 2, none⟩ = some z :=
  three_cells ((hb.block b (Array.getElem?_eq_some_iff.1 h).1).trans h)
theorem three_set {W : World} {b : Nat} {x y z : Value} {t : TypeId} (h : W.heap[b]? = some (.cells #[x, y, z] t (0, 0))) (p q r : Value) :
    ∃ W' : World, ((W.setCell ⟨b, 0, none⟩ p).setCell ⟨b, 1, none⟩ q).setCell ⟨b, 2, none⟩ r = W' ∧ W'.heap[b]? = some (.cells #[p, q, r] t (0, 0)) ∧ (∀ g, g ≠ b → W'.heap[g]? = W.heap[g]?) ∧ ∀ B W0, B ≤ b → Below B W0 W → Below B W0 W' := by
  have h1 := heap_setCell_same W b 0 _ t p h
  have h2 := heap_setCell_same _ b 1 _ t q h1
  have h3 := heap_setCell_same _ b 2 _ t r h2
  refine ⟨_, rfl, h3, fun g hg => ?_, fun B W0 hB hb => ?_⟩
  · rw [heap_setCell_other _ _ _ _ hg, heap_setCell_other _ _ _ _ hg, heap_setCell_other _ _ _ _ hg]
  · exact ((hb.setCell (p := ⟨b, 0, none⟩) hB p).setCell (p := ⟨b, 1, none⟩) hB q).setCell (p := ⟨b, 2, none⟩) hB r
abbrev schV (u1 : Value) (pt : Int) (u3 : Value) : Value := .agg #[u1, .int .i64 pt, u3]
set_option maxRecDepth 1000000 in
set_option maxHeartbeats 4000000 in
theorem copy_any (w : World) (A1 A3 : Option Addr) (k1 k3 : Nat) (xs : List Int) (pt : Int) (bs : List Bool) (h1 : RdG (.int .u32) w (.slice A1 xs.length k1) xs) (h3 : RdG .bool w (.slice A3 bs.length k3) bs) (hl1 : xs.length ≤ 1000000) (hl3 : bs.length ≤ 1000000) :
    Calls Tryz.prog 53 #[schV (.slice A1 xs.length k1) pt (.slice A3 bs.length k3)] w fun o w' => ∃ u1 u3, o = .returned (schV u1 pt u3) ∧ OwnG (w.heap.size + 2) w' 24 (.int .u32) u1 xs ∧ OwnG (w.heap.size + 2) w' 4 .bool u3 bs ∧ Below w.heap.size w w' := by
  have HR1 := Lib.hid h1
  have HR3 := Lib.hid h3
  obtain ⟨n1, hn1⟩ : ∃ n, xs.length = n := ⟨_, rfl⟩
  obtain ⟨n3, hn3⟩ : ∃ n, bs.length = n := ⟨_, rfl⟩
  have HC1 := Lib.hid (fun (W : World) (hb : Below w.heap.size w W) => hn1 ▸ clone_words W A1 k1 xs (h1.on hb) hl1)
  have HC3 := Lib.hid (fun (W : World) (hb : Below w.heap.size w W) => hn3 ▸ clone_bools W A3 k3 bs (h3.on hb) hl3)
  rw [hn1, hn3]
  clear h1 h3 hl1 hl3 hn1 hn3
  go_enter Tryz.func53, Tryz.ntmps53
  go_wp2_with fail
  obtain ⟨w1, hw1⟩ : ∃ w1, (w.alloc (.cells #[.slice A1 n1 k1, .int .i64 pt, .slice A3 n3 k3] 93)).alloc (.cells #[.slice none 0 0, .int .i64 0, .slice none 0 0] 93) = w1 := ⟨_, rfl⟩
  have hb1 : Below w.heap.size w w1 := by rw [← hw1]; exact ((Below.refl _ _).alloc (Nat.le_refl _) _).alloc (by simp) _
  have hz1 : w1.heap.size = w.heap.size + 2 := by rw [← hw1]; simp
  have hA : w1.heap[w.heap.size]? = some (.cells #[.slice A1 n1 k1, .int .i64 pt, .slice A3 n3 k3] 93 (0, 0)) := by rw [← hw1, Lib.alloc_old _ _ _ (by simp)]; exact heap_alloc_new w _
  have hB : w1.heap[w.heap.size + 1]? = some (.cells #[.slice none 0 0, .int .i64 0, .slice none 0 0] 93 (0, 0)) := by rw [← hw1, ← World.size_alloc w (.cells #[.slice A1 n1 k1, .int .i64 pt, .slice A3 n3 k3] 93)]; exact heap_alloc_new _ _
  have hS : ∀ W : World, Below w1.heap.size w1 W → W.cell? ⟨w.heap.size, 0, none⟩ = some (.slice A1 n1 k1) ∧ W.cell? ⟨w.heap.size, 1, none⟩ = some (.int .i64 pt) ∧ W.cell? ⟨w.heap.size, 2, none⟩ = some (.slice A3 n3 k3) ∧ W.heap[w.heap.size + 1]? = some (.cells #[.slice none 0 0, .int .i64 0, .slice none 0 0] 93 (0, 0)) := by
    intro W hb
    have h1 := (hb.block _ (Array.getElem?_eq_some_iff.1 hA).1).trans hA
    refine ⟨?_, ?_, ?_, (hb.block _ (Array.getElem?_eq_some_iff.1 hB).1).trans hB⟩
    · rw [Lib.cell_of_heap h1]; rfl
    · rw [Lib.cell_of_heap h1]; rfl
    · rw [Lib.cell_of_heap h1]; rfl
  have HS := Lib.hid hS
  have HB1 := Lib.hid hb1
  have HZ1 := Lib.hid hz1
  obtain ⟨c0, c1, c2, hB0⟩ := hS w1 (Below.refl _ _)
  rw [hw1]
  clear hw1 hA hB hS hb1 hz1 hB0
  have HC1 := Lib.hid (fun (W : World) (hb : Below w1.heap.size w1 W) => HC1.out W (HB1.out.trans (hb.mono HB1.out.size)))
  have HC3 := Lib.hid (fun (W : World) (hb : Below w1.heap.size w1 W) => HC3.out W (HB1.out.trans (hb.mono HB1.out.size)))
  have hdr : Below w1.heap.size w1 w1.drew := (Below.refl _ _).drew
  go_region_with (first
      | (go_at_call 66; refine (HC1.out _ (by first | assumption | exact Below.refl _ _)).mono ?_; rintro o8 w8 ⟨⟨v8, rfl, ho8⟩, hb8⟩; have hb9 : Below w1.heap.size w1 w8 := hdr.trans hb8; obtain ⟨x0, x1, x2, x3⟩ := HS.out _ hb9)
      | (go_at_call 68; refine (HC3.out _ (by first | assumption | exact Below.refl _ _)).mono ?_; rintro o7 w7 ⟨⟨v7, rfl, ho7⟩, hb7⟩; have hb10 : Below w1.heap.size w1 w7 := hb9.trans (hb7.mono hb9.size); obtain ⟨y0, y1, y2, y3⟩ := HS.out _ hb10; obtain ⟨z0, z1, z2⟩ := three_cells y3; have z3 := Lib.frozen_of_heap y3 0; have z4 := Lib.frozen_of_heap y3 1; have z5 := Lib.frozen_of_heap y3 2; have HY3 := Lib.hid y3; clear y3; obtain ⟨A7, d7, hv7⟩ := ho7.form; obtain ⟨A8, d8, hv8⟩ := ho8.form; rw [hv8, hv7])
      | fail)
  all_goals
    obtain ⟨w9, hw9, hx9, hk9, hb11⟩ := three_set HY3.out (.slice A8 xs.length d8) (.int .i64 pt) (.slice A7 bs.length d7)
    rw [hw9]
    have ho8' : OwnG (w.heap.size + 2) w9 24 (.int .u32) v8 xs := ((ho8.on hb7).less (Nat.le_of_eq HZ1.out.symm)).kept fun g cs fr hg _ => hk9 g (by omega)
    have ho7' : OwnG (w.heap.size + 2) w9 4 .bool v7 bs := (ho7.less (Nat.le_trans (Nat.le_of_eq HZ1.out.symm) hb9.size)).kept fun g cs fr hg _ => hk9 g (by omega)
    have HF := Lib.hid (And.intro ho8' (And.intro ho7' (hb11 w.heap.size w (Nat.le_succ _) (HB1.out.trans (hb10.mono HB1.out.size)))))
    rw [hv8, hv7] at HF
    have HX9 := Lib.hid hx9
    clear ho8 ho7 ho8' ho7' hw9 hk9 hb11 hx9 z0 z1 z2 z3 z4 z5 y0 y1 y2 x0 x1 x2 x3 hv7 hv8 HY3
    go_wp2_with fail
    exact bodyPost_ret (results_cell_row rfl _ _ (w.heap.size + 1) 93 _ (0, 0) _ rfl HX9.out Tryz.underlying93 rfl (by kernel_rfl)) rfl ⟨_, _, rfl, HF.out.1, HF.out.2.1, HF.out.2.2⟩
end Go.Proofs.YtlibeobmdjeilaaGreatDoor
