/- The reference's measures: salvorlaw43.measure, salvorlaw36.Nums. -/
import Derived.Test.YtlibeobmdjeilaaGreatDoorShE
import Derived.Test.YtlibeobmdjeilaaGreatDoorShF
import Derived.Laws.StructEq
import Derived.Deep.Cut
import Derived.Deep.CutRange
import Derived.Deep.DeepCutAuto
import Derived.StillTailTactics
set_option linter.all false
namespace Go.Proofs.YtlibeobmdjeilaaGreatDoor
open Go Go.RowKit Go.WideShapes Go.ChangeShapes
theorem intInfoS : ∃ i : TypeInfo, Tryz.prog.info? 3 = some i ∧ i.zero = some (.int .i64 0) ∧ i.size = 1 ∧ i.bytes = 8 := by
  have h : (Tryz.prog.info? 3).map (fun i => (i.size, i.bytes)) = some (1, 8) := by kernel_rfl
  have h2 : (Tryz.prog.info? 3).bind (·.zero) = some (.int .i64 0) := by kernel_rfl
  obtain ⟨i, hi, hs⟩ := Option.map_eq_some_iff.1 h
  rw [hi] at h2
  exact ⟨i, hi, h2, congrArg Prod.fst hs, congrArg Prod.snd hs⟩
theorem two_rows {w w1 : World} {o1 o2 : Obj} (h : (w.alloc o1).alloc o2 = w1) : Below w.heap.size w w1 ∧ w1.heap.size = w.heap.size + 2 ∧ w1.heap[w.heap.size]? = some o1 ∧ w1.heap[w.heap.size + 1]? = some o2 := by
  subst h
  refine ⟨((Below.refl _ _).alloc (Nat.le_refl _) _).alloc (by simp) _, by simp, ?_, ?_⟩
  · rw [Lib.alloc_old _ _ _ (by simp)]; exact heap_alloc_new w _
  · have := heap_alloc_new (w.alloc o1) o2
    simpa using this
set_option maxRecDepth 1000000 in
theorem measure_any (x y z : Int) (w : World) : Calls Tryz.prog 48 #[.agg #[.int .i64 x, .int .i64 y, .int .i64 z]] w fun o w' => o = .returned (.agg #[.int .i64 x, .int .i64 y, .int .i64 z]) ∧ Below w.heap.size w w' := by
  go_enter Tryz.func48, Tryz.ntmps48
  go_wp2_with fail
  obtain ⟨w1, hw1⟩ : ∃ w1, (w.alloc (.cells #[.int .i64 x, .int .i64 y, .int .i64 z] 95)).alloc (.cells #[.int .i64 x, .int .i64 y, .int .i64 z] 97) = w1 := ⟨_, rfl⟩
  obtain ⟨hb1, hz1, r0, r1⟩ := two_rows hw1
  rw [hw1]
  exact bodyPost_ret (results_cell_row rfl _ _ (w.heap.size + 1) 97 _ (0, 0) _ rfl r1 Tryz.underlying97 rfl (by kernel_rfl)) rfl ⟨rfl, hb1⟩
set_option maxRecDepth 1000000 in
set_option maxHeartbeats 4000000 in
theorem nums_any (w : World) (A : Option Addr) (c : Nat) (xs : List Int) (h : RdG (.int .u32) w (.slice A xs.length c) xs) (hl : xs.length ≤ 1000000) (hx : ∀ x ∈ xs, 0 ≤ x ∧ x ≤ 4294967295) :
    Calls Tryz.prog 97 #[.slice A xs.length c] w fun o w' => (∃ v, o = .returned v ∧ OwnG w.heap.size w' 3 (.int .i64) v xs) ∧ Below w.heap.size w w' := by
  have HR := Lib.hid h
  have HX := Lib.hid hx
  clear h hx
  go_enter Tryz.func97, Tryz.ntmps97
  go_wp2_with fail
  go_loopw [3, 8] (fun s3 s8 wr => ∃ k : Nat, k ≤ xs.length ∧ s8 = .int .i64 k ∧ OwnG w.heap.size wr 3 (.int .i64) s3 (xs.take k) ∧ Below w.heap.size w wr) (fun _ s8 _ => xs.length - (intOf s8).toNat)
  case atStart => exact ⟨0, Nat.zero_le _, rfl, ⟨rfl, .inl ⟨rfl, rfl⟩⟩, Below.refl _ _⟩
  case round =>
    obtain ⟨k, hk, rfl, ho, hb⟩ := hrel
    obtain ⟨B, d, rfl⟩ := ho.form
    have hlen : (xs.take k).length = k := by rw [List.length_take]; omega
    have ho : OwnG w.heap.size wr 3 (.int .i64) (.slice B k d) (xs.take k) := by rw [hlen] at ho; exact ho
    have HLN := Lib.hid hlen
    have HO := Lib.hid ho
    have HB := Lib.hid hb
    rw [hlen]
    clear ho hb hlen
    have hj0 : (0 : Int) ≤ (k : Int) := by omega
    by_cases hlt : k < xs.length
    · obtain ⟨A, c', e, hr⟩ := HR.out
      cases e
      obtain ⟨b, off, rfl, hcell⟩ := hr (by omega)
      have hc0 := hcell k hlt
      have hj1 : (k : Int) < (xs.length : Int) := by omega
      have hxb := HX.out xs[k] (List.getElem_mem hlt)
      obtain ⟨v, hv⟩ : ∃ v, xs[k] = v := ⟨_, rfl⟩
      have HTK := Lib.hid (show xs.take (k + 1) = xs.take k ++ [v] from by rw [List.take_add_one, List.getElem?_eq_getElem hlt, hv]; rfl)
      rw [hv] at hc0 hxb
      have hk1 : wr.cell? ⟨b, off + k, none⟩ = some (.int .u32 v) := (HB.out.cell (cell_lt hc0)).trans hc0
      have hwv : IntKind.i64.wrap v = v := by rw [IntKind.wrap_i64]; omega
      have HLT := Lib.hid hlt
      have HK5 := Lib.hid (show k + 1 ≤ xs.length from hlt)
      clear hc0 hcell hr hv hxb
      obtain ⟨i0, hi, hz0, hz1, hz2⟩ := intInfoS
      go_wp2_with (at_builtin; refine wpList_append_own _ rfl _ _ 100 rfl w.heap.size 3 i0 (.int .i64 0) 1 8 Tryz.underlying100 hi hz0 hz1 hz2 rfl (by decide) _ _ _ rfl (World.ownsRow.alloc HO.out _) ⟨wr.heap.size, 0, none⟩ 1 1 [.int .i64 v] rfl rfl ?c1 ?c2 ?c3 ?c4 ?c5 ?_)
      case c1 =>
        intro j u hj
        rw [add_plain, Nat.zero_add, Lib.cell_of_heap (heap_alloc_new wr _)]
        simpa using hj
      case c2 => intro u hu; simp at hu; subst hu; rfl
      case c3 => have := HLN.out; have := HK5.out; simp only [maxLen]; omega
      case c4 => have := HLN.out; have := HK5.out; omega
      case c5 => have := HB.out.size; simp only [World.size_alloc]; omega
      clear hi hz0 hz1 hz2
      intro v' w8 hown' hgrow _
      have hO : OwnG w.heap.size w8 3 (.int .i64) v' (xs.take (k + 1)) := by
        rw [HTK.out]
        have hown2 : w8.ownsRow w.heap.size 3 1 v' ((xs.take k).length + 1) ((xs.take k).map (Value.int .i64) ++ [.int .i64 v]) := by rw [HLN.out, List.map_take]; exact hown'
        unfold OwnG
        rw [List.length_append, List.map_append]
        exact hown2
      have hbw := HB.out.size
      have hB : Below w.heap.size w w8 := (HB.out.alloc hbw _).grown hgrow (by simp only [World.size_alloc]; omega) (fun q hq => (World.ownsRow.lt HO.out q hq).1)
      have HO8 := Lib.hid hO
      have HB8 := Lib.hid hB
      clear hown' hgrow hO hB hbw
      go_wp2_with fail
      go_roundw
      case rel => exact ⟨k + 1, HK5.out, by go_num, HO8.out, HB8.out⟩
      case measure => have := HLT.out; simp [intOf]; omega
    · obtain rfl : k = xs.length := by omega
      rw [List.take_length] at HO
      go_wp2_with fail
      go_ret
      exact ⟨⟨_, rfl, HO.out⟩, HB.out⟩
set_option maxRecDepth 1000000 in
set_option maxHeartbeats 4000000 in
theorem theirs_any (w : World) (A1 A3 : Option Addr) (k1 k3 : Nat) (xs : List Int) (pt : Int) (bs : List Bool) (h1 : RdG (.int .u32) w (.slice A1 xs.length k1) xs) (h3 : RdG .bool w (.slice A3 bs.length k3) bs) (hl1 : xs.length ≤ 1000000) (hl3 : bs.length ≤ 1000000) (hx : ∀ x ∈ xs, 0 ≤ x ∧ x ≤ 4294967295) :
    Calls Tryz.prog 50 #[schV (.slice A1 xs.length k1) pt (.slice A3 bs.length k3)] w fun o w' => ∃ u1 u3, o = .returned (schV u1 pt u3) ∧ OwnG (w.heap.size + 2) w' 3 (.int .i64) u1 xs ∧ OwnG (w.heap.size + 2) w' 4 .bool u3 bs ∧ Below w.heap.size w w' := by
  have HR1 := Lib.hid h1
  have HR3 := Lib.hid h3
  obtain ⟨n1, hn1⟩ : ∃ n, xs.length = n := ⟨_, rfl⟩
  obtain ⟨n3, hn3⟩ : ∃ n, bs.length = n := ⟨_, rfl⟩
  have HC1 := Lib.hid (fun (W : World) (hb : Below w.heap.size w W) => hn1 ▸ nums_any W A1 k1 xs (h1.on hb) hl1 hx)
  have HC3 := Lib.hid (fun (W : World) (hb : Below w.heap.size w W) => hn3 ▸ clone_bools W A3 k3 bs (h3.on hb) hl3)
  rw [hn1, hn3]
  clear h1 h3 hl1 hl3 hn1 hn3 hx
  go_enter Tryz.func50, Tryz.ntmps50
  go_wp2_with fail
  obtain ⟨w1, hw1⟩ : ∃ w1, (w.alloc (.cells #[.slice A1 n1 k1, .int .i64 pt, .slice A3 n3 k3] 93)).alloc (.cells #[.slice none 0 0, .int .i64 0, .slice none 0 0] 102) = w1 := ⟨_, rfl⟩
  have hb1 : Below w.heap.size w w1 := by rw [← hw1]; exact ((Below.refl _ _).alloc (Nat.le_refl _) _).alloc (by simp) _
  have hz1 : w1.heap.size = w.heap.size + 2 := by rw [← hw1]; simp
  have hA : w1.heap[w.heap.size]? = some (.cells #[.slice A1 n1 k1, .int .i64 pt, .slice A3 n3 k3] 93 (0, 0)) := by rw [← hw1, Lib.alloc_old _ _ _ (by simp)]; exact heap_alloc_new w _
  have hB : w1.heap[w.heap.size + 1]? = some (.cells #[.slice none 0 0, .int .i64 0, .slice none 0 0] 102 (0, 0)) := by rw [← hw1, ← World.size_alloc w (.cells #[.slice A1 n1 k1, .int .i64 pt, .slice A3 n3 k3] 93)]; exact heap_alloc_new _ _
  have hS : ∀ W : World, Below w1.heap.size w1 W → W.cell? ⟨w.heap.size, 0, none⟩ = some (.slice A1 n1 k1) ∧ W.cell? ⟨w.heap.size, 1, none⟩ = some (.int .i64 pt) ∧ W.cell? ⟨w.heap.size, 2, none⟩ = some (.slice A3 n3 k3) ∧ W.heap[w.heap.size + 1]? = some (.cells #[.slice none 0 0, .int .i64 0, .slice none 0 0] 102 (0, 0)) := by
    intro W hb
    have h1 := (hb.block _ (Array.getElem?_eq_some_iff.1 hA).1).trans hA
    refine ⟨?_, ?_, ?_, (hb.block _ (Array.getElem?_eq_some_iff.1 hB).1).trans hB⟩
    · rw [Lib.cell_of_heap h1]; rfl
    · rw [Lib.cell_of_heap h1]; rfl
    · rw [Lib.cell_of_heap h1]; rfl
  have HS := Lib.hid hS
  have HB1 := Lib.hid hb1
  have HZ1 := Lib.hid hz1
  obtain ⟨c0, c1, c2, hB0⟩ := hS w1 (Below.refl _ _)
  rw [hw1]
  clear hw1 hA hB hS hb1 hz1 hB0
  have HC1 := Lib.hid (fun (W : World) (hb : Below w1.heap.size w1 W) => HC1.out W (HB1.out.trans (hb.mono HB1.out.size)))
  have HC3 := Lib.hid (fun (W : World) (hb : Below w1.heap.size w1 W) => HC3.out W (HB1.out.trans (hb.mono HB1.out.size)))
  have hdr : Below w1.heap.size w1 w1.drew := (Below.refl _ _).drew
  go_region_with (first
      | (go_at_call 97; refine (HC1.out _ (by first | assumption | exact Below.refl _ _)).mono ?_; rintro o8 w8 ⟨⟨v8, rfl, ho8⟩, hb8⟩; have hb9 : Below w1.heap.size w1 w8 := hdr.trans hb8; obtain ⟨x0, x1, x2, x3⟩ := HS.out _ hb9)
      | (go_at_call 68; refine (HC3.out _ (by first | assumption | exact Below.refl _ _)).mono ?_; rintro o7 w7 ⟨⟨v7, rfl, ho7⟩, hb7⟩; have hb10 : Below w1.heap.size w1 w7 := hb9.trans (hb7.mono hb9.size); obtain ⟨y0, y1, y2, y3⟩ := HS.out _ hb10; obtain ⟨z0, z1, z2⟩ := three_cells y3; have z3 := Lib.frozen_of_heap y3 0; have z4 := Lib.frozen_of_heap y3 1; have z5 := Lib.frozen_of_heap y3 2; have HY3 := Lib.hid y3; clear y3; obtain ⟨A7, d7, hv7⟩ := ho7.form; obtain ⟨A8, d8, hv8⟩ := ho8.form; rw [hv8, hv7])
      | fail)
  all_goals
    obtain ⟨w9, hw9, hx9, hk9, hb11⟩ := three_set HY3.out (.slice A8 xs.length d8) (.int .i64 pt) (.slice A7 bs.length d7)
    rw [hw9]
    have ho8' : OwnG (w.heap.size + 2) w9 3 (.int .i64) v8 xs := ((ho8.on hb7).less (Nat.le_of_eq HZ1.out.symm)).kept fun g cs fr hg _ => hk9 g (by omega)
    have ho7' : OwnG (w.heap.size + 2) w9 4 .bool v7 bs := (ho7.less (Nat.le_trans (Nat.le_of_eq HZ1.out.symm) hb9.size)).kept fun g cs fr hg _ => hk9 g (by omega)
    have HF := Lib.hid (And.intro ho8' (And.intro ho7' (hb11 w.heap.size w (Nat.le_succ _) (HB1.out.trans (hb10.mono HB1.out.size)))))
    rw [hv8, hv7] at HF
    have HX9 := Lib.hid hx9
    clear ho8 ho7 ho8' ho7' hw9 hk9 hb11 hx9 z0 z1 z2 z3 z4 z5 y0 y1 y2 x0 x1 x2 x3 hv7 hv8 HY3
    go_wp2_with fail
    exact bodyPost_ret (results_cell_row rfl _ _ (w.heap.size + 1) 102 _ (0, 0) _ rfl HX9.out Tryz.underlying102 rfl (by kernel_rfl)) rfl ⟨_, _, rfl, HF.out.1, HF.out.2.1, HF.out.2.2⟩
end Go.Proofs.YtlibeobmdjeilaaGreatDoor
