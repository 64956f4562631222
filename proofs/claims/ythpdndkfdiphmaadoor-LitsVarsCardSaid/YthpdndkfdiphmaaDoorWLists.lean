/- LitsLists: slices.Clone and slices.Equal at lists of literals; the walk of the law. -/
import Derived.Test.YthpdndkfdiphmaaDoorRefVars
import Derived.WalkSpells
import Derived.Deep.QuietTactic
import Derived.BigQuiet
namespace Go.Proofs.YthpdndkfdiphmaaDoor
open Go Go.RowKit
theorem lit_info : (Tryd.prog.info? 25).map (fun i => (i.zero, i.size, i.bytes)) = some (some (.int .i64 0), 1, 8) := by kernel_rfl
theorem RdI.of_ownE {w : World} {base n : Nat} {e : TypeId} {v : Value} {xs : List Int} (h : w.ownsRow base e 1 v n (xs.map (.int .i64))) : RdI w.heap.size w v xs := by
  have hl := h.1
  rw [List.length_map] at hl
  rcases h.2 with ⟨rfl, h0⟩ | ⟨g, cap, cur, rfl, hbg, hh, hnc, hcm, hcs', htk⟩
  · have : xs.length = 0 := by omega
    exact ⟨none, 0, by rw [this], by omega, fun h => by omega⟩
  · have hn : n = xs.length := by omega
    subst hn
    refine ⟨_, cap, rfl, hnc, fun _ => ⟨g, 0, rfl, (h.lt g rfl).2, fun j hj => ?_⟩⟩
    rw [Nat.zero_add, h.cellAt j (by omega), List.getElem?_map]
    simp [hj]
/-- The world but for draws. -/
def Dr (w w' : World) : Prop := ∃ q, w' = w.drewN q
theorem Dr.more {w a : World} (h : Dr w a) (n : Nat) : Dr w (a.drewN n) := by obtain ⟨q, rfl⟩ := h; exact ⟨q + n, by rw [World.drewN_drewN]⟩
/-- A result that reads as a list, in new or old memory. -/
def RdPost (w : World) (ys : List Int) (e : Ending) (w' : World) : Prop :=
  ∃ v, e = .returned v ∧ RdI w'.heap.size w' v ys ∧ Below w.heap.size w w'
set_option maxRecDepth 10000000 in
set_option maxHeartbeats 1000000 in
theorem CloneLit_any (w : World) (base : Nat) (v : Value) (xs : List Int) (hown : w.ownsRow base 25 1 v xs.length (xs.map (.int .i64))) (hlen : xs.length ≤ 1000000) :
    Calls Tryd.prog 29 #[v] w (RdPost w xs) := by
  obtain ⟨i0, hi, hz0, hz1, hz2⟩ := info_parts lit_info
  rcases hown.2 with ⟨rfl, h0⟩ | ⟨g, cap, cur, rfl, hbg, hh, hnc, hcm, hcs', htk⟩
  · have hx0 : xs = [] := List.eq_nil_of_length_eq_zero h0
    subst hx0
    have hsn := fun (W : World) => Lib.run_eql_slice_nil (P := Tryd.prog) W 43 25 none 0 0 0 0 Tryd.underlying43
    go_enter Tryd.func29, Tryd.ntmps29
    go_wp2
    go_ret
    exact ⟨.slice none 0 0, rfl, ⟨none, 0, rfl, by simp, fun h => by simp at h⟩, Below.refl _ _⟩
  · have hsn := fun (W : World) => Lib.run_eql_slice_nil (P := Tryd.prog) W 43 25 (some ⟨g, 0, none⟩) xs.length cap 0 0 Tryd.underlying43
    have hlit := World.ownsRow_lit (base := w.heap.size) (e := 25) (size := 1) w #[] 0 (Nat.le_refl _) (by simp [maxLen]) rfl
    have hsrc : ∀ j u, (xs.map (Value.int .i64))[j]? = some u → (w.alloc (.cells #[] 25)).cell? ((⟨g, 0, none⟩ : Addr).add j) = some u := fun j u hu => (hown.alloc _).cells (g := g) rfl j u hu
    have Hown := Lib.hid hown; have Hlit := Lib.hid hlit; have Hsrc := Lib.hid hsrc
    have hxl : (xs.map (Value.int .i64)).length = xs.length := by simp
    have Hxl := Lib.hid hxl
    clear hown hlit hsrc hh htk hcs' hxl
    go_enter Tryd.func29, Tryd.ntmps29
    go_wp2_with (at_builtin; refine wpList_append_own _ rfl _ _ 43 rfl w.heap.size 25 i0 (.int .i64 0) 1 8 Tryd.underlying43 hi hz0 hz1 hz2 rfl (by decide) _ _ _ rfl Hlit.out ⟨g, 0, none⟩ xs.length cap (xs.map (Value.int .i64)) rfl (by simp) Hsrc.out (ints_one xs) (by simp only [maxLen]; omega) (by omega) (by simp) ?_; intro v' w1 hown' hgrow _)
    go_ret
    have hown2 : w1.ownsRow w.heap.size 25 1 v' (0 + xs.length) (xs.map (.int .i64)) := by simpa using hown'
    exact ⟨v', rfl, RdI.of_ownE hown2, ((Below.refl _ w).alloc (Nat.le_refl _) _).grown hgrow (by simp) (fun k e => by cases e; exact Nat.le_refl _)⟩
set_option maxRecDepth 10000000 in
set_option maxHeartbeats 1000000 in
theorem EqualLit_same (w : World) (B C : Nat) (u v : Value) (xs : List Int) (hx : RdI B w u xs) (hy : RdI C w v xs) (hlen : xs.length ≤ 1000000) :
    Calls Tryd.prog 30 #[u, v] w fun e w' => e = .returned (.bool true) ∧ ∃ q, w' = w.drewN q := by
  obtain ⟨A, c, rfl, hc, hr⟩ := hx
  obtain ⟨A', c', rfl, hc', hr'⟩ := hy
  by_cases h0 : 0 < xs.length
  · obtain ⟨b, o, rfl, hb, hcell⟩ := hr h0
    obtain ⟨b', o', rfl, hb', hcell'⟩ := hr' (by omega)
    have Hc := Lib.hid hcell; have Hc' := Lib.hid hcell'
    clear hr hr' hcell hcell'
    go_enter Tryd.func30, Tryd.ntmps30
    go_wp2
    go_loopw [13] (fun i wr => ∃ k : Nat, k ≤ xs.length ∧ i = .int .i64 k ∧ Dr w wr) (fun i _ => xs.length - (intOf i).toNat)
    case atStart => exact ⟨0, by omega, rfl, 0, rfl⟩
    case round =>
      obtain ⟨k, hk, rfl, hdr⟩ := hrel
      by_cases hlt : k < xs.length
      · have h1 : wr.cell? ⟨b, o + k, none⟩ = some (.int .i64 (xs[k]?.getD 0)) := by obtain ⟨q, e⟩ := hdr; rw [e]; exact Hc.out k hlt
        have h2 : wr.cell? ⟨b', o' + k, none⟩ = some (.int .i64 (xs[k]?.getD 0)) := by obtain ⟨q, e⟩ := hdr; rw [e]; exact Hc'.out k hlt
        have h3 : (k : Int) < (xs.length : Int) := by omega
        have ez : xs[k]?.getD 0 = xs[k] := by simp [hlt]
        rw [ez] at h1 h2
        generalize xs[k] = x at *
        clear ez
        go_wp2
        go_quiet (fail)
        go_wp2
        go_roundw
        case rel => exact ⟨k + 1, by omega, by go_num, hdr.more _⟩
        case measure => simp [intOf]; omega
      · obtain rfl : k = xs.length := by omega
        go_wp2
        go_ret
        exact ⟨rfl, hdr⟩
  · have hx0 : xs = [] := List.eq_nil_of_length_eq_zero (by omega)
    subst hx0
    clear hr hr' h0
    go_enter Tryd.func30, Tryd.ntmps30
    go_wp2
    go_loop [13] (fun i => i = .int .i64 0) (fun _ => 0)
    case atStart => exact rfl
    case round =>
      subst hrel
      go_wp2
      go_ret
      exact ⟨rfl, 0, rfl⟩
set_option maxRecDepth 10000000 in
set_option maxHeartbeats 2000000 in
theorem LitsLists_any (v : Value) (zs : List Int) (w : World) (hI : RdI w.heap.size w v zs) (hmax : zs.length ≤ maxLen) (ht : Tb w) :
    Calls Tryd.prog 9 #[v] w fun e w' => e = .returned (.bool true) ∧ Below w.heap.size w w' := by
  unfold maxLen at hmax
  obtain ⟨i0, hi, hz0, hz1, hz2⟩ := info_parts lit_info
  have Ht := Lib.hid ht; clear ht
  have HI := Lib.hid hI
  obtain ⟨A, c, rfl, hc, hr⟩ := hI
  clear hr
  by_cases hbig : 200 < zs.length
  · have hb' : (200 : Int) < (zs.length : Int) := by omega
    go_enter Tryd.func9, Tryd.ntmps9
    go_wp2_with (go_at_call 13; refine (awake_any _ Ht.out).mono ?_; rintro e w1 ⟨rfl, hb1⟩)
    go_ret
    exact ⟨rfl, hb1⟩
  · have hb' : (zs.length : Int) ≤ 200 := by omega
    go_enter Tryd.func9, Tryd.ntmps9
    go_wp2
    go_loopw [3, 15] (fun o i wr => ∃ k : Nat, k ≤ zs.length ∧ i = .int .i64 k ∧ wr.ownsRow w.heap.size 25 1 o (zs.take k).length ((zs.take k).map (.int .i64)) ∧ Below w.heap.size w wr) (fun _ i _ => zs.length - (intOf i).toNat)
    case atStart => exact ⟨0, by omega, rfl, World.ownsRow_nil _ _ _ _, Below.refl _ _⟩
    case round =>
      obtain ⟨k, hk, rfl, hown, hbw⟩ := hrel
      have hvf : ∃ a b c, u3 = .slice a b c := by
        rcases hown.2 with ⟨rfl, _⟩ | ⟨g, cap, cur, rfl, _⟩
        · exact ⟨_, _, _, rfl⟩
        · exact ⟨_, _, _, rfl⟩
      obtain ⟨oa, ol, oc, rfl⟩ := hvf
      have htl : (zs.take k).length = k := by rw [List.length_take]; omega
      by_cases hlt : k < zs.length
      · obtain ⟨A', c', e', _, hcell⟩ := HI.out.below hbw
        obtain ⟨b, o, hA, hb, hcl⟩ := hcell (by omega)
        injection e' with e1 e2 e3
        subst e1 e3
        subst hA
        have hck := hcl k hlt
        have htk : zs.take (k + 1) = zs.take k ++ [zs[k]] := by rw [List.take_succ_eq_append_getElem hlt]
        have ez : zs[k]?.getD 0 = zs[k] := by simp [hlt]
        rw [ez] at hck
        clear hcl hcell e2 ez
        generalize zs[k] = x at *
        have Htk := Lib.hid htk; have Htl := Lib.hid htl; have Hown := Lib.hid hown
        clear htk
        have hlen := htl
        clear htl hown
        go_wp2_with (at_builtin; refine wpList_append_own _ rfl _ _ 43 rfl w.heap.size 25 i0 (.int .i64 0) 1 8 Tryd.underlying43 hi hz0 hz1 hz2 rfl (by decide) _ _ _ rfl (Hown.out.alloc _) ⟨wr.heap.size, 0, none⟩ 1 1 [.int .i64 x] rfl rfl (cell_one_new _ _ _) (by simp [Value.oneCell']) (by rw [Htl.out]; simp only [maxLen]; omega) (by rw [Htl.out]; omega) (by have := hbw.size; simp; omega) ?_; intro v' w1 hown' hgrow _)
        go_roundw
        case rel =>
          refine ⟨k + 1, by omega, by go_num, ?_, (hbw.alloc hbw.size _).grown hgrow (by have := hbw.size; simp; omega) (fun g e => (Hown.out.lt g e).1)⟩
          rw [Htk.out, List.length_append, List.map_append]
          exact hown'
        case measure => simp [intOf]; omega
      · obtain rfl : k = zs.length := by omega
        rw [List.take_length] at hown
        have Hown := Lib.hid hown; clear hown htl
        have hz : w.heap.size ≤ wr.heap.size := hbw.size
        go_wp2_with fail
        refine (CloneLit_any wr w.heap.size _ zs Hown.out (by omega)).mono ?_
        rintro e w1 ⟨v1, rfl, hr1, hb1⟩
        have hw1 : Below w.heap.size w w1 := hbw.trans (hb1.mono hz)
        have ro : RdI wr.heap.size wr (.slice oa ol oc) zs := RdI.of_ownE Hown.out
        have ro1 := ro.below hb1
        go_wp2_with fail
        refine (Vars_any _ zs (by omega) w1 (ro1.more hb1.size)).mono ?_
        rintro e w2 ⟨v2, rfl, hown2, _, hb2⟩
        have hw2 := hw1.trans (hb2.mono hw1.size)
        have ro2 := (ro1.more hb1.size).below hb2
        have r12 := hr1.below hb2
        go_wp2_with fail
        refine (Greatest_any _ zs (by omega) w2 (ro2.more hb2.size)).mono ?_
        rintro e w3 ⟨rfl, hb3⟩
        have hw3 := hw2.trans (hb3.mono hw2.size)
        have ro3 := ro2.below (hb3.mono hb2.size)
        have r13 := r12.below (hb3.mono hb2.size)
        have rv3 : RdI w2.heap.size w3 v2 (vset (vl zs)) := (RdI.of_own hown2).below hb3
        go_wp2_with fail
        refine (EqualLit_same w3 _ _ _ _ zs ro3 r13 (by omega)).mono ?_
        rintro e w4 ⟨rfl, q, rfl⟩
        have hz3 : w.heap.size ≤ w3.heap.size := hw3.size
        have rl4 : RdI (w3.drewN q).heap.size (w3.drewN q) (.slice A zs.length c) zs := (HI.out.below hw3).more hz3
        have rv4 : RdI w2.heap.size (w3.drewN q) v2 (vset (vl zs)) := rv3
        have hw4 : Below w.heap.size w (w3.drewN q) := ⟨hw3.os, hw3.tape, hw3.output, hw3.size, hw3.block⟩
        go_wp2_with fail
        refine (RVars_any _ zs (by omega) _ rl4).mono ?_
        rintro e w5 ⟨v5, rfl, hown5, hb5⟩
        have hw5 := hw4.trans (hb5.mono hw4.size)
        have rv5 := rv4.below (hb5.mono hb3.size)
        have hvl : (vset (vl zs)).length ≤ 1000000 := by
          have h1 := (vset_sorted _ (vl zs) rfl).2.2
          have h2 := vl_take_le zs zs.length
          rw [List.take_length] at h2
          omega
        have hbt : (vset (vl zs) == vset (vl zs)) = true := by simp
        have rl5 : RdI w5.heap.size w5 (.slice A zs.length c) zs := (rl4.below hb5).more hb5.size
        have Hvl := Lib.hid hvl; clear hvl
        go_wp2_with fail
        refine (EqualInt_any w5 _ _ _ _ _ _ rv5 (RdI.of_own hown5) Hvl.out Hvl.out).mono ?_
        rintro e w6 ⟨rfl, q6, rfl⟩
        rw [hbt]
        have rl6 : RdI (w5.drewN q6).heap.size (w5.drewN q6) (.slice A zs.length c) zs := rl5
        have hw6 : Below w.heap.size w (w5.drewN q6) := ⟨hw5.os, hw5.tape, hw5.output, hw5.size, hw5.block⟩
        go_wp2_with fail
        refine (RGreatest_any _ zs (by omega) _ rl6).mono ?_
        rintro e w7 ⟨rfl, rfl⟩
        go_wp2_with fail
        refine (awake_any _ (Ht.out.below hw6)).mono ?_
        rintro e w8 ⟨rfl, hb8⟩
        go_wp2_with fail
        go_ret
        exact ⟨rfl, hw6.trans (hb8.mono hw6.size)⟩
end Go.Proofs.YthpdndkfdiphmaaDoor
