/- reduce.Sorted returns the list's sorted permutation in new memory. -/
import Derived.Test.YtcpcoomkapblcaaStabF
import Derived.Test.YtcpcoomkapblcaaSorted
import Derived.Test.YtcpcoomkapblcaaRefQ
import Derived.Shelf.SlicesE.Clone
open Go Go.RowKit Go.Maps
namespace Go.Proofs.Ytcpcoomkapblcaa
open Go.Sort Go.Lib Go.Shelf
set_option maxRecDepth 1000000 in
set_option maxHeartbeats 1000000 in
theorem sortStable_any (blk cap : Nat) (d : Array Inf) (w : World) (hH : HoldsK Inf.enc 3 w blk 0 d) (hblk : blk < w.heap.size) (hsz : d.size < 1152921504606846976) :
    Calls Try.prog 64 #[.slice (some ⟨blk, 0, none⟩) d.size cap, .func (.func 51) #[] #[]] w fun e w' => e = .returned (.tuple #[]) ∧ ∃ n os, w' = sortWorldK Inf.enc 3 w blk 0 n (sortI d.toList).toArray os := by
  have HC := Lib.hid (stable_any blk 0 cap d w ⟨fun _ => rfl, enc1, hH, hblk⟩ hsz)
  clear hH
  go_enter Try.func64, Try.ntmps64
  go_wp2_with fail
  refine HC.out.mono ?_
  rintro e w' ⟨rfl, d', h1, h2, m, os, h3⟩
  have hu := sorted_unique_holds swo_cf tot_cf d d' h1 h2
  simp only [lt_cf] at hu
  have hd : d' = (sortI d.toList).toArray := by rw [sortI, ← hu]
  have H3 := Lib.hid h3
  have HD := Lib.hid hd
  clear h1 h2 h3 hu hd
  go_wp2_with fail
  go_end0
  exact ⟨rfl, m, os, by rw [H3.out, HD.out]⟩
set_option maxRecDepth 1000000 in
set_option maxHeartbeats 1000000 in
theorem sortStable_none (p : Option Addr) (cap : Nat) (w : World) : Calls Try.prog 64 #[.slice p 0 cap, .func (.func 51) #[] #[]] w fun e w' => e = .returned (.tuple #[]) ∧ w = w' := by
  have h := fun W => AnyF.insertionSortCmpFunc_none Try.insInf p cap (.func (.func 51) #[] #[]) W
  have H := Lib.hid h
  clear h
  go_enter Try.func64, Try.ntmps64
  go_wp2_with (first | go_in | fail)
  refine wp_loop_rounds 1 ?_
  rw [rounds_succ]
  go_wp2_with fail
  refine (H.out _).mono ?_
  rintro e w' ⟨rfl, rfl⟩
  go_wp2_with fail
  refine wp_loop_rounds 1 ?_
  rw [rounds_succ]
  go_wp2_with fail
  go_end0
  exact ⟨rfl, rfl⟩
theorem cloneI_some (b off c : Nat) (T : List Inf) (w : World) (hT : T.length ≤ 1000000) (hc : ∀ k, k < T.length → InfAt w b (off + k * 3) (T[k]?.getD ⟨0, 0, 0⟩)) :
    Calls Try.prog 61 #[.slice (some ⟨b, off, none⟩) T.length c] w fun e w' => ∃ g cap, e = .returned (.slice (some ⟨g, 0, none⟩) T.length cap) ∧ w'.ownsRow w.heap.size 32 3 (.slice (some ⟨g, 0, none⟩) T.length cap) T.length (T.flatMap Inf.enc) ∧ Below w.heap.size w w' := by
  obtain ⟨i0, hi, hz0, hz1, hz2⟩ := info_parts inf_info
  have hlen : (T.flatMap Inf.enc).length = T.length * 3 := flat_length (enc := Inf.enc) (k := 3) (fun _ => rfl) T
  have hn : ∀ j u, (T.flatMap Inf.enc)[j]? = some u → w.cell? ⟨b, off + j, none⟩ = some u := by
    intro j u hu
    have hj : j < T.length * 3 := by rw [← hlen]; exact (List.getElem?_eq_some_iff.1 hu).1
    obtain ⟨h1, h2, h3⟩ := hc (j / 3) (by omega)
    rw [flat_get (enc := Inf.enc) (k := 3) (fun _ => rfl) (by decide) T j hj] at hu
    generalize T[j / 3]?.getD ⟨0, 0, 0⟩ = x at *
    have h3' : j % 3 = 0 ∨ j % 3 = 1 ∨ j % 3 = 2 := by omega
    rcases h3' with e0 | e0 | e0
    · rw [e0] at hu
      rw [show off + j = off + j / 3 * 3 by omega, h1]; exact hu
    · rw [e0] at hu
      rw [show off + j = off + j / 3 * 3 + 1 by omega, h2]; exact hu
    · rw [e0] at hu
      rw [show off + j = off + j / 3 * 3 + 2 by omega, h3]; exact hu
  refine (AnyE.slices_Clone Try.cloneInf i0 _ 3 24 hi hz0 hz1 hz2 rfl (by decide) Try.sizeOf32 b off T.length c (T.flatMap Inf.enc) w hlen (by simp only [maxLen]; omega) (by omega) hn (enc_one T)).mono ?_
  rintro e w' ⟨v', rfl, hown, hne, hb⟩
  rcases hown.2 with ⟨rfl, _⟩ | ⟨g, cap, cur, e0, _⟩
  · exact absurd rfl hne
  · exact ⟨g, cap, by rw [e0], by rw [← e0]; exact hown, hb⟩
theorem cloneI_none (n c : Nat) (w : World) : Calls Try.prog 61 #[.slice none n c] w fun e w' => e = .returned (.slice none 0 0) ∧ w = w' :=
  (AnyE.slices_Clone_nil Try.cloneInf n c w).mono fun _ _ ⟨he, hw⟩ => ⟨he, hw.symm⟩
set_option maxRecDepth 1000000 in
set_option maxHeartbeats 1000000 in
theorem sortedL_some (b off c : Nat) (T : List Inf) (w : World) (hT : T.length ≤ 1000000) (hc : ∀ k, k < T.length → InfAt w b (off + k * 3) (T[k]?.getD ⟨0, 0, 0⟩)) :
    Calls Try.prog 39 #[.slice (some ⟨b, off, none⟩) T.length c] w fun e w' => ∃ v, e = .returned v ∧ w'.ownsRow w.heap.size 32 3 v T.length ((sortI T).flatMap Inf.enc) ∧ RowKit.Below w.heap.size w w' := by
  have HC := Lib.hid (cloneI_some b off c T w hT hc)
  clear hc
  go_enter Try.func39, Try.ntmps39
  go_wp2_with fail
  refine HC.out.mono ?_
  rintro e w1 ⟨g, cap, rfl, hown, hb1⟩
  rcases hown.2 with ⟨e0, _⟩ | ⟨g', cap', cur, e0, hg, hbl, h1, h2, h3, h4⟩
  · cases e0
  injection e0 with e1 e2 e3
  injection e1 with e1
  injection e1 with e1
  subst e1 e3
  clear e2
  have hH := holdsK_block (enc := Inf.enc) (k := 3) (fun _ => rfl) (by decide) hbl h4
  have hlt : g < w1.heap.size := (Array.getElem?_eq_some_iff.1 hbl).1
  have HS := Lib.hid (sortStable_any g cap T.toArray w1 hH hlt (by simp; omega))
  have hsl : (sortI T).length = T.length := (List.mergeSort_perm _ _).length_eq
  have HFIN := Lib.hid (fun n os => ownsRow_sortK (enc := Inf.enc) (k := 3) (base := w.heap.size) (n := n) (os := os) (ts := sortI T) (m := T.length) (fun _ => rfl) (by decide) hsl hg hbl h1 h2 h3)
  have HBB := Lib.hid (fun n os => hb1.grown (grownBy_sortK (enc := Inf.enc) (k := 3) (n := n) (os := os) (g := g) (w := w1) (sortI T).toArray) hb1.size (fun k hk => by cases hk; omega))
  clear hH hbl h4 h3 hown hsl HC hb1
  go_wp2_with fail
  refine HS.out.mono ?_
  rintro e w2 ⟨rfl, n, os, rfl⟩
  go_wp2_with fail
  go_ret
  exact ⟨_, rfl, HFIN.out n os, HBB.out n os⟩
set_option maxRecDepth 1000000 in
set_option maxHeartbeats 1000000 in
theorem sortedL_none (c : Nat) (w : World) : Calls Try.prog 39 #[.slice none 0 c] w fun e w' => e = .returned (.slice none 0 0) ∧ w = w' := by
  go_enter Try.func39, Try.ntmps39
  go_wp2_with fail
  refine (cloneI_none 0 c _).mono ?_
  rintro e w1 ⟨rfl, rfl⟩
  go_wp2_with fail
  refine (sortStable_none none 0 _).mono ?_
  rintro e w1 ⟨rfl, rfl⟩
  go_wp2_with fail
  go_ret
  exact ⟨rfl, rfl⟩
end Go.Proofs.Ytcpcoomkapblcaa
