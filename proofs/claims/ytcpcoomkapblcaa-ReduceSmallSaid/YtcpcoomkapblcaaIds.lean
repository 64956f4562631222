import Derived.Test.YtcpcoomkapblcaaInfos
open Go Go.RowKit Go.Maps
namespace Go.Proofs.Ytcpcoomkapblcaa
open Go.Shelf
theorem int_info : (Try.prog.info? 3).map (fun i => (i.zero, i.size, i.bytes)) = some (some (.int .i64 0), 1, 8) := by kernel_rfl
set_option maxRecDepth 1000000 in
set_option maxHeartbeats 1000000 in
theorem ids_any (w : World) (p m : Nat) (T : List Inf) (c : Int) (h : Tab w p m T c) (hT : T.length ≤ 300) :
    Calls Try.prog 44 #[.pointer (some ⟨p, 0, none⟩)] w fun e w' => ∃ v, e = .returned v ∧ w'.ownsRow w.heap.size 3 1 v T.length (((sortI T).map Inf.id).map (.int .i64)) ∧ Below w.heap.size w w' := by
  obtain ⟨i0, hi, hz0, hz1, hz2⟩ := info_parts int_info
  have hS0 : (sortI T).length = T.length := by simp [sortI]
  go_enter Try.func44, Try.ntmps44
  go_wp2_with fail
  refine (infos_any _ p m T c h hT).mono ?_
  rintro e w1 ⟨v, rfl, hown, hbw⟩
  rcases hown.2 with ⟨rfl, hz⟩ | ⟨g, cap, cur, rfl, hb, hg, hg2⟩
  · have hT0 : sortI T = [] := List.eq_nil_of_length_eq_zero (by omega)
    go_wp2
    go_loopw [3, 9] (fun v i wr => v = .slice none 0 0 ∧ i = .int .i64 0 ∧ wr = w1) (fun _ _ _ => 0)
    case atStart => exact ⟨rfl, rfl, rfl⟩
    case round =>
      obtain ⟨rfl, rfl, rfl⟩ := hrel
      go_wp2
      go_ret
      rw [hz, hT0]
      exact ⟨_, rfl, World.ownsRow_nil _ _ _ _, hbw⟩
  · go_wp2
    have hsz1 := hbw.size
    have hgl : g < w1.heap.size := (Array.getElem?_eq_some_iff.1 hg).1
    go_loopw [3, 9] (fun v i wr => ∃ k : Nat, k ≤ T.length ∧ i = .int .i64 k ∧ wr.ownsRow w1.heap.size 3 1 v k ((((sortI T).take k).map Inf.id).map (.int .i64)) ∧ Below w1.heap.size w1 wr) (fun _ i _ => T.length - (intOf i).toNat)
    case atStart => exact ⟨0, Nat.zero_le _, rfl, World.ownsRow_nil _ _ _ _, Below.refl _ _⟩
    case round =>
      obtain ⟨k, hk, rfl, hownk, hbk⟩ := hrel
      by_cases hlt : k < T.length
      · have hownr := own_of_block hown (w' := wr) (fun j hj => by simp [Value.ownBlock] at hj; subst hj; exact hbk.block g hgl)
        obtain ⟨c0, c1, c2⟩ := row_cells hownr k (by omega)
        have hs : (sortI T).take (k + 1) = (sortI T).take k ++ [(sortI T)[k]?.getD ⟨0, 0, 0⟩] := by
          rw [List.take_succ_eq_append_getElem (by omega)]; simp [show k < (sortI T).length by omega]
        have hszk := hbk.size
        generalize hx : (sortI T)[k]?.getD ⟨0, 0, 0⟩ = x at *
        have Hx := Lib.hid hx; clear hx
        have Hs := Lib.hid hs; clear hs
        have e0 : (wr.alloc (.cells #[.int .i64 x.id, .int .i64 x.lev, .int .i64 x.used] 32)).heap.size = wr.heap.size + 1 := by simp
        have hcell : ∀ j u, [Value.int .i64 x.id][j]? = some u → ((wr.alloc (.cells #[.int .i64 x.id, .int .i64 x.lev, .int .i64 x.used] 32)).alloc (.cells #[.int .i64 x.id] 3)).cell? ((⟨wr.heap.size + 1, 0, none⟩ : Addr).add j) = some u := by
          rw [← e0]; exact cell_one_new _ _ _
        go_wp2_with (at_builtin; refine wpList_append_own _ rfl _ _ 33 rfl w1.heap.size 3 i0 (.int .i64 0) 1 8 Try.underlying33 hi hz0 hz1 hz2 rfl (by decide) _ _ _ rfl ((hownk.alloc _).alloc _) ⟨wr.heap.size + 1, 0, none⟩ 1 1 [.int .i64 x.id] rfl rfl hcell (by simp [Value.oneCell']) (by simp only [maxLen]; omega) (by omega) (by simp; omega) ?_; intro v' w2 hown2 hg2 _)
        go_roundw
        case rel =>
          refine ⟨k + 1, by omega, by simp, by rw [Hs.out]; simpa using hown2, ?_⟩
          have b2 := (hbk.alloc hszk (.cells #[.int .i64 x.id, .int .i64 x.lev, .int .i64 x.used] 32)).alloc (by simp; omega) (.cells #[.int .i64 x.id] 3)
          exact b2.grown hg2 (by simp; omega) (fun j hj => own_lt hownk j hj)
        case measure => simp [intOf]; omega
      · obtain rfl : k = T.length := by omega
        go_wp2
        go_ret
        rw [← hS0, List.take_length, hS0] at hownk
        exact ⟨_, rfl, own_weaken hsz1 hownk, hbw.trans (hbk.mono hsz1)⟩
end Go.Proofs.Ytcpcoomkapblcaa
