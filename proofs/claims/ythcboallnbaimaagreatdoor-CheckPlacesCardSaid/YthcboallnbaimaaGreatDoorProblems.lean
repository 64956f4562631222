/- check: problems: all that is wrong, one after the other. -/
import Derived.Test.YthcboallnbaimaaGreatDoorAll
import Derived.Test.YthcboallnbaimaaGreatDoorNetD
namespace Go.Proofs.YthcboallnbaimaaGreatDoor
open Go Go.RowKit Go.Maps
/-- All that is wrong with a light program. -/
def resP (p : ProgV) : List (Int × Int) := probs (codesP p (sizedN (countP p))) 0
theorem problems_any (p : ProgV) (w : World) : Calls Tryz.prog 50 #[.agg p.arr] w fun o w' => o = .returned (.func (.func 83) #[] #[.pointer (some ⟨w.heap.size, 0, none⟩)]) ∧ w' = w.alloc (.cells p.arr 39) := by
  have harr : ∃ a, p.arr = a := ⟨_, rfl⟩
  obtain ⟨a, ha⟩ := harr
  rw [ha]
  clear ha
  go_enter Tryz.func50, Tryz.ntmps50
  go_wp2
  go_ret
  exact ⟨rfl, rfl⟩
theorem set_yv {q mt mp n₀ B : Nat} {p : ProgV} {yv yv' : Value} {pm : Option Nat} {E : Env} {n : Int} {over : Bool} {W : World} (h : Ckr ⟨q, p, n₀, B, yv, mt, mp⟩ pm E n over W) : Ckr ⟨q, p, n₀, B, yv', mt, mp⟩ pm E n over (W.setCell ⟨q, 28, none⟩ yv') := by
  have hn : n₀ ≤ q := by have := h.q; have := h.n0; simp only at *; omega
  have hk : ∀ k o, B ≤ k → W.heap[k]? = some o → o.isCells = false → (W.setCell ⟨q, 28, none⟩ yv').heap[k]? = some o := fun k o _ hk ho =>
    (Below.heap_setCell _ _ _ k (fun e => by simp only at e; subst e; rw [h.box] at hk; cases hk; cases ho)).trans hk
  refine ⟨?_, h.params.stays (K := ⟨q, p, n₀, B, yv, mt, mp⟩) hk, map_stays h.things h.mt hk, map_stays h.procs h.mp hk, h.prog.below ((Below.refl _ _).setCell hn _), h.n0, h.q, h.mt, h.mp⟩
  simp [World.setCell, Array.getElem?_modify, h.box, CkE.cells]
/-- What the checker's contracts ask of a program: it is light, its names are not too long, the counts do not overflow. -/
structure Fit (p : ProgV) : Prop where
  heft : countP p ≤ 20000
  names : NamesOk p
  weight : weightP p ≤ 1125899906842624
theorem Fit.light {p : ProgV} (h : Fit p) : heftP p ≤ 20000 := by have := countP_light h.heft; have := h.heft; omega
set_option maxRecDepth 1000000 in
set_option maxHeartbeats 4000000 in
theorem problems1_run (p : ProgV) (n₀ : Nat) (W : World) (Bs l : Nat) (hp : RdP n₀ W p) (hn : n₀ ≤ W.heap.size) (hn0 : 0 < n₀) (hf : Fit p) (hmx : MxAt W) (hBs : W.heap[Bs]? = some (.cells p.arr 39 (0, 0)))
    (J Jx : List (Int × Int) → World → Prop) (hJ : OwnC 129 W.heap.size J) (hJx : OwnC 129 W.heap.size Jx)
    (hY : ∀ pre (x : Int × Int) W1, J pre W1 → pre.length < 1000000 → YieldAt Fence.wide 0 Tryz.prog l #[.agg #[.int .i64 x.1, .int .i64 x.2]] W1 fun e W' =>
      (e = .returned (.bool true) ∧ J (pre ++ [x]) W' ∧ KeepsT TK W.heap.size W1 W' ∧ Below n₀ W1 W') ∨ (e = .returned (.bool false) ∧ Jx (pre ++ [x]) W' ∧ KeepsT TK W.heap.size W1 W' ∧ Below n₀ W1 W'))
    (h0 : J [] W) : Calls Tryz.prog 83 #[.func (.yield l) #[] #[], .pointer (some ⟨Bs, 0, none⟩)] W fun o W' => (∃ v, o = .returned v) ∧ (J (resP p) W' ∨ ∃ pre, pre ≠ [] ∧ pre <+: resP p ∧ Jx pre W') := by
  have hNW := new_any W p n₀ W.heap.size hp hn (Nat.le_refl _)
  rw [arr_val] at hNW
  have HNW := Lib.hid hNW
  have HBS := Lib.hid hBs
  have HY := Lib.hid hY
  clear hNW hBs hY hp
  go_enter Tryz.func83, Tryz.ntmps83
  obtain ⟨v8, hv8⟩ : ∃ v, Value.agg p.arr = v := ⟨_, rfl⟩
  rw [hv8] at HNW
  go_upto_region 1 with (first | (refine wpList_load_row rfl 39 _ rfl Bs rfl 39 _ (0, 0) _ HBS.out Tryz.underlying39 rfl (arr_size p) ?_) | (go_at_call 66; refine HNW.out.mono ?_; rintro o2 w2 ⟨q, mt, mp, rfl, hck, hq, hmt, hmp, hb2⟩) | fail)
  have f28 := hck.frozen 28
  have c28 := hck.c28
  have hck2 := set_yv (yv' := .func (.yield l) #[] #[]) hck
  have hJ2 : J [] (w2.setCell ⟨q, 28, none⟩ (.func (.yield l) #[] #[])) := hJ.cell _ (hJ.new h0 hb2) hq hck.box
  have hmx2 : MxAt (w2.setCell ⟨q, 28, none⟩ (.func (.yield l) #[] #[])) := hmx.below ((hb2.mono hn).setCell (by simp only; omega) _) hn0
  have hst : CkSt ⟨q, p, n₀, W.heap.size, .func (.yield l) #[] #[], mt, mp⟩ J Jx none outside [] (w2.setCell ⟨q, 28, none⟩ (.func (.yield l) #[] #[])) := ⟨false, hck2, .inl ⟨rfl, hJ2⟩⟩
  have hTell : TellOk ⟨q, p, n₀, W.heap.size, .func (.yield l) #[] #[], mt, mp⟩ J Jx := tell_loop _ l rfl J Jx hJ hJx HY.out
  have hAll := all_any hJ hJx hTell hf.light hf.names hn0 hf.weight _ hst hmx2
  have HALL := Lib.hid hAll
  clear hck hck2 hJ2 hmx2 hst hTell hAll HNW HBS
  go_wp2_with fail
  refine HALL.out.mono ?_
  rintro o w3 ⟨rfl, ⟨pm, hst3⟩, hk3⟩
  have HST3 := Lib.hid hst3
  clear hst3 hk3
  go_wp2_with fail
  go_returns
  refine ⟨⟨_, rfl⟩, ?_⟩
  obtain ⟨over, -, hts⟩ := HST3.out.ex
  rcases hts with ⟨_, h⟩ | ⟨_, pre, h1, h2, h3⟩
  · exact .inl h
  · exact .inr ⟨pre, h1, h2, h3⟩
theorem problems_seq (p : ProgV) (n₀ : Nat) (w : World) (Bs : Nat) (hp : RdP n₀ w p) (hn : n₀ ≤ w.heap.size) (hn0 : 0 < n₀) (hf : Fit p) (hmx : MxAt w) (hBs : w.heap[Bs]? = some (.cells p.arr 39 (0, 0))) :
    SeqD Fence.wide 1 Tryz.prog 83 #[.pointer (some ⟨Bs, 0, none⟩)] (fun x : Int × Int => #[.agg #[.int .i64 x.1, .int .i64 x.2]]) TK 129 n₀ (fun xs => xs = resP p) (fun pre => pre ≠ [] ∧ pre <+: resP p) 1000000 w := by
  intro l J Jx W hW hJ hJx hY h0
  have hlt := (Array.getElem?_eq_some_iff.1 hBs).1
  have hs := hW.size
  refine callsIn_wide.2 ((problems1_run p n₀ W Bs l (hp.below (hW.mono hn)) (by omega) hn0 hf (hmx.below hW (by omega)) ((hW.block _ hlt).trans hBs) J Jx hJ hJx hY h0).mono ?_)
  rintro e W' ⟨h1, h2 | ⟨pre, h3, h4, h5⟩⟩
  · exact ⟨h1, .inl ⟨_, rfl, h2⟩⟩
  · exact ⟨h1, .inr ⟨pre, ⟨h3, h4⟩, h5⟩⟩
end Go.Proofs.YthcboallnbaimaaGreatDoor
