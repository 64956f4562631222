import Derived.Test.YtepacjkacjabbaaGreatDoorKAH
import Derived.Test.YtepacjkacjabbaaGreatDoorKAZ
import Derived.Test.YtepacjkacjabbaaGreatDoorKAX
import Derived.Sort.CutIn
import Derived.Test.YtepacjkacjabbaaGreatDoorKAG
namespace Go.Proofs.YtepacjkacjabbaaGreatDoor
open Go Go.RowKit
def SeqD {α : Type} (F : Fence) (n : Nat) (P : Program) (g : Nat) (lb : Array Value) (encs : α → Array Value) (T : TypeId → Bool) (Tc : TypeId) (n₀ : Nat) (S Sp : List α → Prop) (N : Nat) (w : World) : Prop :=
 ∀ (l : Nat) (J Jx : List α → World → Prop) (W : World), Below w.heap.size w W → OwnC Tc W.heap.size J → OwnC Tc W.heap.size Jx →
   (∀ pre x W1, J pre W1 → pre.length < N → YieldAt F (n - 1) P l (encs x) W1 fun e W' =>
     (e = .returned (.bool true) ∧ J (pre ++ [x]) W' ∧ KeepsT T W.heap.size W1 W' ∧ Below n₀ W1 W') ∨ (e = .returned (.bool false) ∧ Jx (pre ++ [x]) W' ∧ KeepsT T W.heap.size W1 W' ∧ Below n₀ W1 W')) →
   J [] W →
   CallsIn F n P g (#[.func (.yield l) #[] #[]] ++ lb) W fun e W' => (∃ v, e = .returned v) ∧ ((∃ xs, S xs ∧ J xs W') ∨ (∃ pre, Sp pre ∧ Jx pre W'))
def netDPost {α : Type} (T : TypeId → Bool) (B n₀ : Nat) (I : List α → World → Prop) (Ix : Code → List α → World → Prop) (xs : List α) (W : World) : Exit → Act → World → Prop
 | .normal, _, W' => KeepsT T B W W' ∧ Below n₀ W W' ∧ I xs W'
 | .ret, _, W' => KeepsT T B W W' ∧ Below n₀ W W' ∧ Ix .ret xs W'
 | .exit id, _, W' => KeepsT T B W W' ∧ Below n₀ W W' ∧ Ix (.exit id) xs W'
 | .goto t, _, W' => KeepsT T B W W' ∧ Below n₀ W W' ∧ Ix (.goto t) xs W'
 | _, _, _ => False
variable {F : Fence} {n : Nat} {P : Program} {w : World}
theorem wpIn_rangeFunc_netD {α : Type} {g : Operand} {ps : Array Tmp} {assign body : Code} {Q : Exit → Act → World → Prop} {a : Act} {w : World}
   (hro : F.round = none) (h1 : F.depth.isSome = true → 1 ≤ n) {gf : Nat} {lb : Array Value} (hg : a.eval g = .func (.func gf) #[] lb) (hFg : F.fn gf) (eg : ∀ args w, (callFunc gf args).run P w = .ok (.enter gf args) w)
   {encs : α → Array Value} {T : TypeId → Bool} {n₀ : Nat} {S Sp : List α → Prop} {N : Nat} {w0 : World} {Tc : TypeId} (hseq : SeqD F (n - 1) P gf lb encs T Tc n₀ S Sp N w0) (hn₀ : n₀ ≤ w.heap.size) (hb0 : Below w0.heap.size w0 w) (hps : ∀ x, (encs x).size = ps.size)
   (I : List α → World → Prop) (Ix : Code → List α → World → Prop) (hI : OwnC Tc w.heap.size I) (hIx : ∀ c, OwnC Tc w.heap.size (Ix c)) (h0 : I [] w) (Ax : α → Act → World → Prop) (hAx : ∀ x a', OwnC Tc w.heap.size (fun (_ : Unit) W => Ax x a' W))
   (hassign : ∀ (l : Nat) (pre : List α) (x : α) (W : World) (K : Act → World → Prop), I pre W → (∀ a' W', KeepsT T w.heap.size W W' → Below n₀ W W' → I pre W' → Ax x a' W' → K a' W') →
     assign.wpIn (F.inRound l) (n - 1 - 1) P (Exit.then K (fun _ _ _ => False)) { tmps := (ps.zip (encs x)).foldl (fun t (p, v) => t.setIfInBounds p v) a.tmps, defers := [] } W)
   (hbody : ∀ (l : Nat) (pre : List α) (x : α) (a' : Act) (W : World), w.heap.size ≤ l → I pre W → Ax x a' W → pre.length < N → body.wpIn (F.inRound l) (n - 1 - 1) P (netDPost T w.heap.size n₀ I Ix (pre ++ [x]) W) a' W)
   (hdone : ∀ (D : Nat) (xs : List α) (W : World), w.heap.size ≤ D → S xs → I xs W → W.heap[D]? = some (.deferred (some [])) → Q .normal { a with defers := { target := .collected D, args := #[] } :: a.defers } W)
   (hstop : ∀ (D : Nat) (c : Code) (pre : List α) (W : World), w.heap.size ≤ D → Sp pre → Ix c pre W → W.heap[D]? = some (.deferred (some [])) → c.wpIn F n P Q { a with defers := { target := .collected D, args := #[] } :: a.defers } W) :
   (Code.rangeFunc g ps assign body).wpIn F n P Q a w := by
 refine wpIn_rangeFunc ?_
 intro fn hfn
 rw [hro]
 obtain ⟨rec, hrec⟩ : ∃ rec : LoopState → Option Code → Loop, rec = fun st pe => { state := st, pending := pe, fn, tmps := a.tmps, params := ps, assign, body, defers := w.heap.size } := ⟨_, rfl⟩
 obtain ⟨W1, hW1⟩ : ∃ W1, (w.alloc (.deferred (some []))).alloc (.loop (rec .ready none)) = W1 := ⟨_, rfl⟩
 have hL1 : W1.heap[w.heap.size + 1]? = some (.loop (rec .ready none)) := by
   rw [← hW1]; have := World.alloc_heap_new (w.alloc (.deferred (some []))) (.loop (rec .ready none)); rwa [World.size_alloc] at this
 have hK1 : W1.heap[w.heap.size]? = some (.deferred (some [])) := by
   rw [← hW1]; exact (Below.heap_alloc _ _ _ (by simp)).trans (World.alloc_heap_new w _)
 have hI1 : I [] W1 := by rw [← hW1]; exact hI.alloc _ (hI.alloc _ h0)
 have hsz1 : W1.heap.size = w.heap.size + 2 := by rw [← hW1]; simp
 have hbw : Below w.heap.size w W1 := by rw [← hW1]; exact ((Below.refl _ w).alloc (Nat.le_refl _) _).alloc (by simp) _
 have hb1 : Below w0.heap.size w0 W1 := hb0.trans (hbw.mono hb0.size)
 refine ⟨w.heap.size + 1, [{ target := .collected w.heap.size, args := #[] }], W1, { target := .fn (.func gf) lb, args := #[.func (.yield (w.heap.size + 1)) #[] #[]] }, W1, gf,
   #[.func (.yield (w.heap.size + 1)) #[] #[]] ++ lb, W1, ?_, ?_, ?_, ?_, h1, ?_⟩
 · rw [← hW1, hrec]; exact run_enterLoop_outer _ _ _ _ _
 · simp only [resolve, hg]
   simp [go_sem]
 · intro f' hf'; simp [Target.leads] at hf'; subst hf'; exact hFg
 · simp [invoke, go_sem, eg]
 · have hrow : ∀ {A : World} {row : Option Nat}, (∀ r, row = some r → W1.heap.size ≤ r ∧ ∃ o : Obj, A.heap[r]? = some o ∧ (o.isCells = false ∨ ∃ cs fr, o = .cells cs Tc fr)) → (∀ r, row = some r → w.heap.size ≤ r ∧ ∃ o : Obj, A.heap[r]? = some o ∧ (o.isCells = false ∨ ∃ cs fr, o = .cells cs Tc fr)) :=
     fun hr r e => ⟨by have := (hr r e).1; omega, (hr r e).2⟩
   have hstay : ∀ {A B : World} {row : Option Nat} {k : Nat} {o : Obj}, k < W1.heap.size → A.heap[k]? = some o → A.grownBy B row → (∀ r, row = some r → W1.heap.size ≤ r ∧ ∃ o : Obj, A.heap[r]? = some o ∧ (o.isCells = false ∨ ∃ cs fr, o = .cells cs Tc fr)) → B.heap[k]? = some o :=
     fun {A B row k o} hk h hg' hr => (hg'.block k (Array.getElem?_eq_some_iff.1 h).1 (fun e => by have := (hr k e.symm).1; omega)).trans h
   refine (hseq (w.heap.size + 1)
     (fun pre W => I pre W ∧ W.heap[w.heap.size + 1]? = some (.loop (rec .ready none)) ∧ W.heap[w.heap.size]? = some (.deferred (some [])))
     (fun pre W => ∃ c, Ix c pre W ∧ W.heap[w.heap.size + 1]? = some (.loop (rec .done (some c))) ∧ W.heap[w.heap.size]? = some (.deferred (some [])))
     W1 hb1
     (fun s A B row hs hg' hr => ⟨hI s A B row hs.1 hg' (hrow hr), hstay (by omega) hs.2.1 hg' hr, hstay (by omega) hs.2.2 hg' hr⟩)
     (fun s A B row hs hg' hr => by
       obtain ⟨c, hc, hl, hk⟩ := hs
       exact ⟨c, hIx c s A B row hc hg' (hrow hr), hstay (by omega) hl hg' hr, hstay (by omega) hk hg' hr⟩)
     ?_ ⟨hI1, hL1, hK1⟩).mono ?_
   · rintro pre x W ⟨hi, hl, hk⟩ hlen
     have hlt : w.heap.size + 1 < W.heap.size := (Array.getElem?_eq_some_iff.1 hl).1
     have hy := run_yield (P := P) (args := encs x) hl (by rw [hrec]; exact hps x)
     rw [hrec] at hy
     refine ⟨fn, _, assign, body, hy, roundIn_of_wpIn hfn (hassign _ pre x W _ hi ?_)⟩
     clear hy
     intro a' Wa hka hba hia hax
     replace hl := hka.same _ _ (by omega) hl rfl
     replace hk := hka.same _ _ (Nat.le_refl _) hk rfl
     replace hlt : w.heap.size + 1 < Wa.heap.size := (Array.getElem?_eq_some_iff.1 hl).1
     clear hi
     refine ⟨_, run_beginRound hl (by rw [hrec]), ?_⟩
     have hl2 : (Wa.putObj (w.heap.size + 1) (.loop { rec .ready none with state := .busy })).heap[w.heap.size + 1]? = some (.loop { rec .ready none with state := .busy }) := World.putObj_heap_same hlt
     have hk2 : (Wa.putObj (w.heap.size + 1) (.loop { rec .ready none with state := .busy })).heap[w.heap.size]? = some (.deferred (some [])) := (World.putObj_heap_other (by omega)).trans hk
     refine wpIn_mono (hbody _ pre x a' _ (by omega) (hI.putObj _ hia (by omega) hl rfl) ((hAx x a').putObj (s := ()) _ hax (by omega) hl rfl) hlen) ?_
     have fin : ∀ (jump : Option Code) (W3 : World), KeepsT T w.heap.size (Wa.putObj (w.heap.size + 1) (.loop { rec .ready none with state := .busy })) W3 →
         ∃ W4, (Instr.endRound (w.heap.size + 1) jump).run P W3 = .ok (.bool jump.isNone) W4 ∧ W4 = W3.putObj (w.heap.size + 1) (.loop (rec (if jump.isNone then .ready else .done) jump)) ∧
         W3.heap[w.heap.size + 1]? = some (.loop { rec .ready none with state := .busy }) ∧
         W4.heap[w.heap.size + 1]? = some (.loop (rec (if jump.isNone then .ready else .done) jump)) ∧ W4.heap[w.heap.size]? = some (.deferred (some [])) ∧ KeepsT T W1.heap.size W W4 := fun jump W3 hk3 => by
       have hl3 := hk3.same _ _ (by omega) hl2 rfl
       have hr := run_endRound (P := P) jump hl3
       rw [hrec] at hr
       refine ⟨_, hr, by rw [hrec], by rw [hrec] at hl3; rw [hrec]; exact hl3, ?_, (World.putObj_heap_other (by omega)).trans (hk3.same _ _ (Nat.le_refl _) hk2 rfl), ?_⟩
       · rw [hrec]; exact World.putObj_heap_same (Array.getElem?_eq_some_iff.1 hl3).1
       · exact ((hka.up (by omega)).trans (KeepsT.put _ (by omega) hl rfl)).trans ((hk3.up (by omega)).trans (KeepsT.put _ (by omega) hl3 rfl))
     rintro e a3 W3 hp
     cases e with
     | normal =>
       obtain ⟨hk3, hb3, hi3⟩ := hp
       obtain ⟨W4, hr, rfl, hl3, hl4, hk4, hkf⟩ := fin none W3 hk3
       exact ⟨_, _, hr, .inl ⟨rfl, ⟨hI.putObj _ hi3 (by omega) hl3 rfl, hl4, hk4⟩, hkf, (hba.trans ((below_put Wa _ (by omega)).trans hb3)).trans (below_put W3 _ (by omega))⟩⟩
     | ret =>
       obtain ⟨hk3, hb3, hi3⟩ := hp
       obtain ⟨W4, hr, rfl, hl3, hl4, hk4, hkf⟩ := fin (some .ret) W3 hk3
       exact ⟨_, _, hr, .inr ⟨rfl, ⟨.ret, (hIx _).putObj _ hi3 (by omega) hl3 rfl, hl4, hk4⟩, hkf, (hba.trans ((below_put Wa _ (by omega)).trans hb3)).trans (below_put W3 _ (by omega))⟩⟩
     | exit id =>
       obtain ⟨hk3, hb3, hi3⟩ := hp
       obtain ⟨W4, hr, rfl, hl3, hl4, hk4, hkf⟩ := fin (some (.exit id)) W3 hk3
       exact ⟨_, _, hr, .inr ⟨rfl, ⟨.exit id, (hIx _).putObj _ hi3 (by omega) hl3 rfl, hl4, hk4⟩, hkf, (hba.trans ((below_put Wa _ (by omega)).trans hb3)).trans (below_put W3 _ (by omega))⟩⟩
     | goto t =>
       obtain ⟨hk3, hb3, hi3⟩ := hp
       obtain ⟨W4, hr, rfl, hl3, hl4, hk4, hkf⟩ := fin (some (.goto t)) W3 hk3
       exact ⟨_, _, hr, .inr ⟨rfl, ⟨.goto t, (hIx _).putObj _ hi3 (by omega) hl3 rfl, hl4, hk4⟩, hkf, (hba.trans ((below_put Wa _ (by omega)).trans hb3)).trans (below_put W3 _ (by omega))⟩⟩
     | panic ch => exact hp.elim
     | outgrown => exact hp.elim
   · rintro e W2 ⟨⟨v, rfl⟩, (⟨xs, hS, hi, hl, hk⟩ | ⟨pre, hSp, c, hi, hl, hk⟩)⟩
     · exact ⟨none, _, by have := run_endLoop (P := P) hl (by rw [hrec]; simp); rw [hrec] at this; exact this,
         hdone w.heap.size xs _ (Nat.le_refl _) hS (hI.putObj _ hi (by omega) hl rfl) ((World.putObj_heap_other (by omega)).trans hk)⟩
     · exact ⟨some c, _, by have := run_endLoop (P := P) hl (by rw [hrec]; simp); rw [hrec] at this; exact this,
         hstop w.heap.size c pre _ (Nat.le_refl _) hSp ((hIx c).putObj _ hi (by omega) hl rfl) ((World.putObj_heap_other (by omega)).trans hk)⟩
end Go.Proofs.YtepacjkacjabbaaGreatDoor
namespace Go.Proofs.YtepacjkacjabbaaGreatDoor
open Go Go.RowKit Go.Maps
def resP (p : ProgV) : List (Int × Int) := probs (codesP p (sizedN (countP p))) 0
theorem problems_any (p : ProgV) (w : World) : Calls Tryz.prog 168 #[.agg p.arr] w fun o w' => o = .returned (.func (.func 202) #[] #[.pointer (some ⟨w.heap.size, 0, none⟩)]) ∧ w' = w.alloc (.cells p.arr 35) := by
 have harr : ∃ a, p.arr = a := ⟨_, rfl⟩
 obtain ⟨a, ha⟩ := harr
 rw [ha]
 clear ha
 go_enter Tryz.func168, Tryz.ntmps168
 go_wp2
 go_ret
 exact ⟨rfl, rfl⟩
theorem set_yv {q mt mp n₀ B : Nat} {p : ProgV} {yv yv' : Value} {pm : Option Nat} {E : Env} {n : Int} {over : Bool} {W : World} (h : Ckr ⟨q, p, n₀, B, yv, mt, mp⟩ pm E n over W) : Ckr ⟨q, p, n₀, B, yv', mt, mp⟩ pm E n over (W.setCell ⟨q, 28, none⟩ yv') := by
 have hn : n₀ ≤ q := by have := h.q; have := h.n0; simp only at *; omega
 have hk : ∀ k o, B ≤ k → W.heap[k]? = some o → o.isCells = false → (W.setCell ⟨q, 28, none⟩ yv').heap[k]? = some o := fun k o _ hk ho =>
   (Below.heap_setCell _ _ _ k (fun e => by simp only at e; subst e; rw [h.box] at hk; cases hk; cases ho)).trans hk
 refine ⟨?_, h.params.stays (K := ⟨q, p, n₀, B, yv, mt, mp⟩) hk, map_stays h.things h.mt hk, map_stays h.procs h.mp hk, h.prog.below ((Below.refl _ _).setCell hn _), h.n0, h.q, h.mt, h.mp⟩
 simp [World.setCell, Array.getElem?_modify, h.box, CkE.cells]
structure Fit (p : ProgV) : Prop where
 heft : countP p ≤ 20000
 names : NamesOk p
 weight : weightP p ≤ 1125899906842624
theorem Fit.light {p : ProgV} (h : Fit p) : heftP p ≤ 20000 := by have := countP_light h.heft; have := h.heft; omega
set_option maxRecDepth 1000000 in
set_option maxHeartbeats 4000000 in
theorem problems1_run (p : ProgV) (n₀ : Nat) (W : World) (Bs l : Nat) (hp : RdP n₀ W p) (hn : n₀ ≤ W.heap.size) (hn0 : 0 < n₀) (hf : Fit p) (hmx : MxAt W) (hBs : W.heap[Bs]? = some (.cells p.arr 35 (0, 0)))
   (J Jx : List (Int × Int) → World → Prop) (hJ : OwnC 246 W.heap.size J) (hJx : OwnC 246 W.heap.size Jx)
   (hY : ∀ pre (x : Int × Int) W1, J pre W1 → pre.length < 1000000 → YieldAt Fence.wide 0 Tryz.prog l #[.agg #[.int .i64 x.1, .int .i64 x.2]] W1 fun e W' =>
     (e = .returned (.bool true) ∧ J (pre ++ [x]) W' ∧ KeepsT TK W.heap.size W1 W' ∧ Below n₀ W1 W') ∨ (e = .returned (.bool false) ∧ Jx (pre ++ [x]) W' ∧ KeepsT TK W.heap.size W1 W' ∧ Below n₀ W1 W'))
   (h0 : J [] W) : Calls Tryz.prog 202 #[.func (.yield l) #[] #[], .pointer (some ⟨Bs, 0, none⟩)] W fun o W' => (∃ v, o = .returned v) ∧ (J (resP p) W' ∨ ∃ pre, pre ≠ [] ∧ pre <+: resP p ∧ Jx pre W') := by
 have hNW := new_any W p n₀ W.heap.size hp hn (Nat.le_refl _)
 rw [arr_val] at hNW
 have HNW := Lib.hid hNW
 have HBS := Lib.hid hBs
 have HY := Lib.hid hY
 clear hNW hBs hY hp
 go_enter Tryz.func202, Tryz.ntmps202
 obtain ⟨v8, hv8⟩ : ∃ v, Value.agg p.arr = v := ⟨_, rfl⟩
 rw [hv8] at HNW
 go_upto_region 1 with (first | (refine wpList_load_row rfl 35 _ rfl Bs rfl 35 _ (0, 0) _ HBS.out Tryz.underlying35 rfl (arr_size p) ?_) | (go_at_call 203; refine HNW.out.mono ?_; rintro o2 w2 ⟨q, mt, mp, rfl, hck, hq, hmt, hmp, hb2⟩) | fail)
 have f28 := hck.frozen 28
 have c28 := hck.c28
 have hck2 := set_yv (yv' := .func (.yield l) #[] #[]) hck
 have hJ2 : J [] (w2.setCell ⟨q, 28, none⟩ (.func (.yield l) #[] #[])) := hJ.cell _ (hJ.new h0 hb2) hq hck.box
 have hmx2 : MxAt (w2.setCell ⟨q, 28, none⟩ (.func (.yield l) #[] #[])) := hmx.below ((hb2.mono hn).setCell (by simp only; omega) _) hn0
 have hst : CkSt ⟨q, p, n₀, W.heap.size, .func (.yield l) #[] #[], mt, mp⟩ J Jx none outside [] (w2.setCell ⟨q, 28, none⟩ (.func (.yield l) #[] #[])) := ⟨false, hck2, .inl ⟨rfl, hJ2⟩⟩
 have hTell : TellOk ⟨q, p, n₀, W.heap.size, .func (.yield l) #[] #[], mt, mp⟩ J Jx := tell_loop _ l rfl J Jx hJ hJx HY.out
 have hAll := all_any hJ hJx hTell hf.light hf.names hn0 hf.weight _ hst hmx2
 have HALL := Lib.hid hAll
 clear hck hck2 hJ2 hmx2 hst hTell hAll HNW HBS
 go_wp2_with fail
 refine HALL.out.mono ?_
 rintro o w3 ⟨rfl, ⟨pm, hst3⟩, hk3⟩
 have HST3 := Lib.hid hst3
 clear hst3 hk3
 go_wp2_with fail
 go_returns
 refine ⟨⟨_, rfl⟩, ?_⟩
 obtain ⟨over, -, hts⟩ := HST3.out.ex
 rcases hts with ⟨_, h⟩ | ⟨_, pre, h1, h2, h3⟩
 · exact .inl h
 · exact .inr ⟨pre, h1, h2, h3⟩
theorem problems_seq (p : ProgV) (n₀ : Nat) (w : World) (Bs : Nat) (hp : RdP n₀ w p) (hn : n₀ ≤ w.heap.size) (hn0 : 0 < n₀) (hf : Fit p) (hmx : MxAt w) (hBs : w.heap[Bs]? = some (.cells p.arr 35 (0, 0))) :
   SeqD Fence.wide 1 Tryz.prog 202 #[.pointer (some ⟨Bs, 0, none⟩)] (fun x : Int × Int => #[.agg #[.int .i64 x.1, .int .i64 x.2]]) TK 246 n₀ (fun xs => xs = resP p) (fun pre => pre ≠ [] ∧ pre <+: resP p) 1000000 w := by
 intro l J Jx W hW hJ hJx hY h0
 have hlt := (Array.getElem?_eq_some_iff.1 hBs).1
 have hs := hW.size
 refine callsIn_wide.2 ((problems1_run p n₀ W Bs l (hp.below (hW.mono hn)) (by omega) hn0 hf (hmx.below hW (by omega)) ((hW.block _ hlt).trans hBs) J Jx hJ hJx hY h0).mono ?_)
 rintro e W' ⟨h1, h2 | ⟨pre, h3, h4, h5⟩⟩
 · exact ⟨h1, .inl ⟨_, rfl, h2⟩⟩
 · exact ⟨h1, .inr ⟨pre, ⟨h3, h4⟩, h5⟩⟩
end Go.Proofs.YtepacjkacjabbaaGreatDoor
namespace Go.Proofs.YtepacjkacjabbaaGreatDoor
open Go Go.RowKit Go.Maps
attribute [local go_sem] Oper.semAt_some
theorem wpListIn_load_row {F : Fence} {n : Nat} {P : Program} {ops : Array Oper} {rest : List Oper} {o : Oper} {a : Act} {w : World} {Q : Exit → Act → World → Prop} (hgd : o.guard = none) (ty : TypeId) (x : Operand) (ho : o.op = .load ty x)
   (g : Nat) (hx : a.eval x = .pointer (some ⟨g, 0, none⟩)) (t : TypeId) (cs : Array Value) (fr : Nat × Nat) (d : TypeDesc) (hg : w.heap[g]? = some (.cells cs t fr))
   (hu : P.underlying ty = some d) (hd : (match d with | .struct _ | .array _ _ => true | _ => false) = true) (hi : (P.info? ty).map (·.size) = some cs.size)
   (h : wpListIn F n P ops Q rest (a.put o.dst (.agg cs)) w) : wpListIn F n P ops Q (o :: rest) a w :=
 wpListIn_plain hgd fun K hK => by
   unfold Oper.wpIn
   refine ⟨?_, ?_⟩
   · simp [Oper.about, ho]
   · rw [Oper.semAt_plain F _ _ (by rw [ho]; intro c hc'; cases hc')]
     simp only [execOp, ho, hx, Instr.loadAt, Instr.sureAddr, Sem.run_bind, Sem.run_pure, Result.andThen_ok, run_loadVar_row w g t ty cs fr d hg hu hd hi]
     exact hK _ _ h
def checkP (p : ProgV) : Int × Int := if countP p ≤ 20000 then (resP p).headD (0, 0) else (0, 5)
def intBox (W : World) (q : Nat) (t : TypeId) (v : Int) : Prop := W.heap[q]? = some (.cells #[.int .i64 v] t (0, 0))
theorem intBox_own {B q : Nat} {t : TypeId} {v : Int} {W W' : World} {row : Option Nat} (h : intBox W q t v) (hg : W.grownBy W' row) (hr : ∀ r, row = some r → B ≤ r ∧ ∃ o : Obj, W.heap[r]? = some o ∧ (o.isCells = false ∨ ∃ cs fr, o = .cells cs 246 fr)) (ht : t ≠ 246) : intBox W' q t v :=
 (hg.block q (Array.getElem?_eq_some_iff.1 (h : W.heap[q]? = _)).1 (fun e => by
   obtain ⟨_, o, ho, hc⟩ := hr q e.symm
   rw [(h : W.heap[q]? = _)] at ho
   cases ho
   rcases hc with hc | ⟨cs, fr, hc⟩
   · cases hc
   · cases hc; exact ht rfl)).trans h
theorem two_set {B n₀ p e : Nat} {tp te : TypeId} {a b a' b' : Int} {W : World} (hP : intBox W p tp a) (hE : intBox W e te b) (hne : p ≠ e) (h1 : TK tp = false) (h2 : TK te = false) (hp : n₀ ≤ p) (he : n₀ ≤ e) :
   KeepsT TK B W ((W.drew.setCell ⟨p, 0, none⟩ (.int .i64 a')).setCell ⟨e, 0, none⟩ (.int .i64 b')) ∧ Below n₀ W ((W.drew.setCell ⟨p, 0, none⟩ (.int .i64 a')).setCell ⟨e, 0, none⟩ (.int .i64 b')) ∧
   intBox ((W.drew.setCell ⟨p, 0, none⟩ (.int .i64 a')).setCell ⟨e, 0, none⟩ (.int .i64 b')) p tp a' ∧ intBox ((W.drew.setCell ⟨p, 0, none⟩ (.int .i64 a')).setCell ⟨e, 0, none⟩ (.int .i64 b')) e te b' := by
 have hbd : Below W.heap.size W W.drew := (Below.refl _ _).drew
 have hP0 : intBox W.drew p tp a := hP
 have hE0 : intBox W.drew e te b := hE
 have hE1 : intBox (W.drew.setCell ⟨p, 0, none⟩ (.int .i64 a')) e te b := (Below.heap_setCell _ _ _ _ (fun h => hne (by simpa using h.symm))).trans hE0
 have hP1 : intBox (W.drew.setCell ⟨p, 0, none⟩ (.int .i64 a')) p tp a' := (show Boxed W.drew p tp (.int .i64 a) from hP0).set (.int .i64 a')
 refine ⟨((KeepsT.of_below hbd).trans (KeepsT.set (a := ⟨p, 0, none⟩) hP0 h1 _)).trans (KeepsT.set (a := ⟨e, 0, none⟩) hE1 h2 _), ((Below.refl _ W).drew.setCell (p := ⟨p, 0, none⟩) hp _).setCell (p := ⟨e, 0, none⟩) he _, ?_, (show Boxed (W.drew.setCell ⟨p, 0, none⟩ (.int .i64 a')) e te (.int .i64 b) from hE1).set (.int .i64 b')⟩
 exact (Below.heap_setCell _ _ _ _ (fun h => hne (by simpa using h))).trans hP1
set_option maxRecDepth 1000000 in
set_option maxHeartbeats 4000000 in
theorem check_any (w : World) (p : ProgV) (hp : RdP w.heap.size w p) (hn0 : 0 < w.heap.size) (hN : NamesOk p) (hwt : weightP p ≤ 1125899906842624) (hmx : MxAt w) :
   Calls Tryz.prog 108 #[p.val] w fun o w' => o = .returned (.tuple #[.int .i64 (checkP p).1, .int .i64 (checkP p).2]) ∧ Below w.heap.size w w' := by
 refine (callsIn_wide (n := 2)).1 ?_
 have hb1 : Below w.heap.size w (w.alloc (.cells p.arr 35)) := (Below.refl _ _).alloc (Nat.le_refl _) _
 have hB := World.alloc_heap_new w (.cells p.arr 35)
 have hLG := lightP_any _ p ((hp.below hb1).more (Nat.le_of_lt (by simp : w.heap.size < (w.alloc (.cells p.arr 35)).heap.size))) hwt
 have hPR := fun W => problems_any p W
 rw [arr_val] at hLG ⊢
 obtain ⟨arr, harr⟩ : ∃ a, p.arr = a := ⟨_, rfl⟩
 have harrs := arr_size p
 rw [harr] at hLG hPR hb1 hB harrs ⊢
 have HLG := Lib.hid hLG
 have HPR := Lib.hid hPR
 have HB := Lib.hid hB
 have HARR := Lib.hid harr
 have HP := Lib.hid hp
 have HB1 := Lib.hid hb1
 clear hLG hPR hB harr hp hb1
 by_cases hl : countP p ≤ 20000
 · have hf : Fit p := ⟨hl, hN, hwt⟩
   have hck : checkP p = (resP p).headD (0, 0) := if_pos hl
   rw [decide_eq_true hl] at HLG
   have HF := Lib.hid hf
   have HCK := Lib.hid hck
   clear hl hf hck hN hwt
   refine callsIn_of_wp_marks Tryz.func108 rfl trivial ?_ rfl
   simp only [Tryz.ntmps108, List.size_toArray, List.length_cons, List.length_nil, Nat.reduceAdd, Nat.reduceSub, Array.replicate_succ, Array.replicate_zero, List.push_toArray, List.append_toArray, List.nil_append, List.cons_append]
   gi_wp2
   refine wpIn_wide.2 (wp_scope_straight (wpIn_wide (n := 2).1 ?_))
   gi_wp2_with (first | (refine wpListIn_load_row rfl 35 _ rfl w.heap.size rfl 35 _ (0, 0) _ HB.out Tryz.underlying35 rfl harrs ?_) | (refine ⟨trivial, ?_⟩; gi_at_call 112; refine (callsIn_wide.2 HLG.out).mono ?_; rintro o3 w3 ⟨rfl, hb3⟩; have HB3 := Lib.hid hb3; clear hb3) | fail)
   have hszA : w.heap.size < (w.alloc (.cells arr 35)).heap.size := by simp
   have hb3w : Below w.heap.size w w3 := HB1.out.trans (HB3.out.mono (by omega))
   have hbox3 : w3.heap[w.heap.size]? = some (.cells arr 35 (0, 0)) := (HB3.out.block _ hszA).trans HB.out
   have hs3 : w.heap.size < w3.heap.size := (Array.getElem?_eq_some_iff.1 hbox3).1
   have hP1 : intBox ((w3.alloc (.cells #[.int .i64 0] 3)).alloc (.cells #[.int .i64 0] 37)) w3.heap.size 3 0 := (Below.heap_alloc _ _ _ (by simp)).trans (World.alloc_heap_new _ _)
   have hP2 : intBox ((w3.alloc (.cells #[.int .i64 0] 3)).alloc (.cells #[.int .i64 0] 37)) (w3.heap.size + 1) 37 0 := by
     have := World.alloc_heap_new (w3.alloc (.cells #[.int .i64 0] 3)) (.cells #[.int .i64 0] 37)
     rwa [World.size_alloc] at this
   have hb4 : Below w3.heap.size w3 ((w3.alloc (.cells #[.int .i64 0] 3)).alloc (.cells #[.int .i64 0] 37)) := ((Below.refl _ _).alloc (Nat.le_refl _) _).alloc (by simp) _
   have hs4 : ((w3.alloc (.cells #[.int .i64 0] 3)).alloc (.cells #[.int .i64 0] 37)).heap.size = w3.heap.size + 2 := by simp
   generalize (w3.alloc (.cells #[.int .i64 0] 3)).alloc (.cells #[.int .i64 0] 37) = w4 at *
   have hbox4 := (hb4.block _ hs3).trans hbox3
   have HBX4 := Lib.hid hbox4
   refine wpIn_label ?_
   gi_wp2_with (first | (refine wpListIn_load_row rfl 35 _ rfl w.heap.size rfl 35 _ (0, 0) _ HBX4.out Tryz.underlying35 rfl harrs ?_) | (refine ⟨trivial, ?_⟩; gi_at_call 168; refine (callsIn_wide.2 (HPR.out _)).mono ?_; rintro o5 w5 ⟨rfl, rfl⟩) | fail)
   have hbxA := World.alloc_heap_new w4 (.cells arr 35)
   have hb5 : Below w4.heap.size w4 (w4.alloc (.cells arr 35)) := (Below.refl _ _).alloc (Nat.le_refl _) _
   have hsA : (w4.alloc (.cells arr 35)).heap.size = w3.heap.size + 3 := by simp [hs4]
   rw [hs4] at hbxA
   have hb0A : Below w.heap.size w (w4.alloc (.cells arr 35)) := (hb3w.trans (hb4.mono (by omega))).trans (hb5.mono (by omega))
   have hPA : intBox (w4.alloc (.cells arr 35)) w3.heap.size 3 0 := (hb5.block _ (by omega)).trans hP1
   have hEA : intBox (w4.alloc (.cells arr 35)) (w3.heap.size + 1) 37 0 := (hb5.block _ (by omega)).trans hP2
   generalize w4.alloc (.cells arr 35) = wA at *
   clear hP1 hP2 hb5 hbox4 HBX4
   rw [← HARR.out] at hbxA
   refine wpIn_rangeFunc_netD (T := TK) (Tc := 246) (n₀ := w.heap.size) rfl (fun h => by cases h) (gf := 202) (lb := #[.pointer (some ⟨w3.heap.size + 2, 0, none⟩)]) rfl trivial (enters_of Tryz.func202 (by kernel_rfl) rfl)
     (problems_seq p w.heap.size wA (w3.heap.size + 2) (HP.out.below hb0A) (by omega) hn0 HF.out (hmx.below hb0A hn0) hbxA) (by omega) (Below.refl _ _) (fun _ => rfl)
     (fun pre W => pre = [] ∧ wA.heap.size ≤ W.heap.size ∧ Below w.heap.size w W ∧ intBox W w3.heap.size 3 0 ∧ intBox W (w3.heap.size + 1) 37 0)
     (fun c pre W => ∃ x : Int × Int, pre = [x] ∧ c = .exit 0 ∧ Below w.heap.size w W ∧ intBox W w3.heap.size 3 x.1 ∧ intBox W (w3.heap.size + 1) 37 x.2)
     ?hI ?hIx ⟨rfl, Nat.le_refl _, hb0A, hPA, hEA⟩
     (fun x a' W => ∃ b : Nat, wA.heap.size ≤ b ∧ W.heap[b]? = some (.cells #[.int .i64 x.1, .int .i64 x.2] 206 (0, 0)) ∧ a' = { tmps := #[.agg arr, .pointer (some ⟨w.heap.size, 0, none⟩), .int .i64 0, .int .i64 0, .pointer (some ⟨w3.heap.size, 0, none⟩), .pointer (some ⟨w3.heap.size + 1, 0, none⟩), .pointer (some ⟨b, 0, none⟩), .agg arr, .bool true, .bool false, .agg arr, .func (.func 202) #[] #[.pointer (some ⟨w3.heap.size + 2, 0, none⟩)], .agg #[.int .i64 x.1, .int .i64 x.2], undef, undef, undef, undef, undef, undef], defers := [] })
     ?hAx ?assign ?body ?done ?stop
   case hI =>
     rintro s X' Y rw ⟨h1, h1s, h2, h3, h4⟩ hg hr
     exact ⟨h1, Nat.le_trans h1s hg.size, h2.grown hg h2.size (fun q hq => by have := (hr q hq).1; omega), intBox_own h3 hg hr (by decide), intBox_own h4 hg hr (by decide)⟩
   case hIx =>
     rintro c s X' Y rw ⟨x, h0, h1, h2, h3, h4⟩ hg hr
     exact ⟨x, h0, h1, h2.grown hg h2.size (fun q hq => by have := (hr q hq).1; omega), intBox_own h3 hg hr (by decide), intBox_own h4 hg hr (by decide)⟩
   case hAx =>
     rintro x a' _ X' Y rw ⟨b, h0, h1, h2⟩ hg hr
     exact ⟨b, h0, (hg.block b (Array.getElem?_eq_some_iff.1 h1).1 (fun e => by
       obtain ⟨_, o, ho, hc⟩ := hr b e.symm
       rw [h1] at ho
       cases ho
       rcases hc with hc | ⟨cs, fr, hc⟩ <;> cases hc)).trans h1, h2⟩
   case assign =>
     rintro l2 pre x Wc K ⟨h1, h1s, h2, h3, h4⟩ hK
     have hba : Below Wc.heap.size Wc (Wc.alloc (.cells #[.int .i64 x.1, .int .i64 x.2] 206)) := (Below.refl _ Wc).alloc (Nat.le_refl _) _
     gi_wp2
     exact hK _ _ (KeepsT.of_below hba) (hba.mono (by omega)) ⟨h1, Nat.le_trans h1s hba.size, h2.trans (hba.mono (by omega)), (hba.block _ (Array.getElem?_eq_some_iff.1 (h3 : Wc.heap[_]? = _)).1).trans h3, (hba.block _ (Array.getElem?_eq_some_iff.1 (h4 : Wc.heap[_]? = _)).1).trans h4⟩ ⟨_, h1s, World.alloc_heap_new _ _, rfl⟩
   case body =>
     rintro l2 pre x a' Wc hl2 ⟨rfl, h1s, h2, h3, h4⟩ ⟨b, hb0, hb, rfl⟩ hlen
     obtain ⟨q0, q1⟩ := two_cells hb
     have hH3 := Lib.hid h3
     have hH4 := Lib.hid h4
     have cP := one_cell (h3 : Wc.heap[_]? = _)
     have cE := one_cell (h4 : Wc.heap[_]? = _)
     have fP : Wc.frozen? ⟨w3.heap.size, 0, none⟩ = false := by
       have h := hH3.out
       unfold intBox at h
       simp [World.frozen?, h]
     have fE : Wc.frozen? ⟨w3.heap.size + 1, 0, none⟩ = false := by
       have h := hH4.out
       unfold intBox at h
       simp [World.frozen?, h]
     have F1 := Lib.hid (two_set (B := wA.heap.size) (n₀ := w.heap.size) (a' := x.1) (b' := x.2) h3 h4 (by omega) rfl rfl (by omega) (by omega))
     have F2 := Lib.hid (two_set (B := wA.heap.size) (n₀ := w.heap.size) (a' := x.2) (b' := x.1) h4 h3 (by omega) rfl rfl (by omega) (by omega))
     clear h3 h4 hb
     gi_wp2
     gi_region
     all_goals
       gi_wp2
       first
         | exact ⟨F1.out.1, F1.out.2.1, x, rfl, rfl, h2.trans F1.out.2.1, F1.out.2.2.1, F1.out.2.2.2⟩
         | exact ⟨F2.out.1, F2.out.2.1, x, rfl, rfl, h2.trans F2.out.2.1, F2.out.2.2.2, F2.out.2.2.1⟩
   case done =>
     rintro Dq ys Wd hD rfl ⟨h1, h1s, h2, h3, h4⟩ hK
     have cP := one_cell (h3 : Wd.heap[_]? = _)
     have cE := one_cell (h4 : Wd.heap[_]? = _)
     have hres : checkP p = (0, 0) := by rw [HCK.out, h1]; rfl
     have HR := Lib.hid hres
     have HKD := Lib.hid hK
     clear h1 hres hK h3 h4
     gi_wp2
     gi_region
     gi_wp2
     simp only [Exit.noGoto]
     refine ⟨by simp, .inl ⟨_, _, rfl, run_takeDeferred (w := Wd.drew) HKD.out, ?_⟩⟩
     exact ⟨_, results_tmp2 rfl _ _ _, by rw [HR.out]; rfl, (h2.trans ((Below.refl _ Wd).drew)).trans (below_put _ _ (by omega))⟩
   case stop =>
     rintro Dq c pre Wd hD ⟨hp1, hp2⟩ ⟨x, rfl, rfl, h2, h3, h4⟩ hK
     have cP := one_cell (h3 : Wd.heap[_]? = _)
     have cE := one_cell (h4 : Wd.heap[_]? = _)
     have hres : checkP p = x := by
       obtain ⟨r, hr⟩ := hp2
       rw [HCK.out, ← hr]; rfl
     have HR := Lib.hid hres
     have HKD := Lib.hid hK
     clear hp1 hp2 hres hK h3 h4
     gi_wp2
     gi_region
     gi_wp2
     simp only [Exit.noGoto]
     refine ⟨by simp, .inl ⟨_, _, rfl, run_takeDeferred (w := Wd.drew) HKD.out, ?_⟩⟩
     exact ⟨_, results_tmp2 rfl _ _ _, by rw [HR.out]; rfl, (h2.trans ((Below.refl _ Wd).drew)).trans (below_put _ _ (by omega))⟩
 · have hck : checkP p = (0, 5) := if_neg hl
   rw [decide_eq_false hl] at HLG
   rw [hck]
   clear hl hck hN hwt
   refine callsIn_of_wp_marks Tryz.func108 rfl trivial ?_ rfl
   simp only [Tryz.ntmps108, List.size_toArray, List.length_cons, List.length_nil, Nat.reduceAdd, Nat.reduceSub, Array.replicate_succ, Array.replicate_zero, List.push_toArray, List.append_toArray, List.nil_append, List.cons_append]
   gi_wp2
   refine wpIn_wide.2 (wp_scope_straight (wpIn_wide (n := 2).1 ?_))
   gi_wp2_with (first | (refine wpListIn_load_row rfl 35 _ rfl w.heap.size rfl 35 _ (0, 0) _ HB.out Tryz.underlying35 rfl harrs ?_) | (refine ⟨trivial, ?_⟩; gi_at_call 112; refine (callsIn_wide.2 HLG.out).mono ?_; rintro o3 w3 ⟨rfl, hb3⟩; have HB3 := Lib.hid hb3; clear hb3) | fail)
   simp only [Exit.noGoto]
   exact ⟨_, results_tmp2 rfl _ _ _, rfl, HB1.out.trans (HB3.out.mono (by simp))⟩
end Go.Proofs.YtepacjkacjabbaaGreatDoor
namespace Go.Proofs.YtepacjkacjabbaaGreatDoor
open Go Go.RowKit
def smallP (v ws : Sp) (l : List StmtV) : ProgV := ⟨1, 2, Sp.none, [], Sp.none, [], v, [⟨xB, 3, 0⟩], Sp.none, [], numE 1 1, Sp.none, [], Sp.none, [], ws, l, Sp.none, [], numE 1 1⟩
theorem initsN_of : ∀ (l : List InitV) (b : Int), b + ((l.map fun i => 1 + i.value.pre.length).sum : Nat) ≤ 20000 → initsN l b = b + ((l.map fun i => 1 + i.value.pre.length).sum : Nat)
 | [], b, _ => by simp [initsN]
 | i :: l, b, h => by
   have e : initsN (i :: l) b = initsN l (cntN i.value.pre.length (b + 1)) := rfl
   simp only [List.map_cons, List.sum_cons] at h ⊢
   rw [e, cntN_of (by omega), initsN_of l _ (by omega)]
   omega
theorem procsN_of : ∀ (l : List ProcV) (b : Int), b + ((l.map heftQ).sum : Nat) ≤ 20000 → procsN l b = b + ((l.map heftQ).sum : Nat)
 | [], b, _ => by simp [procsN]
 | q :: l, b, h => by
   have e : procsN (q :: l) b = procsN l (cntT (q.body.flatMap StmtV.pre) (b + 1 + q.params.length)) := rfl
   have e2 : heftQ q = 1 + q.params.length + heftT (q.body.flatMap StmtV.pre) := rfl
   simp only [List.map_cons, List.sum_cons] at h ⊢
   rw [e, cntT_of _ _ (by omega), procsN_of l _ (by omega)]
   omega
theorem countP_of {p : ProgV} (h : heftP p ≤ 20000) : countP p = heftP p := by
 have e : declsN p = (p.inputs.length + p.ghosts.length + p.vars.length + p.arrays.length + 1 : Nat) := by unfold declsN; omega
 unfold heftP heftL at *
 unfold countP
 have h1 : cntN p.require.pre.length (declsN p) = declsN p + p.require.pre.length := cntN_of (by omega)
 rw [h1]
 have h2 := initsN_of p.inits (declsN p + p.require.pre.length) (by omega)
 rw [h2]
 have h3 := procsN_of p.procs (declsN p + p.require.pre.length + ((p.inits.map fun i => 1 + i.value.pre.length).sum : Nat)) (by omega)
 rw [h3]
 have h4 := cntT_of (p.work.flatMap StmtV.pre) (declsN p + p.require.pre.length + ((p.inits.map fun i => 1 + i.value.pre.length).sum : Nat) + ((p.procs.map heftQ).sum : Nat)) (by omega)
 rw [h4]
 have h5 := cntT_of (p.recover.flatMap StmtV.pre) (declsN p + p.require.pre.length + ((p.inits.map fun i => 1 + i.value.pre.length).sum : Nat) + ((p.procs.map heftQ).sum : Nat) + heftT (p.work.flatMap StmtV.pre)) (by omega)
 rw [h5, cntN_of (by omega)]
 omega
theorem nodes_le (l : List StmtV) : nodesT l ≤ heftT l := by
 unfold nodesT heftT
 refine sum_le_sum _ _ _ fun s _ => ?_
 have : s.exprs.length ≤ heftX s.exprs := len_le_sum _ (fun e => pre_pos e) _
 omega
theorem weight_le (p : ProgV) : weightP p ≤ heftP p := by
 have h1 : (p.procs.map fun q => 1 + q.params.length + nodesT (q.body.flatMap StmtV.pre)).sum ≤ (p.procs.map heftQ).sum := by
   refine sum_le_sum _ _ _ fun q _ => ?_
   have := nodes_le (q.body.flatMap StmtV.pre)
   unfold heftQ heftL; omega
 have h2 := nodes_le (p.work.flatMap StmtV.pre)
 have h3 := nodes_le (p.recover.flatMap StmtV.pre)
 unfold weightP heftP heftL
 omega
theorem fit_of {p : ProgV} {k : Nat} (hk : (codesP p 0).length = k) (h : k ≤ 20000) (hN : NamesOk p) : Fit p := by
 have hh : heftP p = k := by rw [← codesP_len p 0, hk]
 exact ⟨by rw [countP_of (by omega)]; omega, hN, by have := weight_le p; omega⟩
theorem res_of {p : ProgV} {k : Nat} (hk : (codesP p 0).length = k) (h : k ≤ 20000) : resP p = probs (codesP p k) 0 := by
 have hh : heftP p = k := by rw [← codesP_len p 0, hk]
 unfold resP
 rw [countP_of (by omega), hh]
 unfold sizedN
 rw [if_pos (by omega)]
theorem check_of {p : ProgV} {k : Nat} (hk : (codesP p 0).length = k) (h : k ≤ 20000) {r : Int × Int} (hr : (probs (codesP p k) 0).headD (0, 0) = r) : checkP p = r := by
 have hh : heftP p = k := by rw [← codesP_len p 0, hk]
 unfold checkP
 rw [if_pos (by rw [countP_of (by omega)]; omega), res_of hk h, hr]
section
variable (v ws a b c d : Sp)
def loopP (rs : Sp) : ProgV := { smallP v ws [] with rs := rs, procs := [⟨⟨#[112]⟩, Sp.none, [], a, [callT b ⟨#[112]⟩ []]⟩] }
def whileT : StmtV := .mk 7 ⟨#[]⟩ a [nameE xB] 0 Sp.none [] Sp.none []
def requireP : ProgV := { smallP v ws [] with require := nameE xB }
def castE (e : ExprV) : ExprV := .mk 8 0 0 3 ⟨#[]⟩ a [e]
def twiceP : ProgV := { smallP v ws [] with vars := [⟨xB, 3, 0⟩, ⟨xB, 1, 0⟩] }
end
end Go.Proofs.YtepacjkacjabbaaGreatDoor
namespace Go.Proofs.YtepacjkacjabbaaGreatDoor
open Go
theorem preX_bare (e : ExprV) : (bareX e).pre = e.pre.map bareX := by
 induction e using ExprV.ind with
 | h k o v w n sp l ih =>
   rw [ExprV.pre_eq, ExprV.pre_eq, List.map_cons, bareX_subs, List.flatMap_map, List.map_flatMap]
   congr 1
   exact flatMap_same fun s hs => ih s hs
theorem preN_bare (e : ExprV) : (bareX e).pre.length = e.pre.length := by rw [preX_bare, List.length_map]
theorem heftX_bare (l : List ExprV) : heftX (l.map bareX) = heftX l := by
 unfold heftX
 rw [List.map_map]
 exact congrArg List.sum (List.map_congr_left fun e _ => preN_bare e)
theorem heftT_bare (l : List StmtV) : heftT (l.map bareT) = heftT l := by
 unfold heftT
 rw [List.map_map]
 refine congrArg List.sum (List.map_congr_left fun s _ => ?_)
 show 1 + heftX (bareT s).exprs = _
 rw [bareT_exprs, heftX_bare]
theorem heftL_bare (l : List StmtV) : heftL (l.map bareT) = heftL l := by
 unfold heftL
 rw [pres_bare, heftT_bare]
theorem heftP_bare (p : ProgV) : heftP (bareP p) = heftP p := by
 unfold heftP
 rw [show (bareP p).require = bareX p.require from rfl, show (bareP p).invariant = bareX p.invariant from rfl, show (bareP p).inits = p.inits.map bareI from rfl, show (bareP p).procs = p.procs.map bareQ from rfl, show (bareP p).work = p.work.map bareT from rfl, show (bareP p).recover = p.recover.map bareT from rfl, preN_bare, preN_bare, heftL_bare, heftL_bare, List.map_map, List.map_map]
 have e1 : (fun i : InitV => 1 + i.value.pre.length) ∘ bareI = fun i => 1 + i.value.pre.length := by funext i; exact congrArg (1 + ·) (preN_bare i.value)
 have e2 : heftQ ∘ bareQ = heftQ := by
   funext q
   show 1 + q.params.length + heftL (q.body.map bareT) = _
   rw [heftL_bare]
   rfl
 rw [e1, e2]
 rfl
theorem names_bare {p : ProgV} (h : NamesOk p) : NamesOk (bareP p) :=
 ⟨h.decls, fun q hq => by
   obtain ⟨q0, h0, rfl⟩ := List.mem_map.1 hq
   exact h.procs q0 h0⟩
theorem names_of_bare {p : ProgV} (h : NamesOk (bareP p)) : NamesOk p :=
 ⟨h.decls, fun q hq => h.procs (bareQ q) (List.mem_map_of_mem hq)⟩
theorem fit_same {p q : ProgV} (h : bareP p = bareP q) (hp : NamesOk q) (hl : heftP q ≤ 20000) : Fit p :=
 fit_of (by rw [codesP_len]) (by rw [← heftP_bare, h, heftP_bare]; exact hl) (names_of_bare (by rw [h]; exact names_bare hp))
theorem codes_same {p q : ProgV} (h : bareP p = bareP q) (k : Int) : codesP p k = codesP q k := by rw [← codesP_bare, h, codesP_bare]
end Go.Proofs.YtepacjkacjabbaaGreatDoor
