/- check: slices.ContainsFunc at the initial words: whether one of the first has a block. The law of a loop over an iterator that writes, as in NetC; nothing is known of what it yields but what the rounds keep. check: the state of all; what the lists of declarations tell. check: all. check: problems: all that is wrong, one after the other. check: Check: the first thing that is wrong. -/
import Derived.Test.YthcboallnbaimaaGreatDoorExpr
import Derived.Test.YthcboallnbaimaaGreatDoorNetC
import Derived.Test.YthcboallnbaimaaGreatDoorProc
import Derived.Test.YthcboallnbaimaaGreatDoorProgram
import Derived.Deep.DeepCutAuto
import Derived.Test.YthcboallnbaimaaGreatDoorLight
import Derived.Sort.CutIn
namespace Go.Proofs.YthcboallnbaimaaGreatDoor
open Go Go.RowKit Go.Maps
theorem all1_any (y : InitV) (xb : Nat) (blk : Int) (W : World) (h : W.cell? ⟨xb, 0, none⟩ = some (.int .i64 blk)) (hlt : xb < W.heap.size) :
   Calls Tryz.prog 120 #[y.val, .pointer (some ⟨xb, 0, none⟩)] W fun o w' => o = .returned (.bool (decide (y.block = blk))) ∧ Below W.heap.size W w' := by
 have hb1 : Below W.heap.size W (W.alloc (.cells #[.int .i64 y.block, .int .u8 y.value.kind, .int .u8 y.value.op, .int .u32 y.value.value, .int .i64 y.value.width, .string y.value.name, .slice y.value.sp.at_ y.value.subs.length y.value.sp.cap] 118)) := (Below.refl _ _).alloc (Nat.le_refl _) _
 have h2 := (hb1.cell (p := ⟨xb, 0, none⟩) hlt).trans h
 have HB1 := Lib.hid hb1
 clear h hb1
 simp only [InitV.val, Sp.val]
 by_cases e : y.block = blk
 · have hd : decide (y.block = blk) = true := decide_eq_true e
   have he : (y.block == blk) = true := by simpa using e
   rw [hd]
   clear hd e
   go_enter Tryz.func120, Tryz.ntmps120
   go_wp2_with fail
   go_ret
   exact ⟨rfl, HB1.out⟩
 · have hd : decide (y.block = blk) = false := decide_eq_false e
   have he : (y.block == blk) = false := by simpa using e
   rw [hd]
   clear hd e
   go_enter Tryz.func120, Tryz.ntmps120
   go_wp2_with fail
   go_ret
   exact ⟨rfl, HB1.out⟩
set_option maxRecDepth 1000000 in
set_option maxHeartbeats 2000000 in
theorem indexI_any (w : World) {n₀ : Nat} {sp : Sp} {l : List InitV} (row : RowOf n₀ w sp 7 InitV.cells l) (hn : n₀ ≤ w.heap.size) (k : Nat) (hk : k ≤ l.length) (c : Nat) (xb : Nat) (blk : Int) (hx : w.cell? ⟨xb, 0, none⟩ = some (.int .i64 blk)) (hlt : xb < w.heap.size) :
   Calls Tryz.prog 147 #[.slice sp.at_ k c, .func (.func 120) #[] #[.pointer (some ⟨xb, 0, none⟩)]] w fun o w' => (∃ z : Int, -1 ≤ z ∧ o = .returned (.int .i64 z) ∧ (0 ≤ z ↔ blk ∈ (l.take k).map InitV.block)) ∧ Below w.heap.size w w' := by
 have hll := row.few
 have HROW := Lib.hid row
 have HX := Lib.hid hx
 clear row hx
 go_enter Tryz.func147, Tryz.ntmps147
 go_wp2_with fail
 go_loopw [8] (fun i wr => ∃ j : Nat, j ≤ k ∧ i = .int .i64 j ∧ Hid (blk ∉ (l.take j).map InitV.block) ∧ Below w.heap.size w wr) (fun i _ => k - (intOf i).toNat)
 case atStart => exact ⟨0, Nat.zero_le _, rfl, Lib.hid (by simp), Below.refl _ _⟩
 case round =>
   obtain ⟨j, hj, rfl, HNO, hb⟩ := hrel
   have HB := Lib.hid hb
   clear hb
   by_cases hjk : j < k
   · have hjl : j < l.length := by omega
     obtain ⟨b, off, eA, hbn, hcell⟩ := (HROW.out.below (HB.out.mono hn)).row (by omega)
     have k0 : wr.cell? ⟨b, off + j * 7, none⟩ = some (.int .i64 l[j].block) := hcell j hjl 0 _ rfl
     have k1 : wr.cell? ⟨b, off + j * 7 + 1, none⟩ = some (.int .u8 l[j].value.kind) := hcell j hjl 1 _ rfl
     have k2 : wr.cell? ⟨b, off + j * 7 + 2, none⟩ = some (.int .u8 l[j].value.op) := hcell j hjl 2 _ rfl
     have k3 : wr.cell? ⟨b, off + j * 7 + 3, none⟩ = some (.int .u32 l[j].value.value) := hcell j hjl 3 _ rfl
     have k4 : wr.cell? ⟨b, off + j * 7 + 4, none⟩ = some (.int .i64 l[j].value.width) := hcell j hjl 4 _ rfl
     have k5 : wr.cell? ⟨b, off + j * 7 + 5, none⟩ = some (.string l[j].value.name) := hcell j hjl 5 _ rfl
     have k6 : wr.cell? ⟨b, off + j * 7 + 6, none⟩ = some (.slice l[j].value.sp.at_ l[j].value.subs.length l[j].value.sp.cap) := hcell j hjl 6 _ rfl
     have hts : l.take (j + 1) = l.take j ++ [l[j]] := List.take_succ_eq_append_getElem hjl
     have hmt : j < k → l[j].block ∈ (l.take k).map InitV.block := fun h => List.mem_map.2 ⟨l[j], by rw [List.mem_take_iff_getElem]; exact ⟨j, by omega, rfl⟩, rfl⟩
     have HTS := Lib.hid hts
     have HMT := Lib.hid hmt
     generalize l[j] = y at *
     have hxw := (HB.out.cell (p := ⟨xb, 0, none⟩) hlt).trans HX.out
     have hA1 := all1_any y xb blk wr hxw (by have := HB.out.size; omega)
     simp only [InitV.val, Sp.val] at hA1
     have hj0 : (0 : Int) ≤ (j : Int) := by omega
     have hj1 : (j : Int) < (k : Int) := by omega
     clear hcell hts hmt hxw
     rw [eA]
     clear eA
     by_cases e : y.block = blk
     · rw [decide_eq_true e] at hA1
       have HA1 := Lib.hid hA1
       have HE := Lib.hid e
       clear hA1 e
       go_wp2_with fail
       refine HA1.out.mono ?_
       rintro o w2 ⟨rfl, hb2⟩
       have HB2 := Lib.hid hb2
       clear hb2 k0 k1 k2 k3 k4 k5 k6
       go_wp2_with fail
       go_ret
       exact ⟨⟨j, by omega, rfl, iff_of_true (by omega) (by rw [← HE.out]; exact HMT.out hjk)⟩, HB.out.trans (HB2.out.mono HB.out.size)⟩
     · rw [decide_eq_false e] at hA1
       have HA1 := Lib.hid hA1
       have HE := Lib.hid e
       clear hA1 e
       go_wp2_with fail
       refine HA1.out.mono ?_
       rintro o w2 ⟨rfl, hb2⟩
       have HB2 := Lib.hid hb2
       clear hb2 k0 k1 k2 k3 k4 k5 k6
       go_wp2_with fail
       go_roundw
       case rel => exact ⟨j + 1, by omega, by go_num, Lib.hid (by
         rw [HTS.out, List.map_append, List.mem_append]
         rintro (h | h)
         · exact HNO.out h
         · simp at h; exact HE.out h.symm), HB.out.trans (HB2.out.mono HB.out.size)⟩
       case measure => simp [intOf]; omega
   · obtain rfl : j = k := by omega
     go_wp2_with fail
     go_ret
     exact ⟨⟨-1, by omega, rfl, by have := HNO.out; constructor <;> intro h; omega; exact absurd h this⟩, HB.out⟩
theorem containsI_any (w : World) {n₀ : Nat} {sp : Sp} {l : List InitV} (row : RowOf n₀ w sp 7 InitV.cells l) (hn : n₀ ≤ w.heap.size) (k : Nat) (hk : k ≤ l.length) (c : Nat) (xb : Nat) (blk : Int) (hx : w.cell? ⟨xb, 0, none⟩ = some (.int .i64 blk)) (hlt : xb < w.heap.size) :
   Calls Tryz.prog 119 #[.slice sp.at_ k c, .func (.func 120) #[] #[.pointer (some ⟨xb, 0, none⟩)]] w fun o w' => o = .returned (.bool (decide (blk ∈ (l.take k).map InitV.block))) ∧ Below w.heap.size w w' := by
 have H := Lib.hid (indexI_any w row hn k hk c xb blk hx hlt)
 obtain ⟨res, hres⟩ : ∃ res, decide (blk ∈ (l.take k).map InitV.block) = res := ⟨_, rfl⟩
 rw [hres]
 have HR := Lib.hid hres
 clear hres row hx
 go_enter Tryz.func119, Tryz.ntmps119
 go_wp2_with (first | (go_at_call 147; refine H.out.mono ?_; rintro o2 w2 ⟨⟨z, hz1, rfl, hz⟩, hb2⟩; have HZ := Lib.hid hz; have HB2 := Lib.hid hb2; clear hz hb2) | fail)
 go_ret
 exact ⟨by rw [show decide (0 ≤ z) = res by rw [← HR.out, Bool.eq_iff_iff, decide_eq_true_iff, decide_eq_true_iff]; exact HZ.out]; rfl, HB2.out⟩
end Go.Proofs.YthcboallnbaimaaGreatDoor
namespace Go.Proofs.YthcboallnbaimaaGreatDoor
open Go Go.RowKit
/-- An iterator that yields what S says, or, where a round has said no more, what Sp says. -/
def SeqD {α : Type} (F : Fence) (n : Nat) (P : Program) (g : Nat) (lb : Array Value) (encs : α → Array Value) (T : TypeId → Bool) (Tc : TypeId) (n₀ : Nat) (S Sp : List α → Prop) (N : Nat) (w : World) : Prop :=
 ∀ (l : Nat) (J Jx : List α → World → Prop) (W : World), Below w.heap.size w W → OwnC Tc W.heap.size J → OwnC Tc W.heap.size Jx →
   (∀ pre x W1, J pre W1 → pre.length < N → YieldAt F (n - 1) P l (encs x) W1 fun e W' =>
     (e = .returned (.bool true) ∧ J (pre ++ [x]) W' ∧ KeepsT T W.heap.size W1 W' ∧ Below n₀ W1 W') ∨ (e = .returned (.bool false) ∧ Jx (pre ++ [x]) W' ∧ KeepsT T W.heap.size W1 W' ∧ Below n₀ W1 W')) →
   J [] W →
   CallsIn F n P g (#[.func (.yield l) #[] #[]] ++ lb) W fun e W' => (∃ v, e = .returned v) ∧ ((∃ xs, S xs ∧ J xs W') ∨ (∃ pre, Sp pre ∧ Jx pre W'))
/-- How a round's body may be left. -/
def netDPost {α : Type} (T : TypeId → Bool) (B n₀ : Nat) (I : List α → World → Prop) (Ix : Code → List α → World → Prop) (xs : List α) (W : World) : Exit → Act → World → Prop
 | .normal, _, W' => KeepsT T B W W' ∧ Below n₀ W W' ∧ I xs W'
 | .ret, _, W' => KeepsT T B W W' ∧ Below n₀ W W' ∧ Ix .ret xs W'
 | .exit id, _, W' => KeepsT T B W W' ∧ Below n₀ W W' ∧ Ix (.exit id) xs W'
 | .goto t, _, W' => KeepsT T B W W' ∧ Below n₀ W W' ∧ Ix (.goto t) xs W'
 | _, _, _ => False
variable {F : Fence} {n : Nat} {P : Program} {w : World}
theorem wpIn_rangeFunc_netD {α : Type} {g : Operand} {ps : Array Tmp} {assign body : Code} {Q : Exit → Act → World → Prop} {a : Act} {w : World}
   (hro : F.round = none) (h1 : F.depth.isSome = true → 1 ≤ n) {gf : Nat} {lb : Array Value} (hg : a.eval g = .func (.func gf) #[] lb) (hFg : F.fn gf) (eg : ∀ args w, (callFunc gf args).run P w = .ok (.enter gf args) w)
   {encs : α → Array Value} {T : TypeId → Bool} {n₀ : Nat} {S Sp : List α → Prop} {N : Nat} {w0 : World} {Tc : TypeId} (hseq : SeqD F (n - 1) P gf lb encs T Tc n₀ S Sp N w0) (hn₀ : n₀ ≤ w.heap.size) (hb0 : Below w0.heap.size w0 w) (hps : ∀ x, (encs x).size = ps.size)
   (I : List α → World → Prop) (Ix : Code → List α → World → Prop) (hI : OwnC Tc w.heap.size I) (hIx : ∀ c, OwnC Tc w.heap.size (Ix c)) (h0 : I [] w) (Ax : α → Act → World → Prop) (hAx : ∀ x a', OwnC Tc w.heap.size (fun (_ : Unit) W => Ax x a' W))
   (hassign : ∀ (l : Nat) (pre : List α) (x : α) (W : World) (K : Act → World → Prop), I pre W → (∀ a' W', KeepsT T w.heap.size W W' → Below n₀ W W' → I pre W' → Ax x a' W' → K a' W') →
     assign.wpIn (F.inRound l) (n - 1 - 1) P (Exit.then K (fun _ _ _ => False)) { tmps := (ps.zip (encs x)).foldl (fun t (p, v) => t.setIfInBounds p v) a.tmps, defers := [] } W)
   (hbody : ∀ (l : Nat) (pre : List α) (x : α) (a' : Act) (W : World), w.heap.size ≤ l → I pre W → Ax x a' W → pre.length < N → body.wpIn (F.inRound l) (n - 1 - 1) P (netDPost T w.heap.size n₀ I Ix (pre ++ [x]) W) a' W)
   (hdone : ∀ (D : Nat) (xs : List α) (W : World), w.heap.size ≤ D → S xs → I xs W → W.heap[D]? = some (.deferred (some [])) → Q .normal { a with defers := { target := .collected D, args := #[] } :: a.defers } W)
   (hstop : ∀ (D : Nat) (c : Code) (pre : List α) (W : World), w.heap.size ≤ D → Sp pre → Ix c pre W → W.heap[D]? = some (.deferred (some [])) → c.wpIn F n P Q { a with defers := { target := .collected D, args := #[] } :: a.defers } W) :
   (Code.rangeFunc g ps assign body).wpIn F n P Q a w := by
 refine wpIn_rangeFunc ?_
 intro fn hfn
 rw [hro]
 obtain ⟨rec, hrec⟩ : ∃ rec : LoopState → Option Code → Loop, rec = fun st pe => { state := st, pending := pe, fn, tmps := a.tmps, params := ps, assign, body, defers := w.heap.size } := ⟨_, rfl⟩
 obtain ⟨W1, hW1⟩ : ∃ W1, (w.alloc (.deferred (some []))).alloc (.loop (rec .ready none)) = W1 := ⟨_, rfl⟩
 have hL1 : W1.heap[w.heap.size + 1]? = some (.loop (rec .ready none)) := by
   rw [← hW1]; have := World.alloc_heap_new (w.alloc (.deferred (some []))) (.loop (rec .ready none)); rwa [World.size_alloc] at this
 have hK1 : W1.heap[w.heap.size]? = some (.deferred (some [])) := by
   rw [← hW1]; exact (Below.heap_alloc _ _ _ (by simp)).trans (World.alloc_heap_new w _)
 have hI1 : I [] W1 := by rw [← hW1]; exact hI.alloc _ (hI.alloc _ h0)
 have hsz1 : W1.heap.size = w.heap.size + 2 := by rw [← hW1]; simp
 have hbw : Below w.heap.size w W1 := by rw [← hW1]; exact ((Below.refl _ w).alloc (Nat.le_refl _) _).alloc (by simp) _
 have hb1 : Below w0.heap.size w0 W1 := hb0.trans (hbw.mono hb0.size)
 refine ⟨w.heap.size + 1, [{ target := .collected w.heap.size, args := #[] }], W1, { target := .fn (.func gf) lb, args := #[.func (.yield (w.heap.size + 1)) #[] #[]] }, W1, gf,
   #[.func (.yield (w.heap.size + 1)) #[] #[]] ++ lb, W1, ?_, ?_, ?_, ?_, h1, ?_⟩
 · rw [← hW1, hrec]; exact run_enterLoop_outer _ _ _ _ _
 · simp only [resolve, hg]
   simp [go_sem]
 · intro f' hf'; simp [Target.leads] at hf'; subst hf'; exact hFg
 · simp [invoke, go_sem, eg]
 · have hrow : ∀ {A : World} {row : Option Nat}, (∀ r, row = some r → W1.heap.size ≤ r ∧ ∃ o : Obj, A.heap[r]? = some o ∧ (o.isCells = false ∨ ∃ cs fr, o = .cells cs Tc fr)) → (∀ r, row = some r → w.heap.size ≤ r ∧ ∃ o : Obj, A.heap[r]? = some o ∧ (o.isCells = false ∨ ∃ cs fr, o = .cells cs Tc fr)) :=
     fun hr r e => ⟨by have := (hr r e).1; omega, (hr r e).2⟩
   have hstay : ∀ {A B : World} {row : Option Nat} {k : Nat} {o : Obj}, k < W1.heap.size → A.heap[k]? = some o → A.grownBy B row → (∀ r, row = some r → W1.heap.size ≤ r ∧ ∃ o : Obj, A.heap[r]? = some o ∧ (o.isCells = false ∨ ∃ cs fr, o = .cells cs Tc fr)) → B.heap[k]? = some o :=
     fun {A B row k o} hk h hg' hr => (hg'.block k (Array.getElem?_eq_some_iff.1 h).1 (fun e => by have := (hr k e.symm).1; omega)).trans h
   refine (hseq (w.heap.size + 1)
     (fun pre W => I pre W ∧ W.heap[w.heap.size + 1]? = some (.loop (rec .ready none)) ∧ W.heap[w.heap.size]? = some (.deferred (some [])))
     (fun pre W => ∃ c, Ix c pre W ∧ W.heap[w.heap.size + 1]? = some (.loop (rec .done (some c))) ∧ W.heap[w.heap.size]? = some (.deferred (some [])))
     W1 hb1
     (fun s A B row hs hg' hr => ⟨hI s A B row hs.1 hg' (hrow hr), hstay (by omega) hs.2.1 hg' hr, hstay (by omega) hs.2.2 hg' hr⟩)
     (fun s A B row hs hg' hr => by
       obtain ⟨c, hc, hl, hk⟩ := hs
       exact ⟨c, hIx c s A B row hc hg' (hrow hr), hstay (by omega) hl hg' hr, hstay (by omega) hk hg' hr⟩)
     ?_ ⟨hI1, hL1, hK1⟩).mono ?_
   · rintro pre x W ⟨hi, hl, hk⟩ hlen
     have hlt : w.heap.size + 1 < W.heap.size := (Array.getElem?_eq_some_iff.1 hl).1
     have hy := run_yield (P := P) (args := encs x) hl (by rw [hrec]; exact hps x)
     rw [hrec] at hy
     refine ⟨fn, _, assign, body, hy, roundIn_of_wpIn hfn (hassign _ pre x W _ hi ?_)⟩
     clear hy
     intro a' Wa hka hba hia hax
     replace hl := hka.same _ _ (by omega) hl rfl
     replace hk := hka.same _ _ (Nat.le_refl _) hk rfl
     replace hlt : w.heap.size + 1 < Wa.heap.size := (Array.getElem?_eq_some_iff.1 hl).1
     clear hi
     refine ⟨_, run_beginRound hl (by rw [hrec]), ?_⟩
     have hl2 : (Wa.putObj (w.heap.size + 1) (.loop { rec .ready none with state := .busy })).heap[w.heap.size + 1]? = some (.loop { rec .ready none with state := .busy }) := World.putObj_heap_same hlt
     have hk2 : (Wa.putObj (w.heap.size + 1) (.loop { rec .ready none with state := .busy })).heap[w.heap.size]? = some (.deferred (some [])) := (World.putObj_heap_other (by omega)).trans hk
     refine wpIn_mono (hbody _ pre x a' _ (by omega) (hI.putObj _ hia (by omega) hl rfl) ((hAx x a').putObj (s := ()) _ hax (by omega) hl rfl) hlen) ?_
     have fin : ∀ (jump : Option Code) (W3 : World), KeepsT T w.heap.size (Wa.putObj (w.heap.size + 1) (.loop { rec .ready none with state := .busy })) W3 →
         ∃ W4, (Instr.endRound (w.heap.size + 1) jump).run P W3 = .ok (.bool jump.isNone) W4 ∧ W4 = W3.putObj (w.heap.size + 1) (.loop (rec (if jump.isNone then .ready else .done) jump)) ∧
         W3.heap[w.heap.size + 1]? = some (.loop { rec .ready none with state := .busy }) ∧
         W4.heap[w.heap.size + 1]? = some (.loop (rec (if jump.isNone then .ready else .done) jump)) ∧ W4.heap[w.heap.size]? = some (.deferred (some [])) ∧ KeepsT T W1.heap.size W W4 := fun jump W3 hk3 => by
       have hl3 := hk3.same _ _ (by omega) hl2 rfl
       have hr := run_endRound (P := P) jump hl3
       rw [hrec] at hr
       refine ⟨_, hr, by rw [hrec], by rw [hrec] at hl3; rw [hrec]; exact hl3, ?_, (World.putObj_heap_other (by omega)).trans (hk3.same _ _ (Nat.le_refl _) hk2 rfl), ?_⟩
       · rw [hrec]; exact World.putObj_heap_same (Array.getElem?_eq_some_iff.1 hl3).1
       · exact ((hka.up (by omega)).trans (KeepsT.put _ (by omega) hl rfl)).trans ((hk3.up (by omega)).trans (KeepsT.put _ (by omega) hl3 rfl))
     rintro e a3 W3 hp
     cases e with
     | normal =>
       obtain ⟨hk3, hb3, hi3⟩ := hp
       obtain ⟨W4, hr, rfl, hl3, hl4, hk4, hkf⟩ := fin none W3 hk3
       exact ⟨_, _, hr, .inl ⟨rfl, ⟨hI.putObj _ hi3 (by omega) hl3 rfl, hl4, hk4⟩, hkf, (hba.trans ((below_put Wa _ (by omega)).trans hb3)).trans (below_put W3 _ (by omega))⟩⟩
     | ret =>
       obtain ⟨hk3, hb3, hi3⟩ := hp
       obtain ⟨W4, hr, rfl, hl3, hl4, hk4, hkf⟩ := fin (some .ret) W3 hk3
       exact ⟨_, _, hr, .inr ⟨rfl, ⟨.ret, (hIx _).putObj _ hi3 (by omega) hl3 rfl, hl4, hk4⟩, hkf, (hba.trans ((below_put Wa _ (by omega)).trans hb3)).trans (below_put W3 _ (by omega))⟩⟩
     | exit id =>
       obtain ⟨hk3, hb3, hi3⟩ := hp
       obtain ⟨W4, hr, rfl, hl3, hl4, hk4, hkf⟩ := fin (some (.exit id)) W3 hk3
       exact ⟨_, _, hr, .inr ⟨rfl, ⟨.exit id, (hIx _).putObj _ hi3 (by omega) hl3 rfl, hl4, hk4⟩, hkf, (hba.trans ((below_put Wa _ (by omega)).trans hb3)).trans (below_put W3 _ (by omega))⟩⟩
     | goto t =>
       obtain ⟨hk3, hb3, hi3⟩ := hp
       obtain ⟨W4, hr, rfl, hl3, hl4, hk4, hkf⟩ := fin (some (.goto t)) W3 hk3
       exact ⟨_, _, hr, .inr ⟨rfl, ⟨.goto t, (hIx _).putObj _ hi3 (by omega) hl3 rfl, hl4, hk4⟩, hkf, (hba.trans ((below_put Wa _ (by omega)).trans hb3)).trans (below_put W3 _ (by omega))⟩⟩
     | panic ch => exact hp.elim
     | outgrown => exact hp.elim
   · rintro e W2 ⟨⟨v, rfl⟩, (⟨xs, hS, hi, hl, hk⟩ | ⟨pre, hSp, c, hi, hl, hk⟩)⟩
     · exact ⟨none, _, by have := run_endLoop (P := P) hl (by rw [hrec]; simp); rw [hrec] at this; exact this,
         hdone w.heap.size xs _ (Nat.le_refl _) hS (hI.putObj _ hi (by omega) hl rfl) ((World.putObj_heap_other (by omega)).trans hk)⟩
     · exact ⟨some c, _, by have := run_endLoop (P := P) hl (by rw [hrec]; simp); rw [hrec] at this; exact this,
         hstop w.heap.size c pre _ (Nat.le_refl _) hSp ((hIx c).putObj _ hi (by omega) hl rfl) ((World.putObj_heap_other (by omega)).trans hk)⟩
end Go.Proofs.YthcboallnbaimaaGreatDoor
namespace Go.Proofs.YthcboallnbaimaaGreatDoor
open Go Go.RowKit Go.Maps
/-- The names before the list j, and what the lists before it tell. -/
def befN (p : ProgV) (j : Nat) : List ByteArray := (List.range j).flatMap fun i => (listAt p i).map DeclV.name
def dclN (p : ProgV) (j : Nat) : List Int := (List.range j).flatMap fun i => declsC p (decide (i = 3)) (listAt p i) (befN p i)
theorem befN_succ (p : ProgV) (j : Nat) : befN p (j + 1) = befN p j ++ (listAt p j).map DeclV.name := by
 unfold befN; rw [List.range_succ, List.flatMap_append]; simp
theorem dclN_succ (p : ProgV) (j : Nat) : dclN p (j + 1) = dclN p j ++ declsC p (decide (j = 3)) (listAt p j) (befN p j) := by
 unfold dclN; rw [List.range_succ, List.flatMap_append]; simp
theorem befN_four (p : ProgV) : befN p 4 = names4 p := by
 simp [befN, List.range, List.range.loop, listAt, names4, names3, names2, names1]
theorem dclN_four (p : ProgV) : dclN p 4 = declsC p false p.inputs [] ++ (declsC p false p.ghosts (names1 p) ++ (declsC p false p.vars (names2 p) ++ declsC p true p.arrays (names3 p))) := by
 simp [dclN, befN, List.range, List.range.loop, listAt, names3, names2, names1]
/-- The codes of a light program: the pieces one behind the other. -/
theorem codesP_pieces (p : ProgV) (n : Int) : codesP p n = ((((((([programE p n] ++ dclN p 4) ++ exprC p outside 1 p.require 1) ++ initsC p p.inits []) ++ procsC p p.procs 0 (names4 p)) ++ stmtsC p outside p.work 1) ++ stmtsC p outside p.recover 1) ++ exprC p outside 2 p.invariant 1) := by
 rw [dclN_four]
 unfold codesP
 simp
theorem dclN_len (p : ProgV) : ∀ j, (dclN p j).length = (befN p j).length
 | 0 => rfl
 | j + 1 => by rw [dclN_succ, befN_succ, List.length_append, List.length_append, dclN_len p j, declsC_len, List.length_map]
theorem initsC_snoc (p : ProgV) : ∀ (l : List InitV) (b : List Int) (x : InitV), initsC p (l ++ [x]) b = initsC p l b ++ (initE p (b ++ l.map InitV.block) x :: exprC p outside 1 x.value 1)
 | [], b, x => by simp [initsC]
 | y :: l, b, x => by
   rw [List.cons_append, initsC, initsC_snoc p l, initsC]
   simp
theorem procsC_snoc (p : ProgV) : ∀ (l : List ProcV) (i : Nat) (b : List ByteArray) (q : ProcV), procsC p (l ++ [q]) i b = procsC p l i b ++ procC p (b ++ l.map ProcV.name) (i + l.length) q
 | [], i, b, q => by simp [procsC]
 | y :: l, i, b, q => by
   rw [List.cons_append, procsC, procsC_snoc p l, procsC]
   simp [Nat.add_assoc, Nat.add_comm 1]
theorem procC_len (p : ProgV) (b b' : List ByteArray) (i : Nat) (q : ProcV) : (procC p b i q).length = (procC p b' i q).length := rfl
/-- The state of all: so much is told; the program's box; the map of the names before. -/
structure AllSt (K : CkE) (J Jx : List (Int × Int) → World → Prop) (w : World) (bp mb : Nat) (cs : List Int) (bef : List ByteArray) (X : World) : Prop where
 st : ∃ pm, CkSt K J Jx pm outside cs X ∧ pm ≠ some mb
 keeps : KeepsQ K w X
 box : X.heap[bp]? = some (.cells K.p.arr 39 (0, 0))
 bef : ∃ f n, n ≤ bef.length ∧ BefAt X mb n bef f
/-- What is fixed meanwhile. -/
structure AllFix (K : CkE) (w : World) (bp mb : Nat) : Prop where
 hbp : w.heap.size ≤ bp
 hmb : bp < mb
 hq : K.q < w.heap.size
 hB : K.B ≤ K.q
 hn0 : K.n₀ ≤ w.heap.size
 hmt : K.mt < w.heap.size
 hmp : K.mp < w.heap.size
section
variable {K : CkE} {J Jx : List (Int × Int) → World → Prop} {w : World} {bp mb : Nat} {cs : List Int} {bef : List ByteArray} {X X' : World}
theorem AllSt.new (h : AllSt K J Jx w bp mb cs bef X) (hJ : OwnC 129 K.B J) (hJx : OwnC 129 K.B Jx) (F : AllFix K w bp mb) (hb : Below X.heap.size X X') : AllSt K J Jx w bp mb cs bef X' := by
 obtain ⟨pm, h1, h2⟩ := h.st
 obtain ⟨f, n, h3, h4⟩ := h.bef
 exact ⟨⟨pm, h1.new hJ hJx hb, h2⟩, h.keeps.trans (.of_below hb (Nat.le_trans F.hn0 h.keeps.size)), (hb.block _ (Array.getElem?_eq_some_iff.1 h.box).1).trans h.box, ⟨f, n, h3, h4.new hb⟩⟩
theorem AllSt.told (h : AllSt K J Jx w bp mb cs bef X) (F : AllFix K w bp mb) {cs' : List Int} {pm : Option Nat} (hpm : pm ≠ some mb) (ht : Told K J Jx pm outside cs' X X') : AllSt K J Jx w bp mb cs' bef X' := by
 obtain ⟨f, n, h3, h4⟩ := h.bef
 have h5 := F.hbp; have h6 := F.hmb; have h7 := F.hq; have h8 := F.hB
 exact ⟨⟨pm, ht.st, hpm⟩, h.keeps.trans ht.keeps, ht.keeps.cells _ _ _ _ h.box rfl (by omega), ⟨f, n, h3, h4.keeps ht.keeps (by omega)⟩⟩
theorem AllSt.entered (h : AllSt K J Jx w bp mb cs bef X) (F : AllFix K w bp mb) {cs' : List Int} (ht : Entered K J Jx outside cs' X X') : AllSt K J Jx w bp mb cs' bef X' := by
 obtain ⟨f, n, h3, h4⟩ := h.bef
 have h5 := F.hbp; have h6 := F.hmb; have h7 := F.hq; have h8 := F.hB
 obtain ⟨pm, h9, h10⟩ := ht.st
 have h11 := h4.map.lt
 exact ⟨⟨pm, h9, fun e => by have := h10 _ e; omega⟩, h.keeps.trans ht.keeps, ht.keeps.cells _ _ _ _ h.box rfl (by omega), ⟨f, n, h3, h4.keeps ht.keeps (by omega)⟩⟩
theorem AllSt.stored (h : AllSt K J Jx w bp mb cs bef X) (hJ : OwnC 129 K.B J) (hJx : OwnC 129 K.B Jx) (F : AllFix K w bp mb) (ht : X.mapTurned X' mb) {s : ByteArray} {n : Nat} {f : ByteArray → Option Int} (hn : n ≤ bef.length) (hb : BefAt X' mb (n + 1) (bef ++ [s]) f) : AllSt K J Jx w bp mb cs (bef ++ [s]) X' := by
 have h5 := F.hbp; have h6 := F.hmb; have h7 := F.hq; have h8 := F.hB; have h9 := F.hmt; have h10 := F.hmp
 obtain ⟨pm, h1, h2⟩ := h.st
 have hlt := (Array.getElem?_eq_some_iff.1 h.box).1
 refine ⟨⟨pm, h1.turned hJ hJx ht (by omega) (by omega) (by omega) h2, h2⟩, h.keeps.turned ht (by omega) F.hn0, (ht.grown.block _ hlt (by intro e; have := Option.some.inj e; omega)).trans h.box, ⟨f, n + 1, by simp; omega, hb⟩⟩
end
theorem arr_cells {W : World} {q : Nat} {p : ProgV} (h : W.heap[q]? = some (.cells p.arr 39 (0, 0))) (i : Nat) {v : Value} (hv : p.cells[i]? = some v) : W.cell? ⟨q, i, none⟩ = some v := by
 simp [World.cell?, h, ProgV.arr, hv]
end Go.Proofs.YthcboallnbaimaaGreatDoor
namespace Go.Proofs.YthcboallnbaimaaGreatDoor
open Go Go.RowKit Go.Maps
theorem initE_cases (p : ProgV) (l : List Int) (x : InitV) : initE p l x = if (decide (x.block < 0) || decide (p.blocks ≤ x.block) || decide (x.block ∈ l)) = true then 324 else if differW (widthE p outside x.value) p.width = true then 322 else 0 := by
 unfold initE
 have e1 : (x.block < 0 ∨ x.block ≥ p.blocks ∨ x.block ∈ l) ↔ ((decide (x.block < 0) || decide (p.blocks ≤ x.block) || decide (x.block ∈ l)) = true) := by simp [or_assoc]
 simp only [e1]
set_option maxRecDepth 1000000 in
set_option maxHeartbeats 16000000 in
theorem all_any {K : CkE} {J Jx : List (Int × Int) → World → Prop} (hJ : OwnC 129 K.B J) (hJx : OwnC 129 K.B Jx) (hT : TellOk K J Jx) (hH : heftP K.p ≤ 20000) (hN : NamesOk K.p) (hn0 : 0 < K.n₀) (hwt : weightP K.p ≤ 1125899906842624) {pm : Option Nat} (w : World) (hst : CkSt K J Jx pm outside [] w) (hmx : MxAt w) :
   Calls Tryz.prog 84 #[.pointer (some ⟨K.q, 0, none⟩)] w fun o w' => o = .returned (.tuple #[]) ∧ (∃ pm, CkSt K J Jx pm outside (codesP K.p (sizedN (countP K.p))) w') ∧ KeepsQ K w w' := by
 obtain ⟨over, hk, hs⟩ := hst.ex
 have hpart := fun (W : World) (hW : Below w.heap.size w W) => (hk.new hW).prog_part
 have HPART := Lib.hid hpart
 have hb1 : Below w.heap.size w (w.alloc (.cells K.p.arr 39)) := (Below.refl _ _).alloc (Nat.le_refl _) _
 have hbz : Below w.heap.size w (w.alloc (.cells zeroP.arr 39)) := (Below.refl _ _).alloc (Nat.le_refl _) _
 have hB := World.alloc_heap_new w (.cells K.p.arr 39)
 have hqw := hk.lt
 have hqB := hk.q
 have hnB := hk.n0
 have hn0w : K.n₀ ≤ w.heap.size := by omega
 have hmaps := hst.maps
 have HB1 := Lib.hid hb1
 have HBZ := Lib.hid hbz
 have HBX := Lib.hid hB
 have HP := Lib.hid hk.prog
 have hcl := codesP_len K.p (sizedN (countP K.p))
 have hcp := codesP_pieces K.p (sizedN (countP K.p))
 have hpg := program_any hJ hJx hT (w.alloc (.cells K.p.arr 39)) (hst.new hJ hJx hb1) (by simp) hwt
 obtain ⟨pe, hpe⟩ : ∃ pe, programE K.p (sizedN (countP K.p)) = pe := ⟨_, rfl⟩
 rw [hpe] at hcp hpg
 have HPG := Lib.hid hpg
 obtain ⟨tot, htot⟩ : ∃ l, codesP K.p (sizedN (countP K.p)) = l := ⟨_, rfl⟩
 rw [htot] at hcp hcl ⊢
 have HCP := Lib.hid hcp
 have HCL := Lib.hid (show tot.length ≤ 20000 by omega)
 have HMX := Lib.hid hmx
 have HN := Lib.hid hN
 have HMAPS := Lib.hid hmaps
 clear hpart hb1 hbz hB hk hst hs hpg hpe htot hcp hcl hmx hwt hmaps hN
 go_enter Tryz.func84, Tryz.ntmps84
 go_upto_region 1 with (first
   | (refine wpList_load_part rfl 39 _ rfl K.q 0 rfl K.p.arr _ (HPART.out _ (by first | exact Below.refl _ _ | exact HBZ.out)) Tryz.underlying39 rfl (arr_size K.p) ?_)
   | (refine wpList_allocRow (t := 39) rfl rfl (run_zeroP _) ?_)
   | (refine wpList_storeNew (t := 39) rfl _ _ rfl rfl rfl (arr_size K.p) rfl (arr_one K.p) ?_)
   | fail)
 generalize hW1 : w.alloc (.cells K.p.arr 39) = W1 at *
 generalize hv8 : Value.agg K.p.arr = v8
 clear hW1 hv8 HPART HBZ
 have hmm := @run_makeMap Tryz.prog
 go_upto_region 2 with (first | (go_at_call 117; refine HPG.out.mono ?_; rintro o7 wA ⟨rfl, hta⟩) | fail)
 have hbxA := hta.keeps.cells _ _ _ _ HBX.out rfl (by omega)
 have hszA := hta.keeps.size
 have hsz1 := HB1.out.size
 have hF : AllFix K w w.heap.size wA.heap.size := ⟨Nat.le_refl _, Nat.lt_of_lt_of_le (Array.getElem?_eq_some_iff.1 HBX.out).1 hszA, hqw, hqB, hn0w, HMAPS.out.1, HMAPS.out.2.1⟩
 have hbm : Below wA.heap.size wA (wA.alloc (.map #[] 0)) := (Below.refl _ _).alloc (Nat.le_refl _) _
 have hA0 : AllSt K J Jx w w.heap.size wA.heap.size ([pe] ++ dclN K.p 0) (befN K.p 0) (wA.alloc (.map #[] 0)) := by
   have hs1 := hta.st.new hJ hJx hbm
   have h3 := HMAPS.out.2.2
   refine ⟨⟨pm, by simpa [dclN] using hs1, fun e => by have := h3 _ e; have := hF.hmb; omega⟩, ((KeepsQ.of_below HB1.out hn0w).trans hta.keeps).trans (.of_below hbm (by omega)), (hbm.block _ hF.hmb).trans hbxA, ⟨_, 0, Nat.zero_le _, BefAt.made wA⟩⟩
 have HF := Lib.hid hF
 have HA0 := Lib.hid hA0
 have hmbF := hF.hmb
 clear hta hbxA hF hbm hA0 HBX HB1 HMAPS HPG
 generalize hWm : wA.alloc (.map #[] 0) = WM at *
 obtain ⟨mb, hmb⟩ : ∃ mb, wA.heap.size = mb := ⟨_, rfl⟩
 rw [hmb] at HF HA0 hmbF
 have c2 := arr_cells HA0.out.box 2 (v := .slice K.p.is.at_ K.p.inputs.length K.p.is.cap) rfl
 have c3 := arr_cells HA0.out.box 3 (v := .slice K.p.gs.at_ K.p.ghosts.length K.p.gs.cap) rfl
 have c4 := arr_cells HA0.out.box 4 (v := .slice K.p.vs.at_ K.p.vars.length K.p.vs.cap) rfl
 have c5 := arr_cells HA0.out.box 5 (v := .slice K.p.as.at_ K.p.arrays.length K.p.as.cap) rfl
 go_wp2_with fail
 go_loopw [28] (fun v wr => ∃ j : Nat, j ≤ 4 ∧ v = .int .i64 j ∧ AllSt K J Jx w w.heap.size mb ([pe] ++ dclN K.p j) (befN K.p j) wr) (fun v _ => 4 - (intOf v).toNat)
 case atStart => exact ⟨0, by omega, rfl, HA0.out⟩
 case round =>
   obtain ⟨j, hj, rfl, haj⟩ := hrel
   have HAJ := Lib.hid haj
   clear haj c2 c3 c4 c5 HA0
   by_cases hjl : j < 4
   · have hI : ∀ W, (Instr.index 167 (.agg #[.slice K.p.is.at_ K.p.inputs.length K.p.is.cap, .slice K.p.gs.at_ K.p.ghosts.length K.p.gs.cap, .slice K.p.vs.at_ K.p.vars.length K.p.vs.cap, .slice K.p.as.at_ K.p.arrays.length K.p.as.cap]) (.int .i64 (j : Int))).run Tryz.prog W = .ok (.slice (spAt K.p j).at_ (listAt K.p j).length (spAt K.p j).cap) W := by
       intro W
       rcases (show j = 0 ∨ j = 1 ∨ j = 2 ∨ j = 3 by omega) with rfl | rfl | rfl | rfl <;> kernel_rfl
     have hd0 := HP.out.listAt j
     have hnm : ∀ d ∈ listAt K.p j, d.name.size ≤ 4294967200 := fun d hd => HN.out.decls d (by
       rcases (show j = 0 ∨ j = 1 ∨ j = 2 ∨ j = 3 by omega) with rfl | rfl | rfl | rfl <;> simp only [listAt] at hd <;> simp [hd])
     have hds := dclN_succ K.p j
     have hbs := befN_succ K.p j
     have hlen : (dclN K.p j).length + (listAt K.p j).length ≤ 20000 := by
       have e1 := dclN_len K.p (j + 1)
       rw [dclN_succ, List.length_append, declsC_len] at e1
       have e2 : (befN K.p (j + 1)).length ≤ (befN K.p 4).length := by
         rcases (show j = 0 ∨ j = 1 ∨ j = 2 ∨ j = 3 by omega) with rfl | rfl | rfl | rfl <;> simp [befN, List.range, List.range.loop] <;> omega
       have e3 := dclN_len K.p 4
       have e4 := HCL.out
       rw [HCP.out] at e4
       simp only [List.length_append] at e4
       omega
     have hje : ((j : Int) == 3) = decide (j = 3) := by rcases (show j = 0 ∨ j = 1 ∨ j = 2 ∨ j = 3 by omega) with rfl | rfl | rfl | rfl <;> rfl
     have hbl := dclN_len K.p j
     have HD0 := Lib.hid hd0
     have HNM := Lib.hid hnm
     have HDS := Lib.hid hds
     have HBS := Lib.hid hbs
     have hll := hd0.row.few
     obtain ⟨jb, hjb⟩ : ∃ b, decide (j = 3) = b := ⟨_, rfl⟩
     rw [hjb] at hje HDS
     clear hd0 hnm hds hbs hjb
     generalize listAt K.p j = l at *
     generalize spAt K.p j = sp at *
     generalize dclN K.p j = dc at *
     generalize befN K.p j = bf at *
     obtain ⟨wo, rfl⟩ : ∃ y : World, y = wr := ⟨_, rfl⟩
     have hj0 : (0 : Int) ≤ (j : Int) := by omega
     have hjb4 : (j : Int) < 4 := by omega
     go_wp2_with fail
     go_loopw [34] (fun v wr => ∃ k : Nat, k ≤ l.length ∧ v = .int .i64 k ∧ AllSt K J Jx w w.heap.size mb (([pe] ++ dc) ++ declsC K.p jb (l.take k) bf) (bf ++ (l.take k).map DeclV.name) wr) (fun v _ => l.length - (intOf v).toNat)
     case atStart => exact ⟨0, Nat.zero_le _, rfl, by simpa [declsC] using HAJ.out⟩
     case round =>
       obtain ⟨k, hk, rfl, hak⟩ := hrel
       have HAK := Lib.hid hak
       clear hak
       by_cases hlt2 : k < l.length
       · obtain ⟨b2, off2, eA2, hbn2, hcell⟩ := (HD0.out.row.below HAK.out.keeps.low).row (by omega)
         have hmem := List.getElem_mem hlt2
         have hok := HD0.out.ok _ hmem
         have hdn := HNM.out _ hmem
         have k0 : wr.cell? ⟨b2, off2 + k * 3, none⟩ = some (.string l[k].name) := hcell k hlt2 0 _ rfl
         have k1 : wr.cell? ⟨b2, off2 + k * 3 + 1, none⟩ = some (.int .i64 l[k].width) := hcell k hlt2 1 _ rfl
         have k2 : wr.cell? ⟨b2, off2 + k * 3 + 2, none⟩ = some (.int .i64 l[k].size) := hcell k hlt2 2 _ rfl
         have hts : l.take (k + 1) = l.take k ++ [l[k]] := List.take_succ_eq_append_getElem hlt2
         have HTS := Lib.hid hts
         generalize l[k] = d at *
         have hsw := HAK.out.keeps.size
         have hba : Below wr.heap.size wr (wr.alloc (.cells #[.string d.name, .int .i64 d.width, .int .i64 d.size] 44)) := (Below.refl _ wr).alloc (Nat.le_refl _) _
         have hB5 := World.alloc_heap_new wr (.cells #[.string d.name, .int .i64 d.width, .int .i64 d.size] 44)
         have hlt3 : (declsC K.p jb (l.take k) bf).length ≤ l.length := by rw [declsC_len]; exact List.length_take_le' _ _
         have hlt4 : ((l.take k).map DeclV.name).length ≤ l.length := by rw [List.length_map]; exact List.length_take_le' _ _
         have ha5 := HAK.out.new hJ hJx HF.out hba
         obtain ⟨pm5, hst5, hpm5⟩ := ha5.st
         obtain ⟨f5, n5, hn5, hbef5⟩ := ha5.bef
         have hDC := decl_any hJ hJx hT _ hst5 (by simp only [List.length_append, List.length_cons, List.length_nil]; omega) (HMX.out.below ha5.keeps.low hn0) hbef5 d hok hdn jb
         simp only [DeclV.val] at hDC
         have HDC := Lib.hid hDC
         have HA5 := Lib.hid ha5
         have HPM5 := Lib.hid hpm5
         have HB5 := Lib.hid hB5
         have hs5 : (wr.alloc (.cells #[.string d.name, .int .i64 d.width, .int .i64 d.size] 44)).heap.size = wr.heap.size + 1 := by simp
         have hk0 : (0 : Int) ≤ (k : Int) := by omega
         have hk1 : (k : Int) < (l.length : Int) := by omega
         clear hcell hts hDC hba hB5 hmem ha5 hst5 hpm5
         rw [eA2]
         clear eA2
         go_upto_region 10 with (first | (go_at_call 118; refine HDC.out.mono ?_; rintro o6 w6 ⟨rfl, ht6⟩; have HT6 := Lib.hid ht6; clear ht6) | fail)
         clear k0 k1 k2
         have ha6 := HA5.out.told HF.out HPM5.out HT6.out
         have hB6 := HT6.out.keeps.cells _ _ _ _ HB5.out rfl (by omega)
         obtain ⟨c0, c1, c2⟩ := three_cells hB6
         obtain ⟨f6, n6, hn6, hbef6⟩ := ha6.bef
         have hl1 := hbef6.look1 (s := d.name) (by unfold maxLen; omega)
         obtain ⟨hcb0, hcb1⟩ := hbef6.bound d.name
         simp only [List.length_append] at hn6
         have hcb2 : n6 ≤ 100000 := by omega
         obtain ⟨w8, hrun, hbef8, hturn⟩ := hbef6.store (s := d.name) (by unfold maxLen; omega) (by omega)
         have ha8 := ha6.stored hJ hJx HF.out hturn (by simp only [List.length_append]; exact hn6) hbef8
         generalize (f6 d.name).getD 0 = c at *
         have HA8 := Lib.hid ha8
         clear ha6 hB6 hbef6 hbef8 hturn ha8 hbef5
         go_wp2_with (refine wpList_mapRun rfl _ _ _ 127 rfl rfl rfl rfl hrun ?_)
         go_roundw
         case rel => exact ⟨k + 1, by omega, by go_num, by
           have h9 := HA8.out
           rw [HTS.out, declsC_snoc, List.map_append, ← List.append_assoc, ← List.append_assoc]
           exact h9⟩
         case measure => simp [intOf]; omega
       · obtain rfl : k = l.length := by omega
         have h9 := HAK.out
         rw [List.take_length, List.append_assoc, ← HDS.out, ← HBS.out] at h9
         have H9 := Lib.hid h9
         clear h9 HAK
         go_wp2_with fail
         go_roundw
         case rel => exact ⟨j + 1, by omega, by go_num, H9.out⟩
         case measure => simp [intOf]; omega
   · obtain rfl : j = 4 := by omega
     rw [befN_four] at HAJ
     have hcl := HCL.out
     rw [HCP.out] at hcl
     simp only [List.length_append, List.length_cons, List.length_nil] at hcl
     obtain ⟨w4, hw4⟩ : ∃ y : World, y = wr := ⟨_, rfl⟩
     subst hw4
     obtain ⟨cs1, hcs1⟩ : ∃ l, [pe] ++ dclN K.p 4 = l := ⟨_, rfl⟩
     have hl1 : cs1.length = 1 + (dclN K.p 4).length := by rw [← hcs1]; simp; omega
     rw [hcs1] at HAJ HCP
     obtain ⟨pm4, hst4, hpm4⟩ := HAJ.out.st
     have hEX := expr_any hJ hJx hT (pm := pm4) (E := outside) (wh := 1) HP.out.require cs1 1 w4 HAJ.out.keeps.low hst4 (by omega) (by omega)
     simp only [ExprV.val, Sp.val, Int.natCast_one] at hEX
     have HEX := Lib.hid hEX
     have HPM4 := Lib.hid hpm4
     have d6 := arr_cells HAJ.out.box 6 (v := .int .u8 K.p.require.kind) rfl
     have d7 := arr_cells HAJ.out.box 7 (v := .int .u8 K.p.require.op) rfl
     have d8 := arr_cells HAJ.out.box 8 (v := .int .u32 K.p.require.value) rfl
     have d9 := arr_cells HAJ.out.box 9 (v := .int .i64 K.p.require.width) rfl
     have d10 := arr_cells HAJ.out.box 10 (v := .string K.p.require.name) rfl
     have d11 := arr_cells HAJ.out.box 11 (v := .slice K.p.require.sp.at_ K.p.require.subs.length K.p.require.sp.cap) rfl
     clear hEX hst4 hpm4 hcs1 hWm hmb
     go_upto_region 14 with (first | (go_at_call 70; refine HEX.out.mono ?_; clear HEX; rintro o6 w6 ⟨rfl, ht6⟩; have HT6 := Lib.hid ht6; clear ht6) | fail)
     have ha6 := HAJ.out.told HF.out HPM4.out HT6.out
     have e12 := arr_cells ha6.box 12 (v := .slice K.p.ns.at_ K.p.inits.length K.p.ns.cap) rfl
     obtain ⟨cs2, hcs2⟩ : ∃ l, cs1 ++ exprC K.p outside 1 K.p.require 1 = l := ⟨_, rfl⟩
     have hl2 : cs2.length = cs1.length + (exprC K.p outside 1 K.p.require 1).length := by rw [← hcs2, List.length_append]
     rw [hcs2] at ha6 HCP
     have HA6 := Lib.hid ha6
     have hil := HP.out.irow.few
     clear HAJ HPM4 HT6 d6 d7 d8 d9 d10 d11 ha6 hcs2
     go_wp2_with fail
     go_loopw [58] (fun v wr => ∃ k : Nat, k ≤ K.p.inits.length ∧ v = .int .i64 k ∧ AllSt K J Jx w w.heap.size mb (cs2 ++ initsC K.p (K.p.inits.take k) []) (names4 K.p) wr) (fun v _ => K.p.inits.length - (intOf v).toNat)
     case atStart => exact ⟨0, Nat.zero_le _, rfl, by simpa [initsC] using HA6.out⟩
     case round =>
       obtain ⟨k, hk, rfl, hak⟩ := hrel
       have HAK := Lib.hid hak
       clear hak e12
       by_cases hlt2 : k < K.p.inits.length
       · obtain ⟨b2, off2, eA2, hbn2, hcell⟩ := (HP.out.irow.below HAK.out.keeps.low).row (by omega)
         have k0 : wr.cell? ⟨b2, off2 + k * 7, none⟩ = some (.int .i64 K.p.inits[k].block) := hcell k hlt2 0 _ rfl
         have k1 : wr.cell? ⟨b2, off2 + k * 7 + 1, none⟩ = some (.int .u8 K.p.inits[k].value.kind) := hcell k hlt2 1 _ rfl
         have k2 : wr.cell? ⟨b2, off2 + k * 7 + 2, none⟩ = some (.int .u8 K.p.inits[k].value.op) := hcell k hlt2 2 _ rfl
         have k3 : wr.cell? ⟨b2, off2 + k * 7 + 3, none⟩ = some (.int .u32 K.p.inits[k].value.value) := hcell k hlt2 3 _ rfl
         have k4 : wr.cell? ⟨b2, off2 + k * 7 + 4, none⟩ = some (.int .i64 K.p.inits[k].value.width) := hcell k hlt2 4 _ rfl
         have k5 : wr.cell? ⟨b2, off2 + k * 7 + 5, none⟩ = some (.string K.p.inits[k].value.name) := hcell k hlt2 5 _ rfl
         have k6 : wr.cell? ⟨b2, off2 + k * 7 + 6, none⟩ = some (.slice K.p.inits[k].value.sp.at_ K.p.inits[k].value.subs.length K.p.inits[k].value.sp.cap) := hcell k hlt2 6 _ rfl
         have hts : K.p.inits.take (k + 1) = K.p.inits.take k ++ [K.p.inits[k]] := List.take_succ_eq_append_getElem hlt2
         have hok := HP.out.inits _ (List.getElem_mem hlt2)
         have HTS := Lib.hid hts
         have hspl : (initsC K.p (K.p.inits.take (k + 1)) []).length ≤ (initsC K.p K.p.inits []).length := by
           have e1 : K.p.inits = K.p.inits.take (k + 1) ++ K.p.inits.drop (k + 1) := (List.take_append_drop _ _).symm
           rw [initsC_len, initsC_len]
           conv => rhs; rw [e1]
           rw [List.map_append, List.sum_append]
           omega
         rw [hts, initsC_snoc] at hspl
         simp only [List.length_append, List.length_cons] at hspl
         have HOK := Lib.hid hok
         generalize K.p.inits[k] = x at *
         have hsw := HAK.out.keeps.size
         have hba : Below wr.heap.size wr (wr.alloc (.cells #[.int .i64 x.block, .int .u8 x.value.kind, .int .u8 x.value.op, .int .u32 x.value.value, .int .i64 x.value.width, .string x.value.name, .slice x.value.sp.at_ x.value.subs.length x.value.sp.cap] 118)) := (Below.refl _ wr).alloc (Nat.le_refl _) _
         have hB5 := World.alloc_heap_new wr (.cells #[.int .i64 x.block, .int .u8 x.value.kind, .int .u8 x.value.op, .int .u32 x.value.value, .int .i64 x.value.width, .string x.value.name, .slice x.value.sp.at_ x.value.subs.length x.value.sp.cap] 118)
         have ha5 := HAK.out.new hJ hJx HF.out hba
         have hs5 : (wr.alloc (.cells #[.int .i64 x.block, .int .u8 x.value.kind, .int .u8 x.value.op, .int .u32 x.value.value, .int .i64 x.value.width, .string x.value.name, .slice x.value.sp.at_ x.value.subs.length x.value.sp.cap] 118)).heap.size = wr.heap.size + 1 := by simp
         have hk0 : (0 : Int) ≤ (k : Int) := by omega
         have hk1 : (k : Int) < (K.p.inits.length : Int) := by omega
         have hie := initE_cases K.p ((K.p.inits.take k).map InitV.block) x
         obtain ⟨ie, hie0⟩ : ∃ c, initE K.p ((K.p.inits.take k).map InitV.block) x = c := ⟨_, rfl⟩
         have hin2 : initsC K.p (K.p.inits.take k ++ [x]) [] = initsC K.p (K.p.inits.take k) [] ++ (ie :: exprC K.p outside 1 x.value 1) := by rw [initsC_snoc, List.nil_append, hie0]
         have HIN2 := Lib.hid hin2
         rw [hie0] at hie
         have HIE := Lib.hid hie
         have HS5 := Lib.hid hs5
         have HA5 := Lib.hid ha5
         have HB5 := Lib.hid hB5
         have hcx : Hid (∀ X, Below (wr.alloc (.cells #[.int .i64 x.block, .int .u8 x.value.kind, .int .u8 x.value.op, .int .u32 x.value.value, .int .i64 x.value.width, .string x.value.name, .slice x.value.sp.at_ x.value.subs.length x.value.sp.cap] 118)).heap.size (wr.alloc (.cells #[.int .i64 x.block, .int .u8 x.value.kind, .int .u8 x.value.op, .int .u32 x.value.value, .int .i64 x.value.width, .string x.value.name, .slice x.value.sp.at_ x.value.subs.length x.value.sp.cap] 118)) X → Calls Tryz.prog 119 #[.slice (some ⟨b2, off2, none⟩) k K.p.ns.cap, .func (.func 120) #[] #[.pointer (some ⟨wr.heap.size, 0, none⟩)]] X fun o w' => o = .returned (.bool (decide (x.block ∈ (K.p.inits.take k).map InitV.block))) ∧ Below X.heap.size X w') := Lib.hid fun X hX => by
           have hx := (hX.block _ (Array.getElem?_eq_some_iff.1 HB5.out).1).trans HB5.out
           have hx0 : X.cell? ⟨wr.heap.size, 0, none⟩ = some (.int .i64 x.block) := by simp [World.cell?, hx]
           have hlow : Below K.n₀ w X := ha5.keeps.low.trans (hX.mono (by have := ha5.keeps.size; omega))
           have := containsI_any X (HP.out.irow.below hlow) (by have := hlow.size; omega) k (by omega) K.p.ns.cap wr.heap.size x.block hx0 (Array.getElem?_eq_some_iff.1 hx).1
           rw [eA2] at this
           exact this
         clear hcell hts hB5 hok ha5 hie hie0 hin2 hba hs5
         rw [eA2]
         have HEA2 := Lib.hid eA2
         clear eA2
         go_upto_block 6 with fail
         clear k0 k1 k2 k3 k4 k5 k6
         generalize wr.alloc (.cells #[.int .i64 x.block, .int .u8 x.value.kind, .int .u8 x.value.op, .int .u32 x.value.value, .int .i64 x.value.width, .string x.value.name, .slice x.value.sp.at_ x.value.subs.length x.value.sp.cap] 118) = W5 at *
         obtain ⟨pm5, hst5, hpm5⟩ := HA5.out.st
         have HTELL : Hid (∀ (c : Int) (X : World), Below W5.heap.size W5 X → Calls Tryz.prog 110 #[.pointer (some ⟨K.q, 0, none⟩), .int .i64 c] X fun o w' => o = .returned (.tuple #[]) ∧ AllSt K J Jx w w.heap.size mb ((cs2 ++ initsC K.p (K.p.inits.take k) []) ++ [c]) (names4 K.p) w' ∧ w'.heap[wr.heap.size]? = some (.cells #[.int .i64 x.block, .int .u8 x.value.kind, .int .u8 x.value.op, .int .u32 x.value.value, .int .i64 x.value.width, .string x.value.name, .slice x.value.sp.at_ x.value.subs.length x.value.sp.cap] 118 (0, 0))) := Lib.hid fun c X hX => by
           have hax := HA5.out.new hJ hJx HF.out hX
           have hx := (hX.block _ (Array.getElem?_eq_some_iff.1 HB5.out).1).trans HB5.out
           refine (hT pm5 outside _ X c (hst5.new hJ hJx hX) (by simp only [List.length_append]; omega)).mono ?_
           rintro o w' ⟨rfl, ht⟩
           exact ⟨rfl, hax.told HF.out hpm5 ht, ht.keeps.cells _ _ _ _ hx rfl (by omega)⟩
         have g0 : W5.cell? ⟨wr.heap.size, 0, none⟩ = some (.int .i64 x.block) := by simp [World.cell?, HB5.out]
         have p0 := arr_cells HA5.out.box 0 (v := .int .i64 K.p.blocks) rfl
         have p12 := arr_cells HA5.out.box 12 (v := .slice K.p.ns.at_ K.p.inits.length K.p.ns.cap) rfl
         rw [HEA2.out] at p12
         have hkl : (k : Int) ≤ (K.p.inits.length : Int) := by omega
         have hkc : (k : Int) ≤ (K.p.ns.cap : Int) := by have := HP.out.irow.cap; omega
         have hcapb := HP.out.irow.big
         have hmi : K.p.ns.cap ≤ 9223372036854775807 := by unfold maxLen at hcapb; omega
         clear hst5 hpm5 hcapb
         go_cut [] (fun wx => AllSt K J Jx w w.heap.size mb ((cs2 ++ initsC K.p (K.p.inits.take k) []) ++ [ie]) (names4 K.p) wx ∧ wx.heap[wr.heap.size]? = some (.cells #[.int .i64 x.block, .int .u8 x.value.kind, .int .u8 x.value.op, .int .u32 x.value.value, .int .i64 x.value.width, .string x.value.name, .slice x.value.sp.at_ x.value.subs.length x.value.sp.cap] 118 (0, 0)))
         case first => as_aux_lemma =>
           obtain ⟨ib, hib⟩ : ∃ ib, decide (x.block ∈ (K.p.inits.take k).map InitV.block) = ib := ⟨_, rfl⟩
           rw [hib] at hcx HIE
           have HCX := Lib.hid (hcx.out W5 (Below.refl _ _))
           obtain ⟨df, hdf⟩ : ∃ df, differW (widthE K.p outside x.value) K.p.width = df := ⟨_, rfl⟩
           rw [hdf] at HIE
           have HDF0 := Lib.hid hdf
           clear hib hcx hdf
           by_cases h1 : x.block < 0
           · have hres : ie = 324 := by rw [HIE.out]; simp [h1]
             have HRES := Lib.hid hres
             clear hres HCX
             go_wp2_with (first | (go_at_call 110; refine (HTELL.out _ _ (Below.refl _ _)).mono ?_; rintro o9 w9 ⟨rfl, ha9, hx9⟩; have HA9 := Lib.hid ha9; have HX9 := Lib.hid hx9; clear ha9 hx9) | fail)
             go_meet
             case rel => exact ⟨by rw [HRES.out]; exact HA9.out, HX9.out⟩
           · by_cases h2 : K.p.blocks ≤ x.block
             · have hres : ie = 324 := by rw [HIE.out]; simp [h2]
               have HRES := Lib.hid hres
               clear hres HCX
               go_wp2_with (first | (go_at_call 110; refine (HTELL.out _ _ (Below.refl _ _)).mono ?_; rintro o9 w9 ⟨rfl, ha9, hx9⟩; have HA9 := Lib.hid ha9; have HX9 := Lib.hid hx9; clear ha9 hx9) | fail)
               go_meet
               case rel => exact ⟨by rw [HRES.out]; exact HA9.out, HX9.out⟩
             · have d1 : decide (x.block < 0) = false := decide_eq_false h1
               have d2 : decide (K.p.blocks ≤ x.block) = false := decide_eq_false h2
               rw [d1, d2] at HIE
               cases ib with
               | true =>
                 have hres : ie = 324 := by rw [HIE.out]; rfl
                 have HRES := Lib.hid hres
                 clear hres h1 h2
                 go_wp2_with (first | (go_at_call 119; refine HCX.out.mono ?_; rintro o8 w8 ⟨rfl, hb8⟩; have HB8 := Lib.hid hb8; clear hb8) | (go_at_call 110; refine (HTELL.out _ _ HB8.out).mono ?_; rintro o9 w9 ⟨rfl, ha9, hx9⟩; have HA9 := Lib.hid ha9; have HX9 := Lib.hid hx9; clear ha9 hx9) | fail)
                 go_meet
                 case rel => exact ⟨by rw [HRES.out]; exact HA9.out, HX9.out⟩
               | false =>
                 go_upto_region 20 with (first | (go_at_call 119; refine HCX.out.mono ?_; rintro o8 w8 ⟨rfl, hb8⟩; have HB8 := Lib.hid hb8; clear hb8) | fail)
                 have HA8 := Lib.hid (HA5.out.new hJ hJx HF.out HB8.out)
                 have HBX8 := Lib.hid ((HB8.out.block _ (Array.getElem?_eq_some_iff.1 HB5.out).1).trans HB5.out)
                 have HC : Hid (∀ W, Below w8.heap.size w8 W → W.cell? ⟨wr.heap.size, 1, none⟩ = some (.int .u8 x.value.kind) ∧ W.cell? ⟨wr.heap.size, 2, none⟩ = some (.int .u8 x.value.op) ∧ W.cell? ⟨wr.heap.size, 3, none⟩ = some (.int .u32 x.value.value) ∧ W.cell? ⟨wr.heap.size, 4, none⟩ = some (.int .i64 x.value.width) ∧ W.cell? ⟨wr.heap.size, 5, none⟩ = some (.string x.value.name) ∧ W.cell? ⟨wr.heap.size, 6, none⟩ = some (.slice x.value.sp.at_ x.value.subs.length x.value.sp.cap) ∧ W.cell? ⟨w.heap.size, 1, none⟩ = some (.int .i64 K.p.width)) := Lib.hid fun W hW => by
                   have hx := (hW.block _ (Array.getElem?_eq_some_iff.1 HBX8.out).1).trans HBX8.out
                   have hp := (hW.block _ (Array.getElem?_eq_some_iff.1 HA8.out.box).1).trans HA8.out.box
                   exact ⟨by simp [World.cell?, hx], by simp [World.cell?, hx], by simp [World.cell?, hx], by simp [World.cell?, hx], by simp [World.cell?, hx], by simp [World.cell?, hx], arr_cells hp 1 rfl⟩
                 have HW : Hid (∀ W, Below w8.heap.size w8 W → Calls Tryz.prog 68 #[.pointer (some ⟨K.q, 0, none⟩), x.value.val] W fun o w' => o = .returned (.int .i64 (widthE K.p outside x.value)) ∧ Below W.heap.size W w') := Lib.hid fun W hW => by
                   obtain ⟨pm8, hst8, -⟩ := (HA8.out.new hJ hJx HF.out hW).st
                   obtain ⟨over8, hk8, -⟩ := hst8.ex
                   have hlow : Below K.n₀ w W := HA8.out.keeps.low.trans (hW.mono (by have := HA8.out.keeps.size; omega))
                   exact width_any HOK.out.value W hlow (by have := hlow.size; omega) hk8
                 simp only [ExprV.val, Sp.val] at HW
                 obtain ⟨v0, v1, v2, v3, v4, v5, v6⟩ := HC.out w8.drew (Below.refl _ _).drew
                 have hbd : Below w8.heap.size w8 w8.drew := (Below.refl _ _).drew
                 generalize widthE K.p outside x.value = wy at *
                 have hdf := HDF0.out
                 cases df
                 all_goals
                   have hres := HIE.out
                   simp only [Bool.or_false, Bool.false_eq_true, if_false, if_true] at hres
                   have HRES := Lib.hid hres
                   have HDF := Lib.hid (fun W => (hdf ▸ differ_any wy K.p.width W : Calls Tryz.prog 108 #[.int .i64 wy, .int .i64 K.p.width] W fun o w' => o = .returned (.bool _) ∧ W = w'))
                   clear hdf hres HIE HCX g0 p0 p12 h1 h2
                   go_region_held3 (fun W => W.cell? ⟨wr.heap.size, 1, none⟩ = some (.int .u8 x.value.kind) ∧ W.cell? ⟨wr.heap.size, 2, none⟩ = some (.int .u8 x.value.op) ∧ W.cell? ⟨wr.heap.size, 3, none⟩ = some (.int .u32 x.value.value) ∧ W.cell? ⟨wr.heap.size, 4, none⟩ = some (.int .i64 x.value.width) ∧ W.cell? ⟨wr.heap.size, 5, none⟩ = some (.string x.value.name) ∧ W.cell? ⟨wr.heap.size, 6, none⟩ = some (.slice x.value.sp.at_ x.value.subs.length x.value.sp.cap) ∧ W.cell? ⟨w.heap.size, 1, none⟩ = some (.int .i64 K.p.width) ∧ Below w8.heap.size w8 W) (simp [*])
                     (first
                       | (go_at_call 68; refine (HW.out _ (by assumption)).mono ?_; rintro o7 w7 ⟨rfl, hb7⟩; have hb9 := Below.trans (by assumption : Below w8.heap.size w8 _) (hb7.mono (Below.size (by assumption))); obtain ⟨z0, z1, z2, z3, z4, z5, z6⟩ := HC.out _ hb9)
                       | (go_at_call 108; refine (HDF.out _).mono ?_; rintro o6 w6 ⟨rfl, rfl⟩)
                       | fail)
                   go_wp2_with (first | (go_at_call 110; refine (HTELL.out _ _ (HB8.out.trans ((by assumption : Below w8.heap.size w8 _).mono HB8.out.size))).mono ?_; rintro o9 w9 ⟨rfl, ha9, hx9⟩; have HA9 := Lib.hid ha9; have HX9 := Lib.hid hx9; clear ha9 hx9) | fail)
                   go_meet
                   case rel => exact ⟨by rw [HRES.out]; exact HA9.out, HX9.out⟩
         case rest => as_aux_lemma =>
           obtain ⟨ha9, hx9⟩ := hcut
           obtain ⟨pm9, hst9, hpm9⟩ := ha9.st
           have hEX := expr_any hJ hJx hT (pm := pm9) (E := outside) (wh := 1) HOK.out.value ((cs2 ++ initsC K.p (K.p.inits.take k) []) ++ [ie]) 1 wc ha9.keeps.low hst9 (by simp only [List.length_append, List.length_cons, List.length_nil]; omega) (by omega)
           simp only [ExprV.val, Sp.val, Int.natCast_one] at hEX
           have HEX := Lib.hid hEX
           have HA9 := Lib.hid ha9
           have HPM9 := Lib.hid hpm9
           have q1 : wc.cell? ⟨wr.heap.size, 1, none⟩ = some (.int .u8 x.value.kind) := by simp [World.cell?, hx9]
           have q2 : wc.cell? ⟨wr.heap.size, 2, none⟩ = some (.int .u8 x.value.op) := by simp [World.cell?, hx9]
           have q3 : wc.cell? ⟨wr.heap.size, 3, none⟩ = some (.int .u32 x.value.value) := by simp [World.cell?, hx9]
           have q4 : wc.cell? ⟨wr.heap.size, 4, none⟩ = some (.int .i64 x.value.width) := by simp [World.cell?, hx9]
           have q5 : wc.cell? ⟨wr.heap.size, 5, none⟩ = some (.string x.value.name) := by simp [World.cell?, hx9]
           have q6 : wc.cell? ⟨wr.heap.size, 6, none⟩ = some (.slice x.value.sp.at_ x.value.subs.length x.value.sp.cap) := by simp [World.cell?, hx9]
           clear ha9 hx9 hst9 hpm9 hEX HTELL g0 p0 p12 hcx
           go_wp2_with (first | (go_at_call 70; refine HEX.out.mono ?_; rintro o7 w7 ⟨rfl, ht7⟩; have HT7 := Lib.hid ht7; clear ht7) | fail)
           have HA7 := Lib.hid (HA9.out.told HF.out HPM9.out HT7.out)
           go_roundw
           case rel => exact ⟨k + 1, by omega, by go_num, by
             have h9 := HA7.out
             rw [HTS.out, HIN2.out]
             simpa using h9⟩
           case measure => simp [intOf]; omega
       · obtain rfl : k = K.p.inits.length := by omega
         rw [List.take_length] at HAK
         obtain ⟨w5, hw5⟩ : ∃ y : World, y = wr := ⟨_, rfl⟩
         subst hw5
         obtain ⟨cs3, hcs3⟩ : ∃ l, cs2 ++ initsC K.p K.p.inits [] = l := ⟨_, rfl⟩
         have hl3 : cs3.length = cs2.length + (initsC K.p K.p.inits []).length := by rw [← hcs3, List.length_append]
         rw [hcs3] at HAK HCP
         have e13 := arr_cells HAK.out.box 13 (v := .slice K.p.rs.at_ K.p.procs.length K.p.rs.cap) rfl
         have hpl := heft_procs hH
         have hn4 : (names4 K.p).length ≤ 20000 := by
           have e3 := dclN_len K.p 4
           rw [befN_four] at e3
           omega
         clear hcs3 HA6
         go_wp2_with fail
         go_loopw [104] (fun v wr => ∃ k : Nat, k ≤ K.p.procs.length ∧ v = .int .i64 k ∧ AllSt K J Jx w w.heap.size mb (cs3 ++ procsC K.p (K.p.procs.take k) 0 (names4 K.p)) (names4 K.p ++ (K.p.procs.take k).map ProcV.name) wr) (fun v _ => K.p.procs.length - (intOf v).toNat)
         case atStart => exact ⟨0, Nat.zero_le _, rfl, by simpa [procsC] using HAK.out⟩
         case round =>
           obtain ⟨k, hk, rfl, hak⟩ := hrel
           have HAP := Lib.hid hak
           clear hak e13
           by_cases hlt2 : k < K.p.procs.length
           · obtain ⟨b2, off2, eA2, hbn2, hcell⟩ := (HP.out.prow.below HAP.out.keeps.low).row (by omega)
             have k0 : wr.cell? ⟨b2, off2 + k * 3, none⟩ = some (.string K.p.procs[k].name) := hcell k hlt2 0 _ rfl
             have k1 : wr.cell? ⟨b2, off2 + k * 3 + 1, none⟩ = some (.slice K.p.procs[k].ps.at_ K.p.procs[k].params.length K.p.procs[k].ps.cap) := hcell k hlt2 1 _ rfl
             have k2 : wr.cell? ⟨b2, off2 + k * 3 + 2, none⟩ = some (.slice K.p.procs[k].bs.at_ K.p.procs[k].body.length K.p.procs[k].bs.cap) := hcell k hlt2 2 _ rfl
             have hts : K.p.procs.take (k + 1) = K.p.procs.take k ++ [K.p.procs[k]] := List.take_succ_eq_append_getElem hlt2
             have hnq := (HN.out.procs _ (List.getElem_mem hlt2)).1
             have hspl : (procsC K.p (K.p.procs.take (k + 1)) 0 (names4 K.p)).length ≤ (procsC K.p K.p.procs 0 (names4 K.p)).length := by
               have e1 : K.p.procs = K.p.procs.take (k + 1) ++ K.p.procs.drop (k + 1) := (List.take_append_drop _ _).symm
               rw [procsC_len, procsC_len]
               conv => rhs; rw [e1]
               rw [List.map_append, List.sum_append]
               omega
             have hps : procsC K.p (K.p.procs.take k ++ [K.p.procs[k]]) 0 (names4 K.p) = procsC K.p (K.p.procs.take k) 0 (names4 K.p) ++ procC K.p (names4 K.p ++ (K.p.procs.take k).map ProcV.name) k K.p.procs[k] := by
               rw [procsC_snoc, List.length_take, Nat.min_eq_left hk, Nat.zero_add]
             rw [hts, hps] at hspl
             simp only [List.length_append] at hspl
             have hsw := HAP.out.keeps.size
             have hba : Below wr.heap.size wr (wr.alloc (.cells #[.string K.p.procs[k].name, .slice K.p.procs[k].ps.at_ K.p.procs[k].params.length K.p.procs[k].ps.cap, .slice K.p.procs[k].bs.at_ K.p.procs[k].body.length K.p.procs[k].bs.cap] 47)) := (Below.refl _ wr).alloc (Nat.le_refl _) _
             have hB5 := World.alloc_heap_new wr (.cells #[.string K.p.procs[k].name, .slice K.p.procs[k].ps.at_ K.p.procs[k].params.length K.p.procs[k].ps.cap, .slice K.p.procs[k].bs.at_ K.p.procs[k].body.length K.p.procs[k].bs.cap] 47)
             have ha5 := HAP.out.new hJ hJx HF.out hba
             obtain ⟨pm5, hst5, hpm5⟩ := ha5.st
             obtain ⟨f5, n5, hn5, hbef5⟩ := ha5.bef
             have hplen := procC_len K.p [] (names4 K.p ++ (K.p.procs.take k).map ProcV.name) k K.p.procs[k]
             have hPC := proc_any hJ hJx hT hH HN.out hn0 _ hst5 (HMX.out.below ha5.keeps.low hn0) k hlt2 (by rw [hplen, List.length_append]; omega) hbef5
             have HTS := Lib.hid hts
             have HPS := Lib.hid hps
             clear hpm5 hst5
             generalize K.p.procs[k] = x at *
             have HPC := Lib.hid hPC
             have HA5 := Lib.hid ha5
             have HB5 := Lib.hid hB5
             have hs5 : (wr.alloc (.cells #[.string x.name, .slice x.ps.at_ x.params.length x.ps.cap, .slice x.bs.at_ x.body.length x.bs.cap] 47)).heap.size = wr.heap.size + 1 := by simp
             have hk0 : (0 : Int) ≤ (k : Int) := by omega
             have hk1 : (k : Int) < (K.p.procs.length : Int) := by omega
             have hlt4 : ((K.p.procs.take k).map ProcV.name).length ≤ K.p.procs.length := by rw [List.length_map]; exact List.length_take_le' _ _
             clear hcell hts hps hPC hba hB5 ha5 hplen
             rw [eA2]
             clear eA2
             go_upto_region 28 with (first | (go_at_call 121; refine HPC.out.mono ?_; rintro o6 w6 ⟨rfl, ht6⟩; have HT6 := Lib.hid ht6; clear ht6) | fail)
             clear k0 k1 k2
             have ha6 := HA5.out.entered HF.out HT6.out
             have hB6 := HT6.out.keeps.cells _ _ _ _ HB5.out rfl (by omega)
             obtain ⟨c0, c1, c2⟩ := three_cells hB6
             obtain ⟨f6, n6, hn6, hbef6⟩ := ha6.bef
             have hl1 := hbef6.look1 (s := x.name) (by unfold maxLen; omega)
             obtain ⟨hcb0, hcb1⟩ := hbef6.bound x.name
             simp only [List.length_append] at hn6
             have hcb2 : n6 ≤ 100000 := by omega
             obtain ⟨w8, hrun, hbef8, hturn⟩ := hbef6.store (s := x.name) (by unfold maxLen; omega) (by omega)
             have ha8 := ha6.stored hJ hJx HF.out hturn (by simp only [List.length_append]; exact hn6) hbef8
             generalize (f6 x.name).getD 0 = c at *
             have HA8 := Lib.hid ha8
             clear ha6 hB6 hbef6 hbef8 hturn ha8 hbef5
             go_wp2_with (refine wpList_mapRun rfl _ _ _ 127 rfl rfl rfl rfl hrun ?_)
             go_roundw
             case rel => exact ⟨k + 1, by omega, by go_num, by
               have h9 := HA8.out
               rw [HTS.out, HPS.out, List.map_append, ← List.append_assoc, ← List.append_assoc]
               exact h9⟩
             case measure => simp [intOf]; omega
           · obtain rfl : k = K.p.procs.length := by omega
             rw [List.take_length] at HAP
             obtain ⟨w6, hw6⟩ : ∃ y : World, y = wr := ⟨_, rfl⟩
             subst hw6
             obtain ⟨cs4, hcs4⟩ : ∃ l, cs3 ++ procsC K.p K.p.procs 0 (names4 K.p) = l := ⟨_, rfl⟩
             have hl4 : cs4.length = cs3.length + (procsC K.p K.p.procs 0 (names4 K.p)).length := by rw [← hcs4, List.length_append]
             rw [hcs4] at HAP HCP
             obtain ⟨pm6, hst6, hpm6⟩ := HAP.out.st
             have hE0 : outside.within ≤ 1000000000 := by decide
             have hWK := stmtsC_any hJ hJx hT hH (pm := pm6) hE0 HP.out.work cs4 1 w6 HAP.out.keeps.low hst6 (by omega) (by omega)
             simp only [Sp.val, Int.natCast_one] at hWK
             have HWK := Lib.hid hWK
             have HPM6 := Lib.hid hpm6
             have p14 := arr_cells HAP.out.box 14 (v := .slice K.p.ws.at_ K.p.work.length K.p.ws.cap) rfl
             clear hst6 hpm6 hWK hcs4 HAK
             go_upto_region 31 with (first | (go_at_call 122; refine HWK.out.mono ?_; clear HWK; rintro o7 w7 ⟨rfl, ht7⟩; have HT7 := Lib.hid ht7; clear ht7) | fail)
             have ha7 := HAP.out.told HF.out HPM6.out HT7.out
             obtain ⟨cs5, hcs5⟩ : ∃ l, cs4 ++ stmtsC K.p outside K.p.work 1 = l := ⟨_, rfl⟩
             have hl5 : cs5.length = cs4.length + (stmtsC K.p outside K.p.work 1).length := by rw [← hcs5, List.length_append]
             rw [hcs5] at ha7 HCP
             have HA7 := Lib.hid ha7
             obtain ⟨pm7, hst7, hpm7⟩ := ha7.st
             have hRK := stmtsC_any hJ hJx hT hH (pm := pm7) hE0 HP.out.recover cs5 1 w7 ha7.keeps.low hst7 (by omega) (by omega)
             simp only [Sp.val, Int.natCast_one] at hRK
             have HRK := Lib.hid hRK
             have HPM7 := Lib.hid hpm7
             have p15 := arr_cells ha7.box 15 (v := .slice K.p.cs.at_ K.p.recover.length K.p.cs.cap) rfl
             clear hst7 hpm7 hRK hcs5 HAP HPM6 HT7 p14 ha7
             go_upto_region 32 with (first | (go_at_call 122; refine HRK.out.mono ?_; clear HRK; rintro o8 w8 ⟨rfl, ht8⟩; have HT8 := Lib.hid ht8; clear ht8) | fail)
             have ha8 := HA7.out.told HF.out HPM7.out HT8.out
             obtain ⟨cs6, hcs6⟩ : ∃ l, cs5 ++ stmtsC K.p outside K.p.recover 1 = l := ⟨_, rfl⟩
             have hl6 : cs6.length = cs5.length + (stmtsC K.p outside K.p.recover 1).length := by rw [← hcs6, List.length_append]
             rw [hcs6] at ha8 HCP
             have HA8 := Lib.hid ha8
             obtain ⟨pm8, hst8, hpm8⟩ := ha8.st
             have hIV := expr_any hJ hJx hT (pm := pm8) (E := outside) (wh := 2) HP.out.invariant cs6 1 w8 ha8.keeps.low hst8 (by omega) (by omega)
             simp only [ExprV.val, Sp.val, Int.natCast_one] at hIV
             have HIV := Lib.hid hIV
             have HPM8 := Lib.hid hpm8
             have p16 := arr_cells ha8.box 16 (v := .int .u8 K.p.invariant.kind) rfl
             have p17 := arr_cells ha8.box 17 (v := .int .u8 K.p.invariant.op) rfl
             have p18 := arr_cells ha8.box 18 (v := .int .u32 K.p.invariant.value) rfl
             have p19 := arr_cells ha8.box 19 (v := .int .i64 K.p.invariant.width) rfl
             have p20 := arr_cells ha8.box 20 (v := .string K.p.invariant.name) rfl
             have p21 := arr_cells ha8.box 21 (v := .slice K.p.invariant.sp.at_ K.p.invariant.subs.length K.p.invariant.sp.cap) rfl
             clear hst8 hpm8 hIV hcs6 HA7 HPM7 HT8 p15 ha8
             go_wp2_with (first | (go_at_call 70; refine HIV.out.mono ?_; clear HIV; rintro o9 w9 ⟨rfl, ht9⟩; have HT9 := Lib.hid ht9; clear ht9) | fail)
             go_returns
             have ha9 := HA8.out.told HF.out HPM8.out HT9.out
             rw [← HCP.out] at ha9
             obtain ⟨pm9, hst9, -⟩ := ha9.st
             exact ⟨rfl, ⟨pm9, hst9⟩, ha9.keeps⟩
end Go.Proofs.YthcboallnbaimaaGreatDoor
namespace Go.Proofs.YthcboallnbaimaaGreatDoor
open Go Go.RowKit Go.Maps
/-- All that is wrong with a light program. -/
def resP (p : ProgV) : List (Int × Int) := probs (codesP p (sizedN (countP p))) 0
theorem problems_any (p : ProgV) (w : World) : Calls Tryz.prog 50 #[.agg p.arr] w fun o w' => o = .returned (.func (.func 83) #[] #[.pointer (some ⟨w.heap.size, 0, none⟩)]) ∧ w' = w.alloc (.cells p.arr 39) := by
 have harr : ∃ a, p.arr = a := ⟨_, rfl⟩
 obtain ⟨a, ha⟩ := harr
 rw [ha]
 clear ha
 go_enter Tryz.func50, Tryz.ntmps50
 go_wp2
 go_ret
 exact ⟨rfl, rfl⟩
theorem set_yv {q mt mp n₀ B : Nat} {p : ProgV} {yv yv' : Value} {pm : Option Nat} {E : Env} {n : Int} {over : Bool} {W : World} (h : Ckr ⟨q, p, n₀, B, yv, mt, mp⟩ pm E n over W) : Ckr ⟨q, p, n₀, B, yv', mt, mp⟩ pm E n over (W.setCell ⟨q, 28, none⟩ yv') := by
 have hn : n₀ ≤ q := by have := h.q; have := h.n0; simp only at *; omega
 have hk : ∀ k o, B ≤ k → W.heap[k]? = some o → o.isCells = false → (W.setCell ⟨q, 28, none⟩ yv').heap[k]? = some o := fun k o _ hk ho =>
   (Below.heap_setCell _ _ _ k (fun e => by simp only at e; subst e; rw [h.box] at hk; cases hk; cases ho)).trans hk
 refine ⟨?_, h.params.stays (K := ⟨q, p, n₀, B, yv, mt, mp⟩) hk, map_stays h.things h.mt hk, map_stays h.procs h.mp hk, h.prog.below ((Below.refl _ _).setCell hn _), h.n0, h.q, h.mt, h.mp⟩
 simp [World.setCell, Array.getElem?_modify, h.box, CkE.cells]
/-- What the checker's contracts ask of a program: it is light, its names are not too long, the counts do not overflow. -/
structure Fit (p : ProgV) : Prop where
 heft : countP p ≤ 20000
 names : NamesOk p
 weight : weightP p ≤ 1125899906842624
theorem Fit.light {p : ProgV} (h : Fit p) : heftP p ≤ 20000 := by have := countP_light h.heft; have := h.heft; omega
set_option maxRecDepth 1000000 in
set_option maxHeartbeats 4000000 in
theorem problems1_run (p : ProgV) (n₀ : Nat) (W : World) (Bs l : Nat) (hp : RdP n₀ W p) (hn : n₀ ≤ W.heap.size) (hn0 : 0 < n₀) (hf : Fit p) (hmx : MxAt W) (hBs : W.heap[Bs]? = some (.cells p.arr 39 (0, 0)))
   (J Jx : List (Int × Int) → World → Prop) (hJ : OwnC 129 W.heap.size J) (hJx : OwnC 129 W.heap.size Jx)
   (hY : ∀ pre (x : Int × Int) W1, J pre W1 → pre.length < 1000000 → YieldAt Fence.wide 0 Tryz.prog l #[.agg #[.int .i64 x.1, .int .i64 x.2]] W1 fun e W' =>
     (e = .returned (.bool true) ∧ J (pre ++ [x]) W' ∧ KeepsT TK W.heap.size W1 W' ∧ Below n₀ W1 W') ∨ (e = .returned (.bool false) ∧ Jx (pre ++ [x]) W' ∧ KeepsT TK W.heap.size W1 W' ∧ Below n₀ W1 W'))
   (h0 : J [] W) : Calls Tryz.prog 83 #[.func (.yield l) #[] #[], .pointer (some ⟨Bs, 0, none⟩)] W fun o W' => (∃ v, o = .returned v) ∧ (J (resP p) W' ∨ ∃ pre, pre ≠ [] ∧ pre <+: resP p ∧ Jx pre W') := by
 have hNW := new_any W p n₀ W.heap.size hp hn (Nat.le_refl _)
 rw [arr_val] at hNW
 have HNW := Lib.hid hNW
 have HBS := Lib.hid hBs
 have HY := Lib.hid hY
 clear hNW hBs hY hp
 go_enter Tryz.func83, Tryz.ntmps83
 obtain ⟨v8, hv8⟩ : ∃ v, Value.agg p.arr = v := ⟨_, rfl⟩
 rw [hv8] at HNW
 go_upto_region 1 with (first | (refine wpList_load_row rfl 39 _ rfl Bs rfl 39 _ (0, 0) _ HBS.out Tryz.underlying39 rfl (arr_size p) ?_) | (go_at_call 66; refine HNW.out.mono ?_; rintro o2 w2 ⟨q, mt, mp, rfl, hck, hq, hmt, hmp, hb2⟩) | fail)
 have f28 := hck.frozen 28
 have c28 := hck.c28
 have hck2 := set_yv (yv' := .func (.yield l) #[] #[]) hck
 have hJ2 : J [] (w2.setCell ⟨q, 28, none⟩ (.func (.yield l) #[] #[])) := hJ.cell _ (hJ.new h0 hb2) hq hck.box
 have hmx2 : MxAt (w2.setCell ⟨q, 28, none⟩ (.func (.yield l) #[] #[])) := hmx.below ((hb2.mono hn).setCell (by simp only; omega) _) hn0
 have hst : CkSt ⟨q, p, n₀, W.heap.size, .func (.yield l) #[] #[], mt, mp⟩ J Jx none outside [] (w2.setCell ⟨q, 28, none⟩ (.func (.yield l) #[] #[])) := ⟨false, hck2, .inl ⟨rfl, hJ2⟩⟩
 have hTell : TellOk ⟨q, p, n₀, W.heap.size, .func (.yield l) #[] #[], mt, mp⟩ J Jx := tell_loop _ l rfl J Jx hJ hJx HY.out
 have hAll := all_any hJ hJx hTell hf.light hf.names hn0 hf.weight _ hst hmx2
 have HALL := Lib.hid hAll
 clear hck hck2 hJ2 hmx2 hst hTell hAll HNW HBS
 go_wp2_with fail
 refine HALL.out.mono ?_
 rintro o w3 ⟨rfl, ⟨pm, hst3⟩, hk3⟩
 have HST3 := Lib.hid hst3
 clear hst3 hk3
 go_wp2_with fail
 go_returns
 refine ⟨⟨_, rfl⟩, ?_⟩
 obtain ⟨over, -, hts⟩ := HST3.out.ex
 rcases hts with ⟨_, h⟩ | ⟨_, pre, h1, h2, h3⟩
 · exact .inl h
 · exact .inr ⟨pre, h1, h2, h3⟩
theorem problems_seq (p : ProgV) (n₀ : Nat) (w : World) (Bs : Nat) (hp : RdP n₀ w p) (hn : n₀ ≤ w.heap.size) (hn0 : 0 < n₀) (hf : Fit p) (hmx : MxAt w) (hBs : w.heap[Bs]? = some (.cells p.arr 39 (0, 0))) :
   SeqD Fence.wide 1 Tryz.prog 83 #[.pointer (some ⟨Bs, 0, none⟩)] (fun x : Int × Int => #[.agg #[.int .i64 x.1, .int .i64 x.2]]) TK 129 n₀ (fun xs => xs = resP p) (fun pre => pre ≠ [] ∧ pre <+: resP p) 1000000 w := by
 intro l J Jx W hW hJ hJx hY h0
 have hlt := (Array.getElem?_eq_some_iff.1 hBs).1
 have hs := hW.size
 refine callsIn_wide.2 ((problems1_run p n₀ W Bs l (hp.below (hW.mono hn)) (by omega) hn0 hf (hmx.below hW (by omega)) ((hW.block _ hlt).trans hBs) J Jx hJ hJx hY h0).mono ?_)
 rintro e W' ⟨h1, h2 | ⟨pre, h3, h4, h5⟩⟩
 · exact ⟨h1, .inl ⟨_, rfl, h2⟩⟩
 · exact ⟨h1, .inr ⟨pre, ⟨h3, h4⟩, h5⟩⟩
end Go.Proofs.YthcboallnbaimaaGreatDoor
namespace Go.Proofs.YthcboallnbaimaaGreatDoor
open Go Go.RowKit Go.Maps
attribute [local go_sem] Oper.semAt_some
theorem wpListIn_load_row {F : Fence} {n : Nat} {P : Program} {ops : Array Oper} {rest : List Oper} {o : Oper} {a : Act} {w : World} {Q : Exit → Act → World → Prop} (hgd : o.guard = none) (ty : TypeId) (x : Operand) (ho : o.op = .load ty x)
   (g : Nat) (hx : a.eval x = .pointer (some ⟨g, 0, none⟩)) (t : TypeId) (cs : Array Value) (fr : Nat × Nat) (d : TypeDesc) (hg : w.heap[g]? = some (.cells cs t fr))
   (hu : P.underlying ty = some d) (hd : (match d with | .struct _ | .array _ _ => true | _ => false) = true) (hi : (P.info? ty).map (·.size) = some cs.size)
   (h : wpListIn F n P ops Q rest (a.put o.dst (.agg cs)) w) : wpListIn F n P ops Q (o :: rest) a w :=
 wpListIn_plain hgd fun K hK => by
   unfold Oper.wpIn
   refine ⟨?_, ?_⟩
   · simp [Oper.about, ho]
   · rw [Oper.semAt_plain F _ _ (by rw [ho]; intro c hc'; cases hc')]
     simp only [execOp, ho, hx, Instr.loadAt, Instr.sureAddr, Sem.run_bind, Sem.run_pure, Result.andThen_ok, run_loadVar_row w g t ty cs fr d hg hu hd hi]
     exact hK _ _ h
/-- What Check returns. -/
def checkP (p : ProgV) : Int × Int := if countP p ≤ 20000 then (resP p).headD (0, 0) else (0, 5)
/-- A word in a box. -/
def intBox (W : World) (q : Nat) (t : TypeId) (v : Int) : Prop := W.heap[q]? = some (.cells #[.int .i64 v] t (0, 0))
theorem intBox_own {B q : Nat} {t : TypeId} {v : Int} {W W' : World} {row : Option Nat} (h : intBox W q t v) (hg : W.grownBy W' row) (hr : ∀ r, row = some r → B ≤ r ∧ ∃ o : Obj, W.heap[r]? = some o ∧ (o.isCells = false ∨ ∃ cs fr, o = .cells cs 129 fr)) (ht : t ≠ 129) : intBox W' q t v :=
 (hg.block q (Array.getElem?_eq_some_iff.1 (h : W.heap[q]? = _)).1 (fun e => by
   obtain ⟨_, o, ho, hc⟩ := hr q e.symm
   rw [(h : W.heap[q]? = _)] at ho
   cases ho
   rcases hc with hc | ⟨cs, fr, hc⟩
   · cases hc
   · cases hc; exact ht rfl)).trans h
theorem two_set {B n₀ p e : Nat} {tp te : TypeId} {a b a' b' : Int} {W : World} (hP : intBox W p tp a) (hE : intBox W e te b) (hne : p ≠ e) (h1 : TK tp = false) (h2 : TK te = false) (hp : n₀ ≤ p) (he : n₀ ≤ e) :
   KeepsT TK B W ((W.drew.setCell ⟨p, 0, none⟩ (.int .i64 a')).setCell ⟨e, 0, none⟩ (.int .i64 b')) ∧ Below n₀ W ((W.drew.setCell ⟨p, 0, none⟩ (.int .i64 a')).setCell ⟨e, 0, none⟩ (.int .i64 b')) ∧
   intBox ((W.drew.setCell ⟨p, 0, none⟩ (.int .i64 a')).setCell ⟨e, 0, none⟩ (.int .i64 b')) p tp a' ∧ intBox ((W.drew.setCell ⟨p, 0, none⟩ (.int .i64 a')).setCell ⟨e, 0, none⟩ (.int .i64 b')) e te b' := by
 have hbd : Below W.heap.size W W.drew := (Below.refl _ _).drew
 have hP0 : intBox W.drew p tp a := hP
 have hE0 : intBox W.drew e te b := hE
 have hE1 : intBox (W.drew.setCell ⟨p, 0, none⟩ (.int .i64 a')) e te b := (Below.heap_setCell _ _ _ _ (fun h => hne (by simpa using h.symm))).trans hE0
 have hP1 : intBox (W.drew.setCell ⟨p, 0, none⟩ (.int .i64 a')) p tp a' := (show Boxed W.drew p tp (.int .i64 a) from hP0).set (.int .i64 a')
 refine ⟨((KeepsT.of_below hbd).trans (KeepsT.set (a := ⟨p, 0, none⟩) hP0 h1 _)).trans (KeepsT.set (a := ⟨e, 0, none⟩) hE1 h2 _), ((Below.refl _ W).drew.setCell (p := ⟨p, 0, none⟩) hp _).setCell (p := ⟨e, 0, none⟩) he _, ?_, (show Boxed (W.drew.setCell ⟨p, 0, none⟩ (.int .i64 a')) e te (.int .i64 b) from hE1).set (.int .i64 b')⟩
 exact (Below.heap_setCell _ _ _ _ (fun h => hne (by simpa using h))).trans hP1
set_option maxRecDepth 1000000 in
set_option maxHeartbeats 4000000 in
theorem check_any (w : World) (p : ProgV) (hp : RdP w.heap.size w p) (hn0 : 0 < w.heap.size) (hN : NamesOk p) (hwt : weightP p ≤ 1125899906842624) (hmx : MxAt w) :
   Calls Tryz.prog 30 #[p.val] w fun o w' => o = .returned (.tuple #[.int .i64 (checkP p).1, .int .i64 (checkP p).2]) ∧ Below w.heap.size w w' := by
 refine (callsIn_wide (n := 2)).1 ?_
 have hb1 : Below w.heap.size w (w.alloc (.cells p.arr 39)) := (Below.refl _ _).alloc (Nat.le_refl _) _
 have hB := World.alloc_heap_new w (.cells p.arr 39)
 have hLG := lightP_any _ p ((hp.below hb1).more (Nat.le_of_lt (by simp : w.heap.size < (w.alloc (.cells p.arr 39)).heap.size))) hwt
 have hPR := fun W => problems_any p W
 rw [arr_val] at hLG ⊢
 obtain ⟨arr, harr⟩ : ∃ a, p.arr = a := ⟨_, rfl⟩
 have harrs := arr_size p
 rw [harr] at hLG hPR hb1 hB harrs ⊢
 have HLG := Lib.hid hLG
 have HPR := Lib.hid hPR
 have HB := Lib.hid hB
 have HARR := Lib.hid harr
 have HP := Lib.hid hp
 have HB1 := Lib.hid hb1
 clear hLG hPR hB harr hp hb1
 by_cases hl : countP p ≤ 20000
 · have hf : Fit p := ⟨hl, hN, hwt⟩
   have hck : checkP p = (resP p).headD (0, 0) := if_pos hl
   rw [decide_eq_true hl] at HLG
   have HF := Lib.hid hf
   have HCK := Lib.hid hck
   clear hl hf hck hN hwt
   refine callsIn_of_wp_marks Tryz.func30 rfl trivial ?_ rfl
   simp only [Tryz.ntmps30, List.size_toArray, List.length_cons, List.length_nil, Nat.reduceAdd, Nat.reduceSub, Array.replicate_succ, Array.replicate_zero, List.push_toArray, List.append_toArray, List.nil_append, List.cons_append]
   gi_wp2
   refine wpIn_wide.2 (wp_scope_straight (wpIn_wide (n := 2).1 ?_))
   gi_wp2_with (first | (refine wpListIn_load_row rfl 39 _ rfl w.heap.size rfl 39 _ (0, 0) _ HB.out Tryz.underlying39 rfl harrs ?_) | (refine ⟨trivial, ?_⟩; gi_at_call 48; refine (callsIn_wide.2 HLG.out).mono ?_; rintro o3 w3 ⟨rfl, hb3⟩; have HB3 := Lib.hid hb3; clear hb3) | fail)
   have hszA : w.heap.size < (w.alloc (.cells arr 39)).heap.size := by simp
   have hb3w : Below w.heap.size w w3 := HB1.out.trans (HB3.out.mono (by omega))
   have hbox3 : w3.heap[w.heap.size]? = some (.cells arr 39 (0, 0)) := (HB3.out.block _ hszA).trans HB.out
   have hs3 : w.heap.size < w3.heap.size := (Array.getElem?_eq_some_iff.1 hbox3).1
   have hP1 : intBox ((w3.alloc (.cells #[.int .i64 0] 3)).alloc (.cells #[.int .i64 0] 42)) w3.heap.size 3 0 := (Below.heap_alloc _ _ _ (by simp)).trans (World.alloc_heap_new _ _)
   have hP2 : intBox ((w3.alloc (.cells #[.int .i64 0] 3)).alloc (.cells #[.int .i64 0] 42)) (w3.heap.size + 1) 42 0 := by
     have := World.alloc_heap_new (w3.alloc (.cells #[.int .i64 0] 3)) (.cells #[.int .i64 0] 42)
     rwa [World.size_alloc] at this
   have hb4 : Below w3.heap.size w3 ((w3.alloc (.cells #[.int .i64 0] 3)).alloc (.cells #[.int .i64 0] 42)) := ((Below.refl _ _).alloc (Nat.le_refl _) _).alloc (by simp) _
   have hs4 : ((w3.alloc (.cells #[.int .i64 0] 3)).alloc (.cells #[.int .i64 0] 42)).heap.size = w3.heap.size + 2 := by simp
   generalize (w3.alloc (.cells #[.int .i64 0] 3)).alloc (.cells #[.int .i64 0] 42) = w4 at *
   have hbox4 := (hb4.block _ hs3).trans hbox3
   have HBX4 := Lib.hid hbox4
   refine wpIn_label ?_
   gi_wp2_with (first | (refine wpListIn_load_row rfl 39 _ rfl w.heap.size rfl 39 _ (0, 0) _ HBX4.out Tryz.underlying39 rfl harrs ?_) | (refine ⟨trivial, ?_⟩; gi_at_call 50; refine (callsIn_wide.2 (HPR.out _)).mono ?_; rintro o5 w5 ⟨rfl, rfl⟩) | fail)
   have hbxA := World.alloc_heap_new w4 (.cells arr 39)
   have hb5 : Below w4.heap.size w4 (w4.alloc (.cells arr 39)) := (Below.refl _ _).alloc (Nat.le_refl _) _
   have hsA : (w4.alloc (.cells arr 39)).heap.size = w3.heap.size + 3 := by simp [hs4]
   rw [hs4] at hbxA
   have hb0A : Below w.heap.size w (w4.alloc (.cells arr 39)) := (hb3w.trans (hb4.mono (by omega))).trans (hb5.mono (by omega))
   have hPA : intBox (w4.alloc (.cells arr 39)) w3.heap.size 3 0 := (hb5.block _ (by omega)).trans hP1
   have hEA : intBox (w4.alloc (.cells arr 39)) (w3.heap.size + 1) 42 0 := (hb5.block _ (by omega)).trans hP2
   generalize w4.alloc (.cells arr 39) = wA at *
   clear hP1 hP2 hb5 hbox4 HBX4
   rw [← HARR.out] at hbxA
   refine wpIn_rangeFunc_netD (T := TK) (Tc := 129) (n₀ := w.heap.size) rfl (fun h => by cases h) (gf := 83) (lb := #[.pointer (some ⟨w3.heap.size + 2, 0, none⟩)]) rfl trivial (enters_of Tryz.func83 (by kernel_rfl) rfl)
     (problems_seq p w.heap.size wA (w3.heap.size + 2) (HP.out.below hb0A) (by omega) hn0 HF.out (hmx.below hb0A hn0) hbxA) (by omega) (Below.refl _ _) (fun _ => rfl)
     (fun pre W => pre = [] ∧ wA.heap.size ≤ W.heap.size ∧ Below w.heap.size w W ∧ intBox W w3.heap.size 3 0 ∧ intBox W (w3.heap.size + 1) 42 0)
     (fun c pre W => ∃ x : Int × Int, pre = [x] ∧ c = .exit 0 ∧ Below w.heap.size w W ∧ intBox W w3.heap.size 3 x.1 ∧ intBox W (w3.heap.size + 1) 42 x.2)
     ?hI ?hIx ⟨rfl, Nat.le_refl _, hb0A, hPA, hEA⟩
     (fun x a' W => ∃ b : Nat, wA.heap.size ≤ b ∧ W.heap[b]? = some (.cells #[.int .i64 x.1, .int .i64 x.2] 55 (0, 0)) ∧ a' = { tmps := #[.agg arr, .pointer (some ⟨w.heap.size, 0, none⟩), .int .i64 0, .int .i64 0, .pointer (some ⟨w3.heap.size, 0, none⟩), .pointer (some ⟨w3.heap.size + 1, 0, none⟩), .pointer (some ⟨b, 0, none⟩), .agg arr, .bool true, .bool false, .agg arr, .func (.func 83) #[] #[.pointer (some ⟨w3.heap.size + 2, 0, none⟩)], .agg #[.int .i64 x.1, .int .i64 x.2], undef, undef, undef, undef, undef, undef], defers := [] })
     ?hAx ?assign ?body ?done ?stop
   case hI =>
     rintro s X' Y rw ⟨h1, h1s, h2, h3, h4⟩ hg hr
     exact ⟨h1, Nat.le_trans h1s hg.size, h2.grown hg h2.size (fun q hq => by have := (hr q hq).1; omega), intBox_own h3 hg hr (by decide), intBox_own h4 hg hr (by decide)⟩
   case hIx =>
     rintro c s X' Y rw ⟨x, h0, h1, h2, h3, h4⟩ hg hr
     exact ⟨x, h0, h1, h2.grown hg h2.size (fun q hq => by have := (hr q hq).1; omega), intBox_own h3 hg hr (by decide), intBox_own h4 hg hr (by decide)⟩
   case hAx =>
     rintro x a' _ X' Y rw ⟨b, h0, h1, h2⟩ hg hr
     exact ⟨b, h0, (hg.block b (Array.getElem?_eq_some_iff.1 h1).1 (fun e => by
       obtain ⟨_, o, ho, hc⟩ := hr b e.symm
       rw [h1] at ho
       cases ho
       rcases hc with hc | ⟨cs, fr, hc⟩ <;> cases hc)).trans h1, h2⟩
   case assign =>
     rintro l2 pre x Wc K ⟨h1, h1s, h2, h3, h4⟩ hK
     have hba : Below Wc.heap.size Wc (Wc.alloc (.cells #[.int .i64 x.1, .int .i64 x.2] 55)) := (Below.refl _ Wc).alloc (Nat.le_refl _) _
     gi_wp2
     exact hK _ _ (KeepsT.of_below hba) (hba.mono (by omega)) ⟨h1, Nat.le_trans h1s hba.size, h2.trans (hba.mono (by omega)), (hba.block _ (Array.getElem?_eq_some_iff.1 (h3 : Wc.heap[_]? = _)).1).trans h3, (hba.block _ (Array.getElem?_eq_some_iff.1 (h4 : Wc.heap[_]? = _)).1).trans h4⟩ ⟨_, h1s, World.alloc_heap_new _ _, rfl⟩
   case body =>
     rintro l2 pre x a' Wc hl2 ⟨rfl, h1s, h2, h3, h4⟩ ⟨b, hb0, hb, rfl⟩ hlen
     obtain ⟨q0, q1⟩ := two_cells hb
     have hH3 := Lib.hid h3
     have hH4 := Lib.hid h4
     have cP := one_cell (h3 : Wc.heap[_]? = _)
     have cE := one_cell (h4 : Wc.heap[_]? = _)
     have fP : Wc.frozen? ⟨w3.heap.size, 0, none⟩ = false := by
       have h := hH3.out
       unfold intBox at h
       simp [World.frozen?, h]
     have fE : Wc.frozen? ⟨w3.heap.size + 1, 0, none⟩ = false := by
       have h := hH4.out
       unfold intBox at h
       simp [World.frozen?, h]
     have F1 := Lib.hid (two_set (B := wA.heap.size) (n₀ := w.heap.size) (a' := x.1) (b' := x.2) h3 h4 (by omega) rfl rfl (by omega) (by omega))
     have F2 := Lib.hid (two_set (B := wA.heap.size) (n₀ := w.heap.size) (a' := x.2) (b' := x.1) h4 h3 (by omega) rfl rfl (by omega) (by omega))
     clear h3 h4 hb
     gi_wp2
     gi_region
     all_goals
       gi_wp2
       first
         | exact ⟨F1.out.1, F1.out.2.1, x, rfl, rfl, h2.trans F1.out.2.1, F1.out.2.2.1, F1.out.2.2.2⟩
         | exact ⟨F2.out.1, F2.out.2.1, x, rfl, rfl, h2.trans F2.out.2.1, F2.out.2.2.2, F2.out.2.2.1⟩
   case done =>
     rintro Dq ys Wd hD rfl ⟨h1, h1s, h2, h3, h4⟩ hK
     have cP := one_cell (h3 : Wd.heap[_]? = _)
     have cE := one_cell (h4 : Wd.heap[_]? = _)
     have hres : checkP p = (0, 0) := by rw [HCK.out, h1]; rfl
     have HR := Lib.hid hres
     have HKD := Lib.hid hK
     clear h1 hres hK h3 h4
     gi_wp2
     gi_region
     gi_wp2
     simp only [Exit.noGoto]
     refine ⟨by simp, .inl ⟨_, _, rfl, run_takeDeferred (w := Wd.drew) HKD.out, ?_⟩⟩
     exact ⟨_, results_tmp2 rfl _ _ _, by rw [HR.out]; rfl, (h2.trans ((Below.refl _ Wd).drew)).trans (below_put _ _ (by omega))⟩
   case stop =>
     rintro Dq c pre Wd hD ⟨hp1, hp2⟩ ⟨x, rfl, rfl, h2, h3, h4⟩ hK
     have cP := one_cell (h3 : Wd.heap[_]? = _)
     have cE := one_cell (h4 : Wd.heap[_]? = _)
     have hres : checkP p = x := by
       obtain ⟨r, hr⟩ := hp2
       rw [HCK.out, ← hr]; rfl
     have HR := Lib.hid hres
     have HKD := Lib.hid hK
     clear hp1 hp2 hres hK h3 h4
     gi_wp2
     gi_region
     gi_wp2
     simp only [Exit.noGoto]
     refine ⟨by simp, .inl ⟨_, _, rfl, run_takeDeferred (w := Wd.drew) HKD.out, ?_⟩⟩
     exact ⟨_, results_tmp2 rfl _ _ _, by rw [HR.out]; rfl, (h2.trans ((Below.refl _ Wd).drew)).trans (below_put _ _ (by omega))⟩
 · have hck : checkP p = (0, 5) := if_neg hl
   rw [decide_eq_false hl] at HLG
   rw [hck]
   clear hl hck hN hwt
   refine callsIn_of_wp_marks Tryz.func30 rfl trivial ?_ rfl
   simp only [Tryz.ntmps30, List.size_toArray, List.length_cons, List.length_nil, Nat.reduceAdd, Nat.reduceSub, Array.replicate_succ, Array.replicate_zero, List.push_toArray, List.append_toArray, List.nil_append, List.cons_append]
   gi_wp2
   refine wpIn_wide.2 (wp_scope_straight (wpIn_wide (n := 2).1 ?_))
   gi_wp2_with (first | (refine wpListIn_load_row rfl 39 _ rfl w.heap.size rfl 39 _ (0, 0) _ HB.out Tryz.underlying39 rfl harrs ?_) | (refine ⟨trivial, ?_⟩; gi_at_call 48; refine (callsIn_wide.2 HLG.out).mono ?_; rintro o3 w3 ⟨rfl, hb3⟩; have HB3 := Lib.hid hb3; clear hb3) | fail)
   simp only [Exit.noGoto]
   exact ⟨_, results_tmp2 rfl _ _ _, rfl, HB1.out.trans (HB3.out.mono (by simp))⟩
end Go.Proofs.YthcboallnbaimaaGreatDoor
