/- slices.Delete at []tree.Stmt: one element of a list of one's own taken out, in place. check: Problems: AppendSeq and Collect over the checker's iterator. CheckStays: a made program without one of its statements, and with one more procedure, stays right. Plain Lean. CheckStays' region 15: a procedure more, told operation by operation. Chapter 32's law CheckStays, walked. -/
import Derived.Test.YthcboallnbaimaaGreatDoorUE
import Derived.Test.YthcboallnbaimaaGreatDoorUB
import Derived.Deep.RegionLaw
import Derived.RegionTactic
import Derived.BigQuiet
import Derived.Deep.QuietTactic
import Derived.WalkKit
import Derived.Lib.SliceRun
import Derived.Deep.RegionWith
import Derived.Deep.CutRange
import Derived.Deep.CutBlock
import Derived.Deep.DeepCutAuto
import Derived.StillTailTactics
import Derived.Outline
import Derived.Laws.EntriesVeiled
import Derived.Carry
import Derived.Laws.IdiomCopy
import Derived.Test.YthcboallnbaimaaGreatDoorUA
import Derived.Maps.OwnIn
import Derived.Test.YthcboallnbaimaaGreatDoorUG
import Derived.Test.YthcboallnbaimaaGreatDoorUD
namespace Go.Proofs.YthcboallnbaimaaGreatDoor
open Go Go.RowKit Go.Maps
def setsL : List Value → Nat → List Value → List Value
 | c, _, [] => c
 | c, o, v :: r => setsL (c.set o v) (o + 1) r
theorem setsL_len : ∀ (vs c : List Value) (o : Nat), (setsL c o vs).length = c.length
 | [], _, _ => rfl
 | v :: r, c, o => by rw [setsL, setsL_len r, List.length_set]
theorem setsL_out : ∀ (vs c : List Value) (o j : Nat), (j < o ∨ o + vs.length ≤ j) → (setsL c o vs)[j]? = c[j]?
 | [], _, _, _, _ => rfl
 | v :: r, c, o, j, h => by
   rw [setsL, setsL_out r (c.set o v) (o + 1) j (by simp at h; omega), List.getElem?_set_ne (by simp at h; omega)]
theorem setsL_in : ∀ (vs c : List Value) (o j : Nat) (u : Value), vs[j]? = some u → o + vs.length ≤ c.length → (setsL c o vs)[o + j]? = some u
 | v :: r, c, o, 0, u, h, hl => by
   simp at h hl
   subst h
   rw [setsL, setsL_out r _ _ _ (by omega), Nat.add_zero, List.getElem?_set_self (by omega)]
 | v :: r, c, o, j + 1, u, h, hl => by
   rw [setsL, show o + (j + 1) = o + 1 + j by omega]
   exact setsL_in r _ _ j u (by simpa using h) (by simp at hl ⊢; omega)
theorem heap_setCells {g : Nat} {ty : TypeId} : ∀ (vs c : List Value) (o : Nat) (W : World), W.heap[g]? = some (.cells c.toArray ty (0, 0)) → (W.setCells g o vs).heap[g]? = some (.cells (setsL c o vs).toArray ty (0, 0))
 | [], _, _, _, h => h
 | v :: r, c, o, W, h => by
   rw [World.setCells, setsL]
   refine heap_setCells r (c.set o v) (o + 1) _ ?_
   simp [World.setCell, Array.getElem?_modify, h]
theorem heap_setCells_ne {g b : Nat} (hb : b ≠ g) : ∀ (vs : List Value) (o : Nat) (W : World), (W.setCells g o vs).heap[b]? = W.heap[b]?
 | [], _, _ => rfl
 | v :: r, o, _ => by
   rw [World.setCells, heap_setCells_ne hb r (o + 1)]
   exact Below.heap_setCell _ _ _ _ hb
theorem below_setCells {B g : Nat} (hg : B ≤ g) : ∀ (vs : List Value) (o : Nat) (w W : World), Below B w W → Below B w (W.setCells g o vs)
 | [], _, _, _, h => h
 | v :: r, o, w, _, h => below_setCells hg r (o + 1) w _ (h.setCell (p := ⟨g, o, none⟩) hg v)
theorem flat_take {α : Type} {k : Nat} {enc : α → List Value} (hk : ∀ x, (enc x).length = k) : ∀ (l : List α) (i : Nat), (l.take i).flatMap enc = (l.flatMap enc).take (i * k)
 | [], _ => by simp
 | x :: l, 0 => by simp
 | x :: l, i + 1 => by
   rw [List.take_succ_cons, List.flatMap_cons, List.flatMap_cons, flat_take hk l i, Nat.add_mul, Nat.one_mul, Nat.add_comm, ← hk x, List.take_length_add_append, hk x]
theorem flat_drop {α : Type} {k : Nat} {enc : α → List Value} (hk : ∀ x, (enc x).length = k) : ∀ (l : List α) (i : Nat), (l.drop i).flatMap enc = (l.flatMap enc).drop (i * k)
 | [], _ => by simp
 | x :: l, 0 => by simp
 | x :: l, i + 1 => by
   rw [List.drop_succ_cons, List.flatMap_cons, flat_drop hk l i, Nat.add_mul, Nat.one_mul, Nat.add_comm, ← hk x, List.drop_length_add_append, hk x]
/-- What the block holds behind the move and the clearing. -/
theorem del_flat {α : Type} {k : Nat} {enc : α → List Value} (hk : ∀ x, (enc x).length = k) (l : List α) (c z : List Value) (i : Nat) (hi : i < l.length) (hc : c.take (l.length * k) = l.flatMap enc) (hz : z.length = k) (hcl : l.length * k ≤ c.length) :
   (setsL (setsL c (i * k) ((l.drop (i + 1)).flatMap enc)) ((l.length - 1) * k) z).take ((l.length - 1) * k) = (l.eraseIdx i).flatMap enc := by
 have e0 : ∀ j, j < l.length * k → c[j]? = (l.flatMap enc)[j]? := fun j hj => by rw [← hc, List.getElem?_take_of_lt hj]
 have hln : ((l.drop (i + 1)).flatMap enc).length = (l.length - 1 - i) * k := by rw [flat_len' hk, List.length_drop]; congr 1; omega
 have hb1 : i * k + (l.length - 1 - i) * k = (l.length - 1) * k := by rw [← Nat.add_mul]; congr 1; omega
 have hb2 : (l.length - 1) * k + k = l.length * k := by rw [← Nat.succ_mul]; congr 1; omega
 refine List.ext_getElem? fun j => ?_
 by_cases hj : j < (l.length - 1) * k
 · rw [List.getElem?_take_of_lt hj, setsL_out _ _ _ _ (.inl hj), List.eraseIdx_eq_take_drop_succ, List.flatMap_append, flat_take hk]
   have ht : ((l.flatMap enc).take (i * k)).length = i * k := by
     rw [List.length_take, flat_len' hk]
     exact Nat.min_eq_left (Nat.mul_le_mul_right k (Nat.le_of_lt hi))
   by_cases hji : j < i * k
   · rw [setsL_out _ _ _ _ (.inl hji), List.getElem?_append_left (by rw [ht]; exact hji), List.getElem?_take_of_lt hji, e0 j (by omega)]
   · rw [List.getElem?_append_right (by rw [ht]; omega), ht]
     obtain ⟨q, rfl⟩ : ∃ q, j = i * k + q := ⟨j - i * k, by omega⟩
     have hq : q < ((l.drop (i + 1)).flatMap enc).length := by rw [hln]; omega
     rw [Nat.add_sub_cancel_left, List.getElem?_eq_getElem hq]
     exact setsL_in _ _ _ _ _ (List.getElem?_eq_getElem hq) (by rw [hln]; omega)
 · rw [List.getElem?_eq_none (by rw [List.length_take, setsL_len, setsL_len]; omega), List.getElem?_eq_none]
   rw [flat_len' hk, List.length_eraseIdx_of_lt hi]
   omega
/-- The clearing of one element of several cells. -/
theorem run_clear_one {P : Program} (w : World) (t e ty : TypeId) (z : Value) (ht : P.underlying t = some (.slice e)) (hv : ∀ w, (zeroValue e).run P w = .ok z w) (h1 : ∀ u ∈ z.cells.toList, u.oneCell' = true) (b o c : Nat)
   (hc : ∀ j, j < z.cells.size → (w.cell? ⟨b, o + j, none⟩).isSome = true) (hf : ∀ j, j < z.cells.size → w.frozen? ⟨b, o + j, none⟩ = false) :
   (Builtin.clear_ #[t] ty #[.slice (some ⟨b, o, none⟩) 1 c]).run P w = .ok (.tuple #[]) (w.setCells b o z.cells.toList) := by
 have hzc : (Builtin.zeroCells z.cells 1).toList = z.cells.toList := by
   simp [Builtin.zeroCells]
   apply List.ext_getElem
   · simp
   · intro i h1 h2
     simp at h1
     simp [Nat.mod_eq_of_lt h1, h1]
 have hst := run_storeCells_cells (P := P) b o z.cells.toList 0 w (by simpa using hc) (by simpa using hf) h1
 simp only [Nat.add_zero] at hst
 simp [Builtin.clear_, run_underlying ht, hv, hzc, hst]
theorem run_zeroT (w : World) : (zeroValue 49).run Tryz.prog w = .ok (.agg #[.int .u8 0, .string ⟨#[]⟩, .slice none 0 0, .int .i64 0, .slice none 0 0, .slice none 0 0]) w := by
 obtain ⟨i0, hi0, hz0, _, _⟩ := info_of stmt_inf
 simp [zeroValue, typeInfo, hi0, hz0]
set_option maxRecDepth 1000000 in
set_option maxHeartbeats 8000000 in
theorem delete_stmt (w : World) (B g n c i : Nat) (l : List StmtV) (h : OwnL B w 49 6 StmtV.cells (.slice (some ⟨g, 0, none⟩) n c) l) (hi : i < l.length) (hl : l.length ≤ 1000000) :
   Calls Tryz.prog 35 #[.slice (some ⟨g, 0, none⟩) n c, .int .i64 (i : Nat), .int .i64 ((i : Int) + 1)] w fun o w' => o = .returned (.slice (some ⟨g, 0, none⟩) (n - 1) c) ∧ OwnL B w' 49 6 StmtV.cells (.slice (some ⟨g, 0, none⟩) (n - 1) c) (l.eraseIdx i) ∧ Below B w w' := by
 obtain ⟨i0, hi0, hz0, hz1, hz2⟩ := info_of stmt_inf
 have hn := h.len
 subst hn
 have hk : ∀ x : StmtV, (StmtV.cells x).length = 6 := fun _ => rfl
 obtain ⟨g', cap, cur, e', hg, hh, hcap, hmax, hsz, htk⟩ : ∃ g' cap cur, Value.slice (some ⟨g, 0, none⟩) l.length c = .slice (some ⟨g', 0, none⟩) l.length cap ∧ B ≤ g' ∧ w.heap[g']? = some (.cells cur 49 (0, 0)) ∧ l.length ≤ cap ∧ cap ≤ maxLen ∧ cur.size = cap * 6 ∧ cur.toList.take (l.length * 6) = l.flatMap StmtV.cells := by
   rcases h.2 with ⟨h0, _⟩ | h2
   · cases h0
   · exact h2
 cases e'
 obtain ⟨cl, rfl⟩ : ∃ cl : List Value, cur = cl.toArray := ⟨cur.toList, by simp⟩
 have hsz' : cl.length = c * 6 := by simpa using hsz
 have htk' : cl.take (l.length * 6) = l.flatMap StmtV.cells := by simpa using htk
 obtain ⟨news, hnews⟩ : ∃ news, news = (l.drop (i + 1)).flatMap StmtV.cells := ⟨_, rfl⟩
 have hlen : news.length = (l.length - (i + 1)) * 6 := by rw [hnews, flat_len' hk, List.length_drop]
 have hcell : ∀ j (_ : j < c * 6), (w.drew.cell? ⟨g, j, none⟩).isSome = true ∧ w.drew.frozen? ⟨g, j, none⟩ = false := fun j hj => by
   show (w.cell? _).isSome = true ∧ w.frozen? _ = false
   constructor
   · simp [World.cell?, hh, List.getElem?_eq_getElem (show j < cl.length by omega)]
   · simp [World.frozen?, hh]
 obtain ⟨A, hA, hsrc⟩ : ∃ A : Addr, (if c = i + 1 then some (⟨g, 0, none⟩ : Addr) else some ⟨g, (i + 1) * 6, none⟩) = some A ∧ Hid (∀ t u, news[t]? = some u → w.drew.cell? (A.add t) = some u) := by
   by_cases hci : c = i + 1
   · refine ⟨⟨g, 0, none⟩, by simp [hci], fun t u hu => ?_⟩
     have h0 : news.length = 0 := by rw [hlen]; omega
     rw [List.length_eq_zero_iff.1 h0] at hu
     simp at hu
   · refine ⟨⟨g, (i + 1) * 6, none⟩, by simp [hci], fun t u hu => ?_⟩
     have hlt := (List.getElem?_eq_some_iff.1 hu).1
     rw [hnews, flat_drop hk, List.getElem?_drop, ← htk', List.getElem?_take_of_lt (by omega)] at hu
     rw [Addr.add_lit]
     show w.cell? _ = some u
     simp [World.cell?, hh, hu]
 have s1 : Hid (news.length = (l.length - (i + 1)) * 6) := hlen
 have s2 : Hid (∀ u ∈ news, u.oneCell' = true) := by rw [hnews]; exact one_flat one_stmt _
 have s3 : Hid (∀ t, t < news.length → (w.drew.cell? ⟨g, 0 + i * 6 + t, none⟩).isSome = true ∧ w.drew.frozen? ⟨g, 0 + i * 6 + t, none⟩ = false) := fun t ht => hcell _ (by omega)
 obtain ⟨W1, hW1⟩ : ∃ W1, W1 = w.drew.setCells g (0 + i * 6) news := ⟨_, rfl⟩
 have hh1 : W1.heap[g]? = some (.cells (setsL cl (i * 6) news).toArray 49 (0, 0)) := by
   rw [hW1, Nat.zero_add]
   exact heap_setCells news cl (i * 6) w.drew hh
 have hb1 : Below B w W1 := by
   rw [hW1]
   exact below_setCells hg _ _ _ _ (Below.refl _ _).drew
 have hcell1 : ∀ j (_ : j < c * 6), (W1.cell? ⟨g, j, none⟩).isSome = true ∧ W1.frozen? ⟨g, j, none⟩ = false := fun j hj => by
   constructor
   · simp [World.cell?, hh1, List.getElem?_eq_getElem (show j < (setsL cl (i * 6) news).length by rw [setsL_len]; omega)]
   · simp [World.frozen?, hh1]
 have hcl : ∀ ty c', (Builtin.clear_ #[37] ty #[.slice (some ⟨g, (l.length - 1) * 6, none⟩) 1 c']).run Tryz.prog W1 = .ok (.tuple #[]) (W1.setCells g ((l.length - 1) * 6) [.int .u8 0, .string ⟨#[]⟩, .slice none 0 0, .int .i64 0, .slice none 0 0, .slice none 0 0]) :=
   fun ty c' => run_clear_one W1 _ _ ty _ Tryz.underlying37 run_zeroT (by simp [Value.cells, Value.oneCell']) g ((l.length - 1) * 6) c' (fun j hj => (hcell1 _ (by simp [Value.cells] at hj; omega)).1) (fun j hj => (hcell1 _ (by simp [Value.cells] at hj; omega)).2)
 have HF : Hid (OwnL B (W1.setCells g ((l.length - 1) * 6) [.int .u8 0, .string ⟨#[]⟩, .slice none 0 0, .int .i64 0, .slice none 0 0, .slice none 0 0]) 49 6 StmtV.cells (.slice (some ⟨g, 0, none⟩) (l.length - 1) c) (l.eraseIdx i) ∧ Below B w (W1.setCells g ((l.length - 1) * 6) [.int .u8 0, .string ⟨#[]⟩, .slice none 0 0, .int .i64 0, .slice none 0 0, .slice none 0 0])) := by
   have hle : (l.eraseIdx i).length = l.length - 1 := List.length_eraseIdx_of_lt hi
   refine ⟨⟨by rw [flat_len' hk], .inr ⟨g, c, _, by rw [hle], hg, heap_setCells _ _ _ _ hh1, by rw [hle]; omega, hmax, by simp [setsL_len, hsz'], ?_⟩⟩, below_setCells hg _ _ _ _ hb1⟩
   rw [hle, hnews]
   exact del_flat hk l cl _ i hi htk' rfl (by omega)
 have hW : Hid (W1 = w.drew.setCells g (0 + i * 6) news) := hW1
 have hic : i ≤ c := by omega
 have hjc : i + 1 ≤ c := by omega
 have hmx : c ≤ 9223372036854775807 := Nat.le_trans hmax (by decide)
 clear hW1 hh1 hb1 hcell1 hcell hnews hlen hh htk htk' hsz hsz' h
 go_enter Tryz.func35, Tryz.ntmps35
 go_upto_region 5 with fail
 have hj2 : ((i : Int) + 1).toNat = i + 1 := by omega
 have hj3 : (0 : Int) ≤ (i : Int) + 1 := by omega
 have hj4 : (i : Int) + 1 ≤ (l.length : Int) := by omega
 go_region_law (refine step_append_room rfl (.tmp 22) (.tmp 25) 37 rfl 49 i0 6 Tryz.underlying37 hi0 hz1 g 0 i c (by simp [Act.eval, Act.put]) A (l.length - (i + 1)) (c - (i + 1)) news (by simp [Act.eval, Act.put]) s1.out hsrc.out s2.out (by omega) s3.out ?_; rw [← hW.out])
 have e1 : i + (l.length - (i + 1)) = l.length - 1 := by omega
 rw [e1]
 have e2 : l.length - (l.length - 1) = 1 := by omega
 have e3 : (c = l.length - 1) = False := by simp; omega
 have e4 : ((l.length : Int) - 1) = ((l.length - 1 : Nat) : Int) := by omega
 have e5 : l.length - 1 ≤ l.length := by omega
 have e6 : l.length ≤ c := hcap
 have hcl2 := fun ty => hcl ty (c - (l.length - 1))
 clear hA hsrc s1 s2 s3 hW hic hjc hj2 hj3 hj4
 go_wp2_with fail
 go_ret
 exact ⟨rfl, HF.out⟩
end Go.Proofs.YthcboallnbaimaaGreatDoor
namespace Go.Proofs.YthcboallnbaimaaGreatDoor
open Go Go.RowKit Go.Maps
attribute [local go_sem] Oper.semAt_some
def encP (x : Int × Int) : List Value := [.int .i64 x.1, .int .i64 x.2]
/-- The value v owns the list of problems l. -/
def PRow (B : Nat) (W : World) (v : Value) (l : List (Int × Int)) : Prop := W.ownsRow B 55 2 v l.length (l.flatMap encP)
theorem flat_len (l : List (Int × Int)) : (l.flatMap encP).length = l.length * 2 := by
 induction l with
 | nil => rfl
 | cons x l ih => rw [List.flatMap_cons, List.length_append, ih, List.length_cons]; show 2 + _ = _; omega
theorem PRow.kept {B : Nat} {W W' : World} {v : Value} {l : List (Int × Int)} (h : PRow B W v l) (hk : ∀ k cs fr, B ≤ k → W.heap[k]? = some (.cells cs 55 fr) → W'.heap[k]? = W.heap[k]?) : PRow B W' v l := by
 obtain ⟨hlen, ho⟩ := h
 refine ⟨hlen, ?_⟩
 rcases ho with h0 | ⟨g, cap, cur, rfl, h1, h2, h3⟩
 · exact .inl h0
 · exact .inr ⟨g, cap, cur, rfl, h1, (hk g _ _ h1 h2).trans h2, h3⟩
theorem PRow.on {B : Nat} {W W' : World} {v : Value} {l : List (Int × Int)} (h : PRow B W v l) (hb : Below W.heap.size W W') : PRow B W' v l := h.kept fun k _ _ _ hk => hb.block k (Array.getElem?_eq_some_iff.1 hk).1
theorem prob_info : (Tryz.prog.info? 55).map (fun i => (i.zero, i.size, i.bytes)) = some (some (.agg #[.int .i64 0, .int .i64 0]), 2, 16) := by kernel_rfl
theorem KeepsT.grown {T : TypeId → Bool} {B : Nat} {W W' : World} {row : Option Nat} {t : TypeId} (hg : W.grownBy W' row) (hr : ∀ r, row = some r → ∃ cs fr, W.heap[r]? = some (.cells cs t fr)) (ht : T t = false) : KeepsT T B W W' :=
 ⟨hg.size, fun k o _ hk ho => (hg.block k (Array.getElem?_eq_some_iff.1 hk).1 (fun e => by
   obtain ⟨cs, fr, h⟩ := hr k e.symm
   rw [h] at hk; cases hk; cases ho)).trans hk, fun k cs t' fr hk h2 => (hg.block k (Array.getElem?_eq_some_iff.1 hk).1 (fun e => by
   obtain ⟨cs', fr', h⟩ := hr k e.symm
   rw [h] at hk; cases hk; rw [ht] at h2; cases h2)).trans hk⟩
/-- The row that an append may turn. -/
theorem PRow.own {B : Nat} {W : World} {v : Value} {l : List (Int × Int)} (h : PRow B W v l) : ∀ r, v.ownBlock = some r → B ≤ r ∧ ∃ cs fr, W.heap[r]? = some (.cells cs 55 fr) := by
 intro r hr
 obtain ⟨_, ho⟩ := h
 rcases ho with ⟨rfl, _⟩ | ⟨g, cap, cur, rfl, h1, h2, _⟩
 · cases hr
 · cases hr; exact ⟨h1, _, _, h2⟩
set_option maxRecDepth 1000000 in
set_option maxHeartbeats 4000000 in
theorem appendSeq_any (w : World) (p : ProgV) (Bs : Nat) (hp : RdP w.heap.size w p) (hn0 : 0 < w.heap.size) (hf : Fit p) (hmx : MxAt w) (hBs : w.heap[Bs]? = some (.cells p.arr 39 (0, 0))) :
   Calls Tryz.prog 82 #[.slice none 0 0, .func (.func 83) #[] #[.pointer (some ⟨Bs, 0, none⟩)]] w fun o w' => (∃ v, o = .returned v ∧ PRow w.heap.size w' v (resP p)) ∧ Below w.heap.size w w' := by
 refine (callsIn_wide (n := 2)).1 ?_
 obtain ⟨i0, hi, hz0, hz1, hz2⟩ := info_of prob_info
 have hbA : Below w.heap.size w (w.alloc (.cells #[.slice none 0 0] 52)) := (Below.refl _ _).alloc (Nat.le_refl _) _
 have hxA := World.alloc_heap_new w (.cells #[.slice none 0 0] 52)
 have hsA : (w.alloc (.cells #[.slice none 0 0] 52)).heap.size = w.heap.size + 1 := by simp
 have hBlt := (Array.getElem?_eq_some_iff.1 hBs).1
 have HSEQ := Lib.hid (problems_seq p w.heap.size _ Bs (hp.below hbA) (by omega) hn0 hf (hmx.below hbA hn0) ((hbA.block _ hBlt).trans hBs))
 have HXA := Lib.hid hxA
 have HBA := Lib.hid hbA
 clear hxA hbA hp hf hmx hBs
 refine callsIn_of_wp_marks Tryz.func82 rfl trivial ?_ rfl
 simp only [Tryz.ntmps82, List.size_toArray, List.length_cons, List.length_nil, Nat.reduceAdd, Nat.reduceSub, Array.replicate_succ, Array.replicate_zero, List.push_toArray, List.append_toArray, List.nil_append, List.cons_append]
 gi_wp2_with fail
 generalize w.alloc (.cells #[.slice none 0 0] 52) = wA at *
 refine wpIn_rangeFunc_netD (T := TK) (Tc := 129) (n₀ := w.heap.size) rfl (fun h => by cases h) (gf := 83) (lb := #[.pointer (some ⟨Bs, 0, none⟩)]) rfl trivial (enters_of Tryz.func83 (by kernel_rfl) rfl)
   HSEQ.out (by omega) (Below.refl _ _) (fun _ => rfl)
   (fun pre W => ∃ v, W.heap[w.heap.size]? = some (.cells #[v] 52 (0, 0)) ∧ PRow w.heap.size W v pre ∧ Below w.heap.size w W ∧ wA.heap.size ≤ W.heap.size)
   (fun c pre W => False)
   ?hI ?hIx ⟨_, HXA.out, ⟨rfl, .inl ⟨rfl, rfl⟩⟩, HBA.out, Nat.le_refl _⟩
   (fun x a' W => ∃ b : Nat, wA.heap.size ≤ b ∧ W.heap[b]? = some (.cells #[.int .i64 x.1, .int .i64 x.2] 55 (0, 0)) ∧ a' = { tmps := #[.slice none 0 0, .func (.func 83) #[] #[.pointer (some ⟨Bs, 0, none⟩)], .pointer (some ⟨w.heap.size, 0, none⟩), undef, .slice none 0 0, .pointer (some ⟨b, 0, none⟩), .func (.func 83) #[] #[.pointer (some ⟨Bs, 0, none⟩)], .agg #[.int .i64 x.1, .int .i64 x.2], undef, undef, undef, undef, undef], defers := [] })
   ?hAx ?assign ?body ?done ?stop
 case hI =>
   rintro s X' Y rw ⟨v, h1, h2, h3, h4⟩ hg hr
   have hcl : ∀ (k : Nat) (cs : Array Value) (t : TypeId) (fr : Nat × Nat), X'.heap[k]? = some (Obj.cells cs t fr) → t ≠ 129 → Y.heap[k]? = X'.heap[k]? := fun k cs t fr hk ht => hg.block k (Array.getElem?_eq_some_iff.1 hk).1 (fun e => by
     obtain ⟨_, o, ho, hc⟩ := hr k e.symm
     rw [hk] at ho
     cases ho
     rcases hc with hc | ⟨cs', fr', hc⟩
     · cases hc
     · cases hc; exact ht rfl)
   exact ⟨v, (hcl _ _ _ _ h1 (by decide)).trans h1, h2.kept fun k cs fr _ hk => hcl k cs _ fr hk (by decide), h3.grown hg h3.size (fun q hq => by have := (hr q hq).1; omega), Nat.le_trans h4 hg.size⟩
 case hIx => rintro c s X' Y rw h; cases h
 case hAx =>
   rintro x a' _ X' Y rw ⟨b, h0, h1, h2⟩ hg hr
   exact ⟨b, h0, (hg.block b (Array.getElem?_eq_some_iff.1 h1).1 (fun e => by
     obtain ⟨_, o, ho, hc⟩ := hr b e.symm
     rw [h1] at ho
     cases ho
     rcases hc with hc | ⟨cs, fr, hc⟩ <;> cases hc)).trans h1, h2⟩
 case assign =>
   rintro l2 pre x Wc K ⟨v, h1, h2, h3, h4⟩ hK
   have hba : Below Wc.heap.size Wc (Wc.alloc (.cells #[.int .i64 x.1, .int .i64 x.2] 55)) := (Below.refl _ Wc).alloc (Nat.le_refl _) _
   gi_wp2
   exact hK _ _ (KeepsT.of_below hba) (hba.mono (by omega)) ⟨v, (hba.block _ (Array.getElem?_eq_some_iff.1 h1).1).trans h1, h2.on hba, h3.trans (hba.mono (by omega)), Nat.le_trans h4 hba.size⟩ ⟨_, h4, World.alloc_heap_new _ _, rfl⟩
 case body =>
   rintro l2 pre x a' Wc hl2 ⟨v, h1, h2, h3, h4⟩ ⟨b, hb0, hb, rfl⟩ hlen
   obtain ⟨q0, q1⟩ := two_cells hb
   have cB := one_cell h1
   have hba : Below Wc.heap.size Wc (Wc.alloc (.cells #[.int .i64 x.1, .int .i64 x.2] 55)) := (Below.refl _ Wc).alloc (Nat.le_refl _) _
   have hnew := World.alloc_heap_new Wc (.cells #[.int .i64 x.1, .int .i64 x.2] 55)
   have hcell : ∀ j u, (encP x)[j]? = some u → (Wc.alloc (.cells #[.int .i64 x.1, .int .i64 x.2] 55)).cell? ((⟨Wc.heap.size, 0, none⟩ : Addr).add j) = some u := fun j u hj => by
     rw [Addr.add_lit]
     simp only [World.cell?, Nat.zero_add, hnew]
     have e2 : (#[Value.int .i64 x.1, .int .i64 x.2] : Array Value)[j]? = some u := by simpa [encP] using hj
     exact e2
   have hone : ∀ u ∈ encP x, u.oneCell' = true := by intro u hu; simp [encP] at hu; rcases hu with rfl | rfl <;> rfl
   have HR2 := Lib.hid (h2.on hba)
   have HBX := Lib.hid ((hba.block _ (Array.getElem?_eq_some_iff.1 h1).1).trans h1)
   have HBA2 := Lib.hid hba
   have H3 := Lib.hid h3
   have H2 := Lib.hid h2
   obtain ⟨A, nn, cc, rfl⟩ : ∃ A n c, v = .slice A n c := by
     rcases h2.2 with ⟨rfl, _⟩ | ⟨g, cap, cur, rfl, _⟩
     · exact ⟨_, _, _, rfl⟩
     · exact ⟨_, _, _, rfl⟩
   clear h1 h2 h3 hb hba hnew
   gi_wp2_with (first | (gi_at_builtin; refine wpListIn_append_own_at _ rfl _ _ 52 rfl w.heap.size 55 i0 (.agg #[.int .i64 0, .int .i64 0]) 2 16 Tryz.underlying52 hi hz0 hz1 hz2 rfl (by decide) _ _ _ rfl HR2.out ⟨Wc.heap.size, 0, none⟩ 1 1 (encP x) rfl rfl hcell hone (by simp only [maxLen]; omega) (by omega) (by simp; omega) ?_) | fail)
   intro v2 w2 hown2 hg2 hnil hat
   obtain ⟨A2, n2, c3, rfl⟩ : ∃ A n c, v2 = .slice A n c := by
     rcases hown2.2 with ⟨rfl, _⟩ | ⟨g, cap, cur, rfl, _⟩
     · exact ⟨_, _, _, rfl⟩
     · exact ⟨_, _, _, rfl⟩
   have hne : some w.heap.size ≠ (Value.slice A nn cc).ownBlock := fun e => by
     obtain ⟨_, cs, fr, hh⟩ := HR2.out.own _ e.symm
     rw [HBX.out] at hh; cases hh
   have hlt := (Array.getElem?_eq_some_iff.1 HBX.out).1
   have hb2 := (hg2.block _ hlt hne).trans HBX.out
   have hk2 : KeepsT TK wA.heap.size Wc w2 := (KeepsT.of_below HBA2.out).trans (KeepsT.grown hg2 (fun r e => (HR2.out.own r e).2) rfl)
   have hl2 : Below w.heap.size Wc w2 := (HBA2.out.mono (by omega)).grown hg2 (Nat.le_trans (by omega : w.heap.size ≤ Wc.heap.size) HBA2.out.size) (fun q hq => (HR2.out.own q hq).1)
   have hrow2 : PRow w.heap.size w2 (.slice A2 n2 c3) (pre ++ [x]) := by
     unfold PRow
     rw [List.length_append, List.flatMap_append]
     simpa using hown2
   have f2 : w2.frozen? ⟨w.heap.size, 0, none⟩ = false := by simp [World.frozen?, hb2]
   have c2 := one_cell hb2
   have HK2 := Lib.hid hk2
   have HL2 := Lib.hid hl2
   have HRW2 := Lib.hid hrow2
   have HB2 := Lib.hid hb2
   have HS2 := Lib.hid hg2.size
   clear hown2 hg2 hnil hat hne hb2 hk2 hl2 hrow2
   gi_wp2
   exact ⟨HK2.out.trans (KeepsT.set (a := ⟨w.heap.size, 0, none⟩) HB2.out rfl _), HL2.out.setCell (p := ⟨w.heap.size, 0, none⟩) (Nat.le_refl _) _, _, (show Boxed w2 w.heap.size 52 _ from HB2.out).set _,
     HRW2.out.kept (fun k cs fr _ hk => Below.heap_setCell _ _ _ k (fun e => by
       have e2 : k = w.heap.size := e
       rw [e2, HB2.out] at hk; cases hk)),
     H3.out.trans (HL2.out.setCell (p := ⟨w.heap.size, 0, none⟩) (Nat.le_refl _) _), by have := HS2.out; have := HBA2.out.size; simp only [World.size_setCell]; omega⟩
 case done =>
   rintro Dq ys Wd hD rfl ⟨v, h1, h2, h3, h4⟩ hK
   have cB := one_cell h1
   have HKD := Lib.hid hK
   have H2 := Lib.hid h2
   have HB1 := Lib.hid h1
   clear hK h1 h2
   gi_wp2
   refine ⟨by simp, .inl ⟨_, _, rfl, run_takeDeferred (w := Wd) HKD.out, ?_⟩⟩
   exact ⟨_, results_tmp rfl _ _ _, ⟨v, rfl, H2.out.kept (fun k cs fr _ hk => World.putObj_heap_other (fun e => by rw [e, HKD.out] at hk; cases hk))⟩, h3.trans (below_put _ _ (by omega))⟩
 case stop => rintro Dq c pre Wd hD _ h; cases h
theorem PRow.less {B C : Nat} {W : World} {v : Value} {l : List (Int × Int)} (h : PRow C W v l) (hB : B ≤ C) : PRow B W v l := by
 obtain ⟨hlen, ho⟩ := h
 refine ⟨hlen, ?_⟩
 rcases ho with h0 | ⟨g, cap, cur, rfl, h1, h2⟩
 · exact .inl h0
 · exact .inr ⟨g, cap, cur, rfl, Nat.le_trans hB h1, h2⟩
theorem collect_any (w : World) (p : ProgV) (Bs : Nat) (hp : RdP w.heap.size w p) (hn0 : 0 < w.heap.size) (hf : Fit p) (hmx : MxAt w) (hBs : w.heap[Bs]? = some (.cells p.arr 39 (0, 0))) :
   Calls Tryz.prog 49 #[.func (.func 83) #[] #[.pointer (some ⟨Bs, 0, none⟩)]] w fun o w' => (∃ v, o = .returned v ∧ PRow w.heap.size w' v (resP p)) ∧ Below w.heap.size w w' := by
 have H := Lib.hid (appendSeq_any w p Bs hp hn0 hf hmx hBs)
 clear hp hf hmx hBs
 go_enter Tryz.func49, Tryz.ntmps49
 go_wp2_with fail
 refine H.out.mono ?_
 rintro o w1 ⟨⟨v, rfl, hr⟩, hb⟩
 have HR := Lib.hid hr
 have HB := Lib.hid hb
 clear hr hb
 go_wp2_with fail
 go_ret
 exact ⟨⟨v, rfl, HR.out⟩, HB.out⟩
set_option maxRecDepth 100000 in
/-- Problems of a light program. -/
theorem problemsList_any (w : World) (p : ProgV) (hp : RdP w.heap.size w p) (hn0 : 0 < w.heap.size) (hf : Fit p) (hmx : MxAt w) :
   Calls Tryz.prog 19 #[.agg p.arr] w fun o w' => (∃ v, o = .returned v ∧ PRow w.heap.size w' v (resP p)) ∧ Below w.heap.size w w' := by
 have hb1 : Below w.heap.size w (w.alloc (.cells p.arr 39)) := (Below.refl _ _).alloc (Nat.le_refl _) _
 have hB := World.alloc_heap_new w (.cells p.arr 39)
 have hs1 : w.heap.size < (w.alloc (.cells p.arr 39)).heap.size := by simp
 have hLG := lightP_any _ p ((hp.below hb1).more (Nat.le_of_lt hs1)) hf.weight
 rw [decide_eq_true hf.heft, arr_val] at hLG
 have hPR := fun W => problems_any p W
 have hCL := fun (W : World) (hW : Below w.heap.size w W) (Bs : Nat) (hBs : W.heap[Bs]? = some (.cells p.arr 39 (0, 0))) => collect_any W p Bs ((hp.below hW).more hW.size) (Nat.lt_of_lt_of_le hn0 hW.size) hf (hmx.below hW hn0) hBs
 have harrs := arr_size p
 have HLG := Lib.hid hLG
 have HPR := Lib.hid hPR
 have HCL := Lib.hid hCL
 have HB := Lib.hid hB
 have HB1 := Lib.hid hb1
 clear hLG hPR hCL hB hb1 hp hf hmx hs1
 generalize p.arr = arr at *
 go_enter Tryz.func19, Tryz.ntmps19
 go_wp2_with (first | (refine wpList_load_row rfl 39 _ rfl w.heap.size rfl 39 _ (0, 0) _ HB.out Tryz.underlying39 rfl harrs ?_) | fail)
 refine HLG.out.mono ?_
 rintro o w3 ⟨rfl, hb3⟩
 have hs1 : w.heap.size < (w.alloc (.cells arr 39)).heap.size := by simp
 have HX3 := Lib.hid ((hb3.block _ hs1).trans HB.out)
 have HB3 := Lib.hid (HB1.out.trans (hb3.mono (Nat.le_of_lt hs1)))
 clear hb3 hs1 HB HB1 HLG
 go_wp2_with (first | (refine wpList_load_row rfl 39 _ rfl w.heap.size rfl 39 _ (0, 0) _ HX3.out Tryz.underlying39 rfl harrs ?_) | fail)
 refine (HPR.out _).mono ?_
 rintro o w4 ⟨rfl, rfl⟩
 have hb4 : Below w3.heap.size w3 (w3.alloc (.cells arr 39)) := (Below.refl _ _).alloc (Nat.le_refl _) _
 have HB4 := Lib.hid (HB3.out.trans (hb4.mono HB3.out.size))
 have HC4 := Lib.hid (HCL.out _ HB4.out _ (World.alloc_heap_new w3 (.cells arr 39)))
 clear hb4
 go_wp2_with fail
 refine HC4.out.mono ?_
 rintro o w5 ⟨⟨v, rfl, hr⟩, hb5⟩
 have HR5 := Lib.hid (hr.less HB4.out.size)
 have HB5 := Lib.hid (HB4.out.trans (hb5.mono HB4.out.size))
 clear hr hb5 HC4
 go_wp2_with fail
 go_ret
 exact ⟨⟨v, rfl, HR5.out⟩, HB5.out⟩
end Go.Proofs.YthcboallnbaimaaGreatDoor
namespace Go.Proofs.YthcboallnbaimaaGreatDoor
open Go
/-- Without the statement at place i of Work. -/
def lessP (p : ProgV) (i : Nat) (ws : Sp) : ProgV := { p with work := p.work.eraseIdx i, ws := ws }
theorem IsMade.less {M : MkE} {hasP : Bool} {p : ProgV} (h : IsMade M hasP p) (i : Nat) (ws : Sp) : IsMade M hasP (lessP p i ws) :=
 ⟨⟨h.ok, h.prm, h.blocks, h.width, h.inputs, h.ghosts, h.vars, h.arrays, h.require, h.inits, h.blocksN, h.initsN, h.invariant⟩, h.procs, Nat.le_trans (List.length_eraseIdx_le _ _) h.workN, fun s hs => h.work s (List.mem_of_mem_eraseIdx hs), h.recoverN, h.recover⟩
def extraB : ByteArray := ⟨#[101, 120, 116, 114, 97]⟩
/-- With one more procedure, whose body is Recover's; and with a call of it. -/
def extraP (p : ProgV) (rs : Sp) : ProgV := { p with procs := p.procs ++ [⟨extraB, Sp.none, [], p.cs, p.recover⟩], rs := rs }
def callP (p : ProgV) (rs ws : Sp) : ProgV := { extraP p rs with work := p.work ++ [callT Sp.none extraB []], ws := ws }
/-- In the procedure p nothing is called. -/
theorem WT.calls_no {M : MkE} (hM : M.prm = true) {hasP : Bool} {d : Nat} {s : StmtV} (h : WT M hasP d s) : ∀ x, x ∈ s.pre → x.kind ≠ 8 := by
 induction h with
 | write _ _ => intro x hx; rw [StmtV.pre_eq] at hx; simp [writeT, StmtV.thn, StmtV.els] at hx; subst hx; simp [StmtV.kind]
 | flush hk => intro x hx; rw [StmtV.pre_eq] at hx; simp [flushT, StmtV.thn, StmtV.els] at hx; subst hx; simp [StmtV.kind]; omega
 | set _ _ => intro x hx; rw [StmtV.pre_eq] at hx; simp [setT, StmtV.thn, StmtV.els] at hx; subst hx; simp [StmtV.kind]
 | put _ _ => intro x hx; rw [StmtV.pre_eq] at hx; simp [StmtV.thn, StmtV.els] at hx; subst hx; simp [StmtV.kind]
 | cond _ _ _ _ _ i1 i2 =>
   intro x hx
   rw [StmtV.pre_eq, List.mem_cons, List.mem_append, List.mem_flatMap, List.mem_flatMap] at hx
   rcases hx with rfl | ⟨s, hs, hx⟩ | ⟨s, hs, hx⟩
   · simp [StmtV.kind]
   · exact i1 s hs x hx
   · exact i2 s hs x hx
 | loop _ _ _ _ _ i1 =>
   intro x hx
   rw [StmtV.pre_eq, List.mem_cons, List.mem_append, List.mem_flatMap, List.mem_flatMap] at hx
   rcases hx with rfl | ⟨s, hs, hx⟩ | ⟨s, hs, hx⟩
   · simp [StmtV.kind]
   · exact i1 s hs x hx
   · simp [StmtV.els] at hs
 | call h1 _ _ => rw [hM] at h1; cases h1
theorem foldl_keep {α β : Type} (f : α → β → α) : ∀ (l : List β) (a : α), (∀ x ∈ l, f a x = a) → l.foldl f a = a
 | [], _, _ => rfl
 | x :: l, a, h => by
   rw [List.foldl_cons, h x (List.mem_cons_self ..)]
   exact foldl_keep f l a fun y hy => h y (List.mem_cons_of_mem _ hy)
theorem callsN_none {l : List StmtV} (h : ∀ s, s ∈ l → ∀ x, x ∈ s.pre → x.kind ≠ 8) : callsN l = [] := by
 unfold callsN
 refine foldl_keep _ _ _ fun x hx => ?_
 obtain ⟨s, hs, hx2⟩ := List.mem_flatMap.1 hx
 rw [if_neg (h s hs x hx2)]
theorem leads_none {p : ProgV} {q : ProcV} (h0 : p.procs[0]? = some q) (hq : callsN q.body = []) : leadsB p 0 1 = false := by
 have hn : nextP p 0 = [] := by
   unfold nextP
   rw [h0]
   simp only [hq]
   rfl
 unfold leadsB
 obtain ⟨n, hf⟩ : ∃ n, fuelP p = n + 2 := ⟨_, Nat.add_comm _ _⟩
 rw [hf, leadsF, if_neg (by decide), if_neg (by simp), hn, List.append_nil]
 cases n <;> simp [leadsF]
section
variable {M : MkE} {hasP : Bool} {p : ProgV} {rs ws : Sp}
theorem extra_head (h : IsMade M hasP p) : IsHead M (extraP p rs) := ⟨h.ok, h.prm, h.blocks, h.width, h.inputs, h.ghosts, h.vars, h.arrays, h.require, h.inits, h.blocksN, h.initsN, h.invariant⟩
theorem call_head (h : IsMade M hasP p) : IsHead M (callP p rs ws) := ⟨h.ok, h.prm, h.blocks, h.width, h.inputs, h.ghosts, h.vars, h.arrays, h.require, h.inits, h.blocksN, h.initsN, h.invariant⟩
theorem extra_procZ {q : ProgV} {cs : Sp} {rec : List StmtV} (hh : IsHead M q) (hN : nmOk M.N = true) {i : Nat} (hi : q.procs[i]? = some ⟨extraB, Sp.none, [], cs, rec⟩) {before : List ByteArray} (hb : extraB ∉ before) (hr : ∀ s, s ∈ rec → WT M hasP 1 s) (hC : CallOk q ⟨i, []⟩ M hasP) : allZ (procC q before i ⟨extraB, Sp.none, [], cs, rec⟩) := by
 unfold procC
 refine .cons ?_ (.append .nil (stmtsZ fun s hs => ?_))
 · unfold procE
   have e : hasN before extraB = false := by
     unfold hasN
     rw [List.any_eq_false]
     intro x hx
     simp only [decide_eq_true_eq]
     rintro rfl
     exact hb hx
   have e2 : nameB q extraB.data.toList = true := nameB_of (by decide) (by decide)
   rw [if_neg (by rw [e, e2]; simp), if_neg (by simp)]
 · have e : inside q i = ⟨i, []⟩ := by
     unfold inside paramsP
     rw [hi]
     rfl
   rw [e]
   exact (hr s hs).codes hh.ok (env_out hh hN i) hC 1 (by omega)
theorem extra_not {hE : extraB ∉ [M.N.i, M.N.j, M.N.g, M.N.h, M.N.v, M.N.c, M.N.a]} (h : IsHead M p) : extraB ∉ names4 p := fun hm => hE (names4_mem h _ hm)
/-- The procedures of a made program, with one more. -/
theorem extra_procsZ {q : ProgV} (h : IsMade M hasP p) (hh : IsHead M q) (hq : q.procs = p.procs ++ [⟨extraB, Sp.none, [], p.cs, p.recover⟩]) (hN : nmOk M.N = true) (hE : extraB ∉ [M.N.i, M.N.j, M.N.g, M.N.h, M.N.v, M.N.c, M.N.a]) : allZ (procsC q q.procs 0 (names4 q)) := by
 have hx := extra_not (hE := hE) hh
 have hp := h.procs
 rw [hq]
 split at hp
 · next hP =>
   obtain ⟨q0, h1, h2⟩ := hp
   have h0 : q.procs[0]? = some q0 := by rw [hq, h1]; rfl
   have h3 := procZ hh hN h2 h0 (not_names hh hN).2
   rw [h1]
   show allZ (procsC q [q0, _] 0 (names4 q))
   rw [procsC, procsC, procsC, List.append_nil]
   refine h3.append (extra_procZ hh hN (by rw [hq, h1]; rfl) ?_ h.recover ?_)
   · rw [List.mem_append, List.mem_singleton, h2.name]
     rintro (hm | hm)
     · exact hx hm
     · exact absurd hm (by decide)
   · intro _ _
     refine ⟨look_p (by rw [hq, h1]; rfl) h2.name, ⟨q0, ⟨xB, M.w, 0⟩, h0, h2.params, rfl⟩, .inr ?_⟩
     exact leads_none h0 (callsN_none fun s hs => (h2.body s hs).calls_no rfl)
 · next hP =>
   rw [hp]
   show allZ (procsC q [_] 0 (names4 q))
   rw [procsC, procsC, List.append_nil]
   exact extra_procZ hh hN (by rw [hq, hp]; rfl) hx h.recover fun h1 _ => absurd h1 hP
theorem extra_out {q : ProgV} (h : IsMade M hasP p) (hq : q.procs = p.procs ++ [⟨extraB, Sp.none, [], p.cs, p.recover⟩]) : CallOk q outside M hasP := fun h1 _ => by
 obtain ⟨q0, l, h2, h3⟩ := h.hasp h1
 refine ⟨look_p (l := l ++ [⟨extraB, Sp.none, [], p.cs, p.recover⟩]) (by rw [hq, h2]; rfl) h3.name, ⟨q0, ⟨xB, M.w, 0⟩, by rw [hq, h2]; rfl, h3.params, rfl⟩, .inl (by decide)⟩
theorem extra_heft (h : IsMade M hasP p) : heftP (extraP p rs) ≤ 1800 := by
 have h1 := head_len h.toIsHead
 have h2 := (made_procs_few h).2
 have h3 := heftL_few (k := 218) fun s hs => (h.work s hs).few
 have h4 := heftL_few (k := 68) fun s hs => (h.recover s hs).few
 have h5 := h.workN
 have h6 := h.recoverN
 have e : ((extraP p rs).procs.map heftQ).sum = (p.procs.map heftQ).sum + (1 + heftL p.recover) := by
   show ((p.procs ++ [_]).map heftQ).sum = _
   rw [List.map_append, List.sum_append]
   simp [heftQ]
 unfold heftP
 rw [e]
 show (p.inputs.length + p.ghosts.length + p.vars.length + p.arrays.length + 1) + p.require.pre.length + (p.inits.map fun i => 1 + i.value.pre.length).sum + _ + heftL p.work + heftL p.recover + p.invariant.pre.length ≤ 1800
 omega
theorem extra_right (h : IsMade M hasP p) (hN : nmOk M.N = true) (hE : extraB ∉ [M.N.i, M.N.j, M.N.g, M.N.h, M.N.v, M.N.c, M.N.a]) : checkP (extraP p rs) = (0, 0) := by
 have hh := extra_head (rs := rs) h
 have hf := extra_heft (rs := rs) h
 refine (right_of rfl (by omega) ?_).1
 rw [codesP_parts]
 refine (headZ hh hN (by show (p.procs ++ [_]).length ≤ 16; rw [List.length_append]; have := (made_procs_few h).1; simp; omega) (by omega)).append ((extra_procsZ h hh rfl hN hE).append (.append ?_ (.append ?_ (invZ hh hN))))
 · exact stmtsZ fun s hs => (h.work s hs).codes h.ok (env_out hh hN (-1)) (extra_out h rfl) 1 (by omega)
 · exact stmtsZ fun s hs => (h.recover s hs).codes h.ok (env_out hh hN (-1)) (extra_out h rfl) 1 (by omega)
theorem extra_look {q : ProgV} (h : IsMade M hasP p) (hq : q.procs = p.procs ++ [⟨extraB, Sp.none, [], p.cs, p.recover⟩]) : look (procsAt q) extraB = some (p.procs.length : Int) := by
 have hp := h.procs
 unfold procsAt look
 rw [hq]
 split at hp
 · obtain ⟨q0, h1, h2⟩ := hp
   rw [h1]
   have e : (decide (pB = extraB)) = false := by decide
   simp [numbered, h2.name, e]
 · rw [hp]
   simp [numbered]
theorem callP_heft (h : IsMade M hasP p) : heftP (callP p rs ws) ≤ 1801 := by
 have hf := extra_heft (rs := rs) h
 have e : heftL (p.work ++ [callT Sp.none extraB []]) = heftL p.work + 1 := by
   unfold heftL
   rw [List.flatMap_append]
   unfold heftT
   rw [List.map_append, List.sum_append]
   congr 1
   show heftL [callT Sp.none extraB []] = 1
   rw [heftL_one]
   rfl
 unfold heftP at hf ⊢
 have e2 : heftL (callP p rs ws).work = heftL (extraP p rs).work + 1 := e
 rw [e2]
 show (p.inputs.length + p.ghosts.length + p.vars.length + p.arrays.length + 1) + p.require.pre.length + (p.inits.map fun i => 1 + i.value.pre.length).sum + ((extraP p rs).procs.map heftQ).sum + (heftL p.work + 1) + heftL p.recover + p.invariant.pre.length ≤ 1801
 have hf3 : (p.inputs.length + p.ghosts.length + p.vars.length + p.arrays.length + 1) + p.require.pre.length + (p.inits.map fun i => 1 + i.value.pre.length).sum + ((extraP p rs).procs.map heftQ).sum + heftL p.work + heftL p.recover + p.invariant.pre.length ≤ 1800 := hf
 omega
theorem callP_right (h : IsMade M hasP p) (hN : nmOk M.N = true) (hE : extraB ∉ [M.N.i, M.N.j, M.N.g, M.N.h, M.N.v, M.N.c, M.N.a]) : checkP (callP p rs ws) = (0, 0) := by
 have hh := call_head (rs := rs) (ws := ws) h
 have hf2 := callP_heft (rs := rs) (ws := ws) h
 refine (right_of rfl (by omega) ?_).1
 rw [codesP_parts]
 refine (headZ hh hN (by show (p.procs ++ [_]).length ≤ 16; rw [List.length_append]; have := (made_procs_few h).1; simp; omega) (by omega)).append ((extra_procsZ h hh rfl hN hE).append (.append ?_ (.append ?_ (invZ hh hN))))
 · refine stmtsZ fun s hs => ?_
   rcases List.mem_append.1 (show s ∈ p.work ++ [callT Sp.none extraB []] from hs) with hs | hs
   · exact (h.work s hs).codes h.ok (env_out hh hN (-1)) (extra_out h rfl) 1 (by omega)
   · rw [List.mem_singleton.1 hs, stmtC_eq]
     refine .cons (stmtE_zero rfl ?_ (by omega)) ?_
     · have e : wrongE (callP p rs ws) outside (callT Sp.none extraB []) = match look (procsAt (callP p rs ws)) extraB with
         | none => 321
         | some i => if argsB (callP p rs ws) outside i.toNat [] = true then 327 else if outside.within ≥ 0 ∧ leadsB (callP p rs ws) i.toNat outside.within.toNat = true then 328 else 0 := rfl
       rw [e, extra_look (q := callP p rs ws) h rfl]
       have e2 : (callP p rs ws).procs[((p.procs.length : Nat) : Int).toNat]? = some ⟨extraB, Sp.none, [], p.cs, p.recover⟩ := by
         show (p.procs ++ [_])[_]? = _
         simp
       have e3 : argsB (callP p rs ws) outside ((p.procs.length : Nat) : Int).toNat [] = false := by
         unfold argsB
         rw [e2]
         rfl
       simp only [e3]
       rfl
     · exact .append (by rw [exprsC_eq]; exact allZ.nil) (.append (by show allZ (stmtsC _ _ [] _); rw [stmtsC_nil]; exact allZ.nil) (by show allZ (stmtsC _ _ [] _); rw [stmtsC_nil]; exact allZ.nil))
 · exact stmtsZ fun s hs => (h.recover s hs).codes h.ok (env_out hh hN (-1)) (extra_out h rfl) 1 (by omega)
theorem probs_head : ∀ (l : List Int) (n : Nat), (∃ c ∈ l, c ≠ 0) → ((probs l n).headD (0, 0)).2 ≠ 0
 | [], _, h => by obtain ⟨c, hc, _⟩ := h; cases hc
 | c :: l, n, h => by
   rw [probs]
   by_cases hc : c = 0
   · rw [if_pos hc]
     refine probs_head l (n + 1) ?_
     obtain ⟨x, hx, h0⟩ := h
     rcases List.mem_cons.1 hx with rfl | hx
     · exact absurd hc h0
     · exact ⟨x, hx, h0⟩
   · rw [if_neg hc]
     exact hc
theorem bad_right {k : Nat} (hk : heftP p = k) (h : k ≤ 20000) (hc : ∃ c ∈ codesP p k, c ≠ 0) : (checkP p).2 ≠ 0 := by
 rw [check_of (by rw [codesP_len, hk]) h rfl]
 exact probs_head _ _ hc
/-- Two ghosts of one name. -/
theorem bad_ghosts (h : IsHead M p) (e : M.N.g = M.N.h) (k : Int) : ∃ c ∈ codesP p k, c ≠ 0 := by
 refine ⟨321, ?_, by decide⟩
 have h1 : (321 : Int) ∈ declsC p false p.ghosts (names1 p) := by
   rw [h.ghosts]
   unfold ghostsD
   rw [declsC, declsC]
   refine List.mem_cons_of_mem _ (List.mem_cons.2 (.inl ?_))
   unfold declE
   rw [if_pos (.inl (by unfold hasN; rw [List.any_eq_true]; exact ⟨M.N.g, by simp, by simp [e]⟩))]
 unfold codesP
 exact List.mem_cons_of_mem _ (List.mem_append_right _ (List.mem_append_left _ h1))
/-- A variable whose name is none. -/
theorem bad_vars (h : IsHead M p) (e : nameB p M.N.v.data.toList = false) (k : Int) : ∃ c ∈ codesP p k, c ≠ 0 := by
 refine ⟨321, ?_, by decide⟩
 have h1 : (321 : Int) ∈ declsC p false p.vars (names2 p) := by
   rw [h.vars]
   unfold varsD
   rw [declsC]
   refine List.mem_cons.2 (.inl ?_)
   unfold declE
   rw [if_pos (.inr e)]
 unfold codesP
 exact List.mem_cons_of_mem _ (List.mem_append_right _ (List.mem_append_right _ (List.mem_append_left _ h1)))
end
def otherB : ByteArray := ⟨#[111, 116, 104, 101, 114]⟩
def whileB : ByteArray := ⟨#[119, 104, 105, 108, 101]⟩
/-- The names that CheckStays turns into others. -/
theorem ren_std (f : ByteArray) (hf : f ∈ [std.i, std.j, std.g, std.h, std.v, std.c, std.a]) : nmOk (std.ren f otherB) = true ∧ f ≠ xB ∧ f ≠ ⟨#[]⟩ := by
 simp only [std, List.mem_cons, List.not_mem_nil, or_false] at hf
 rcases hf with rfl | rfl | rfl | rfl | rfl | rfl | rfl <;> exact ⟨by decide, by decide, by decide⟩
theorem extra_std : extraB ∉ [std.i, std.j, std.g, std.h, std.v, std.c, std.a] := by
 intro h
 simp only [List.mem_cons, List.not_mem_nil, or_false] at h
 rcases h with h | h | h | h | h | h | h <;> exact absurd h (by decide)
section
variable {M : MkE} {hasP : Bool} {p p' : ProgV}
theorem ren_right (h : IsMade M hasP p) (hN : M.N = std) {f : ByteArray} (hf : f ∈ [std.i, std.j, std.g, std.h, std.v, std.c, std.a]) (hr : RenP f otherB p p') : checkP p' = (0, 0) ∧ Fit p' := by
 obtain ⟨h1, h2, h3⟩ := ren_std f hf
 have hm := h.ren h2 h3 hr
 have h4 : nmOk (M.ren f otherB).N = true := by
   show nmOk (M.N.ren f otherB) = true
   rw [hN]; exact h1
 exact ⟨(made_right hm h4).1, made_fit hm h4⟩
/-- Names that are few enough, whatever they are. -/
theorem ren_names (hM : IsMade M hasP p') (hs : ∀ s ∈ [M.N.i, M.N.j, M.N.g, M.N.h, M.N.v, M.N.c, M.N.a], s.size ≤ 16) : NamesOk p' := by
 have h := hM.toIsHead
 refine ⟨fun d hd => ?_, fun q hq => ?_⟩
 · have hm : d.name ∈ names4 p' := by
     unfold names4 names3 names2 names1
     simp only [List.mem_append, List.mem_map] at hd ⊢
     rcases hd with ((hd | hd) | hd) | hd
     · exact .inl (.inl (.inl ⟨d, hd, rfl⟩))
     · exact .inl (.inl (.inr ⟨d, hd, rfl⟩))
     · exact .inl (.inr ⟨d, hd, rfl⟩)
     · exact .inr ⟨d, hd, rfl⟩
   have := hs _ (names4_mem h _ hm)
   omega
 · have hp := hM.procs
   split at hp
   · obtain ⟨q2, h1, h2⟩ := hp
     rw [h1] at hq
     rw [List.mem_singleton.1 hq]
     exact proc_names h2
   · rw [hp] at hq; cases hq
theorem ren_bad_gh (h : IsMade M hasP p) (hN : M.N = std) (hr : RenP std.g std.h p p') : (checkP p').2 ≠ 0 ∧ Fit p' := by
 have hm := h.ren (f := std.g) (t := std.h) (by decide) (by decide) hr
 have hf := made_heft hm
 have hn : (M.ren std.g std.h).N = std.ren std.g std.h := by show M.N.ren _ _ = _; rw [hN]
 exact ⟨bad_right rfl (by omega) (bad_ghosts hm.toIsHead (by rw [hn]; decide) _), fit_heft (by omega) (ren_names hm (by rw [hn]; decide))⟩
theorem ren_bad_v (h : IsMade M hasP p) (hN : M.N = std) (hr : RenP std.v whileB p p') : (checkP p').2 ≠ 0 ∧ Fit p' := by
 have hm := h.ren (f := std.v) (t := whileB) (by decide) (by decide) hr
 have hf := made_heft hm
 have hn : (M.ren std.v whileB).N = std.ren std.v whileB := by show M.N.ren _ _ = _; rw [hN]
 refine ⟨bad_right rfl (by omega) (bad_vars hm.toIsHead ?_ _), fit_heft (by omega) (ren_names hm (by rw [hn]; decide))⟩
 rw [hn]
 have e1 : cutDot (std.ren std.v whileB).v.data.toList = none := by decide
 have e2 : isName (std.ren std.v whileB).v.data.toList = false := by decide
 unfold nameB
 rw [e1]
 exact e2
end
section
variable {M : MkE} {hasP : Bool} {p : ProgV} {rs ws : Sp}
theorem extra_names (h : IsMade M hasP p) (hN : nmOk M.N = true) : ∀ q ∈ p.procs ++ [(⟨extraB, Sp.none, [], p.cs, p.recover⟩ : ProcV)], q.name.size ≤ 4294967200 ∧ ∀ d ∈ q.params, d.name.size ≤ 4294967200 := fun q hq => by
 rcases List.mem_append.1 hq with hq | hq
 · exact (made_names h hN).2 q hq
 · rw [List.mem_singleton.1 hq]
   exact ⟨show extraB.size ≤ 4294967200 by decide, fun d hd => by cases hd⟩
theorem extra_fit (h : IsMade M hasP p) (hN : nmOk M.N = true) : Fit (extraP p rs) ∧ Fit (callP p rs ws) :=
 ⟨fit_heft (by have := extra_heft (rs := rs) h; omega) ⟨(made_names h hN).1, extra_names h hN⟩, fit_heft (by have := callP_heft (rs := rs) (ws := ws) h; omega) ⟨(made_names h hN).1, extra_names h hN⟩⟩
end
end Go.Proofs.YthcboallnbaimaaGreatDoor
namespace Go.Proofs.YthcboallnbaimaaGreatDoor
open Go Go.RowKit Go.Maps
theorem onL_true {L : Nat → Bool} (i : Nat) {j : Nat} (h : L j = true) : onL L i j = true := by unfold onL; split <;> simp [*]
noncomputable def opsS15 : Array Oper := ((Tryz.f9.body.bind (opsOf 15)).getD #[])
def keepS15 (t : Nat) : Bool := decide (t ≤ 63) || decide (73 ≤ t)
theorem opsS15_ok : stepsB opsS15 10 110 keepS15 = true := by kernel_rfl
def RQ15 (R : World → Prop) (w0 : World) (L : Nat → Bool) (w : World) : Prop := (L 9 = false → Below w0.heap.size w0 w) ∧ (L 9 = true → R w)
theorem RQ15.flag {R : World → Prop} {w0 : World} {k : Nat} {L : Nat → Bool} {w : World} (hk : k ≠ 9) (h : RQ15 R w0 L w) : RQ15 R w0 (onL L k) w := by
 unfold RQ15 at h ⊢
 rw [onL_other (Ne.symm hk)]
 exact h
set_option maxRecDepth 10000000 in
set_option maxHeartbeats 64000000 in
theorem stays15 {a0 : Act} {w0 : World} (hsz : a0.tmps.size = 110) (bp bq : Nat) (rs cs : Sp) (procs : List ProcV) (recover : List StmtV) (xp : ProcV) (hxp : xp = ⟨extraB, Sp.none, [], cs, recover⟩)
   (f7 : a0.tmps[7]?.getD undef = .pointer (some ⟨bp, 0, none⟩)) (f13 : a0.tmps[13]?.getD undef = .pointer (some ⟨bq, 0, none⟩)) (h13 : w0.cell? ⟨bp, 13, none⟩ = some (.slice rs.at_ procs.length rs.cap)) (h15 : w0.cell? ⟨bp, 15, none⟩ = some (.slice cs.at_ recover.length cs.cap))
   (hr : RowOf w0.heap.size w0 rs 3 ProcV.cells procs) (hl : procs.length ≤ 900000) (hbp : bp < w0.heap.size) (hbq : bq < w0.heap.size) {old : Value} (hq : w0.cell? ⟨bq, 13, none⟩ = some old) (hfr : w0.frozen? ⟨bq, 13, none⟩ = false) :
   (Code.region 15 opsS15 true).wp Tryz.prog (fun e a w => e = .normal ∧ a.tmps.size = 110 ∧ a.defers = a0.defers ∧ (∀ t : Nat, keepS15 t = true → a.tmps[t]?.getD undef = a0.tmps[t]?.getD undef) ∧ ∃ v w1, OwnL w0.heap.size w1 47 3 ProcV.cells v (procs ++ [xp]) ∧ Below w0.heap.size w0 w1 ∧ w = w1.setCell ⟨bq, 13, none⟩ v) a0 w0 := by
 refine wp_region_steps (n := 10) (sz := 110) (keep := keepS15) rfl opsS15_ok hsz (RQ15 (fun w => ∃ v w1, OwnL w0.heap.size w1 47 3 ProcV.cells v (procs ++ [xp]) ∧ Below w0.heap.size w0 w1 ∧ w = w1.setCell ⟨bq, 13, none⟩ v) w0) (fun i w w' => i = 7 ∨ i = 9 ∨ Below w.heap.size w w') ⟨fun _ => (Below.refl _ _).drew, fun h => (by cases h)⟩ ?_
 have e : opsS15.toList = opsS15.toList := rfl
 conv at e => rhs; arg 1; whnf
 simp only at e
 rw [e]
 clear e
 apply StepsS.exact rfl rfl
 · exact fun _ _ h => RQ15.flag (by decide) h
 · exact fun w => .inr (.inr (Below.refl _ w))
 · rintro L a w ⟨-, hS, hbeh, hsm, haft⟩
   have f7 : a.tmps[7]?.getD undef = _ := (hsm 7 rfl).trans f7
   simp [go_sem, f7]
   exact rfl
 apply StepsS.exact rfl rfl
 · exact fun _ _ h => RQ15.flag (by decide) h
 · exact fun w => .inr (.inr (Below.refl _ w))
 · rintro L a w ⟨-, hS, hbeh, hsm, haft⟩
   have f64 : a.tmps[64]?.getD undef = _ := tmps_of (haft.1 rfl).2
   have hb := hS.1 (hbeh 9 rfl)
   have hc : w.cell? ⟨bp, 13, none⟩ = _ := (hb.cell (p := ⟨bp, 13, none⟩) hbp).trans h13
   simp [go_sem, f64, hc]
   exact rfl
 refine StepsS.any (fun L v w => (L 7 = true ∨ L 9 = true) ∨ OwnL w0.heap.size w 47 3 ProcV.cells v procs) rfl ?_ ?_ ?_
 · intro i L v w w' _ hR hP
   rcases hR with rfl | rfl | hR
   · exact .inl (.inl onL_same)
   · exact .inl (.inr onL_same)
   · exact hP.imp (fun h => h.imp (onL_true _) (onL_true _)) fun h => h.on hR
 · rintro L a w ⟨hL, hS, hbeh, hsm, haft⟩
   have f65 : a.tmps[65]?.getD undef = _ := tmps_of (haft.1 rfl).2
   have hb := hS.1 (hbeh 9 rfl)
   refine Oper.wp_enter (f := 36) (args := #[.slice rs.at_ procs.length rs.cap]) (w' := w) ?_ ?_
   · simp [go_sem, f65]
   · refine (clone_proc w rs procs _ ((hr.below hb).more hb.size) (by omega)).mono ?_
     rintro o w' ⟨⟨v, rfl, ho⟩, hb2⟩
     exact ⟨v, rfl, v, rfl, fun e => (by cases e), .inr (ho.less hb.size), ⟨fun _ => hb.trans (hb2.mono hb.size), fun h => by rw [onL_other (by decide), hbeh 9 rfl] at h; cases h⟩, .inr (.inr hb2)⟩
 apply StepsS.exact rfl rfl
 · exact fun _ _ h => RQ15.flag (by decide) h
 · exact fun w => .inr (.inr (Below.refl _ w))
 · rintro L a w ⟨-, hS, hbeh, hsm, haft⟩
   have f7 : a.tmps[7]?.getD undef = _ := (hsm 7 rfl).trans f7
   simp [go_sem, f7]
   exact rfl
 apply StepsS.exact rfl rfl
 · exact fun _ _ h => RQ15.flag (by decide) h
 · exact fun w => .inr (.inr (Below.refl _ w))
 · rintro L a w ⟨-, hS, hbeh, hsm, haft⟩
   have f67 : a.tmps[67]?.getD undef = _ := tmps_of (haft.1 rfl).2
   have hb := hS.1 (hbeh 9 rfl)
   have hc : w.cell? ⟨bp, 15, none⟩ = _ := (hb.cell (p := ⟨bp, 15, none⟩) hbp).trans h15
   simp [go_sem, f67, hc]
   exact rfl
 apply StepsS.exact rfl rfl
 · exact fun _ _ h => RQ15.flag (by decide) h
 · exact fun w => .inr (.inr (Below.refl _ w))
 · rintro L a w ⟨-, hS, hbeh, hsm, haft⟩
   have f68 : a.tmps[68]?.getD undef = _ := tmps_of (haft.1 rfl).2
   simp [go_sem, f68]
   exact rfl
 refine StepsS.any (fun L v w => (L 7 = true ∨ L 9 = true) ∨ ∃ b, v = .slice (some ⟨b, 0, none⟩) 1 1 ∧ RowOf w.heap.size w ⟨some ⟨b, 0, none⟩, 1⟩ 3 ProcV.cells [xp]) rfl ?_ ?_ ?_
 · intro i L v w w' _ hR hP
   rcases hR with rfl | rfl | hR
   · exact .inl (.inl onL_same)
   · exact .inl (.inr onL_same)
   · exact hP.imp (fun h => h.imp (onL_true _) (onL_true _)) fun h => h.imp fun b h2 => ⟨h2.1, (h2.2.below hR).more hR.size⟩
 · rintro L a w ⟨hL, hS, hbeh, hsm, haft⟩
   have f69 : a.tmps[69]?.getD undef = _ := tmps_of (haft.1 rfl).2
   have hb := hS.1 (hbeh 9 rfl)
   have hb2 : Below w.heap.size w (w.alloc (.cells (ProcV.cells xp).toArray 47)) := (Below.refl _ _).alloc (Nat.le_refl _) _
   refine Oper.wp_value (v := .slice (some ⟨w.heap.size, 0, none⟩) 1 1) (w' := w.alloc (.cells (ProcV.cells xp).toArray 47)) ?_ ?_
   · rw [hxp]
     simp [go_sem, f69, ProcV.cells, Sp.val, Sp.none, extraB]
   · exact ⟨_, rfl, fun e => (by cases e), .inr ⟨_, rfl, row_one (World.alloc_heap_new w _)⟩, ⟨fun _ => hb.trans (hb2.mono hb.size), fun h => by rw [onL_other (by decide), hbeh 9 rfl] at h; cases h⟩, .inr (.inr hb2)⟩
 refine StepsS.any (fun L v w => L 9 = true ∨ (Below w0.heap.size w0 w ∧ OwnL w0.heap.size w 47 3 ProcV.cells v (procs ++ [xp]))) rfl ?_ ?_ ?_
 · intro i L v w w' hi hR hP
   rcases hR with rfl | rfl | hR
   · exact absurd rfl hi
   · exact .inl onL_same
   · exact hP.imp (onL_true _) fun h => ⟨h.1.trans (hR.mono h.1.size), h.2.on hR⟩
 · rintro L a w ⟨hL, hS, hbeh, hsm, haft⟩
   have hb := hS.1 (hbeh 9 rfl)
   have h9 : L 9 = false := hbeh 9 rfl
   have hown : OwnL w0.heap.size w 47 3 ProcV.cells (a.eval (.tmp 66)) procs := (haft.1 rfl).2.resolve_left (by rw [hL, h9]; simp)
   obtain ⟨b, h70, hrow⟩ := (haft.2.1 rfl).2.resolve_left (by rw [hL, h9]; simp)
   refine Oper.wp_append (.tmp 66) (.tmp 70) 36 rfl procK (fun _ => rfl) one_proc _ procs rfl hown ⟨some ⟨b, 0, none⟩, 1⟩ [xp] h70 hrow (by simp; omega) hb.size ?_
   intro v' w' ho hg _
   have hb2 := hown.below hg (Nat.le_refl _) hb hb.size
   exact ⟨_, rfl, fun e => (by cases e), .inr ⟨hb2, ho⟩, ⟨fun _ => hb2, fun h => by rw [onL_other (by decide), h9] at h; cases h⟩, .inl rfl⟩
 apply StepsS.exact rfl rfl
 · exact fun _ _ h => RQ15.flag (by decide) h
 · exact fun w => .inr (.inr (Below.refl _ w))
 · rintro L a w ⟨-, hS, hbeh, hsm, haft⟩
   have f13 : a.tmps[13]?.getD undef = _ := (hsm 13 rfl).trans f13
   simp [go_sem, f13]
   exact rfl
 refine StepsS.any (fun L v w => True) rfl ?_ ?_ ?_
 · exact fun _ _ _ _ _ _ _ h => h
 · rintro L a w ⟨hL, hS, hbeh, hsm, haft⟩
   have f72 : a.tmps[72]?.getD undef = _ := tmps_of (haft.1 rfl).2
   obtain ⟨hb, hown⟩ : Below w0.heap.size w0 w ∧ OwnL w0.heap.size w 47 3 ProcV.cells (a.eval (.tmp 71)) (procs ++ [xp]) := (haft.2.1 rfl).2.resolve_left (by rw [hL]; exact Bool.false_ne_true)
   have f71x : a.tmps[71]?.getD undef = a.eval (.tmp 71) := tmps_of rfl
   obtain ⟨A, c, hform⟩ := hown.form
   rw [hform] at f71x hown
   have hc : w.cell? ⟨bq, 13, none⟩ = _ := (hb.cell (p := ⟨bq, 13, none⟩) hbq).trans hq
   have hf : w.frozen? ⟨bq, 13, none⟩ = _ := (hb.frozen (p := ⟨bq, 13, none⟩) hbq).trans hfr
   refine Oper.wp_skip (w' := w.setCell ⟨bq, 13, none⟩ (.slice A (procs ++ [xp]).length c)) ?_ ?_
   · simp [go_sem, f72, f71x, hc, hf]
   · exact ⟨undef, rfl, fun _ => rfl, trivial, ⟨fun h => absurd onL_same (by rw [h]; exact Bool.false_ne_true), fun _ => ⟨_, w, hown, hb, rfl⟩⟩, .inr (.inl rfl)⟩
 rintro L a w hL ⟨hS, hsame, hv⟩
 exact ⟨rfl, hsame.1.trans hsz, hsame.2.1, hsame.2.2, hS.2 (hL 9 (by decide))⟩
end Go.Proofs.YthcboallnbaimaaGreatDoor
namespace Go.Proofs.YthcboallnbaimaaGreatDoor
open Go Go.RowKit Go.Maps
set_option maxRecDepth 1000000 in
theorem act_F110 {a : Act} (h : a.tmps.size = 110) (hd : a.defers = []) : ∃ F : Nat → Value, (∀ i : Nat, F i = a.eval (.tmp i)) ∧ a = ⟨(F 0 :: F 1 :: F 2 :: F 3 :: F 4 :: F 5 :: F 6 :: F 7 :: F 8 :: F 9 :: F 10 :: F 11 :: F 12 :: F 13 :: F 14 :: F 15 :: F 16 :: F 17 :: F 18 :: F 19 :: F 20 :: F 21 :: F 22 :: F 23 :: F 24 :: F 25 :: F 26 :: F 27 :: F 28 :: F 29 :: F 30 :: F 31 :: F 32 :: F 33 :: F 34 :: F 35 :: F 36 :: F 37 :: F 38 :: F 39 :: F 40 :: F 41 :: F 42 :: F 43 :: F 44 :: F 45 :: F 46 :: F 47 :: F 48 :: F 49 :: F 50 :: F 51 :: F 52 :: F 53 :: F 54 :: F 55 :: F 56 :: F 57 :: F 58 :: F 59 :: F 60 :: F 61 :: F 62 :: F 63 :: F 64 :: F 65 :: F 66 :: F 67 :: F 68 :: F 69 :: F 70 :: F 71 :: F 72 :: F 73 :: F 74 :: F 75 :: F 76 :: F 77 :: F 78 :: F 79 :: F 80 :: F 81 :: F 82 :: F 83 :: F 84 :: F 85 :: F 86 :: F 87 :: F 88 :: F 89 :: F 90 :: F 91 :: F 92 :: F 93 :: F 94 :: F 95 :: F 96 :: F 97 :: F 98 :: F 99 :: F 100 :: F 101 :: F 102 :: F 103 :: F 104 :: F 105 :: F 106 :: F 107 :: F 108 :: F 109 :: []).toArray, []⟩ := ⟨fun i => a.eval (.tmp i), fun _ => rfl, act_eq h hd⟩
theorem wp_codeS {P : Program} {Q : Exit → Act → World → Prop} {a : Act} {w : World} {C C' : Code} (h : C = C') (h2 : C'.wp P Q a w) : C.wp P Q a w := by subst h; exact h2
theorem box_putS {W : World} {b : Nat} {p q : ProgV} (h : W.heap[b]? = some (.cells p.arr 39 (0, 0))) (i : Nat) (v : Value) (hq : q.arr = p.arr.setIfInBounds i v) : (W.setCell ⟨b, i, none⟩ v).heap[b]? = some (.cells q.arr 39 (0, 0)) := by
 simp [World.setCell, Array.getElem?_modify, h, hq]
theorem own_sp {α : Type} {k : Nat} {enc : α → List Value} {B : Nat} {W : World} {t : TypeId} {A : Option Addr} {n c : Nat} {l : List α} (ho : OwnL B W t k enc (.slice A n c) l) (hk : ∀ x, (enc x).length = k) (hf : l.length ≤ 2199023255552) : RowOf W.heap.size W ⟨A, c⟩ k enc l := by
 obtain ⟨sp, e, hrow, _⟩ := ho.row hk hf
 have e2 : sp = ⟨A, c⟩ := by
   obtain ⟨a, b⟩ := sp
   simp only [Sp.val, Value.slice.injEq] at e
   rw [← e.1, ← e.2.2]
 subst e2
 exact hrow
theorem extra_rd {W : World} {B : Nat} {p : ProgV} {A : Option Addr} {n c : Nat} (h : RdP W.heap.size W p) (hl : p.procs.length ≤ 900000) (ho : OwnL B W 47 3 ProcV.cells (.slice A n c) (p.procs ++ [⟨extraB, Sp.none, [], p.cs, p.recover⟩])) : RdP W.heap.size W (extraP p ⟨A, c⟩) :=
 { h with
   prow := own_sp ho (fun _ => rfl) (by show (p.procs ++ [_]).length ≤ _; rw [List.length_append, List.length_singleton]; omega)
   procs := fun q hq => by
     rcases List.mem_append.1 hq with hq | hq
     · exact h.procs q hq
     · obtain rfl := List.mem_singleton.1 hq
       exact ⟨by show extraB.size ≤ maxLen; decide, ⟨RowOf.nil, fun d hd => (by cases hd)⟩, h.recover⟩ }
theorem callP_rd {W : World} {B : Nat} {p : ProgV} {rs : Sp} {A : Option Addr} {n c : Nat} (h : RdP W.heap.size W (extraP p rs)) (hl : p.work.length ≤ 900000) (ho : OwnL B W 49 6 StmtV.cells (.slice A n c) (p.work ++ [callT Sp.none extraB []])) : RdP W.heap.size W (callP p rs ⟨A, c⟩) :=
 { h with
   work := ⟨own_sp ho (fun _ => rfl) (by show (p.work ++ [_]).length ≤ _; rw [List.length_append, List.length_singleton]; omega), fun s hs => by
     rcases List.mem_append.1 hs with hs | hs
     · exact h.work.ok s hs
     · obtain rfl := List.mem_singleton.1 hs
       exact call_now (by show extraB.size ≤ maxLen; decide)⟩ }
theorem made_procs {M : MkE} {hasP : Bool} {p : ProgV} (h : IsMade M hasP p) : p.procs.length ≤ 100000 := by
 have h1 := h.procs
 split at h1
 · obtain ⟨q, e, _⟩ := h1
   rw [e]; simp
 · rw [h1]; simp
def fromB : Nat → ByteArray
 | 0 => ⟨#[105]⟩
 | 1 => ⟨#[106]⟩
 | 2 => ⟨#[103]⟩
 | 3 => ⟨#[104]⟩
 | 4 => ⟨#[118]⟩
 | 5 => ⟨#[99]⟩
 | _ => ⟨#[97]⟩
theorem from_mem {k : Nat} (hk : k < 7) : fromB k ∈ [std.i, std.j, std.g, std.h, std.v, std.c, std.a] := by
 match k, hk with
 | 0, _ => exact .head _
 | 1, _ => exact .tail _ (.head _)
 | 2, _ => exact .tail _ (.tail _ (.head _))
 | 3, _ => exact .tail _ (.tail _ (.tail _ (.head _)))
 | 4, _ => exact .tail _ (.tail _ (.tail _ (.tail _ (.head _))))
 | 5, _ => exact .tail _ (.tail _ (.tail _ (.tail _ (.tail _ (.head _)))))
 | 6, _ => exact .tail _ (.tail _ (.tail _ (.tail _ (.tail _ (.tail _ (.head _))))))
theorem from_cell {W : World} {b k : Nat} (hk : k < 7) (h : W.heap[b]? = some (.cells #[.string ⟨#[105]⟩, .string ⟨#[106]⟩, .string ⟨#[103]⟩, .string ⟨#[104]⟩, .string ⟨#[118]⟩, .string ⟨#[99]⟩, .string ⟨#[97]⟩] 9 (0, 0))) : W.cell? ⟨b, k, none⟩ = some (.string (fromB k)) := by
 match k, hk with
 | 0, _ => simp [World.cell?, h, fromB]
 | 1, _ => simp [World.cell?, h, fromB]
 | 2, _ => simp [World.cell?, h, fromB]
 | 3, _ => simp [World.cell?, h, fromB]
 | 4, _ => simp [World.cell?, h, fromB]
 | 5, _ => simp [World.cell?, h, fromB]
 | 6, _ => simp [World.cell?, h, fromB]
theorem heft_each {p : ProgV} (h : heftP p ≤ 1000000) : (p.inits.length ≤ 1000000 ∧ ∀ x ∈ p.inits, x.value.pre.length ≤ 1000000) ∧ (p.procs.length ≤ 1000000 ∧ ∀ x ∈ p.procs, heftL x.body ≤ 1000000) := by
 unfold heftP at h
 have hl : ∀ {α : Type} (f : α → Nat) (l : List α), (∀ x, 1 ≤ f x) → l.length ≤ (l.map f).sum := fun f l hf => by
   induction l with
   | nil => simp
   | cons x l ih => rw [List.length_cons, List.map_cons, List.sum_cons]; have := hf x; omega
 have a1 := hl (fun i : InitV => 1 + i.value.pre.length) p.inits fun x => by omega
 have a2 := hl heftQ p.procs fun x => by unfold heftQ; omega
 refine ⟨⟨by omega, fun x hx => ?_⟩, by omega, fun x hx => ?_⟩
 · have := le_sum_mem (fun i : InitV => 1 + i.value.pre.length) p.inits x hx
   omega
 · have := le_sum_mem heftQ p.procs x hx
   have h3 : heftL x.body ≤ heftQ x := by unfold heftQ; omega
   omega
theorem run_wrapS {x : Int} (h : -2000000 ≤ x ∧ x ≤ 2000000) : IntKind.i64.wrap x = x := by
 unfold IntKind.wrap
 simp [IntKind.bits, IntKind.signed]
 omega
theorem less_rd {W : World} {B : Nat} {p : ProgV} {i g c : Nat} (h : RdP W.heap.size W p) (hi : i < p.work.length) (ho : OwnL B W 49 6 StmtV.cells (.slice (some ⟨g, 0, none⟩) (p.work.length - 1) c) (p.work.eraseIdx i)) : RdP W.heap.size W (lessP p i ⟨some ⟨g, 0, none⟩, c⟩) := by
 have hlen : (p.work.eraseIdx i).length = p.work.length - 1 := List.length_eraseIdx_of_lt hi
 obtain ⟨sp, e, hrow, _⟩ := ho.row (fun _ => rfl) (by have := h.work.row.few; omega)
 have e2 : sp = ⟨some ⟨g, 0, none⟩, c⟩ := by
   obtain ⟨a, b⟩ := sp
   simp only [Sp.val, Value.slice.injEq] at e
   rw [← e.1, ← e.2.2]
 subst e2
 exact { h with work := ⟨hrow, fun s hs => h.work.ok s (List.mem_of_mem_eraseIdx hs)⟩ }
set_option maxRecDepth 1000000 in
set_option maxHeartbeats 16000000 in
theorem checkStays_any (w : World) (hn0 : 0 < w.heap.size) (hmx : MxAt w) (lv : Sp) (len : Nat) (ls : List Int) (hlen : ls.length = min len 200) (hmax : len ≤ maxLen) (hcap : len ≤ lv.cap) (hcm : lv.cap ≤ maxLen) (hr : RowOf w.heap.size w lv 1 encU ls) (hb : ∀ x ∈ ls, 0 ≤ x ∧ x ≤ 255) (b1 b2 : Int) (hb1 : 0 ≤ b1 ∧ b1 ≤ 255) (hb2 : 0 ≤ b2 ∧ b2 ≤ 255) :
   Calls Tryz.prog 9 #[.slice lv.at_ len lv.cap, .int .u8 b1, .int .u8 b2] w fun o w' => o = .returned (.bool true) ∧ Below w.heap.size w w' := by
 have HMX := Lib.hid hmx
 have HAW := Lib.hid (awake_any w hn0 hmx)
 have HMD := Lib.hid fun (w1 : World) (hb1 : Below w.heap.size w w1) => made_any w1 lv len ls hlen hmax hcap hcm ((hr.below hb1).more hb1.size) hb
 clear hmx hlen hmax hcap hcm hr hb
 go_enter Tryz.func9, Tryz.ntmps9
 go_wp2_with fail
 refine HAW.out.mono ?_
 clear HAW
 rintro o w1 ⟨rfl, hb1'⟩
 have HB1 := Lib.hid hb1'
 clear hb1'
 go_wp2_with fail
 refine (HMD.out w1 HB1.out).mono ?_
 clear HMD
 rintro o w2 ⟨p, M, hasP, rfl, hmade, hstd, hnew, hb2'⟩
 have HM := Lib.hid hmade
 have HSTD := Lib.hid hstd
 have HRD := Lib.hid hnew.rd
 have HB2 := Lib.hid (HB1.out.trans (hb2'.mono HB1.out.size))
 clear hmade hstd hnew hb2' HB1
 go_upto_region 4 with (first
   | (refine wpList_allocRow (t := 39) rfl rfl (run_zeroP _) ?_)
   | (refine wpList_storeNew (t := 39) rfl _ _ rfl rfl rfl (arr_size _) rfl (arr_one _) ?_)
   | fail)
 have hbA : Below w2.heap.size w2 (w2.alloc (.cells p.arr 39)) := (Below.refl _ _).alloc (Nat.le_refl _) _
 have HX3 := Lib.hid (World.alloc_heap_new w2 (.cells p.arr 39))
 have HRD3 := Lib.hid (RdP.below HRD.out hbA)
 have HB3 := Lib.hid (HB2.out.trans (hbA.mono HB2.out.size))
 have hbp : w.heap.size ≤ w2.heap.size := HB2.out.size
 clear hbA HRD HB2
 generalize w2.alloc (.cells p.arr 39) = W3 at *
 generalize w2.heap.size = bp at *
 simp only [Act.put, List.setIfInBounds_toArray, List.set_cons_zero, List.set_cons_succ]
 have hlt3 : bp < W3.heap.size := (Array.getElem?_eq_some_iff.1 HX3.out).1
 have HN : Hid (nmOk M.N = true) := Lib.hid (by rw [HSTD.out]; decide)
 have HF := Lib.hid (made_fit HM.out HN.out)
 have HCP := Lib.hid (made_right HM.out HN.out)
 -- region 4: Check
 have hck := check_any W3 p (HRD3.out.more (Nat.le_of_lt hlt3)) (Nat.lt_of_lt_of_le hn0 HB3.out.size) HF.out.names HF.out.weight (HMX.out.below HB3.out hn0)
 rw [HCP.out.1, arr_val] at hck
 have HCK := Lib.hid hck
 clear hck
 go_wp2_with (first | (refine wpList_load_row rfl 39 _ rfl bp rfl 39 _ (0, 0) _ HX3.out Tryz.underlying39 rfl (arr_size _) ?_) | fail)
 refine HCK.out.mono ?_
 clear HCK
 rintro o w4 ⟨rfl, hb4⟩
 have HX4 := Lib.hid ((hb4.block bp hlt3).trans HX3.out)
 have HRD4 := Lib.hid (HRD3.out.below (hb4.mono (Nat.le_of_lt hlt3)))
 have HB4 := Lib.hid (HB3.out.trans (hb4.mono HB3.out.size))
 have hlt4 : bp < w4.heap.size := Nat.lt_of_lt_of_le hlt3 hb4.size
 clear hb4 HX3 HRD3 HB3 hlt3
 -- region 5: Right, Problems
 have hrt := right_any w4 p (HRD4.out.more (Nat.le_of_lt hlt4)) (Nat.lt_of_lt_of_le hn0 HB4.out.size) HF.out.names HF.out.weight (HMX.out.below HB4.out hn0)
 rw [HCP.out.1, show decide (((0 : Int), (0 : Int)).2 = 0) = true from rfl] at hrt
 have HRT := Lib.hid hrt
 clear hrt
 go_wp2_with (first | (refine wpList_load_row rfl 39 _ rfl bp rfl 39 _ (0, 0) _ HX4.out Tryz.underlying39 rfl (arr_size _) ?_) | fail)
 refine HRT.out.mono ?_
 clear HRT
 rintro o w5 ⟨rfl, hb5⟩
 have HX5 := Lib.hid ((hb5.block bp hlt4).trans HX4.out)
 have HRD5 := Lib.hid (HRD4.out.below (hb5.mono (Nat.le_of_lt hlt4)))
 have HB5 := Lib.hid (HB4.out.trans (hb5.mono HB4.out.size))
 have hlt5 : bp < w5.heap.size := Nat.lt_of_lt_of_le hlt4 hb5.size
 clear hb5 HX4 HRD4 HB4 hlt4
 have HPB := Lib.hid (problemsList_any w5 p (HRD5.out.more (Nat.le_of_lt hlt5)) (Nat.lt_of_lt_of_le hn0 HB5.out.size) HF.out (HMX.out.below HB5.out hn0))
 go_wp2_with (first | (refine wpList_load_row_g (by rfl) 39 _ rfl bp rfl 39 _ (0, 0) _ HX5.out Tryz.underlying39 rfl (arr_size _) ?_) | fail)
 refine HPB.out.mono ?_
 clear HPB
 rintro o w6 ⟨⟨v, rfl, hv⟩, hb6⟩
 rw [HCP.out.2] at hv
 obtain ⟨A0, c0, hform⟩ := OwnL.form (enc := encP) (l := []) hv
 subst hform
 have HX6 := Lib.hid ((hb6.block bp hlt5).trans HX5.out)
 have HRD6 := Lib.hid (HRD5.out.below (hb6.mono (Nat.le_of_lt hlt5)))
 have HB6 := Lib.hid (HB5.out.trans (hb6.mono HB5.out.size))
 have hlt6 : bp < w6.heap.size := Nat.lt_of_lt_of_le hlt5 hb6.size
 clear hv hb6 HX5 HRD5 HB5 hlt5
 have c14 : w6.cell? ⟨bp, 14, none⟩ = some (.slice p.ws.at_ p.work.length p.ws.cap) := arr_cells HX6.out 14 rfl
 go_upto_region 8 with fail
 clear c14
 go_upto_if 46 with fail
 go_cut [10] (fun _ wx => Below w6.heap.size w6 wx)
 case first =>
   by_cases hz : p.work.length = 0
   · have hd : decide ((0 : Int) < (p.work.length : Int)) = false := by rw [hz]; rfl
     go_wp2_with fail
     go_meet
     case rel => exact Below.refl _ _
   · have hd : decide ((0 : Int) < (p.work.length : Int)) = true := decide_eq_true (by omega)
     obtain ⟨i, hi, hmod⟩ : ∃ i : Nat, i < p.work.length ∧ b1.tmod (p.work.length : Int) = (i : Int) := by
       have h1 := Int.emod_nonneg b1 (show (p.work.length : Int) ≠ 0 by omega)
       have h2 := Int.emod_lt_of_pos b1 (show (0 : Int) < (p.work.length : Int) by omega)
       obtain ⟨i, hi⟩ := Int.eq_ofNat_of_zero_le h1
       exact ⟨i, by omega, by rw [Int.tmod_eq_emod_of_nonneg hb1.1, hi]⟩
     go_upto_region 10 with (first
       | (refine wpList_load_row rfl 39 _ rfl bp rfl 39 _ (0, 0) _ HX6.out Tryz.underlying39 rfl (arr_size _) ?_)
       | (refine wpList_allocRow (t := 39) rfl rfl (run_zeroP _) ?_)
       | (refine wpList_storeNew (t := 39) rfl _ _ rfl rfl rfl (arr_size _) rfl (arr_one _) ?_)
       | fail)
     have hbA : Below w6.heap.size w6 (w6.alloc (.cells p.arr 39)) := (Below.refl _ _).alloc (Nat.le_refl _) _
     have HQ9 := Lib.hid (World.alloc_heap_new w6 (.cells p.arr 39))
     have HX9 := Lib.hid ((hbA.block bp hlt6).trans HX6.out)
     have HRD9 := Lib.hid (HRD6.out.below (hbA.mono (Nat.le_of_lt hlt6)))
     have HB9 := Lib.hid hbA
     have hs9 : (w6.alloc (.cells p.arr 39)).heap.size = w6.heap.size + 1 := World.size_alloc _ _
     clear hbA
     generalize w6.alloc (.cells p.arr 39) = W9 at *
     have c14 : W9.cell? ⟨bp, 14, none⟩ = some (.slice p.ws.at_ p.work.length p.ws.cap) := arr_cells HX9.out 14 rfl
     have hwl : p.work.length ≤ 100000 := by have := HM.out.workN; omega
     have hwi : IntKind.i64.wrap ((i : Int) + 1) = (i : Int) + 1 := run_wrapS (by omega)
     have HCL := Lib.hid (clone_stmt W9 p.ws p.work _ (HRD9.out.work.row.more (show bp ≤ W9.heap.size by omega)) (by omega))
     go_wp2_with fail
     refine HCL.out.mono ?_
     clear HCL c14
     rintro o W10 ⟨⟨v, rfl, hown⟩, hb10⟩
     obtain ⟨A, c, hform⟩ := hown.form
     subst hform
     obtain ⟨g, rfl, hg1, hg2, -⟩ := OwnL.cell hown (fun _ => rfl) (show 0 < p.work.length by omega)
     have HX10 := Lib.hid ((hb10.block bp (by omega)).trans HX9.out)
     have HQ10 := Lib.hid ((hb10.block w6.heap.size (by omega)).trans HQ9.out)
     have HRD10 := Lib.hid (HRD9.out.below (hb10.mono (by omega)))
     have HB10 := Lib.hid (HB9.out.trans (hb10.mono (by omega)))
     have HDL := Lib.hid (delete_stmt W10 W9.heap.size g p.work.length c i p.work hown hi (by omega))
     have hs10 := hb10.size
     clear hown hb10 HX9 HQ9 HRD9 HB9
     go_wp2_with fail
     refine HDL.out.mono ?_
     clear HDL
     rintro o W11 ⟨rfl, hown, hb11⟩
     have HX11 := Lib.hid ((hb11.block bp (by omega)).trans HX10.out)
     have HQ11 := Lib.hid ((hb11.block w6.heap.size (by omega)).trans HQ10.out)
     have HRD11 := Lib.hid (HRD10.out.below (hb11.mono (by omega)))
     have HB11 := Lib.hid (HB10.out.trans (hb11.mono (by omega)))
     have hs11 := hb11.size
     have q14 := arr_cells HQ11.out 14 (v := .slice p.ws.at_ p.work.length p.ws.cap) rfl
     have fq : W11.frozen? ⟨w6.heap.size, 14, none⟩ = false := by simp [World.frozen?, HQ11.out]
     have hlen : (p.work.eraseIdx i).length = p.work.length - 1 := List.length_eraseIdx_of_lt hi
     have HQ12 := Lib.hid (box_putS (q := lessP p i ⟨some ⟨g, 0, none⟩, c⟩) HQ11.out 14 (.slice (some ⟨g, 0, none⟩) (p.work.length - 1) c) (by simp [ProgV.arr, ProgV.cells, lessP, Sp.val, hlen]))
     have HO12 := Lib.hid (hown.kept (W' := W11.setCell ⟨w6.heap.size, 14, none⟩ (.slice (some ⟨g, 0, none⟩) (p.work.length - 1) c)) fun b cs fr hb _ => Below.heap_setCell _ _ _ _ (by show b ≠ w6.heap.size; omega))
     have hb12 : Below w6.heap.size W11 (W11.setCell ⟨w6.heap.size, 14, none⟩ (.slice (some ⟨g, 0, none⟩) (p.work.length - 1) c)) := (Below.refl _ _).setCell (p := ⟨w6.heap.size, 14, none⟩) (Nat.le_refl _) _
     have HB12 := Lib.hid (HB11.out.trans hb12)
     have HRD12 := Lib.hid ((HRD11.out.below (hb12.mono (by omega))).more (show bp ≤ (W11.setCell ⟨w6.heap.size, 14, none⟩ (.slice (some ⟨g, 0, none⟩) (p.work.length - 1) c)).heap.size by rw [World.size_setCell]; omega))
     clear hown hb11 hb12 HX10 HQ10 HRD10 HB10 HX11 HRD11 HB11
     go_upto_region 12 with fail
     clear q14 fq HQ11
     generalize W11.setCell ⟨w6.heap.size, 14, none⟩ (.slice (some ⟨g, 0, none⟩) (p.work.length - 1) c) = W12 at *
     have hlt12 : w6.heap.size < W12.heap.size := (Array.getElem?_eq_some_iff.1 HQ12.out).1
     have hBW : Below w.heap.size w W12 := HB6.out.trans (HB12.out.mono HB6.out.size)
     have hrt := right_any W12 (lessP p i ⟨some ⟨g, 0, none⟩, c⟩) (less_rd HRD12.out hi HO12.out) (Nat.lt_of_lt_of_le hn0 hBW.size) (made_fit (HM.out.less i _) HN.out).names (made_fit (HM.out.less i _) HN.out).weight (HMX.out.below hBW hn0)
     rw [(made_right (HM.out.less i ⟨some ⟨g, 0, none⟩, c⟩) HN.out).1, show decide (((0 : Int), (0 : Int)).2 = 0) = true from rfl] at hrt
     have HRT := Lib.hid hrt
     clear hrt hBW HRD12 HO12
     go_wp2_with (first | (refine wpList_load_row rfl 39 _ rfl w6.heap.size rfl 39 _ (0, 0) _ HQ12.out Tryz.underlying39 rfl (arr_size _) ?_) | fail)
     refine HRT.out.mono ?_
     clear HRT
     rintro o W13 ⟨rfl, hb13⟩
     have HB13 := Lib.hid (HB12.out.trans (hb13.mono (Nat.le_of_lt hlt12)))
     clear hb13 HB12
     go_wp2_with fail
     go_meet
     case rel => exact HB13.out
 case rest =>
 have HX14 := Lib.hid ((hcut.block bp hlt6).trans HX6.out)
 have HRD14 := Lib.hid (HRD6.out.below (hcut.mono (Nat.le_of_lt hlt6)))
 have HB14 := Lib.hid (HB6.out.trans (hcut.mono HB6.out.size))
 have hlt14 : bp < wc.heap.size := Nat.lt_of_lt_of_le hlt6 hcut.size
 clear hcut HX6 HRD6 HB6 hlt6
 go_upto_region 15 with (first
   | (refine wpList_load_row rfl 39 _ rfl bp rfl 39 _ (0, 0) _ HX14.out Tryz.underlying39 rfl (arr_size _) ?_)
   | (refine wpList_allocRow (t := 39) rfl rfl (run_zeroP _) ?_)
   | (refine wpList_storeNew (t := 39) rfl _ _ rfl rfl rfl (arr_size _) rfl (arr_one _) ?_)
   | fail)
 have hbA : Below wc.heap.size wc (wc.alloc (.cells p.arr 39)) := (Below.refl _ _).alloc (Nat.le_refl _) _
 have HQ15 := Lib.hid (World.alloc_heap_new wc (.cells p.arr 39))
 have HX15 := Lib.hid ((hbA.block bp hlt14).trans HX14.out)
 have HRD15 := Lib.hid (HRD14.out.below (hbA.mono (Nat.le_of_lt hlt14)))
 have HB15 := Lib.hid (HB14.out.trans (hbA.mono HB14.out.size))
 have hs15 : (wc.alloc (.cells p.arr 39)).heap.size = wc.heap.size + 1 := World.size_alloc _ _
 have hwc : w.heap.size ≤ wc.heap.size := HB14.out.size
 clear hbA HX14 HRD14 HB14
 generalize wc.alloc (.cells p.arr 39) = W15 at *
 have hwl : p.work.length ≤ 100000 := by have := HM.out.workN; omega
 have hpl : p.procs.length ≤ 100000 := made_procs HM.out
 refine Code.wp_mono ?_ (wp_codeS (C' := .region 15 opsS15 true) (by kernel_rfl) (stays15 rfl bp wc.heap.size p.rs p.cs p.procs p.recover _ rfl rfl rfl (arr_cells HX15.out 13 rfl) (arr_cells HX15.out 15 rfl) (HRD15.out.prow.more (show bp ≤ W15.heap.size by omega)) (by omega) (by omega) (by omega) (arr_cells HQ15.out 13 rfl) (by simp [World.frozen?, HQ15.out])))
 rintro e a9 w16 ⟨rfl, hsz9, hd9, hsm9, v, w15, hown, hb15, rfl⟩
 obtain ⟨F, hF, rfl⟩ := act_F110 hsz9 hd9
 have g1 : F 1 = .int .u8 b1 := (hF 1).trans (eval_of ((hsm9 1 rfl).trans rfl))
 have g2 : F 2 = .int .u8 b2 := (hF 2).trans (eval_of ((hsm9 2 rfl).trans rfl))
 have g7 : F 7 = .pointer (some ⟨bp, 0, none⟩) := (hF 7).trans (eval_of ((hsm9 7 rfl).trans rfl))
 have g13 : F 13 = .pointer (some ⟨wc.heap.size, 0, none⟩) := (hF 13).trans (eval_of ((hsm9 13 rfl).trans rfl))
 rw [g1, g2, g7, g13]
 clear hF g1 g2 g7 g13 hsz9 hd9 hsm9
 obtain ⟨A, c, hform⟩ := hown.form
 subst hform
 have HX16 := Lib.hid ((hb15.block bp (by omega)).trans HX15.out)
 have HQ16' := (hb15.block wc.heap.size (by omega)).trans HQ15.out
 have HQ16 := Lib.hid (box_putS (q := extraP p ⟨A, c⟩) HQ16' 13 (.slice A (p.procs ++ [(⟨extraB, Sp.none, [], p.cs, p.recover⟩ : ProcV)]).length c) (by simp [ProgV.arr, ProgV.cells, extraP, Sp.val]))
 have hb16 : Below wc.heap.size w15 (w15.setCell ⟨wc.heap.size, 13, none⟩ (.slice A (p.procs ++ [(⟨extraB, Sp.none, [], p.cs, p.recover⟩ : ProcV)]).length c)) := (Below.refl _ _).setCell (p := ⟨wc.heap.size, 13, none⟩) (Nat.le_refl _) _
 have HX17 := Lib.hid ((hb16.block bp hlt14).trans HX16.out)
 have HO16 := Lib.hid (hown.kept (W' := w15.setCell ⟨wc.heap.size, 13, none⟩ (.slice A (p.procs ++ [(⟨extraB, Sp.none, [], p.cs, p.recover⟩ : ProcV)]).length c)) fun b cs fr hb _ => Below.heap_setCell _ _ _ _ (by show b ≠ wc.heap.size; omega))
 have hbW : Below wc.heap.size W15 (w15.setCell ⟨wc.heap.size, 13, none⟩ (.slice A (p.procs ++ [(⟨extraB, Sp.none, [], p.cs, p.recover⟩ : ProcV)]).length c)) := (hb15.mono (by omega)).trans hb16
 have HB16 := Lib.hid (HB15.out.trans (hbW.mono hwc))
 have hs16 := hbW.size
 have HRD16 := Lib.hid ((HRD15.out.below (hbW.mono (Nat.le_of_lt hlt14))).more (show bp ≤ (w15.setCell ⟨wc.heap.size, 13, none⟩ (.slice A (p.procs ++ [(⟨extraB, Sp.none, [], p.cs, p.recover⟩ : ProcV)]).length c)).heap.size by omega))
 have HRE16 := Lib.hid (extra_rd HRD16.out (by omega) HO16.out)
 clear hb15 hb16 hbW HX16 HQ16' HO16 hown HQ15 HX15 HRD15 HB15
 generalize w15.setCell ⟨wc.heap.size, 13, none⟩ (.slice A (p.procs ++ [(⟨extraB, Sp.none, [], p.cs, p.recover⟩ : ProcV)]).length c) = W16 at *
 go_upto_region 17 with (first
   | (refine wpList_load_row rfl 39 _ rfl wc.heap.size rfl 39 _ (0, 0) _ HQ16.out Tryz.underlying39 rfl (arr_size _) ?_)
   | (refine wpList_allocRow (t := 39) rfl rfl (run_zeroP _) ?_)
   | (refine wpList_storeNew (t := 39) rfl _ _ rfl rfl rfl (arr_size _) rfl (arr_one _) ?_)
   | fail)
 have hbA : Below W16.heap.size W16 (W16.alloc (.cells (extraP p ⟨A, c⟩).arr 39)) := (Below.refl _ _).alloc (Nat.le_refl _) _
 have HR17 := Lib.hid (World.alloc_heap_new W16 (.cells (extraP p ⟨A, c⟩).arr 39))
 have hq16 : wc.heap.size < W16.heap.size := (Array.getElem?_eq_some_iff.1 HQ16.out).1
 have HQ18 := Lib.hid ((hbA.block wc.heap.size hq16).trans HQ16.out)
 have HX18 := Lib.hid ((hbA.block bp (by omega)).trans HX17.out)
 have HRD17 := Lib.hid (HRD16.out.below hbA)
 have HRE17 := Lib.hid (HRE16.out.below hbA)
 have HB17 := Lib.hid (HB16.out.trans (hbA.mono HB16.out.size))
 have hs17 : (W16.alloc (.cells (extraP p ⟨A, c⟩).arr 39)).heap.size = W16.heap.size + 1 := World.size_alloc _ _
 have hwr : w.heap.size ≤ W16.heap.size := HB16.out.size
 clear hbA HQ16 HX17 HRD16 HRE16 HB16
 generalize W16.alloc (.cells (extraP p ⟨A, c⟩).arr 39) = W17 at *
 have c14 : W17.cell? ⟨bp, 14, none⟩ = some (.slice p.ws.at_ p.work.length p.ws.cap) := arr_cells HX18.out 14 rfl
 have HCL := Lib.hid (clone_stmt W17 p.ws p.work _ (HRD17.out.work.row.more (show W16.heap.size ≤ W17.heap.size by omega)) (by omega))
 go_wp2_with fail
 refine HCL.out.mono ?_
 clear HCL c14
 rintro o W18 ⟨⟨v, rfl, hown⟩, hb18⟩
 have hs18 := hb18.size
 have hbC : Below W18.heap.size W18 (W18.alloc (.cells (callT Sp.none extraB []).cells.toArray 49)) := (Below.refl _ _).alloc (Nat.le_refl _) _
 have hb1C : Below W17.heap.size W17 (W18.alloc (.cells (callT Sp.none extraB []).cells.toArray 49)) := hb18.trans (hbC.mono hb18.size)
 have HRS := Lib.hid (row_one (enc := StmtV.cells) (x := callT Sp.none extraB []) (k := 6) (World.alloc_heap_new W18 (.cells (callT Sp.none extraB []).cells.toArray 49)))
 have HO19 := Lib.hid (hown.on hbC)
 have HLN : Hid (p.work.length + 1 ≤ 1000000) := Lib.hid (by omega)
 have HLE := Lib.hid hb1C.size
 have HR19 := Lib.hid ((hb1C.block W16.heap.size (by omega)).trans HR17.out)
 have HQ19 := Lib.hid ((hb1C.block wc.heap.size (by omega)).trans HQ18.out)
 have HX19 := Lib.hid ((hb1C.block bp (by omega)).trans HX18.out)
 have HRD19 := Lib.hid (HRD17.out.below (hb1C.mono (by omega)))
 have HRE19 := Lib.hid (HRE17.out.below (hb1C.mono (by omega)))
 have HB19 := Lib.hid (HB17.out.trans (hb1C.mono HB17.out.size))
 clear hown hb18 hbC hb1C HR17 HQ18 HX18 HRD17 HRE17 HB17
 go_wp2_with (first | (at_builtin; refine wpList_append_row rfl (.tmp 76) (.tmp 78) 37 rfl stmtK (fun _ => rfl) one_stmt v p.work rfl HO19.out ⟨some ⟨W18.heap.size, 0, none⟩, 1⟩ [callT Sp.none extraB []] rfl HRS.out HLN.out HLE.out ?_) | fail)
 intro v2 W20 hown2 hg2 _
 obtain ⟨A2, c2, hv2⟩ := hown2.form
 rw [List.length_append, List.length_singleton] at hv2
 subst hv2
 have hlow := HO19.out.below hg2 (Nat.le_refl _) (Below.refl _ _) HLE.out
 have HR20 := Lib.hid ((hlow.block W16.heap.size (by omega)).trans HR19.out)
 have HQ20 := Lib.hid ((hlow.block wc.heap.size (by omega)).trans HQ19.out)
 have HX20 := Lib.hid ((hlow.block bp (by omega)).trans HX19.out)
 have c14 := arr_cells HR20.out 14 (v := .slice p.ws.at_ p.work.length p.ws.cap) rfl
 have f14 : W20.frozen? ⟨W16.heap.size, 14, none⟩ = false := by simp [World.frozen?, HR20.out]
 have HR21 := Lib.hid (box_putS (q := callP p ⟨A, c⟩ ⟨A2, c2⟩) HR20.out 14 (.slice A2 (p.work.length + 1) c2) (by simp [ProgV.arr, ProgV.cells, callP, extraP, Sp.val]))
 have hb21 : Below W16.heap.size W20 (W20.setCell ⟨W16.heap.size, 14, none⟩ (.slice A2 (p.work.length + 1) c2)) := (Below.refl _ _).setCell (p := ⟨W16.heap.size, 14, none⟩) (Nat.le_refl _) _
 have hb9 : Below W16.heap.size (W18.alloc (.cells (callT Sp.none extraB []).cells.toArray 49)) (W20.setCell ⟨W16.heap.size, 14, none⟩ (.slice A2 (p.work.length + 1) c2)) := (hlow.mono (by omega)).trans hb21
 have HQ21 := Lib.hid ((hb21.block wc.heap.size hq16).trans HQ20.out)
 have HX21 := Lib.hid ((hb21.block bp (by omega)).trans HX20.out)
 have HO21 := Lib.hid (hown2.kept (W' := W20.setCell ⟨W16.heap.size, 14, none⟩ (.slice A2 (p.work.length + 1) c2)) fun b cs fr hb _ => Below.heap_setCell _ _ _ _ (by show b ≠ W16.heap.size; omega))
 have hs21 : W16.heap.size < (W20.setCell ⟨W16.heap.size, 14, none⟩ (.slice A2 (p.work.length + 1) c2)).heap.size := (Array.getElem?_eq_some_iff.1 HR21.out).1
 have HRD21 := Lib.hid ((HRD19.out.below hb9).more (Nat.le_of_lt hs21))
 have HRE21 := Lib.hid ((HRE19.out.below hb9).more (Nat.le_of_lt hs21))
 have HB21 := Lib.hid (HB19.out.trans (hb9.mono hwr))
 have HRC21 := Lib.hid (callP_rd HRE21.out (by omega) HO21.out)
 go_upto_region 18 with fail
 clear hown2 hg2 hlow hb21 hb9 HR20 HQ20 HX20 c14 f14 HRD19 HRE19 HB19 HO19 HO21 HR19 HQ19 HX19 HRS HLE HLN
 generalize W20.setCell ⟨W16.heap.size, 14, none⟩ (.slice A2 (p.work.length + 1) c2) = W21 at *
 have HEX : Hid (extraB ∉ [M.N.i, M.N.j, M.N.g, M.N.h, M.N.v, M.N.c, M.N.a]) := Lib.hid (by rw [HSTD.out]; exact extra_std)
 have HEF := Lib.hid (extra_fit (rs := ⟨A, c⟩) (ws := ⟨A2, c2⟩) HM.out HN.out)
 have hrt := right_any W21 (extraP p ⟨A, c⟩) HRE21.out (Nat.lt_of_lt_of_le hn0 HB21.out.size) HEF.out.1.names HEF.out.1.weight (HMX.out.below HB21.out hn0)
 rw [extra_right HM.out HN.out HEX.out, show decide (((0 : Int), (0 : Int)).2 = 0) = true from rfl] at hrt
 have HRT := Lib.hid hrt
 clear hrt
 go_wp2_with (first | (refine wpList_load_row rfl 39 _ rfl wc.heap.size rfl 39 _ (0, 0) _ HQ21.out Tryz.underlying39 rfl (arr_size _) ?_) | fail)
 refine HRT.out.mono ?_
 clear HRT
 rintro o W22 ⟨rfl, hb22⟩
 have HR22 := Lib.hid ((hb22.block W16.heap.size hs21).trans HR21.out)
 have HX22 := Lib.hid ((hb22.block bp (by omega)).trans HX21.out)
 have HRD22 := Lib.hid (RdP.on HRD21.out hb22)
 have HRC22 := Lib.hid (RdP.on HRC21.out hb22)
 have HB22 := Lib.hid (HB21.out.trans (hb22.mono HB21.out.size))
 have hs22 := hb22.size
 clear hb22 HR21 HX21 HQ21 HRD21 HRC21 HRE21 HB21
 have hrt := right_any W22 (callP p ⟨A, c⟩ ⟨A2, c2⟩) HRC22.out (Nat.lt_of_lt_of_le hn0 HB22.out.size) HEF.out.2.names HEF.out.2.weight (HMX.out.below HB22.out hn0)
 rw [callP_right HM.out HN.out HEX.out, show decide (((0 : Int), (0 : Int)).2 = 0) = true from rfl] at hrt
 have HRT := Lib.hid hrt
 clear hrt
 go_wp2_with (first | (refine wpList_load_row_g (by rfl) 39 _ rfl W16.heap.size rfl 39 _ (0, 0) _ HR22.out Tryz.underlying39 rfl (arr_size _) ?_) | fail)
 refine HRT.out.mono ?_
 clear HRT
 rintro o W23 ⟨rfl, hb23⟩
 have HX23 := Lib.hid ((hb23.block bp (by omega)).trans HX22.out)
 have HRD23 := Lib.hid (RdP.on HRD22.out hb23)
 have HB23 := Lib.hid (HB22.out.trans (hb23.mono HB22.out.size))
 have hs23 := hb23.size
 clear hb23 HR22 HX22 HRD22 HRC22 HB22
 go_upto_region 20 with fail
 obtain ⟨k, hk, hmod⟩ : ∃ k : Nat, k < 7 ∧ b2.tmod 7 = (k : Int) := by
   have h1 := Int.emod_nonneg b2 (show (7 : Int) ≠ 0 by omega)
   have h2 := Int.emod_lt_of_pos b2 (show (0 : Int) < 7 by omega)
   obtain ⟨i, hi⟩ := Int.eq_ofNat_of_zero_le h1
   exact ⟨i, by omega, by rw [Int.tmod_eq_emod_of_nonneg hb2.1, hi]⟩
 have hbA : Below W23.heap.size W23 (W23.alloc (.cells #[.string ⟨#[105]⟩, .string ⟨#[106]⟩, .string ⟨#[103]⟩, .string ⟨#[104]⟩, .string ⟨#[118]⟩, .string ⟨#[99]⟩, .string ⟨#[97]⟩] 9)) := (Below.refl _ _).alloc (Nat.le_refl _) _
 have HX24 := Lib.hid ((hbA.block bp (by omega)).trans HX23.out)
 have HRD24 := Lib.hid (RdP.on HRD23.out hbA)
 have HB24 := Lib.hid (HB23.out.trans (hbA.mono HB23.out.size))
 have hs24 := hbA.size
 have ck := from_cell hk (World.alloc_heap_new W23 (.cells #[.string ⟨#[105]⟩, .string ⟨#[106]⟩, .string ⟨#[103]⟩, .string ⟨#[104]⟩, .string ⟨#[118]⟩, .string ⟨#[99]⟩, .string ⟨#[97]⟩] 9))
 have hwk : IntKind.u8.wrap (k : Int) = (k : Int) := by unfold IntKind.wrap; simp [IntKind.bits, IntKind.signed]; omega
 clear hbA HX23 HRD23 HB23
 go_upto_region 21 with fail
 generalize W23.alloc (.cells #[.string ⟨#[105]⟩, .string ⟨#[106]⟩, .string ⟨#[103]⟩, .string ⟨#[104]⟩, .string ⟨#[118]⟩, .string ⟨#[99]⟩, .string ⟨#[97]⟩] 9) = W24 at *
 have HFM := Lib.hid (from_mem hk)
 clear ck hwk hmod
 generalize fromB k = fr at *
 have HRN := Lib.hid (renamedP_any fr otherB (by decide) W24 p HRD24.out (by have := made_heft HM.out; omega) (heft_each (by have := made_heft HM.out; omega)).1 (heft_each (by have := made_heft HM.out; omega)).2)
 go_wp2_with (first | (refine wpList_load_row rfl 39 _ rfl bp rfl 39 _ (0, 0) _ HX24.out Tryz.underlying39 rfl (arr_size _) ?_) | fail)
 refine HRN.out.mono ?_
 clear HRN
 rintro o W25 ⟨q25, rfl, hren, hrd, hb25⟩
 have hok := ren_right HM.out HSTD.out HFM.out hren
 have HX25 := Lib.hid ((hb25.block bp (by omega)).trans HX24.out)
 have HRD25 := Lib.hid (RdP.on HRD24.out hb25)
 have HB25 := Lib.hid (HB24.out.trans (hb25.mono HB24.out.size))
 have hs25 := hb25.size
 have hrt := right_any W25 q25 hrd (Nat.lt_of_lt_of_le hn0 HB25.out.size) hok.2.names hok.2.weight (HMX.out.below HB25.out hn0)
 rw [hok.1, show decide (((0 : Int), (0 : Int)).2 = 0) = true from rfl] at hrt
 have HRT := Lib.hid hrt
 clear hrt hren hrd hok hb25 HX24 HRD24 HB24
 go_wp2_with fail
 refine HRT.out.mono ?_
 clear HRT
 rintro o W26 ⟨rfl, hb26⟩
 have HX26 := Lib.hid ((hb26.block bp (by omega)).trans HX25.out)
 have HRD26 := Lib.hid (RdP.on HRD25.out hb26)
 have HB26 := Lib.hid (HB25.out.trans (hb26.mono HB25.out.size))
 have hs26 := hb26.size
 clear hb26 HX25 HRD25 HB25
 have HRN := Lib.hid (renamedP_any std.g std.h (by decide) W26 p HRD26.out (by have := made_heft HM.out; omega) (heft_each (by have := made_heft HM.out; omega)).1 (heft_each (by have := made_heft HM.out; omega)).2)
 go_wp2_with (first | (refine wpList_load_row_g (by rfl) 39 _ rfl bp rfl 39 _ (0, 0) _ HX26.out Tryz.underlying39 rfl (arr_size _) ?_) | fail)
 refine HRN.out.mono ?_
 clear HRN
 rintro o W27 ⟨q27, rfl, hren, hrd, hb27⟩
 have hok := ren_bad_gh HM.out HSTD.out hren
 have HX27 := Lib.hid ((hb27.block bp (by omega)).trans HX26.out)
 have HRD27 := Lib.hid (RdP.on HRD26.out hb27)
 have HB27 := Lib.hid (HB26.out.trans (hb27.mono HB26.out.size))
 have hs27 := hb27.size
 have hrt := right_any W27 q27 hrd (Nat.lt_of_lt_of_le hn0 HB27.out.size) hok.2.names hok.2.weight (HMX.out.below HB27.out hn0)
 rw [decide_eq_false hok.1] at hrt
 have HRT := Lib.hid hrt
 clear hrt hren hrd hok hb27 HX26 HRD26 HB26
 go_wp2_with fail
 refine HRT.out.mono ?_
 clear HRT
 rintro o W28 ⟨rfl, hb28⟩
 have HX28 := Lib.hid ((hb28.block bp (by omega)).trans HX27.out)
 have HRD28 := Lib.hid (RdP.on HRD27.out hb28)
 have HB28 := Lib.hid (HB27.out.trans (hb28.mono HB27.out.size))
 have hs28 := hb28.size
 clear hb28 HX27 HRD27 HB27
 have HRN := Lib.hid (renamedP_any std.v whileB (by decide) W28 p HRD28.out (by have := made_heft HM.out; omega) (heft_each (by have := made_heft HM.out; omega)).1 (heft_each (by have := made_heft HM.out; omega)).2)
 go_wp2_with (first | (refine wpList_load_row_g (by rfl) 39 _ rfl bp rfl 39 _ (0, 0) _ HX28.out Tryz.underlying39 rfl (arr_size _) ?_) | fail)
 refine HRN.out.mono ?_
 clear HRN
 rintro o W29 ⟨q29, rfl, hren, hrd, hb29⟩
 have hok := ren_bad_v HM.out HSTD.out hren
 have HX29 := Lib.hid ((hb29.block bp (by omega)).trans HX28.out)
 have HRD29 := Lib.hid (RdP.on HRD28.out hb29)
 have HB29 := Lib.hid (HB28.out.trans (hb29.mono HB28.out.size))
 have hs29 := hb29.size
 have hrt := right_any W29 q29 hrd (Nat.lt_of_lt_of_le hn0 HB29.out.size) hok.2.names hok.2.weight (HMX.out.below HB29.out hn0)
 rw [decide_eq_false hok.1] at hrt
 have HRT := Lib.hid hrt
 clear hrt hren hrd hok hb29 HX28 HRD28 HB28
 go_wp2_with fail
 refine HRT.out.mono ?_
 clear HRT
 rintro o W30 ⟨rfl, hb30⟩
 have HX30 := Lib.hid ((hb30.block bp (by omega)).trans HX29.out)
 have HRD30 := Lib.hid (RdP.on HRD29.out hb30)
 have HB30 := Lib.hid (HB29.out.trans (hb30.mono HB29.out.size))
 have hs30 := hb30.size
 clear hb30 HX29 HRD29 HB29
 go_wp2_with fail
 go_ret
 exact ⟨rfl, HB30.out⟩
end Go.Proofs.YthcboallnbaimaaGreatDoor
