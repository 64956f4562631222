import Derived.Test.YtepacjkacjabbaaGreatDoorKAH
import Derived.Deep.WholeRow
import Derived.Laws.Tables
import Derived.Outline
import Derived.Test.YtepacjkacjabbaaGreatDoorKAG
import Derived.RegionTactic
import Derived.Below
import Derived.Test.YtepacjkacjabbaaGreatDoorKAF
namespace Go.Proofs.YtepacjkacjabbaaGreatDoor
open Go Go.RowKit
def tabCells : Array Value := #[.string ⟨#[]⟩, .int .i64 0, .bool false, .nilFunc,
   .string ⟨#[126]⟩, .int .i64 0, .bool false, .func (.func 282) #[] #[],
   .string ⟨#[45]⟩, .int .i64 0, .bool false, .func (.func 283) #[] #[],
   .string ⟨#[43]⟩, .int .i64 5, .bool false, .func (.func 284) #[] #[],
   .string ⟨#[45]⟩, .int .i64 5, .bool false, .func (.func 285) #[] #[],
   .string ⟨#[42]⟩, .int .i64 6, .bool false, .func (.func 286) #[] #[],
   .string ⟨#[47]⟩, .int .i64 6, .bool false, .func (.func 287) #[] #[],
   .string ⟨#[37]⟩, .int .i64 6, .bool false, .func (.func 288) #[] #[],
   .string ⟨#[38]⟩, .int .i64 2, .bool false, .func (.func 289) #[] #[],
   .string ⟨#[124]⟩, .int .i64 1, .bool false, .func (.func 290) #[] #[],
   .string ⟨#[94]⟩, .int .i64 1, .bool false, .func (.func 291) #[] #[],
   .string ⟨#[60, 60]⟩, .int .i64 4, .bool false, .func (.func 292) #[] #[],
   .string ⟨#[62, 62]⟩, .int .i64 4, .bool false, .func (.func 293) #[] #[],
   .string ⟨#[61, 61]⟩, .int .i64 3, .bool true, .func (.func 294) #[] #[],
   .string ⟨#[33, 61]⟩, .int .i64 3, .bool true, .func (.func 296) #[] #[],
   .string ⟨#[60]⟩, .int .i64 3, .bool true, .func (.func 297) #[] #[],
   .string ⟨#[60, 61]⟩, .int .i64 3, .bool true, .func (.func 298) #[] #[]]
def zeroTab : Array Value := #[.string ⟨#[]⟩, .int .i64 0, .bool false, .nilFunc, .string ⟨#[]⟩, .int .i64 0, .bool false, .nilFunc, .string ⟨#[]⟩, .int .i64 0, .bool false, .nilFunc, .string ⟨#[]⟩, .int .i64 0, .bool false, .nilFunc, .string ⟨#[]⟩, .int .i64 0, .bool false, .nilFunc, .string ⟨#[]⟩, .int .i64 0, .bool false, .nilFunc, .string ⟨#[]⟩, .int .i64 0, .bool false, .nilFunc, .string ⟨#[]⟩, .int .i64 0, .bool false, .nilFunc, .string ⟨#[]⟩, .int .i64 0, .bool false, .nilFunc, .string ⟨#[]⟩, .int .i64 0, .bool false, .nilFunc, .string ⟨#[]⟩, .int .i64 0, .bool false, .nilFunc, .string ⟨#[]⟩, .int .i64 0, .bool false, .nilFunc, .string ⟨#[]⟩, .int .i64 0, .bool false, .nilFunc, .string ⟨#[]⟩, .int .i64 0, .bool false, .nilFunc, .string ⟨#[]⟩, .int .i64 0, .bool false, .nilFunc, .string ⟨#[]⟩, .int .i64 0, .bool false, .nilFunc, .string ⟨#[]⟩, .int .i64 0, .bool false, .nilFunc]
theorem tab_info : (Tryz.prog.info? 311).map (·.size) = some tabCells.size := by kernel_rfl
theorem tab_under : Tryz.prog.underlying 311 = some (.array 17 310) := by kernel_rfl
theorem tab_one : tabCells.all (·.oneCell') = true := by kernel_rfl
section
variable {P : Program} {ops : Array Oper} {Q : Exit → Act → World → Prop} {a : Act} {w w' : World} {rest : List Oper} {o : Oper}
theorem wpList_run {v : Value} (hg : o.guard = none) (h : (execOp a.eval o).run P w = .ok (.value v) w') (k : wpList P ops Q rest (a.put o.dst v) w') : wpList P ops Q (o :: rest) a w :=
 wpList_plain hg fun K hK => by unfold Oper.wp; rw [h]; exact hK _ _ k
theorem wpList_runS (hg : o.guard = none) (h : (execOp a.eval o).run P w = .ok .skip w') (k : wpList P ops Q rest (a.put o.dst undef) w') : wpList P ops Q (o :: rest) a w :=
 wpList_plain hg fun K hK => by unfold Oper.wp; rw [h]; exact hK _ _ k
theorem wpList_storeNew {t : TypeId} {c c' : Array Value} (hg : o.guard = none) (x v : Operand) (ho : o.op = .store t x v) (hx : a.eval x = .pointer (some ⟨w.heap.size, 0, none⟩)) (hv : a.eval v = .agg c')
   (hi : (P.info? t).map (·.size) = some c'.size) (hs : c.size = c'.size) (h1 : c'.all (·.oneCell') = true) (k : wpList P ops Q rest (a.put o.dst undef) (w.alloc (.cells c' t))) : wpList P ops Q (o :: rest) a (w.alloc (.cells c t)) :=
 wpList_runS hg (by simp only [execOp, ho, hx, hv, Sem.run_bind, run_storeAt_new w t c c' hi hs h1]; rfl) k
theorem wpList_allocRow {t : TypeId} {z : Array Value} (hg : o.guard = none) (ho : o.op = .alloc t) (hz : (zeroValue t).run P w = .ok (.agg z) w) (k : wpList P ops Q rest (a.put o.dst (.pointer (some ⟨w.heap.size, 0, none⟩))) (w.alloc (.cells z t))) : wpList P ops Q (o :: rest) a w :=
 wpList_run hg (by simp [execOp, ho, Sem.run_bind, Instr.alloc, hz, go_sem, Value.cells]) k
theorem wpList_build (hg : o.guard = none) (t : TypeId) (parts : Array (Nat × Operand)) (ho : o.op = .build t parts) (cells : Array Value)
   (h : P.built t (parts.map fun (i, x) => (i, a.eval x)).toList = some cells) (k : wpList P ops Q rest (a.put o.dst (.agg cells)) w) : wpList P ops Q (o :: rest) a w :=
 wpList_plain hg fun K hK => wp_build t parts ho (by rw [h]; rfl) (hK _ _ (by rw [h]; exact k))
end
theorem run_zeroTab (w : World) : (zeroValue 311).run Tryz.prog w = .ok (.agg zeroTab) w := (zero_of_info (n := 68) (by kernel_rfl)).1 w
set_option maxRecDepth 1000000 in
set_option maxHeartbeats 4000000 in
theorem table_any (w : World) : Calls Tryz.prog 275 #[] w fun o w' => o = .returned (.agg tabCells) ∧ w' = w.alloc (.cells tabCells 311) := by
 go_enter Tryz.func275, Tryz.ntmps275
 go_wp2_with (first
   | (refine wpList_allocRow (t := 311) rfl rfl (run_zeroTab _) ?_)
   | (refine wpList_build rfl 311 _ rfl tabCells (by kernel_rfl) ?_)
   | (refine wpList_storeNew (t := 311) rfl _ _ rfl rfl rfl tab_info (by kernel_rfl) tab_one ?_)
   | fail)
 exact bodyPost_ret (v := .agg tabCells) (results_cell_row rfl _ _ w.heap.size _ tabCells (0, 0) _ rfl (heap_alloc_last w _) tab_under rfl tab_info) rfl ⟨rfl, rfl⟩
end Go.Proofs.YtepacjkacjabbaaGreatDoor
namespace Go.Proofs.YtepacjkacjabbaaGreatDoor
open Go Go.RowKit Go.Maps
section
variable {P : Program} {ops : Array Oper} {Q : Exit → Act → World → Prop} {a : Act} {w : World} {rest : List Oper} {o : Oper}
theorem run_loadVar_part (w : World) (g off : Nat) (ty : TypeId) (cs : Array Value) (d : TypeDesc) (hc : ∀ (j : Nat) (v : Value), cs.toList[j]? = some v → w.cell? ⟨g, off + j, none⟩ = some v)
   (hu : P.underlying ty = some d) (hd : (match d with | .struct _ | .array _ _ => true | _ => false) = true) (hi : (P.info? ty).map (·.size) = some cs.size) :
   (loadVar ty ⟨g, off, none⟩).run P w = .ok (.agg cs) w := by
 have hl : (loadCells ⟨g, off, none⟩ cs.toList.length).run P w = .ok cs.toList.toArray w :=
   run_loadCells_list (P := P) w ⟨g, off, none⟩ cs.toList (fun j v hv => by
     have hadd : (⟨g, off, none⟩ : Addr).add j = ⟨g, off + j, none⟩ := by unfold Addr.add; split <;> simp_all
     rw [hadd]
     exact hc j v hv)
 cases hq : P.info? ty with
 | none => simp [hq] at hi
 | some i =>
   have hs : i.size = cs.size := by simpa [hq] using hi
   have hagg : (isAgg ty).run P w = .ok true w := by
     unfold isAgg
     rw [Sem.run_bind, run_underlying hu w]
     cases d <;> simp_all
   simp only [Array.length_toList, Array.toArray_toList] at hl
   simp [loadVar, Sem.run_bind, hagg, sizeOf, typeInfo, hq, hs, hl]
theorem wpList_load_part (hgd : o.guard = none) (ty : TypeId) (x : Operand) (ho : o.op = .load ty x) (g off : Nat) (hx : a.eval x = .pointer (some ⟨g, off, none⟩)) (cs : Array Value) (d : TypeDesc)
   (hc : ∀ (j : Nat) (v : Value), cs.toList[j]? = some v → w.cell? ⟨g, off + j, none⟩ = some v)
   (hu : P.underlying ty = some d) (hd : (match d with | .struct _ | .array _ _ => true | _ => false) = true) (hi : (P.info? ty).map (·.size) = some cs.size)
   (h : wpList P ops Q rest (a.put o.dst (.agg cs)) w) : wpList P ops Q (o :: rest) a w :=
 wpList_plain hgd fun K hK => by
   unfold Oper.wp execOp
   simp only [ho, hx, Instr.loadAt, Instr.sureAddr, Sem.run_bind, Sem.run_pure, Result.andThen_ok, run_loadVar_part w g off ty cs d hc hu hd hi]
   exact hK _ _ h
end
def ProgV.arr (p : ProgV) : Array Value := p.cells.toArray
theorem arr_size (p : ProgV) : (Tryz.prog.info? 35).map (·.size) = some p.arr.size := by kernel_rfl
theorem arr_val (p : ProgV) : p.val = .agg p.arr := rfl
theorem Ckr.prog_part {K : CkE} {pm : Option Nat} {E : Env} {n : Int} {over : Bool} {W : World} (h : Ckr K pm E n over W) : ∀ (j : Nat) (v : Value), K.p.arr.toList[j]? = some v → W.cell? ⟨K.q, 0 + j, none⟩ = some v := by
 intro j v hv
 refine h.cell (0 + j) v ?_
 have hj : j < 22 := (List.getElem?_eq_some_iff.1 hv).1
 rw [Nat.zero_add]
 have e : (K.cells pm E n over)[j]? = K.p.arr.toList[j]? := by
   rcases (show j = 0 ∨ j = 1 ∨ j = 2 ∨ j = 3 ∨ j = 4 ∨ j = 5 ∨ j = 6 ∨ j = 7 ∨ j = 8 ∨ j = 9 ∨ j = 10 ∨ j = 11 ∨ j = 12 ∨ j = 13 ∨ j = 14 ∨ j = 15 ∨ j = 16 ∨ j = 17 ∨ j = 18 ∨ j = 19 ∨ j = 20 ∨ j = 21 by omega) with rfl | rfl | rfl | rfl | rfl | rfl | rfl | rfl | rfl | rfl | rfl | rfl | rfl | rfl | rfl | rfl | rfl | rfl | rfl | rfl | rfl | rfl <;> rfl
 rw [e]; exact hv
end Go.Proofs.YtepacjkacjabbaaGreatDoor
namespace Go.Proofs.YtepacjkacjabbaaGreatDoor
open Go Go.RowKit
theorem mask_blockX {q B b : Nat} {W W' : World} (h : Below B (mask q W) (mask q W')) (hb : b < B) (hq : b ≠ q) : W'.heap[b]? = W.heap[b]? := by
 have := h.block b hb
 rwa [mask_heap hq, mask_heap hq] at this
theorem RowOf.low' {α : Type} {n k lo : Nat} {W : World} {sp : Sp} {enc : α → List Value} {l : List α} (h : RowOf n W sp k enc l) (hb : ∀ a, sp.at_ = some a → lo ≤ a.block) : RowOf n (lowm lo W) sp k enc l :=
 ⟨h.cap, h.big, h.few, fun h0 => by
   obtain ⟨b, off, e, hlt, hc⟩ := h.row h0
   exact ⟨b, off, e, hlt, fun j hj r u hu => lowm_cell.2 ⟨(by have := hb _ e; exact this), hc j hj r u hu⟩⟩⟩
theorem newT_node {lo : Nat} {W : World} {k bd : Int} {nm : ByteArray} {es ts os : Sp} {ex : List ExprV} {th el : List StmtV} (he : RowOf W.heap.size (lowm lo W) es 6 ExprV.cells ex) (hx : ∀ e, e ∈ ex → NewX lo W e) (ht : NewTs lo W ts th) (ho : NewTs lo W os el) (hk : 0 ≤ k ∧ k ≤ 255) (hb : (Lit.int .i64 bd).wf = true) (hn : nm.size ≤ maxLen) : NewT lo W (.mk k nm es ex bd ts th os el) :=
 .mk _ hk hb hn he hx ht.1 ht.2 ho.1 ho.2
theorem newTs_nil {lo : Nat} {W : World} : NewTs lo W Sp.none [] := ⟨RowOf.nil, fun _ h => absurd h (by simp)⟩
theorem NewT.set {lo g : Nat} {W : World} {s : StmtV} {cs : Array Value} (h : NewT lo W s) (hg : g < lo) : NewT lo (W.setRow g cs) s := by
 unfold NewT; rw [size_setRow]; exact RdT.cells h (keeps_set hg)
theorem NewT.below {lo : Nat} {W W' : World} {s : StmtV} (h : NewT lo W s) (hb : Below W.heap.size W W') : NewT lo W' s :=
 (RdT.cells h fun _ _ hp hc => lowm_cell.2 ⟨(lowm_cell.1 hc).1, (hb.cell hp).trans (lowm_cell.1 hc).2⟩).more hb.size
theorem NewX.below {lo : Nat} {W W' : World} {s : ExprV} (h : NewX lo W s) (hb : Below W.heap.size W W') : NewX lo W' s :=
 (RdX.cells h fun _ _ hp hc => lowm_cell.2 ⟨(lowm_cell.1 hc).1, (hb.cell hp).trans (lowm_cell.1 hc).2⟩).more hb.size
theorem NewTs.below {lo : Nat} {W W' : World} {sp : Sp} {l : List StmtV} (h : NewTs lo W sp l) (hb : Below W.heap.size W W') : NewTs lo W' sp l :=
 ⟨(h.1.cells fun _ _ hp hc => lowm_cell.2 ⟨(lowm_cell.1 hc).1, (hb.cell hp).trans (lowm_cell.1 hc).2⟩).more hb.size, fun s hs => (h.2 s hs).below hb⟩
def maskO (g : Option Nat) (W : World) : World := match g with | some b => mask b W | none => W
theorem maskO_cell {g : Option Nat} {W : World} {p : Addr} {u : Value} : (maskO g W).cell? p = some u ↔ g ≠ some p.block ∧ W.cell? p = some u := by
 cases g with
 | none => simp [maskO]
 | some b =>
   by_cases h : p.block = b
   · constructor
     · intro hc
       exfalso
       simp only [maskO, World.cell?, h, mask_at] at hc
       split at hc
       · next hh =>
         split at hh
         · cases hh
           split at hc
           · cases hc
           · simp at hc
         · cases hh
       · cases hc
     · rintro ⟨h1, _⟩
       exact absurd (by rw [h]) h1
   · have e : (maskO (some b) W).cell? p = W.cell? p := World.cell?_of_block (mask_heap h)
     rw [e]
     exact ⟨fun hc => ⟨fun e => h (Option.some.inj e).symm, hc⟩, fun hc => hc.2⟩
def NewTx (lo : Nat) (g : Option Nat) (W : World) (s : StmtV) : Prop := RdT W.heap.size (lowm lo (maskO g W)) s
theorem xcell {lo : Nat} {g : Option Nat} {W : World} {p : Addr} {u : Value} : (lowm lo (maskO g W)).cell? p = some u ↔ lo ≤ p.block ∧ g ≠ some p.block ∧ W.cell? p = some u := by rw [lowm_cell, maskO_cell]
section
variable {lo q : Nat} {g : Option Nat} {W W' : World} {s : StmtV}
theorem NewTx.newT (h : NewTx lo g W s) : NewT lo W s := RdT.cells h fun _ _ _ hc => lowm_cell.2 ⟨(xcell.1 hc).1, (xcell.1 hc).2.2⟩
theorem NewTx.on (h : NewTx lo g W s) (hb : Below W.heap.size (mask q W) (mask q W')) (hq : q < lo) : NewTx lo g W' s :=
 (RdT.cells h fun p u hp hc => by
   obtain ⟨h1, h2, h3⟩ := xcell.1 hc
   exact xcell.2 ⟨h1, h2, (World.cell?_of_block (mask_blockX hb hp (by omega))).trans h3⟩).more (size_mask hb)
theorem NewTx.below (h : NewTx lo g W s) (hb : Below W.heap.size W W') : NewTx lo g W' s :=
 (RdT.cells h fun _ _ hp hc => xcell.2 ⟨(xcell.1 hc).1, (xcell.1 hc).2.1, (hb.cell hp).trans (xcell.1 hc).2.2⟩).more hb.size
theorem NewTx.less {lo' : Nat} (h : NewTx lo g W s) (hl : lo' ≤ lo) : NewTx lo' g W s :=
 RdT.cells h fun _ _ _ hc => xcell.2 ⟨by have := (xcell.1 hc).1; omega, (xcell.1 hc).2⟩
theorem NewTx.grow {g' : Option Nat} (h : NewTx lo g W s) (hg : W.grownBy W' g) (hat : g' = g ∨ g' = some W.heap.size) : NewTx lo g' W' s :=
 (RdT.cells h fun p u hp hc => by
   obtain ⟨h1, h2, h3⟩ := xcell.1 hc
   refine xcell.2 ⟨h1, ?_, (World.cell?_of_block (hg.block _ hp (fun e => h2 e.symm))).trans h3⟩
   rcases hat with rfl | rfl
   · exact h2
   · intro e
     have := Option.some.inj e
     omega).more hg.size
theorem NewT.tox {lo' : Nat} (h : NewT lo W s) (hg : ∀ b, g = some b → b < lo) (hl : lo' ≤ lo) : NewTx lo' g W s :=
 RdT.cells h fun p u _ hc => by
   obtain ⟨h1, h2⟩ := lowm_cell.1 hc
   exact xcell.2 ⟨by omega, fun e => by have := hg _ e; omega, h2⟩
end
theorem OwnL.old_block {α : Type} {k B : Nat} {enc : α → List Value} {e : TypeId} {v : Value} {l : List α} {W : World} (h : OwnL B W e k enc v l) : ∀ b, v.ownBlock = some b → b < W.heap.size := fun b hb => by
 obtain ⟨_, cs, fr, hh⟩ := h.own_type hb
 exact (Array.getElem?_eq_some_iff.1 hh).1
end Go.Proofs.YtepacjkacjabbaaGreatDoor
namespace Go.Proofs.YtepacjkacjabbaaGreatDoor
open Go
section
variable {P : Program} {md : Region.Mode} {ops : Array Oper} {Q : Exit → Act → World → Prop}
def todoN (ops : Array Oper) (listed : Array Bool) : List Nat := (List.range ops.size).filter fun i => !listed.getD i true
theorem todo_next {listed : Array Bool} {i : Nat} (h : i ∈ todoN ops listed) : (todoN ops (listed.setIfInBounds i true)).length < (todoN ops listed).length := by
 have e : todoN ops (listed.setIfInBounds i true) = (todoN ops listed).filter fun j => decide (j ≠ i) := by
   unfold todoN
   rw [List.filter_filter]
   refine List.filter_congr fun j _ => ?_
   by_cases hj : j = i
   · subst hj
     have hlt : j < listed.size := by
       have h2 := (List.mem_filter.1 h).2
       rcases Nat.lt_or_ge j listed.size with h3 | h3
       · exact h3
       · simp [Array.getD, Nat.not_lt.2 h3] at h2
     simp [Array.getD, hlt]
   · have : (listed.setIfInBounds i true).getD j true = listed.getD j true := by
       rw [Array.getD_eq_getD_getElem?, Array.getD_eq_getD_getElem?, Array.getElem?_setIfInBounds_ne (Ne.symm hj)]
     rw [this]
     simp [hj]
 rw [e]
 exact List.length_filter_lt_length_iff_exists.2 ⟨i, h, by simp⟩
theorem ready_todo {listed : Array Bool} {i : Nat} (h : i ∈ Region.ready md ops listed) : i ∈ todoN ops listed := by
 unfold Region.ready at h
 obtain ⟨h1, h2⟩ := List.mem_filter.1 h
 rw [Bool.and_eq_true] at h2
 exact List.mem_filter.2 ⟨h1, h2.1⟩
theorem wpAny_inv (I : Array Bool → Act → World → Prop) (hstep : ∀ listed a w i, I listed a w → i ∈ Region.ready md ops listed → wpOp P ops Q i (I (listed.setIfInBounds i true)) a w)
   (hdone : ∀ listed a w, I listed a w → Region.ready md ops listed = [] → Q .normal a w) :
   ∀ (fuel : Nat) (listed : Array Bool) (a : Act) (w : World), (todoN ops listed).length ≤ fuel → I listed a w → wpAny P md ops Q fuel listed a w
 | 0, listed, a, w, hf, hI => by
   have hr : Region.ready md ops listed = [] := by
     refine List.eq_nil_iff_forall_not_mem.2 fun i hi => ?_
     have h1 := ready_todo hi
     have h2 := List.eq_nil_of_length_eq_zero (Nat.le_zero.1 hf)
     rw [h2] at h1
     cases h1
   exact ⟨hr, hdone _ _ _ hI hr⟩
 | fuel + 1, listed, a, w, hf, hI => ⟨fun hr => hdone _ _ _ hI hr, fun i hi => wpOp_mono (fun a' w' h' => wpAny_inv I hstep hdone fuel _ a' w' (by have := todo_next (ready_todo hi); omega) h') (hstep listed a w i hI hi)⟩
theorem wp_region_inv {id : Nat} {a : Act} {w : World} (hm : P.follows .mixedOrders = true) (I : Array Bool → Act → World → Prop)
   (hstep : ∀ listed a w i, I listed a w → i ∈ Region.ready .any ops listed → wpOp P ops Q i (I (listed.setIfInBounds i true)) a w)
   (hdone : ∀ listed a w, I listed a w → Region.ready .any ops listed = [] → Q .normal a w) (h0 : I (Array.replicate ops.size false) a w.drew) : (Code.region id ops true).wp P Q a w := by
 refine wp_region_any hm (wpAny_inv I hstep hdone _ _ _ _ ?_ h0)
 refine Nat.le_trans (List.length_filter_le _ _) ?_
 simp
theorem eval_put_same {a : Act} {d : Nat} {v : Value} (h : d < a.tmps.size) : (a.put (some d) v).eval (.tmp d) = v := by
 simp [Act.put, Act.eval, h]
theorem eval_put_other {a : Act} {d j : Nat} {v : Value} (h : d ≠ j) : (a.put (some d) v).eval (.tmp j) = a.eval (.tmp j) := by
 simp [Act.put, Act.eval, Array.getElem?_setIfInBounds_ne h]
theorem size_put {a : Act} {d : Option Nat} {v : Value} : (a.put d v).tmps.size = a.tmps.size := by
 cases d <;> simp [Act.put]
end
end Go.Proofs.YtepacjkacjabbaaGreatDoor
namespace Go.Proofs.YtepacjkacjabbaaGreatDoor
open Go Go.RowKit
section
variable {P : Program} {ops : Array Oper} {Q : Exit → Act → World → Prop}
def onL (L : Nat → Bool) (i : Nat) : Nat → Bool := fun j => if j = i then true else L j
theorem onL_same {L : Nat → Bool} {i : Nat} : onL L i i = true := by simp [onL]
theorem onL_other {L : Nat → Bool} {i j : Nat} (h : j ≠ i) : onL L i j = L j := by simp [onL, h]
def fnL (listed : Array Bool) : Nat → Bool := fun j => listed.getD j false
theorem fnL_set {listed : Array Bool} {i : Nat} (h : i < listed.size) : fnL (listed.setIfInBounds i true) = onL (fnL listed) i := by
 funext j
 unfold fnL onL
 by_cases hj : j = i
 · subst hj; simp [h]
 · rw [if_neg hj, getD_set_ne false (Ne.symm hj)]
theorem ready_all {listed : Array Bool} (hls : listed.size = ops.size) (hback : ∀ (i : Nat) (o : Oper), ops[i]? = some o → ∀ e ∈ o.after, Region.binds .any e = true → e.on < i) (hr : Region.ready .any ops listed = []) : ∀ i, i < ops.size → fnL listed i = true := by
 intro i
 induction i using Nat.strongRecOn with
 | _ i ih =>
   intro hi
   cases hc : fnL listed i with
   | true => rfl
   | false =>
     exfalso
     have h0 : listed.getD i true = false := by
       unfold fnL at hc
       rw [← hls] at hi
       simp [Array.getD, hi] at hc ⊢
       exact hc
     have hm : i ∈ Region.ready .any ops listed := by
       rw [mem_ready]
       exact ⟨h0, ops[i], Array.getElem?_eq_getElem hi, fun e he hb => ih e.on (hback i _ (Array.getElem?_eq_getElem hi) e he hb) (Nat.lt_trans (hback i _ (Array.getElem?_eq_getElem hi) e he hb) hi)⟩
     rw [hr] at hm
     cases hm
def AllL (F : Nat → Oper → Prop) : Nat → List Oper → Prop
 | _, [] => True
 | i, o :: l => F i o ∧ AllL F (i + 1) l
theorem AllL.at_ {F : Nat → Oper → Prop} : ∀ {l : List Oper} {k : Nat}, AllL F k l → ∀ {i : Nat} {o : Oper}, l[i]? = some o → F (k + i) o
 | [], _, _, i, o, h => by simp at h
 | x :: l, k, hA, 0, o, h => by
   simp at h; subst h; exact hA.1
 | x :: l, k, hA, i + 1, o, h => by
   have := AllL.at_ hA.2 (i := i) (o := o) (by simpa using h)
   rwa [show k + 1 + i = k + (i + 1) by omega] at this
theorem AllL.all {F : Nat → Oper → Prop} {ops : Array Oper} (h : AllL F 0 ops.toList) (i : Nat) (o : Oper) (ho : ops[i]? = some o) : F i o := by
 have := AllL.at_ h (i := i) (o := o) (by simpa using ho)
 rwa [Nat.zero_add] at this
def befB (o : Oper) (j : Nat) : Bool := o.after.toList.any fun e => Region.binds .any e && Nat.beq e.on j
theorem AllL.cons {F : Nat → Oper → Prop} {i : Nat} {o : Oper} {l : List Oper} (h : F i o) (t : AllL F (i + 1) l) : AllL F i (o :: l) := ⟨h, t⟩
theorem Oper.wp_value {o : Oper} {a : Act} {w w' : World} {v : Value} {K : Act → World → Prop} (h : (execOp a.eval o).run P w = .ok (.value v) w') (hk : K (a.put o.dst v) w') : o.wp P a w K Q := by
 unfold Oper.wp; rw [h]; exact hk
theorem Oper.wp_enter {o : Oper} {a : Act} {w w' : World} {f : FuncId} {args : Array Value} {K : Act → World → Prop} (h : (execOp a.eval o).run P w = .ok (.enter f args) w') (hc : Calls P f args w' fun e w'' => ∃ v, e = .returned v ∧ K (a.put o.dst v) w'') : o.wp P a w K Q := by
 unfold Oper.wp; rw [h]
 refine Calls.mono hc fun e w'' he => ?_
 obtain ⟨v, rfl, hk⟩ := he
 exact hk
def opsOf (n : Nat) : Code → Option (Array Oper)
 | .region id ops _ => if id = n then some ops else none
 | .seq a b => match opsOf n a with
   | some c => some c
   | none => opsOf n b
 | .loop c => opsOf n c
 | .block _ c => opsOf n c
 | .scope c => opsOf n c
 | .cond _ a b => match opsOf n a with
   | some c => some c
   | none => opsOf n b
 | _ => none
theorem tmps_of {a : Act} {n : Nat} {v : Value} (h : a.eval (.tmp n) = v) : a.tmps[n]?.getD undef = v := by
 rw [← h]; simp [Act.eval]
theorem act_eq {a : Act} {n : Nat} (h : a.tmps.size = n) (hd : a.defers = []) : a = ⟨((List.range n).map fun t => a.eval (.tmp t)).toArray, []⟩ := by
 obtain ⟨ts, ds⟩ := a
 subst hd
 subst h
 congr 1
 apply Array.ext
 · simp
 · intro i h1 h2
   simp [Act.eval, h1]
end
end Go.Proofs.YtepacjkacjabbaaGreatDoor
namespace Go.Proofs.YtepacjkacjabbaaGreatDoor
open Go Go.RowKit
section
variable {P : Program} {α : Type} {k : Nat} {enc : α → List Value} {w : World}
theorem Oper.wp_append {o : Oper} {a : Act} {K : Act → World → Prop} {Q : Exit → Act → World → Prop} (s x : Operand) (t : TypeId)
   (ho : o.op = .call { callee := .builtin .append, args := #[s, x], argTypes := #[t, t] }) {B : Nat} {e : TypeId} (hE : ElemK P t e k) (hk : ∀ x, (enc x).length = k) (h1 : ∀ x : α, ∀ u ∈ enc x, u.oneCell' = true) (v : Value) (l : List α) (hs : a.eval s = v) (hown : OwnL B w e k enc v l)
   {n : Nat} (sp : Sp) (l2 : List α) (hx : a.eval x = .slice sp.at_ l2.length sp.cap) (hr : RowOf n w sp k enc l2) (hlen : l.length + l2.length ≤ 1000000) (hB : B ≤ w.heap.size)
   (h : ∀ v' w', OwnL B w' e k enc v' (l ++ l2) → w.grownBy w' v.ownBlock → (v'.ownBlock = v.ownBlock ∨ v'.ownBlock = some w.heap.size) → K (a.put o.dst v') w') : o.wp P a w K Q := by
 obtain ⟨v', w', hrun, h2, h3, h4⟩ := run_append_row (P := P) (ty := o.type) hE hk h1 hown hr hlen hB
 unfold Oper.wp execOp
 simp only [ho, resolve, invoke, builtin, Sem.run_bind, Sem.run_pure, Result.andThen_ok, List.map_toArray, List.map_cons, List.map_nil, hs, hx, hrun]
 exact h v' w' h2 h3 h4
theorem below_setRow {n : Nat} {w0 w : World} (h : Below n w0 w) {g : Nat} {cs : Array Value} (hg : n ≤ g) : Below n w0 (w.setRow g cs) := by
 refine h.trans ⟨rfl, rfl, rfl, by simp, fun k hk => ?_⟩
 exact setRow_other w g k cs (by omega)
theorem Oper.wp_skip {o : Oper} {a : Act} {w w' : World} {K : Act → World → Prop} {Q : Exit → Act → World → Prop} (h : (execOp a.eval o).run P w = .ok .skip w') (hk : K (a.put o.dst undef) w') : o.wp P a w K Q := by
 unfold Oper.wp; rw [h]; exact hk
end
end Go.Proofs.YtepacjkacjabbaaGreatDoor
namespace Go.Proofs.YtepacjkacjabbaaGreatDoor
open Go Go.RowKit
def Bx (s0 : Nat) (w : World) (p : ProgV) : Prop := w.heap[s0]? = some (.cells p.arr 35 (0, 0))
def Mk (s0 : Nat) (w w' : World) : Prop := Below w.heap.size (mask s0 w) (mask s0 w')
section
variable {s0 lo : Nat} {w w' w2 : World} {p q : ProgV}
theorem Mk.refl : Mk s0 w w := Below.refl _ _
theorem Mk.size (h : Mk s0 w w') : w.heap.size ≤ w'.heap.size := size_mask h
theorem Mk.trans (h : Mk s0 w w') (h2 : Mk s0 w' w2) : Mk s0 w w2 := Below.trans h (Below.mono h2 h.size)
theorem Mk.of (h : Below w.heap.size w w') (hs : s0 < w.heap.size) : Mk s0 w w' := below_mask hs h
theorem Mk.set (_ : s0 < w.heap.size) (i : Nat) (v : Value) : Mk s0 w (w.setCell ⟨s0, i, none⟩ v) := by
 unfold Mk
 rw [mask_setCell]
 exact Below.refl _ _
theorem Mk.below (h : Mk s0 w w') {n : Nat} (hn : n ≤ s0) (hs : s0 < w.heap.size) : Below n w w' := unmask_below hn (Below.mono h (by omega))
theorem Mk.heap (h : Mk s0 w w') {b : Nat} (hb : b ≠ s0) (hl : b < w.heap.size) : w'.heap[b]? = w.heap[b]? := by
 have := Below.block h b hl
 rwa [mask_heap hb, mask_heap hb] at this
theorem Mk.cell (h : Mk s0 w w') {a : Addr} (hb : a.block ≠ s0) (hl : a.block < w.heap.size) : w'.cell? a = w.cell? a := World.cell?_of_block (h.heap hb hl)
theorem Bx.cell (h : Bx s0 w p) (i : Nat) {v : Value} (hi : p.cells[i]? = some v) : w.cell? ⟨s0, i, none⟩ = some v := by
 have hh : w.heap[s0]? = _ := h
 simp [World.cell?, hh, ProgV.arr, hi]
theorem Bx.on (h : Bx s0 w p) (hb : Below w.heap.size w w') : Bx s0 w' p := (hb.block s0 (Array.getElem?_eq_some_iff.1 h).1).trans h
theorem Bx.lt (h : Bx s0 w p) : s0 < w.heap.size := (Array.getElem?_eq_some_iff.1 h).1
theorem Bx.put (h : Bx s0 w p) (i : Nat) (v : Value) (hq : q.arr = p.arr.setIfInBounds i v) : Bx s0 (w.setCell ⟨s0, i, none⟩ v) q := by
 have hh : w.heap[s0]? = _ := h
 unfold Bx
 simp [World.setCell, Array.getElem?_modify, hh, hq]
theorem Bx.free (h : Bx s0 w p) (i : Nat) : w.frozen? ⟨s0, i, none⟩ = false := by
 have : w.heap[s0]? = _ := h
 simp [World.frozen?, this]
theorem NewRow.on {α : Type} {k : Nat} {enc : α → List Value} {sp : Sp} {l : List α} (h : RowOf w.heap.size (lowm lo w) sp k enc l) (hm : Mk s0 w w') (hs : s0 < lo) : RowOf w'.heap.size (lowm lo w') sp k enc l :=
 (h.cells (keeps_mask hm hs)).more hm.size
def FlX (lo : Nat) (b : Bool) (w : World) (e e1 : ExprV) : Prop := (b = true → bareX e1 = bareX e ∧ NewX lo w e1) ∧ (b = false → e1 = e)
theorem FlX.on {b : Bool} {e e1 : ExprV} (h : FlX lo b w e e1) (hm : Mk s0 w w') (hs : s0 < lo) : FlX lo b w' e e1 := ⟨fun hb => ⟨(h.1 hb).1, (h.1 hb).2.on hm hs⟩, h.2⟩
theorem FlX.off {e : ExprV} : FlX lo false w e e := ⟨fun h => (by cases h), fun _ => rfl⟩
def FlT (lo : Nat) (b : Bool) (w : World) (sp : Sp) (l : List StmtV) (sp1 : Sp) (l1 : List StmtV) : Prop := (b = true → l1.map bareT = l.map bareT ∧ NewTs lo w sp1 l1) ∧ (b = false → sp1 = sp ∧ l1 = l)
theorem FlT.on {b : Bool} {sp sp1 : Sp} {l l1 : List StmtV} (h : FlT lo b w sp l sp1 l1) (hm : Mk s0 w w') (hs : s0 < lo) : FlT lo b w' sp l sp1 l1 := ⟨fun hb => ⟨(h.1 hb).1, (h.1 hb).2.on hm hs⟩, h.2⟩
theorem FlT.off {sp : Sp} {l : List StmtV} : FlT lo false w sp l sp l := ⟨fun h => (by cases h), fun _ => ⟨rfl, rfl⟩⟩
def FlO {α : Type} (B : Nat) (ty : TypeId) (k : Nat) (enc : α → List Value) (b : Bool) (w : World) (sp sp1 : Sp) (l : List α) : Prop := (b = true → OwnL B w ty k enc (.slice sp1.at_ l.length sp1.cap) l) ∧ (b = false → sp1 = sp)
theorem OwnL.onM {α : Type} {B : Nat} {ty : TypeId} {k : Nat} {enc : α → List Value} {v : Value} {l : List α} (h : OwnL B w ty k enc v l) (hm : Mk s0 w w') (hs : s0 < B) : OwnL B w' ty k enc v l :=
 h.kept fun g _ _ hg hh => hm.heap (by omega) (Array.getElem?_eq_some_iff.1 hh).1
theorem FlO.on {α : Type} {B : Nat} {ty : TypeId} {k : Nat} {enc : α → List Value} {b : Bool} {sp sp1 : Sp} {l : List α} (h : FlO B ty k enc b w sp sp1 l) (hm : Mk s0 w w') (hs : s0 < B) : FlO B ty k enc b w' sp sp1 l := ⟨fun hb => (h.1 hb).onM hm hs, h.2⟩
theorem FlO.off {α : Type} {B : Nat} {ty : TypeId} {k : Nat} {enc : α → List Value} {sp : Sp} {l : List α} : FlO B ty k enc false w sp sp l := ⟨fun h => (by cases h), fun _ => rfl⟩
theorem Mk.six (_ : s0 < w.heap.size) (o : Nat) (v0 v1 v2 v3 v4 v5 : Value) : Mk s0 w (six w s0 o v0 v1 v2 v3 v4 v5) := by
 unfold Mk Go.Proofs.YtepacjkacjabbaaGreatDoor.six
 simp only [mask_setCell]
 exact Below.refl _ _
theorem Bx.six (h : Bx s0 w p) (o : Nat) (v0 v1 v2 v3 v4 v5 : Value) (hq : q.arr = (((((p.arr.setIfInBounds o v0).setIfInBounds (o + 1) v1).setIfInBounds (o + 2) v2).setIfInBounds (o + 3) v3).setIfInBounds (o + 4) v4).setIfInBounds (o + 5) v5) : Bx s0 (six w s0 o v0 v1 v2 v3 v4 v5) q := by
 have hh : w.heap[s0]? = _ := h
 unfold Bx Go.Proofs.YtepacjkacjabbaaGreatDoor.six
 simp [World.setCell, Array.getElem?_modify, hh, hq]
end
end Go.Proofs.YtepacjkacjabbaaGreatDoor
namespace Go.Proofs.YtepacjkacjabbaaGreatDoor
open Go Go.RowKit
section
variable {P : Program} {ops : Array Oper} {Q : Exit → Act → World → Prop}
def slotv (a : Act) : Option Nat → Value
 | some t => a.eval (.tmp t)
 | none => undef
def optEq : Option Nat → Option Nat → Bool
 | some x, some y => Nat.beq x y
 | none, none => true
 | _, _ => false
theorem optEq_eq {x y : Option Nat} (h : optEq x y = true) : x = y := by
 cases x <;> cases y <;> simp_all [optEq]
def valsH (ops : Array Oper) (n sz : Nat) (dst : Nat → Option Nat) : Bool :=
 decide (ops.size = n) && (List.range n).all (fun i => match ops[i]? with
   | some o => (match o.guard with | some (g, _) => decide (g < i) && befB o g | none => true) && optEq o.dst (dst i) && (match dst i with | some d => decide (d < sz) | none => true) && (o.after.toList.all fun e => !Region.binds .any e || decide (e.on < i)) && (List.range n).all (fun j => j == i || (dst i).isNone || !(optEq (dst i) (dst j)))
   | none => false)
def LeavesH (dst : Nat → Option Nat) (S : (Nat → Bool) → World → Prop) (Pv : (Nat → Bool) → Nat → Value → World → Prop) (i : Nat) (L : Nat → Bool) (a : Act) (w : World) (a' : Act) (w' : World) : Prop :=
 ∃ v, a' = a.put (dst i) v ∧ (dst i = none → v = undef) ∧ Pv (onL L i) i v w' ∧ S (onL L i) w' ∧ ∀ j u, j ≠ i → L j = true → Pv L j u w → Pv (onL L i) j u w'
def StepH (P : Program) (Q : Exit → Act → World → Prop) (ops : Array Oper) (n : Nat) (dst : Nat → Option Nat) (S : (Nat → Bool) → World → Prop) (Pv : (Nat → Bool) → Nat → Value → World → Prop) (a0 : Act) (i : Nat) (o : Oper) : Prop :=
 ∀ (L : Nat → Bool) (a : Act) (w : World), L i = false → S L w → (∀ j, (ops[j]?.any fun o' => befB o' i) = true → L j = false) → (∀ t : Nat, (∀ i, i < n → dst i ≠ some t) → a.eval (.tmp t) = a0.eval (.tmp t)) → (∀ j, befB o j = true → L j = true ∧ Pv L j (slotv a (dst j)) w) →
   match o.guard with
   | none => o.wp P a w (LeavesH dst S Pv i L a w) Q
   | some (g, b) => ∃ b', slotv a (dst g) = .bool b' ∧ (b' = b → o.wp P a w (LeavesH dst S Pv i L a w) Q) ∧ (b' ≠ b → LeavesH dst S Pv i L a w (a.put (dst i) undef) w)
theorem tmp_bool {a : Act} {d : Nat} {b : Bool} (h : a.eval (.tmp d) = .bool b) : a.tmps[d]? = some (.bool b) := by
 cases hc : a.tmps[d]? with
 | none => simp [Act.eval, hc, undef] at h
 | some v => simp [Act.eval, hc] at h; rw [h]
theorem wp_region_valsH {id n sz : Nat} {dst : Nat → Option Nat} {a0 : Act} {w0 : World} (hm : P.follows .mixedOrders = true) (hB : valsH ops n sz dst = true) (ha : a0.tmps.size = sz)
   (S : (Nat → Bool) → World → Prop) (Pv : (Nat → Bool) → Nat → Value → World → Prop)
   (hall : AllL (fun i o => StepH P Q ops n dst S Pv a0 i o) 0 ops.toList)
   (hs : S (fun _ => false) w0.drew)
   (hdone : ∀ (L : Nat → Bool) (a : Act) (w : World), S L w → a.tmps.size = a0.tmps.size → a.defers = a0.defers → (∀ t : Nat, (∀ i, i < n → dst i ≠ some t) → a.eval (.tmp t) = a0.eval (.tmp t)) → (∀ i, i < n → L i = true ∧ Pv L i (slotv a (dst i)) w) → Q .normal a w) : (Code.region id ops true).wp P Q a0 w0 := by
 unfold valsH at hB
 simp only [Bool.and_eq_true, List.all_eq_true, List.mem_range, decide_eq_true_eq] at hB
 obtain ⟨hsz, hB⟩ := hB
 have hop : ∀ i o, ops[i]? = some o → i < n ∧ (∀ g b, o.guard = some (g, b) → g < i ∧ befB o g = true) ∧ o.dst = dst i ∧ (∀ d, dst i = some d → d < sz) ∧ (∀ e ∈ o.after, Region.binds .any e = true → e.on < i) ∧ ∀ j, j < n → dst i ≠ none → dst i = dst j → j = i := by
   intro i o ho
   have hi : i < n := by rw [← hsz]; exact (Array.getElem?_eq_some_iff.1 ho).1
   have h1 := hB i hi
   rw [ho] at h1
   simp only [Bool.and_eq_true, List.all_eq_true, List.mem_range, Bool.or_eq_true, beq_iff_eq, Bool.not_eq_true', decide_eq_true_eq] at h1
   obtain ⟨⟨⟨⟨h2, h3⟩, h3'⟩, h4⟩, h5⟩ := h1
   refine ⟨hi, fun g b hg => ?_, optEq_eq h3, fun d hd => ?_, fun e he hb => ?_, fun j hj hne he => ?_⟩
   · simp only [hg, Bool.and_eq_true, decide_eq_true_eq] at h2
     exact h2
   · simpa [hd] using h3'
   · have := h4 e (by simpa using he)
     simpa [hb] using this
   · rcases h5 j hj with (h | h) | h
     · exact h
     · exact absurd (by simpa using h) hne
     · rw [← he] at h
       cases hd : dst i with
       | none => exact absurd hd hne
       | some d => rw [hd] at h; simp [optEq] at h
 refine wp_region_inv hm (fun listed a w => listed.size = ops.size ∧ (∀ (j : Nat) (o' : Oper), ops[j]? = some o' → fnL listed j = true → ∀ e ∈ o'.after, Region.binds .any e = true → fnL listed e.on = true) ∧ S (fnL listed) w ∧ a.tmps.size = a0.tmps.size ∧ a.defers = a0.defers ∧ (∀ t : Nat, (∀ i, i < n → dst i ≠ some t) → a.eval (.tmp t) = a0.eval (.tmp t)) ∧ ∀ i, i < n → fnL listed i = true → Pv (fnL listed) i (slotv a (dst i)) w) ?_ ?_ ⟨by simp, fun j o' _ h => ?_, ?_, rfl, rfl, fun _ _ => rfl, fun i _ h => ?_⟩
 · rintro listed a w i ⟨hls, hcl, hS, hsa, hde, hsm, hv⟩ hr
   obtain ⟨h0, o, ho, haft⟩ := mem_ready.1 hr
   obtain ⟨hi, hg, hd, hlt, hbk, hinj⟩ := hop i o ho
   have hi2 : i < listed.size := by rw [hls, hsz]; exact hi
   have hfi : fnL listed i = false := by
     unfold fnL
     simp [Array.getD, hi2] at h0 ⊢
     exact h0
   have hbeh : ∀ j, (ops[j]?.any fun o' => befB o' i) = true → fnL listed j = false := fun j hj => by
     cases hoj : ops[j]? with
     | none => rw [hoj] at hj; cases hj
     | some oj =>
       rw [hoj] at hj
       simp only [Option.any_some] at hj
       unfold befB at hj
       simp only [List.any_eq_true, Bool.and_eq_true] at hj
       obtain ⟨e, he, hbb, hej⟩ := hj
       obtain rfl := Nat.eq_of_beq_eq_true hej
       cases hlj : fnL listed j with
       | false => rfl
       | true =>
         have := hcl j oj hoj hlj e (by simpa using he) hbb
         rw [hfi] at this
         cases this
   have hstep := hall.all i o ho (fnL listed) a w hfi hS hbeh hsm fun j hj => by
     unfold befB at hj
     simp only [List.any_eq_true, Bool.and_eq_true] at hj
     obtain ⟨e, he, hbb, hej⟩ := hj
     obtain rfl := Nat.eq_of_beq_eq_true hej
     have h2 := haft e (by simpa using he) hbb
     exact ⟨h2, hv e.on (Nat.lt_trans (hbk e (by simpa using he) hbb) hi) h2⟩
   have hfin : ∀ a' w', LeavesH dst S Pv i (fnL listed) a w a' w' → (listed.setIfInBounds i true).size = ops.size ∧ (∀ (j : Nat) (o' : Oper), ops[j]? = some o' → fnL (listed.setIfInBounds i true) j = true → ∀ e ∈ o'.after, Region.binds .any e = true → fnL (listed.setIfInBounds i true) e.on = true) ∧ S (fnL (listed.setIfInBounds i true)) w' ∧ a'.tmps.size = a0.tmps.size ∧ a'.defers = a0.defers ∧ (∀ t : Nat, (∀ i, i < n → dst i ≠ some t) → a'.eval (.tmp t) = a0.eval (.tmp t)) ∧ ∀ j, j < n → fnL (listed.setIfInBounds i true) j = true → Pv (fnL (listed.setIfInBounds i true)) j (slotv a' (dst j)) w' := by
     rintro a' w' ⟨v, rfl, hun, hp, hs', hk⟩
     rw [fnL_set hi2] at *
     refine ⟨by simpa using hls, fun j oj hoj hl e he hb => ?_, hs', by rw [size_put]; exact hsa, by cases dst i <;> exact hde, fun t ht => ?_, fun j hj hl => ?_⟩
     · by_cases hei : e.on = i
       · rw [hei]; exact onL_same
       · rw [onL_other hei]
         by_cases hji : j = i
         · subst hji
           rw [ho] at hoj
           cases hoj
           exact haft e he hb
         · rw [onL_other hji] at hl
           exact hcl j oj hoj hl e he hb
     · rw [← hsm t ht]
       cases hdi : dst i with
       | none => rfl
       | some d => exact eval_put_other fun hne => ht i hi (by rw [hdi, hne])
     · by_cases hij : j = i
       · subst hij
         cases hdi : dst j with
         | none => rw [hdi] at hun; rw [hun rfl] at hp; exact hp
         | some d =>
           show Pv _ j ((a.put (some d) v).eval (.tmp d)) _
           rw [eval_put_same (by rw [hsa, ha]; exact hlt d hdi)]
           exact hp
       · rw [onL_other hij] at hl
         have h2 := hk j _ hij hl (hv j hj hl)
         cases hdj : dst j with
         | none => rw [hdj] at h2; exact h2
         | some d =>
           rw [hdj] at h2
           cases hdi : dst i with
           | none => exact h2
           | some d2 =>
             show Pv _ j ((a.put (some d2) v).eval (.tmp d)) _
             rw [eval_put_other (fun hne => hij (hinj j hj (by rw [hdi]; simp) (by rw [hdi, hdj, hne])))]
             exact h2
   unfold wpOp
   simp only [ho]
   cases hgd : o.guard with
   | none =>
     rw [hgd] at hstep
     rw [if_pos (by simp [Region.wanted, hgd])]
     exact .inl (Oper.wp_mono hfin hstep)
   | some gb =>
     obtain ⟨g, b⟩ := gb
     rw [hgd] at hstep
     obtain ⟨b', hev, hy, hn⟩ := hstep
     have hgi := (hg g b hgd).1
     have hgo : g < ops.size := by rw [hsz]; omega
     have hgd2 := (hop g ops[g] (Array.getElem?_eq_getElem hgo)).2.2.1
     have hyi : yielded ops a.tmps g = some b' := by
       unfold yielded
       rw [Array.getElem?_eq_getElem hgo]
       cases hdg : dst g with
       | none => rw [hdg] at hev; cases hev
       | some d =>
         rw [hdg] at hev
         simp only [Option.bind_some, hgd2, hdg, tmp_bool (show a.eval (.tmp d) = .bool b' from hev)]
     by_cases hbb : b' = b
     · rw [if_pos (by simp [Region.wanted, hgd, hyi, hbb])]
       exact .inl (Oper.wp_mono hfin (hy hbb))
     · rw [if_neg (by simp [Region.wanted, hgd, hyi, hbb])]
       rw [hd]
       exact hfin _ _ (hn hbb)
 · rintro listed a w ⟨hls, hcl, hS, hsa, hde, hsm, hv⟩ hr
   have hall2 := ready_all hls (fun i o ho e he hb => (hop i o ho).2.2.2.2.1 e he hb) hr
   exact hdone (fnL listed) a w hS hsa hde hsm fun i hi => ⟨hall2 i (by rw [hsz]; exact hi), hv i hi (hall2 i (by rw [hsz]; exact hi))⟩
 · simp [fnL, Array.getD] at h
 · have : fnL (Array.replicate ops.size false) = fun _ => false := by funext j; simp [fnL, Array.getD]
   rw [this]
   exact hs
 · simp [fnL, Array.getD] at h
theorem AllL.of_list {F : Nat → Oper → Prop} : ∀ (l : List Oper) (k : Nat), (∀ i o, l[i]? = some o → F (k + i) o) → AllL F k l
 | [], _, _ => trivial
 | x :: l, k, h => ⟨h 0 x rfl, AllL.of_list l (k + 1) fun i o ho => by
     have := h (i + 1) o (by simpa using ho)
     rwa [show k + (i + 1) = k + 1 + i by omega] at this⟩
theorem AllL.of {F : Nat → Oper → Prop} (h : ∀ i o, ops[i]? = some o → F i o) : AllL F 0 ops.toList :=
 AllL.of_list _ _ fun i o ho => by
   rw [Nat.zero_add]
   exact h i o (by simpa using ho)
end
end Go.Proofs.YtepacjkacjabbaaGreatDoor
