/- salvorlaw29's maker: its block; next; num, name and binary. salvorlaw29's maker: leaf: a word, or something declared with the width. salvorlaw29's maker: expr's frame; the closure sub. salvorlaw29's maker: expr. salvorlaw29's maker: the frame of stmts' round; nodes of statements. -/
import Derived.Test.YthcboallnbaimaaGreatDoorUB
import Derived.RegionTactic
import Derived.BigQuiet
import Derived.Deep.QuietTactic
import Derived.Deep.CutRange
import Derived.Deep.CutBlock
import Derived.Deep.DeepCutAuto
import Derived.StillTailTactics
import Derived.Outline
import Derived.Laws.EntriesVeiled
namespace Go.Proofs.YthcboallnbaimaaGreatDoor
open Go Go.RowKit Go.Maps
/-- The maker's cells: the list, the place in it, the program, whether in the procedure. -/
def mkCells (lv : Sp) (n : Nat) (at_ : Nat) (p : ProgV) (prm : Bool) : List Value := lv.val n :: .int .i64 at_ :: (p.cells ++ [.bool prm])
def encU (x : Int) : List Value := [.int .u8 x]
/-- The maker lies at q; what its program's slices hold lies below n, outside of q. -/
structure Mk0 (q n : Nat) (lv : Sp) (ls : List Int) (at_ : Nat) (p : ProgV) (prm : Bool) (W : World) : Prop where
 box : W.heap[q]? = some (.cells (mkCells lv ls.length at_ p prm).toArray 114 (0, 0))
 le : at_ ≤ ls.length
 few : ls.length ≤ 200
 list : RowOf n (mask q W) lv 1 encU ls
 byte : ∀ x ∈ ls, 0 ≤ x ∧ x ≤ 255
 qn : q < n
 nW : n ≤ W.heap.size
theorem Mk0.box_lt {q n : Nat} {lv : Sp} {ls : List Int} {at_ : Nat} {p : ProgV} {prm : Bool} {W : World} (h : Mk0 q n lv ls at_ p prm W) : q < W.heap.size := Nat.lt_of_lt_of_le h.qn h.nW
theorem Mk0.cell {q n : Nat} {lv : Sp} {ls : List Int} {at_ : Nat} {p : ProgV} {prm : Bool} {W : World} (h : Mk0 q n lv ls at_ p prm W) (i : Nat) {v : Value} (hv : (mkCells lv ls.length at_ p prm)[i]? = some v) : W.cell? ⟨q, i, none⟩ = some v := by
 simp only [World.cell?, h.box]
 simpa using hv
theorem Mk0.frozen {q n : Nat} {lv : Sp} {ls : List Int} {at_ : Nat} {p : ProgV} {prm : Bool} {W : World} (h : Mk0 q n lv ls at_ p prm W) (i : Nat) : W.frozen? ⟨q, i, none⟩ = false := by simp [World.frozen?, h.box]
/-- The maker stays while its own block stays. -/
theorem Mk0.on {q n : Nat} {lv : Sp} {ls : List Int} {at_ : Nat} {p : ProgV} {prm : Bool} {W W' : World} (h : Mk0 q n lv ls at_ p prm W) (hb : Below W.heap.size W W') : Mk0 q n lv ls at_ p prm W' :=
 ⟨(hb.block _ h.box_lt).trans h.box, h.le, h.few, h.list.below (below_mask h.box_lt (hb.mono h.nW)), h.byte, h.qn, Nat.le_trans h.nW hb.size⟩
theorem Mk0.step {q n : Nat} {lv : Sp} {ls : List Int} {at_ : Nat} {p : ProgV} {prm : Bool} {W : World} (h : Mk0 q n lv ls at_ p prm W) (k : Nat) (hk : k ≤ ls.length) : Mk0 q n lv ls k p prm (W.setCell ⟨q, 1, none⟩ (.int .i64 k)) := by
 refine ⟨?_, hk, h.few, by rw [mask_setCell]; exact h.list, h.byte, h.qn, by simpa using h.nW⟩
 simp [World.setCell, Array.getElem?_modify, h.box, mkCells]
theorem num29_any (x wd : Int) (w : World) : Calls Tryz.prog 59 #[.int .u32 x, .int .i64 wd] w fun o w' => o = .returned (.agg #[.int .u8 1, .int .u8 0, .int .u32 x, .int .i64 wd, .string ⟨#[]⟩, .slice none 0 0]) ∧ Below w.heap.size w w' := by
 go_enter Tryz.func59, Tryz.ntmps59
 go_wp2_with fail
 exact bodyPost_ret (results_cell_row rfl _ _ w.heap.size 34 _ (0, 0) _ rfl (World.alloc_heap_new _ _) Tryz.underlying34 rfl (by kernel_rfl)) rfl ⟨rfl, (Below.refl _ _).alloc (Nat.le_refl _) _⟩
theorem name29_any (s : ByteArray) (w : World) : Calls Tryz.prog 99 #[.string s] w fun o w' => o = .returned (.agg #[.int .u8 2, .int .u8 0, .int .u32 0, .int .i64 0, .string s, .slice none 0 0]) ∧ Below w.heap.size w w' := by
 go_enter Tryz.func99, Tryz.ntmps99
 go_wp2_with fail
 exact bodyPost_ret (results_cell_row rfl _ _ w.heap.size 34 _ (0, 0) _ rfl (World.alloc_heap_new _ _) Tryz.underlying34 rfl (by kernel_rfl)) rfl ⟨rfl, (Below.refl _ _).alloc (Nat.le_refl _) _⟩
theorem Mk0.drew {q n : Nat} {lv : Sp} {ls : List Int} {at_ : Nat} {p : ProgV} {prm : Bool} {W : World} (h : Mk0 q n lv ls at_ p prm W) : Mk0 q n lv ls at_ p prm W.drew := h.on (Below.refl _ _).drew
theorem Mk0.byteAt {q n : Nat} {lv : Sp} {ls : List Int} {at_ : Nat} {p : ProgV} {prm : Bool} {W : World} (h : Mk0 q n lv ls at_ p prm W) (hat : at_ < ls.length) : ∃ b off x, lv.at_ = some ⟨b, off, none⟩ ∧ b ≠ q ∧ b < W.heap.size ∧ 0 ≤ x ∧ x ≤ 255 ∧ W.cell? ⟨b, off + at_, none⟩ = some (.int .u8 x) := by
 obtain ⟨b, off, ea, hlt, hc⟩ := h.list.row (by omega)
 have hcx := mask_cell (hc at_ hat 0 (.int .u8 (ls[at_])) rfl)
 rw [Nat.mul_one, Nat.add_zero] at hcx
 have hbq : b ≠ q := by
   rintro rfl
   have h2 := hc at_ hat 0 (.int .u8 (ls[at_])) rfl
   simp only [World.cell?, mask_at, if_pos h.box_lt] at h2
   simp at h2
 have hx := h.byte _ (List.getElem_mem hat)
 exact ⟨b, off, _, ea, hbq, by have := h.nW; omega, hx.1, hx.2, hcx⟩
set_option maxRecDepth 100000 in
theorem next_any (q n : Nat) (lv : Sp) (ls : List Int) (at_ : Nat) (p : ProgV) (prm : Bool) (w : World) (h : Mk0 q n lv ls at_ p prm w) (m : Int) (hm : 0 < m) (hm2 : m ≤ 255) :
   Calls Tryz.prog 58 #[.pointer (some ⟨q, 0, none⟩), .int .i64 m] w fun o w' => ∃ (k : Int) (at' : Nat), o = .returned (.int .i64 k) ∧ 0 ≤ k ∧ k < m ∧ Mk0 q n lv ls at' p prm w' ∧ Below w.heap.size (mask q w) (mask q w') := by
 have c0 := h.cell 0 rfl
 have c1 := h.cell 1 rfl
 simp only [Sp.val] at c0
 have hbd : Below w.heap.size w w.drew := (Below.refl _ _).drew
 have hmk := h.drew
 have hmm := below_mask h.box_lt hbd
 have d0 := hmk.cell 0 rfl
 have d1 := hmk.cell 1 rfl
 have f1 := hmk.frozen 1
 simp only [Sp.val] at d0
 have H := Lib.hid hmk
 have HMM := Lib.hid hmm
 have HM := Lib.hid hm
 have HM2 := Lib.hid hm2
 have hle := h.le
 have hfew := h.few
 have hm0 : m ≠ 0 := by omega
 by_cases hat : at_ < ls.length
 · have hd : decide ((ls.length : Int) ≤ (at_ : Int)) = false := decide_eq_false (by omega)
   obtain ⟨b, off, x, ea, hbq, hblt, hx0, hx1, hcx⟩ := hmk.byteAt hat
   have hcx2 : (w.drew.setCell ⟨q, 1, none⟩ (.int .i64 ((at_ : Int) + 1))).cell? ⟨b, off + at_, none⟩ = some (.int .u8 x) := (World.cell?_of_block (w := w.drew) (Below.heap_setCell _ _ _ _ hbq)).trans hcx
   have hst := hmk.step (at_ + 1) hat
   rw [show (((at_ + 1 : Nat) : Int)) = (at_ : Int) + 1 by omega] at hst
   have e0 := hst.cell 0 rfl
   have e1 := hst.cell 1 rfl
   simp only [Sp.val] at e0
   rw [show (((at_ + 1 : Nat) : Int)) = (at_ : Int) + 1 by omega] at e1
   rw [ea] at c0 d0 e0
   have hsd := below_mask (B := w.heap.size) hst.box_lt ((Below.refl _ (w.drew.setCell ⟨q, 1, none⟩ (.int .i64 ((at_ : Int) + 1)))).drew)
   have HST := Lib.hid hst.drew
   rw [mask_setCell] at hsd
   have HMS := Lib.hid (hmm.trans hsd)
   have hsub : (at_ : Int) + 1 - 1 = (at_ : Int) := by omega
   have htm : x.tmod m = x % m := Int.tmod_eq_emod_of_nonneg hx0
   have HX0 := Lib.hid (Int.emod_nonneg x hm0)
   have HX1 := Lib.hid (Int.emod_lt_of_pos x hm)
   clear hst hsd hmm hmk hbd hcx h
   go_enter Tryz.func58, Tryz.ntmps58
   go_upto_region 1 with fail
   go_region
   generalize w.drew = w1 at *
   go_wp2_with fail
   go_region
   go_wp2_with fail
   go_ret
   exact ⟨x % m, at_ + 1, rfl, HX0.out, HX1.out, HST.out, HMS.out⟩
 · have hd : decide ((ls.length : Int) ≤ (at_ : Int)) = true := decide_eq_true (by omega)
   clear h hmk hbd hmm
   go_enter Tryz.func58, Tryz.ntmps58
   go_upto_region 1 with fail
   go_region
   go_wp2_with fail
   go_ret
   exact ⟨0, at_, rfl, by omega, HM.out, H.out, HMM.out⟩
theorem binary29_any (op : Int) (e1 e2 : ExprV) (w : World) : Calls Tryz.prog 98 #[.int .u8 op, .agg #[.int .u8 e1.kind, .int .u8 e1.op, .int .u32 e1.value, .int .i64 e1.width, .string e1.name, .slice e1.sp.at_ e1.subs.length e1.sp.cap], .agg #[.int .u8 e2.kind, .int .u8 e2.op, .int .u32 e2.value, .int .i64 e2.width, .string e2.name, .slice e2.sp.at_ e2.subs.length e2.sp.cap]] w fun o w' => ∃ b, o = .returned (.agg #[.int .u8 6, .int .u8 op, .int .u32 0, .int .i64 0, .string ⟨#[]⟩, .slice (some ⟨b, 0, none⟩) 2 2]) ∧ w.heap.size ≤ b ∧ b < w'.heap.size ∧ w'.heap[b]? = some (.cells (e1.cells ++ e2.cells).toArray 34 (0, 0)) ∧ Below w.heap.size w w' := by
 go_enter Tryz.func98, Tryz.ntmps98
 go_wp2_with fail
 obtain ⟨h1, h2, h3, h4, h6, h5⟩ := alloc4 w (.cells #[.int .u8 e1.kind, .int .u8 e1.op, .int .u32 e1.value, .int .i64 e1.width, .string e1.name, .slice e1.sp.at_ e1.subs.length e1.sp.cap] 34) (.cells #[.int .u8 e2.kind, .int .u8 e2.op, .int .u32 e2.value, .int .i64 e2.width, .string e2.name, .slice e2.sp.at_ e2.subs.length e2.sp.cap] 34) (.cells #[.int .u8 6, .int .u8 op, .int .u32 0, .int .i64 0, .string ⟨#[]⟩, .slice (some ⟨w.heap.size + 1 + 1 + 1, 0, none⟩) 2 2] 34) (.cells #[.int .u8 e1.kind, .int .u8 e1.op, .int .u32 e1.value, .int .i64 e1.width, .string e1.name, .slice e1.sp.at_ e1.subs.length e1.sp.cap, .int .u8 e2.kind, .int .u8 e2.op, .int .u32 e2.value, .int .i64 e2.width, .string e2.name, .slice e2.sp.at_ e2.subs.length e2.sp.cap] 34)
 exact bodyPost_ret (results_cell_row rfl _ _ (w.heap.size + 1 + 1) 34 _ (0, 0) _ rfl h3 Tryz.underlying34 rfl (by kernel_rfl)) rfl ⟨w.heap.size + 1 + 1 + 1, rfl, by omega, by omega, h4, h5⟩
end Go.Proofs.YthcboallnbaimaaGreatDoor
namespace Go.Proofs.YthcboallnbaimaaGreatDoor
open Go Go.RowKit Go.Maps
/-- The maker, with its declarations. -/
structure MkR (q n : Nat) (lv : Sp) (ls : List Int) (at_ : Nat) (p : ProgV) (M : MkE) (W : World) : Prop where
 base : Mk0 q n lv ls at_ p M.prm W
 ok : M.ok
 std : M.N = std
 width : p.width = M.w
 inputs : p.inputs = inputsD M
 ghosts : p.ghosts = ghostsD M
 vars : p.vars = varsD M
 irow : RowOf n (mask q W) p.is 3 DeclV.cells p.inputs
 grow : RowOf n (mask q W) p.gs 3 DeclV.cells p.ghosts
 vrow : RowOf n (mask q W) p.vs 3 DeclV.cells p.vars
theorem MkR.next {q n : Nat} {lv : Sp} {ls : List Int} {at_ at' : Nat} {p : ProgV} {M : MkE} {W W' : World} (h : MkR q n lv ls at_ p M W) (h0 : Mk0 q n lv ls at' p M.prm W') (hb : Below W.heap.size (mask q W) (mask q W')) : MkR q n lv ls at' p M W' :=
 have hb2 := hb.mono h.base.nW
 ⟨h0, h.ok, h.std, h.width, h.inputs, h.ghosts, h.vars, h.irow.below hb2, h.grow.below hb2, h.vrow.below hb2⟩
theorem MkR.on {q n : Nat} {lv : Sp} {ls : List Int} {at_ : Nat} {p : ProgV} {M : MkE} {W W' : World} (h : MkR q n lv ls at_ p M W) (hb : Below W.heap.size W W') : MkR q n lv ls at_ p M W' := h.next (h.base.on hb) (below_mask h.base.box_lt hb)
theorem mask_block {q B b : Nat} {W W' : World} (h : Below B (mask q W) (mask q W')) (hb : b < B) (hq : b ≠ q) : W'.heap[b]? = W.heap[b]? := by
 have := h.block b hb
 rwa [mask_heap hq, mask_heap hq] at this
theorem ownL_masked {α : Type} {k B q : Nat} {enc : α → List Value} {t : TypeId} {v : Value} {l : List α} {W W' : World} (h : OwnL B W t k enc v l) (hb : Below W.heap.size (mask q W) (mask q W')) (hq : q < B) : OwnL B W' t k enc v l :=
 h.kept fun g _ _ _ hh => mask_block hb (Array.getElem?_eq_some_iff.1 hh).1 (by omega)
theorem Mk0.low {q n : Nat} {lv : Sp} {ls : List Int} {at_ : Nat} {p : ProgV} {prm : Bool} {W W' : World} (h : Mk0 q n lv ls at_ p prm W) (hb : Below n W W') : Mk0 q n lv ls at_ p prm W' :=
 ⟨(hb.block _ h.qn).trans h.box, h.le, h.few, h.list.below (below_mask h.box_lt hb), h.byte, h.qn, Nat.le_trans h.nW hb.size⟩
def paramD (M : MkE) : List DeclV := if M.prm = true then [⟨xB, M.w, 0⟩] else []
def leafD (M : MkE) (wh : Int) : List DeclV := inputsD M ++ ((if wh = 1 then [] else ghostsD M) ++ (if wh = 0 then varsD M ++ paramD M else []))
theorem leafD_eq (M : MkE) (wh : Int) : leafD M wh = (leafT M wh).map fun x => ⟨x.1, x.2.width, 0⟩ := by
 unfold leafD leafT
 have e : inputsD M = (inputsT M).map fun x => ⟨x.1, x.2.width, 0⟩ := by unfold inputsD inputsT; rw [List.map_take]; rfl
 rw [e, List.map_append, List.map_append]
 congr 1
 congr 1
 · split <;> rfl
 · unfold paramD paramT
   split
   · rw [List.map_append]
     congr 1
     split <;> rfl
   · rfl
def namesW (l : List DeclV) (wd : Int) : List ByteArray := (l.filter fun d => decide (d.width = wd)).map DeclV.name
theorem namesW_leaf {M : MkE} {wh wd : Int} {s : ByteArray} (h : s ∈ namesW (leafD M wh) wd) : ∃ t, (s, t) ∈ leafT M wh ∧ t.width = wd := by
 unfold namesW at h
 obtain ⟨d, hd, rfl⟩ := List.mem_map.1 h
 rw [List.mem_filter, decide_eq_true_eq, leafD_eq] at hd
 obtain ⟨⟨s, t⟩, hx, rfl⟩ := List.mem_map.1 hd.1
 exact ⟨t, hx, hd.2⟩
theorem namesW_snoc (l : List DeclV) (d : DeclV) (wd : Int) : namesW (l ++ [d]) wd = namesW l wd ++ (if d.width = wd then [d.name] else []) := by
 unfold namesW
 rw [List.filter_append, List.map_append]
 congr 1
 by_cases h : d.width = wd
 · rw [if_pos h]; simp [h]
 · rw [if_neg h]; simp [h]
def encS (s : ByteArray) : List Value := [.string s]
theorem leafD_len (M : MkE) (wh : Int) : (leafD M wh).length ≤ 7 := by
 unfold leafD inputsD ghostsD varsD paramD
 simp only [List.length_append, List.length_take, List.length_cons, List.length_nil]
 repeat' split
 all_goals simp
 all_goals omega
theorem namesW_len (l : List DeclV) (wd : Int) : (namesW l wd).length ≤ l.length := by
 unfold namesW; rw [List.length_map]; exact List.length_filter_le _ _
theorem std_short {M : MkE} (h : M.N = std) {wh : Int} {x : ByteArray × Thing} (hx : x ∈ leafT M wh) : x.1.size ≤ 16 := by
 have h0 := leaf_sub hx
 have hall : ∀ s ∈ [std.i, std.j, std.g, std.h, std.v, std.c, xB], s.size ≤ 16 := by decide
 refine hall _ ?_
 unfold leafT at h0
 simp only [List.mem_append] at h0
 rcases h0 with h1 | h1 | h1
 · have h3 := List.mem_of_mem_take h1
   simp [h] at h3
   rcases h3 with rfl | rfl <;> simp
 · simp [ghostsT, h] at h1
   rcases h1 with rfl | rfl <;> simp
 · simp only [if_true, varsT, paramT, h, List.mem_cons, List.mem_append, List.not_mem_nil, or_false] at h1
   rcases h1 with (rfl | rfl) | h1
   · simp
   · simp
   · split at h1
     · simp at h1; subst h1; simp
     · cases h1
theorem OwnL.far {α : Type} {k B b : Nat} {enc : α → List Value} {e t : TypeId} {v : Value} {l : List α} {w W' : World} {cs : Array Value} {fr : Nat × Nat} (h : OwnL B w e k enc v l) (hg : w.grownBy W' v.ownBlock) (hb : w.heap[b]? = some (.cells cs t fr)) (hne : t ≠ e) : W'.heap[b]? = some (.cells cs t fr) :=
 (hg.block b (Array.getElem?_eq_some_iff.1 hb).1 (fun eq => by
   obtain ⟨_, cs2, fr2, hh2⟩ := h.own_type eq.symm
   rw [hb] at hh2; cases hh2; exact hne rfl)).trans hb
def zX : Array Value := #[.int .u8 0, .int .u8 0, .int .u32 0, .int .i64 0, .string ⟨#[]⟩, .slice none 0 0]
theorem expr_size (a b c d : Int) (s : ByteArray) (x : Value) : (Tryz.prog.info? 34).map (·.size) = some (#[Value.int .u8 a, .int .u8 b, .int .u32 c, .int .i64 d, .string s, x] : Array Value).size := by kernel_rfl
theorem expr_one (a b c d : Int) (s : ByteArray) (A : Option Addr) (n cp : Nat) : (#[Value.int .u8 a, .int .u8 b, .int .u32 c, .int .i64 d, .string s, .slice A n cp] : Array Value).all (·.oneCell') = true := by kernel_rfl
theorem bits_ok (kn : Nat) (wd : Int) (hk : (kn : Int) < 8) (h : 1 ≤ wd ∧ wd ≤ 3) : 0 ≤ bits BinOp.and IntKind.u32 (kn : Int) ((2 ^ wd.toNat - 1) % 4294967296) ∧ bits BinOp.and IntKind.u32 (kn : Int) ((2 ^ wd.toNat - 1) % 4294967296) < 2 ^ wd.toNat ∧ bits BinOp.and IntKind.u32 (kn : Int) ((2 ^ wd.toNat - 1) % 4294967296) ≤ 4294967295 := by
 have hw : wd = 1 ∨ wd = 2 ∨ wd = 3 := by omega
 have hk2 : kn = 0 ∨ kn = 1 ∨ kn = 2 ∨ kn = 3 ∨ kn = 4 ∨ kn = 5 ∨ kn = 6 ∨ kn = 7 := by omega
 rcases hw with rfl | rfl | rfl <;> rcases hk2 with rfl | rfl | rfl | rfl | rfl | rfl | rfl | rfl <;> decide
theorem wf_small {wd : Int} (h : 1 ≤ wd ∧ wd ≤ 3) : (Lit.int .i64 wd).wf = true := by
 have hw3 : wd = 1 ∨ wd = 2 ∨ wd = 3 := by omega
 rcases hw3 with rfl | rfl | rfl <;> decide
theorem name_rd (W : World) (s : ByteArray) (hs : s.size ≤ maxLen) : RdX 0 W (nameE s) :=
 .mk _ (show (0 : Int) ≤ 2 ∧ (2 : Int) ≤ 255 by decide) (show (0 : Int) ≤ 0 ∧ (0 : Int) ≤ 255 by decide) (show (0 : Int) ≤ 0 ∧ (0 : Int) ≤ 4294967295 by decide) (show (Lit.int .i64 0).wf = true by decide) hs RowOf.nil (fun _ h => absurd h (by simp [nameE, ExprV.subs]))
theorem one_str : ∀ x : ByteArray, ∀ u ∈ encS x, u.oneCell' = true := by
 intro x u hu
 simp [encS] at hu
 rw [hu]; rfl
set_option maxRecDepth 1000000 in
set_option maxHeartbeats 4000000 in
theorem leaf_any (q n : Nat) (lv : Sp) (ls : List Int) (at_ : Nat) (p : ProgV) (M : MkE) (w : World) (h : MkR q n lv ls at_ p M w) (wd wh : Int) (hwd : 1 ≤ wd ∧ wd ≤ 3) :
   Calls Tryz.prog 96 #[.pointer (some ⟨q, 0, none⟩), .int .i64 wd, .int .i64 wh] w fun o w' => ∃ (e : ExprV) (at' : Nat), o = .returned e.val ∧ WX M wh 0 wd e ∧ (∀ W : World, RdX 0 W e) ∧ Mk0 q n lv ls at' p M.prm w' ∧ Below w.heap.size (mask q w) (mask q w') := by
 have hq := h.base.box_lt
 have hb0 : Below w.heap.size w (w.alloc (.cells #[.int .u8 0, .int .u8 0, .int .u32 0, .int .i64 0, .string ⟨#[]⟩, .slice none 0 0] 34)) := (Below.refl _ _).alloc (Nat.le_refl _) _
 have hx0 := World.alloc_heap_new w (.cells #[.int .u8 0, .int .u8 0, .int .u32 0, .int .i64 0, .string ⟨#[]⟩, .slice none 0 0] 34)
 have hlt0 := (Array.getElem?_eq_some_iff.1 hx0).1
 have H0 := h.on hb0
 have hcl := clone_decl (w.alloc (.cells #[.int .u8 0, .int .u8 0, .int .u32 0, .int .i64 0, .string ⟨#[]⟩, .slice none 0 0] 34)) p.is p.inputs n H0.irow.unmask (by rw [h.inputs]; unfold inputsD; simp; omega)
 have c4 := H0.base.cell 4 rfl
 simp only [Sp.val] at c4
 have H := Lib.hid h
 have HCL := Lib.hid hcl
 have HB0 := Lib.hid hb0
 have HX0 := Lib.hid hx0
 clear h H0 hcl hb0 hx0
 go_enter Tryz.func96, Tryz.ntmps96
 go_wp2_with fail
 refine HCL.out.mono ?_
 rintro o w1 ⟨⟨v, rfl, hown⟩, hb1⟩
 have HO1 := Lib.hid (hown.less (Nat.le_of_lt hlt0))
 have HB1 := Lib.hid (HB0.out.trans (hb1.mono (Nat.le_of_lt hlt0)))
 have HX1 := Lib.hid ((hb1.block _ hlt0).trans HX0.out)
 clear hown hb1 HCL HX0 HB0 c4 hlt0
 go_upto_if 19 with fail
 go_cut [8] (fun s8 wx => OwnL w.heap.size wx 44 3 DeclV.cells s8 (p.inputs ++ (if wh = 1 then [] else p.ghosts)) ∧ Below w.heap.size w wx ∧ wx.heap[w.heap.size]? = some (.cells #[.int .u8 0, .int .u8 0, .int .u32 0, .int .i64 0, .string ⟨#[]⟩, .slice none 0 0] 34 (0, 0)))
 case first =>
   by_cases h1 : wh = 1
   · have hd : (wh != 1) = false := by simp [h1]
     have HIF : Hid ((if wh = 1 then [] else p.ghosts) = []) := Lib.hid (if_pos h1)
     clear h1
     go_wp2_with fail
     go_meet
     case rel => exact ⟨by rw [HIF.out, List.append_nil]; exact HO1.out, HB1.out, HX1.out⟩
   · have hd : (wh != 1) = true := by simp [h1]
     have HIF : Hid ((if wh = 1 then [] else p.ghosts) = p.ghosts) := Lib.hid (if_neg h1)
     clear h1
     have H1 := H.out.on HB1.out
     have c5 := H1.base.cell 5 rfl
     simp only [Sp.val] at c5
     have HR := Lib.hid H1.grow.unmask
     have HLN : Hid (p.inputs.length + p.ghosts.length ≤ 1000000) := Lib.hid (by rw [H1.inputs, H1.ghosts]; unfold inputsD ghostsD; simp; omega)
     clear H1
     go_wp2_with (first | (at_builtin; refine wpList_append_row rfl (.tmp 20) (.tmp 25) 28 rfl declK (fun _ => rfl) one_decl v p.inputs rfl HO1.out p.gs p.ghosts rfl HR.out HLN.out HB1.out.size ?_) | fail)
     intro v2 w2 hown2 hg2 hat2
     have HO2 := Lib.hid hown2
     have HB2 := Lib.hid (HO1.out.below hg2 (Nat.le_refl _) HB1.out HB1.out.size)
     have HX2 := Lib.hid (HO1.out.far hg2 HX1.out (by decide))
     clear hown2 hg2 hat2
     go_wp2_with fail
     go_meet
     case rel => exact ⟨by rw [HIF.out]; exact HO2.out, HB2.out, HX2.out⟩
 case rest =>
   obtain ⟨ho2, hb2, hx2⟩ := hcut
   have HO2 := Lib.hid ho2
   have HB2 := Lib.hid hb2
   have HX2 := Lib.hid hx2
   clear ho2 hb2 hx2 HO1 HB1 HX1
   have HL : Hid (leafD M wh = p.inputs ++ (if wh = 1 then [] else p.ghosts) ++ (if wh = 0 then p.vars ++ paramD M else [])) := Lib.hid (by rw [H.out.inputs, H.out.ghosts, H.out.vars, List.append_assoc]; rfl)
   have HLL : Hid ((p.inputs ++ (if wh = 1 then [] else p.ghosts)).length ≤ 4) := Lib.hid (by rw [H.out.inputs, H.out.ghosts]; unfold inputsD ghostsD; split <;> simp <;> omega)
   obtain ⟨pre, hpre⟩ : ∃ l, p.inputs ++ (if wh = 1 then [] else p.ghosts) = l := ⟨_, rfl⟩
   rw [hpre] at HL HLL HO2
   clear hpre
   go_upto_if 28 with fail
   go_cut [8] (fun s8 wx => OwnL w.heap.size wx 44 3 DeclV.cells s8 (leafD M wh) ∧ Below w.heap.size w wx ∧ wx.heap[w.heap.size]? = some (.cells #[.int .u8 0, .int .u8 0, .int .u32 0, .int .i64 0, .string ⟨#[]⟩, .slice none 0 0] 34 (0, 0)))
   case first =>
     by_cases h0 : wh = 0
     · have hd : (wh == 0) = true := by simp [h0]
       have HIF : Hid (leafD M wh = pre ++ (p.vars ++ paramD M)) := Lib.hid (by rw [HL.out, if_pos h0])
       clear h0 HL
       have H1 := H.out.on HB2.out
       have c6 := H1.base.cell 6 rfl
       have c3 := H1.base.cell 3 rfl
       have c24 := H1.base.cell 24 rfl
       simp only [Sp.val] at c6
       have HR := Lib.hid H1.vrow.unmask
       have HWD := Lib.hid H1.width
       have HLN : Hid (pre.length + p.vars.length ≤ 1000000) := Lib.hid (by have := HLL.out; rw [H1.vars]; unfold varsD; simp; omega)
       clear H1 c3 c24
       go_wp2_with (first | (at_builtin; refine wpList_append_row rfl (.tmp 29) (.tmp 34) 28 rfl declK (fun _ => rfl) one_decl _ pre rfl HO2.out p.vs p.vars rfl HR.out HLN.out HB2.out.size ?_) | fail)
       intro v3 w3 hown3 hg3 hat3
       have HO3 := Lib.hid hown3
       have HB3 := Lib.hid (HO2.out.below hg3 (Nat.le_refl _) HB2.out HB2.out.size)
       have HX3 := Lib.hid (HO2.out.far hg3 HX2.out (by decide))
       clear hown3 hg3 hat3 HR c6
       have H3 := H.out.on HB3.out
       have c3 := H3.base.cell 3 rfl
       have c24 := H3.base.cell 24 rfl
       clear H3
       cases hp : M.prm with
       | false =>
         rw [hp] at c24
         have HPD : Hid (paramD M = []) := Lib.hid (by unfold paramD; rw [hp]; rfl)
         go_wp2_with fail
         go_meet
         case rel => exact ⟨by rw [HIF.out, HPD.out, List.append_nil]; exact HO3.out, HB3.out, HX3.out⟩
       | true =>
         rw [hp] at c24
         have HPD : Hid (paramD M = [⟨xB, p.width, 0⟩]) := Lib.hid (by unfold paramD; rw [hp, HWD.out]; rfl)
         have hbA : Below w3.heap.size w3 (w3.alloc (.cells #[.string xB, .int .i64 p.width, .int .i64 0] 44)) := (Below.refl _ _).alloc (Nat.le_refl _) _
         have HRA := Lib.hid (row_one (enc := DeclV.cells) (x := ⟨xB, p.width, 0⟩) (k := 3) (World.alloc_heap_new w3 (.cells #[.string xB, .int .i64 p.width, .int .i64 0] 44)))
         have HOA := Lib.hid (HO3.out.on hbA)
         have HBA := Lib.hid (HB3.out.trans (hbA.mono HB3.out.size))
         have HXA := Lib.hid ((hbA.block _ (Array.getElem?_eq_some_iff.1 HX3.out).1).trans HX3.out)
         have HVL : Hid (p.vars.length = 2) := Lib.hid (by rw [H.out.vars]; rfl)
         have HLN2 : Hid ((pre ++ p.vars).length + 1 ≤ 1000000) := Lib.hid (by have := HLL.out; rw [List.length_append, HVL.out]; omega)
         clear hbA HO3 HB3 HX3 HLN
         go_wp2_with (first | (at_builtin; refine wpList_append_row rfl (.tmp 40) (.tmp 47) 28 rfl declK (fun _ => rfl) one_decl _ (pre ++ p.vars) rfl HOA.out ⟨some ⟨w3.heap.size, 0, none⟩, 1⟩ [⟨xB, p.width, 0⟩] rfl HRA.out HLN2.out HBA.out.size ?_) | fail)
         intro v4 w4 hown4 hg4 hat4
         have HO4 := Lib.hid hown4
         have HB4 := Lib.hid (HOA.out.below hg4 (Nat.le_refl _) HBA.out HBA.out.size)
         have HX4 := Lib.hid (HOA.out.far hg4 HXA.out (by decide))
         clear hown4 hg4 hat4
         go_wp2_with fail
         go_meet
         case rel => exact ⟨by rw [HIF.out, HPD.out]; exact HO4.out, HB4.out, HX4.out⟩
     · have hd : (wh == 0) = false := by simp [h0]
       have HIF : Hid (leafD M wh = pre) := Lib.hid (by rw [HL.out, if_neg h0, List.append_nil])
       clear h0 HL
       go_wp2_with fail
       go_meet
       case rel => exact ⟨by rw [HIF.out]; exact HO2.out, HB2.out, HX2.out⟩
   case rest =>
     obtain ⟨ho3, hb3, hx3⟩ := hcut
     have hlen := leafD_len M wh
     have HLE := Lib.hid (fun s => namesW_leaf (M := M) (wh := wh) (wd := wd) (s := s))
     obtain ⟨A8, c8, rfl⟩ := ho3.form
     have HO3 := Lib.hid ho3
     have HB3 := Lib.hid hb3
     have HX3 := Lib.hid hx3
     clear ho3 hb3 hx3 HO2 HB2 HX2 HL HLL
     generalize leafD M wh = D at *
     go_wp2_with fail
     go_loopw [7, 51] (fun s7 s51 wr => ∃ j : Nat, j ≤ D.length ∧ s51 = .int .i64 j ∧ OwnL w.heap.size wr 9 1 encS s7 (namesW (D.take j) wd) ∧ OwnL w.heap.size wr 44 3 DeclV.cells (.slice A8 D.length c8) D ∧ Below w.heap.size w wr ∧ wr.heap[w.heap.size]? = some (.cells #[.int .u8 0, .int .u8 0, .int .u32 0, .int .i64 0, .string ⟨#[]⟩, .slice none 0 0] 34 (0, 0))) (fun _ s51 _ => D.length - (intOf s51).toNat)
     case atStart => exact ⟨0, Nat.zero_le _, rfl, OwnL.nil, HO3.out, HB3.out, HX3.out⟩
     case round =>
       obtain ⟨j, hj, rfl, ho7, ho8, hbr, hxr⟩ := hrel
       clear HO3 HB3 HX3
       have HO7 := Lib.hid ho7
       have HO8 := Lib.hid ho8
       have HBR := Lib.hid hbr
       have HXR := Lib.hid hxr
       by_cases hlt : j < D.length
       · obtain ⟨g, eA, hg1, hg2, hc⟩ := ho8.cell (fun _ => rfl) hlt
         cases eA
         have k0 := hc 0 (.string (D[j]).name) rfl
         have k1 := hc 1 (.int .i64 (D[j]).width) rfl
         have k2 := hc 2 (.int .i64 (D[j]).size) rfl
         simp only [Nat.add_zero] at k0
         have HTK : Hid (D.take (j + 1) = D.take j ++ [D[j]]) := Lib.hid (List.take_succ_eq_append_getElem hlt)
         have HNL : Hid ((namesW (D.take j) wd).length ≤ 7) := Lib.hid (by have h1 := namesW_len (D.take j) wd; have h2 : (D.take j).length ≤ D.length := List.length_take_le' _ _; omega)
         obtain ⟨A7, c7, rfl⟩ := ho7.form
         clear ho7 ho8 hbr hxr hc
         generalize D[j] = d at *
         have hba : Below wr.heap.size wr (wr.alloc (.cells #[.string d.name, .int .i64 d.width, .int .i64 d.size] 44)) := (Below.refl _ _).alloc (Nat.le_refl _) _
         by_cases he : d.width = wd
         · have hd : (d.width == wd) = true := by simp [he]
           have HNM : Hid (namesW (D.take (j + 1)) wd = namesW (D.take j) wd ++ [d.name]) := Lib.hid (by rw [HTK.out, namesW_snoc, if_pos he])
           have hbb : Below wr.heap.size wr ((wr.alloc (.cells #[.string d.name, .int .i64 d.width, .int .i64 d.size] 44)).alloc (.cells #[.string d.name] 9)) := hba.alloc (by simp) _
           have HRS := Lib.hid (row_one (enc := encS) (x := d.name) (k := 1) (World.alloc_heap_new (wr.alloc (.cells #[.string d.name, .int .i64 d.width, .int .i64 d.size] 44)) (.cells #[.string d.name] 9)))
           simp only [World.size_alloc] at HRS
           have HO7b := Lib.hid (HO7.out.on hbb)
           have HO8b := Lib.hid (HO8.out.on hbb)
           have HBRb := Lib.hid (HBR.out.trans (hbb.mono HBR.out.size))
           have HXRb := Lib.hid ((hbb.block _ (Array.getElem?_eq_some_iff.1 HXR.out).1).trans HXR.out)
           clear he hba hbb HTK HO7 HO8 HBR HXR
           go_wp2_with (first | (at_builtin; refine wpList_append_row rfl (.tmp 59) (.tmp 62) 26 rfl strK (fun _ => rfl) one_str _ (namesW (D.take j) wd) rfl HO7b.out ⟨some ⟨wr.heap.size + 1, 0, none⟩, 1⟩ [d.name] rfl HRS.out (by have := HNL.out; simp; omega) HBRb.out.size ?_) | fail)
           intro v9 w9 hown9 hg9 hat9
           have HO9 := Lib.hid hown9
           have HB9 := Lib.hid (HO7b.out.below hg9 (Nat.le_refl _) HBRb.out HBRb.out.size)
           have HX9 := Lib.hid (HO7b.out.far hg9 HXRb.out (by decide))
           have HD9 := Lib.hid (HO8b.out.other HO7b.out hg9 (by decide))
           clear hown9 hg9 hat9
           go_wp2_with fail
           go_roundw
           case rel =>
             exact ⟨j + 1, by omega, by go_num, by rw [HNM.out]; exact HO9.out, HD9.out, HB9.out, HX9.out⟩
           case measure => simp [intOf]; omega
         · have hd : (d.width == wd) = false := by simp [he]
           have HNM : Hid (namesW (D.take (j + 1)) wd = namesW (D.take j) wd) := Lib.hid (by rw [HTK.out, namesW_snoc, if_neg he, List.append_nil])
           have HO7b := Lib.hid (HO7.out.on hba)
           have HO8b := Lib.hid (HO8.out.on hba)
           have HBRb := Lib.hid (HBR.out.trans (hba.mono HBR.out.size))
           have HXRb := Lib.hid ((hba.block _ (Array.getElem?_eq_some_iff.1 HXR.out).1).trans HXR.out)
           clear he hba HTK HO7 HO8 HBR HXR
           go_wp2_with fail
           go_roundw
           case rel =>
             exact ⟨j + 1, by omega, by go_num, by rw [HNM.out]; exact HO7b.out, HO8b.out, HBRb.out, HXRb.out⟩
           case measure => simp [intOf]; omega
       · have hjD : j = D.length := by omega
         have HO7e := Lib.hid (show OwnL w.heap.size wr 9 1 encS _ (namesW D wd) from by rw [hjD, List.take_length] at ho7; exact ho7)
         clear ho7 ho8 hbr hxr hjD HO7 HO8 hj
         have HMR := Lib.hid (H.out.on HBR.out)
         have HNX := Lib.hid (next_any q n lv ls at_ p M.prm wr HMR.out.base 8 (by decide) (by decide))
         go_wp2_with fail
         refine HNX.out.mono ?_
         clear HNX HMR
         rintro o w5 ⟨k, at', rfl, hk0, hk8, hm5, hb5⟩
         have hqr : q < wr.heap.size := Nat.lt_of_lt_of_le hq HBR.out.size
         have HM5 := Lib.hid hm5
         have HB5 := Lib.hid ((below_mask hq HBR.out).trans (hb5.mono HBR.out.size))
         have HX5 := Lib.hid ((mask_block hb5 (Array.getElem?_eq_some_iff.1 HXR.out).1 (by omega)).trans HXR.out)
         have ho5 := ownL_masked HO7e.out hb5 hq
         have hs5 : w.heap.size ≤ w5.heap.size := by have := HB5.out.size; rw [mask_size, mask_size] at this; exact this
         have hnl : (namesW D wd).length ≤ 7 := Nat.le_trans (namesW_len D wd) hlen
         have HNW := Lib.hid H.out.base.nW
         clear hm5 hb5 HO7e HBR HXR
         obtain ⟨A7, c7, rfl⟩ := ho5.form
         obtain ⟨kn, rfl⟩ := Int.eq_ofNat_of_zero_le hk0
         by_cases hyes : 2 < kn ∧ 0 < (namesW D wd).length
         · obtain ⟨h2, h0⟩ := hyes
           have hd1 : decide ((2 : Int) < (kn : Int)) = true := decide_eq_true (by omega)
           have hd2 : decide ((0 : Int) < ((namesW D wd).length : Int)) = true := decide_eq_true (by omega)
           have hlt : kn % (namesW D wd).length < (namesW D wd).length := Nat.mod_lt _ h0
           obtain ⟨g, eA, hg1, hg2, hc⟩ := ho5.cell (fun _ => rfl) hlt
           cases eA
           have k0 := hc 0 (.string ((namesW D wd)[kn % (namesW D wd).length])) rfl
           simp only [Nat.add_zero, Nat.mul_one] at k0
           obtain ⟨t, ht, htw⟩ := HLE.out _ (List.getElem_mem hlt)
           have HS16 := Lib.hid (std_short H.out.std ht)
           have HWX := Lib.hid (WX.var (d := 0) ht)
           rw [htw] at HWX
           generalize (namesW D wd)[kn % (namesW D wd).length] = s at *
           generalize (namesW D wd).length = L at *
           clear hc HLE ho5 htw ht
           go_wp2_with fail
           refine (name29_any _ _).mono ?_
           rintro o w6 ⟨rfl, hb6⟩
           have HX6 := Lib.hid ((hb6.block _ (Array.getElem?_eq_some_iff.1 HX5.out).1).trans HX5.out)
           have HB6 := Lib.hid hb6
           clear hb6 HX5
           go_wp2_with (first | (refine wpList_store_row rfl 34 _ _ rfl w.heap.size #[.int .u8 2, .int .u8 0, .int .u32 0, .int .i64 0, .string s, .slice none 0 0] (by rfl) (by rfl) 34 zX HX6.out (expr_size _ _ _ _ _ _) (by rfl) (expr_one _ _ _ _ _ _ _ _) ?_) | fail)
           have hbox := setRow_heap w6 w.heap.size _ #[.int .u8 2, .int .u8 0, .int .u32 0, .int .i64 0, .string s, .slice none 0 0] 34 (0, 0) HX6.out
           have hb7 := below_setRow (HB6.out.mono hs5) (Nat.le_refl _) #[.int .u8 2, .int .u8 0, .int .u32 0, .int .i64 0, .string s, .slice none 0 0]
           exact bodyPost_ret (results_cell_row rfl _ _ w.heap.size 34 _ (0, 0) _ rfl hbox Tryz.underlying34 rfl (by kernel_rfl)) rfl ⟨nameE s, at', rfl, HWX.out, fun W => name_rd W s (by have := HS16.out; simp only [maxLen]; omega), HM5.out.low (hb7.mono HNW.out), HB5.out.trans (below_mask (by omega) hb7)⟩
         · have hbits := bits_ok kn wd hk8 hwd
           have HWX : Hid (WX M wh 0 wd (numE (bits BinOp.and IntKind.u32 (kn : Int) ((2 ^ wd.toNat - 1) % 4294967296)) wd)) := Lib.hid (WX.num hbits.1 hbits.2.1 hwd.1 (by omega))
           have HNX : Hid (∀ W : World, RdX 0 W (numE (bits BinOp.and IntKind.u32 (kn : Int) ((2 ^ wd.toNat - 1) % 4294967296)) wd)) := Lib.hid (fun _ => by
             exact .mk _ (show (0 : Int) ≤ 1 ∧ (1 : Int) ≤ 255 by decide) (show (0 : Int) ≤ 0 ∧ (0 : Int) ≤ 255 by decide) ⟨hbits.1, hbits.2.2⟩ (wf_small hwd) (show (0 : Nat) ≤ maxLen by decide) RowOf.nil (fun _ h => absurd h (by simp [numE, ExprV.subs])))
           have hway : (decide ((2 : Int) < (kn : Int)) = true ∧ decide (0 < (namesW D wd).length) = false ∧ ¬ 0 < (namesW D wd).length) ∨ decide ((2 : Int) < (kn : Int)) = false := by
             by_cases h2 : 2 < kn
             · exact .inl ⟨decide_eq_true (by omega), decide_eq_false (by omega), by omega⟩
             · exact .inr (decide_eq_false (by omega))
           clear hbits hyes HLE ho5 hnl
           rcases hway with ⟨hd1, hd2, hd3⟩ | hd1
           all_goals
             go_wp2_with fail
             generalize bits BinOp.and IntKind.u32 (kn : Int) ((2 ^ wd.toNat - 1) % 4294967296) = x at *
             refine (num29_any _ _ _).mono ?_
             rintro o w6 ⟨rfl, hb6⟩
             have HX6 := Lib.hid ((hb6.block _ (Array.getElem?_eq_some_iff.1 HX5.out).1).trans HX5.out)
             have HB6 := Lib.hid hb6
             clear hb6 HX5
             go_wp2_with (first | (refine wpList_store_row rfl 34 _ _ rfl w.heap.size #[.int .u8 1, .int .u8 0, .int .u32 x, .int .i64 wd, .string ⟨#[]⟩, .slice none 0 0] (by rfl) (by rfl) 34 zX HX6.out (expr_size _ _ _ _ _ _) (by rfl) (expr_one _ _ _ _ _ _ _ _) ?_) | fail)
             have hbox := setRow_heap w6 w.heap.size _ #[.int .u8 1, .int .u8 0, .int .u32 x, .int .i64 wd, .string ⟨#[]⟩, .slice none 0 0] 34 (0, 0) HX6.out
             have hb7 := below_setRow (HB6.out.mono hs5) (Nat.le_refl _) #[.int .u8 1, .int .u8 0, .int .u32 x, .int .i64 wd, .string ⟨#[]⟩, .slice none 0 0]
             have HBZ := HB5.out.trans (below_mask (by omega) hb7)
             refine bodyPost_ret (results_cell_row rfl _ _ w.heap.size 34 _ (0, 0) _ rfl hbox Tryz.underlying34 rfl (by kernel_rfl)) rfl ⟨numE x wd, at', rfl, HWX.out, HNX.out, HM5.out.low (hb7.mono HNW.out), HBZ⟩
end Go.Proofs.YthcboallnbaimaaGreatDoor
namespace Go.Proofs.YthcboallnbaimaaGreatDoor
open Go Go.RowKit Go.Maps
/-- What a call of expr keeps in its boxes, from block b on. -/
structure ExS (q n : Nat) (lv : Sp) (ls : List Int) (at_ : Nat) (p : ProgV) (M : MkE) (wh d : Int) (w W : World) : Prop where
 base : MkR q n lv ls at_ p M W
 old : q < w.heap.size
 oldn : n ≤ w.heap.size
 low : Below w.heap.size (mask q w) (mask q W)
 cm : W.heap[w.heap.size]? = some (.cells #[.pointer (some ⟨q, 0, none⟩)] 112 (0, 0))
 cw : W.heap[w.heap.size + 1]? = some (.cells #[.int .i64 wh] 3 (0, 0))
 cd : W.heap[w.heap.size + 1 + 1]? = some (.cells #[.int .i64 d] 3 (0, 0))
 cr : W.heap[w.heap.size + 1 + 1 + 1]? = some (.cells zX 34 (0, 0))
section
variable {q n : Nat} {lv : Sp} {ls : List Int} {at_ at' : Nat} {p : ProgV} {M : MkE} {wh d : Int} {w W W' : World}
theorem ExS.size (h : ExS q n lv ls at_ p M wh d w W) : w.heap.size + 4 ≤ W.heap.size := by
 have := (Array.getElem?_eq_some_iff.1 h.cr).1
 omega
theorem ExS.next (h : ExS q n lv ls at_ p M wh d w W) (h0 : Mk0 q n lv ls at' p M.prm W') (hb : Below W.heap.size (mask q W) (mask q W')) : ExS q n lv ls at' p M wh d w W' := by
 have hs := h.size
 have ho := h.old
 exact ⟨h.base.next h0 hb, ho, h.oldn, h.low.trans (hb.mono (by omega)), (mask_block hb (by omega) (by omega)).trans h.cm, (mask_block hb (by omega) (by omega)).trans h.cw, (mask_block hb (by omega) (by omega)).trans h.cd, (mask_block hb (by omega) (by omega)).trans h.cr⟩
theorem ExS.on (h : ExS q n lv ls at_ p M wh d w W) (hb : Below W.heap.size W W') : ExS q n lv ls at_ p M wh d w W' := h.next (h.base.base.on hb) (below_mask h.base.base.box_lt hb)
theorem ExS.boxm (h : ExS q n lv ls at_ p M wh d w W) : W.cell? ⟨w.heap.size, 0, none⟩ = some (.pointer (some ⟨q, 0, none⟩)) := by simp [World.cell?, h.cm]
theorem ExS.boxw (h : ExS q n lv ls at_ p M wh d w W) : W.cell? ⟨w.heap.size + 1, 0, none⟩ = some (.int .i64 wh) := by simp [World.cell?, h.cw]
theorem ExS.boxd (h : ExS q n lv ls at_ p M wh d w W) : W.cell? ⟨w.heap.size + 1 + 1, 0, none⟩ = some (.int .i64 d) := by simp [World.cell?, h.cd]
/-- The result stored. -/
theorem ExS.fin (h : ExS q n lv ls at_ p M wh d w W) (cs : Array Value) : (W.setRow (w.heap.size + 1 + 1 + 1) cs).heap[w.heap.size + 1 + 1 + 1]? = some (.cells cs 34 (0, 0)) ∧ Mk0 q n lv ls at_ p M.prm (W.setRow (w.heap.size + 1 + 1 + 1) cs) ∧ Below w.heap.size (mask q w) (mask q (W.setRow (w.heap.size + 1 + 1 + 1) cs)) := by
 have hs := h.size
 have hb := below_setRow (Below.refl w.heap.size W) (show w.heap.size ≤ w.heap.size + 1 + 1 + 1 by omega) cs
 exact ⟨setRow_heap _ _ _ _ _ _ h.cr, h.base.base.low (hb.mono h.oldn), h.low.trans (below_mask h.base.base.box_lt hb)⟩
end
theorem WX.rise {M : MkE} {wh : Int} {wd : Int} {e : ExprV} (h : WX M wh 0 wd e) (d : Nat) : WX M wh d wd e := by
 cases h with
 | num h1 h2 h3 h4 => exact .num h1 h2 h3 h4
 | var h1 => exact .var h1
/-- The contract of expr, for so many levels. -/
def ExprOkM (d : Nat) : Prop := ∀ (q n : Nat) (lv : Sp) (ls : List Int) (at_ : Nat) (p : ProgV) (M : MkE) (w : World), MkR q n lv ls at_ p M w → ∀ (wd wh : Int), 1 ≤ wd ∧ wd ≤ 3 →
 Calls Tryz.prog 60 #[.pointer (some ⟨q, 0, none⟩), .int .i64 wd, .int .i64 wh, .int .i64 d] w fun o w' => ∃ (e : ExprV) (at' : Nat), o = .returned (.agg #[.int .u8 e.kind, .int .u8 e.op, .int .u32 e.value, .int .i64 e.width, .string e.name, .slice e.sp.at_ e.subs.length e.sp.cap]) ∧ WX M wh d wd e ∧ NewX w.heap.size w' e ∧ Mk0 q n lv ls at' p M.prm w' ∧ Below w.heap.size (mask q w) (mask q w')
/-- The contract of sub. -/
def SubOk (d : Nat) : Prop := ∀ (q n : Nat) (lv : Sp) (ls : List Int) (at_ : Nat) (p : ProgV) (M : MkE) (wh : Int) (w W : World), ExS q n lv ls at_ p M wh ((d : Int) + 1) w W → ∀ (wd : Int), 1 ≤ wd ∧ wd ≤ 3 →
 Calls Tryz.prog 97 #[.int .i64 wd, .pointer (some ⟨w.heap.size, 0, none⟩), .pointer (some ⟨w.heap.size + 1, 0, none⟩), .pointer (some ⟨w.heap.size + 1 + 1, 0, none⟩)] W fun o w' => ∃ (e : ExprV) (at' : Nat), o = .returned (.agg #[.int .u8 e.kind, .int .u8 e.op, .int .u32 e.value, .int .i64 e.width, .string e.name, .slice e.sp.at_ e.subs.length e.sp.cap]) ∧ WX M wh d wd e ∧ NewX (w.heap.size + 4) w' e ∧ ExS q n lv ls at' p M wh ((d : Int) + 1) w w' ∧ Below W.heap.size (mask q W) (mask q w')
set_option maxHeartbeats 1000000 in
theorem sub_of {d : Nat} (hd10 : d ≤ 10) (hE : ExprOkM d) : SubOk d := by
 intro q n lv ls at_ p M wh w W h wd hwd
 have hb0 : Below W.heap.size W (W.alloc (.cells zX 34)) := (Below.refl _ _).alloc (Nat.le_refl _) _
 have h1 := h.on hb0
 have c1 := h1.boxm
 have c2 := h1.boxw
 have c3 := h1.boxd
 have hx0 := World.alloc_heap_new W (.cells zX 34)
 have hEX := hE q n lv ls at_ p M _ h1.base wd wh hwd
 have HEX := Lib.hid hEX
 have HX0 := Lib.hid hx0
 have HB0 := Lib.hid hb0
 have H := Lib.hid h
 clear hE h h1 hEX hx0 hb0
 unfold zX at *
 go_enter Tryz.func97, Tryz.ntmps97
 go_wp2_with fail
 refine HEX.out.mono ?_
 rintro o w1 ⟨e, at', rfl, hwx, hnx, hmk, hb1⟩
 have hlt0 := (Array.getElem?_eq_some_iff.1 HX0.out).1
 have hq := H.out.base.base.box_lt
 have hsz : (W.alloc (.cells #[.int .u8 0, .int .u8 0, .int .u32 0, .int .i64 0, .string ⟨#[]⟩, .slice none 0 0] 34)).heap.size = W.heap.size + 1 := by simp
 have HX1 := Lib.hid ((mask_block hb1 hlt0 (by omega)).trans HX0.out)
 have HB1 := Lib.hid ((below_mask hq HB0.out).trans (hb1.mono (by omega)))
 have HWX := Lib.hid hwx
 rw [hsz] at hnx
 have HNX := Lib.hid hnx
 have HMK := Lib.hid hmk
 have hs1 : W.heap.size ≤ w1.heap.size := size_mask HB1.out
 clear hwx hnx hmk hb1 hsz HEX
 go_wp2_with (first | (refine wpList_store_row rfl 34 _ _ rfl W.heap.size #[.int .u8 e.kind, .int .u8 e.op, .int .u32 e.value, .int .i64 e.width, .string e.name, .slice e.sp.at_ e.subs.length e.sp.cap] (by rfl) (by rfl) 34 zX HX1.out (expr_size _ _ _ _ _ _) (by rfl) (expr_one _ _ _ _ _ _ _ _) ?_) | fail)
 have hbox := setRow_heap w1 W.heap.size _ #[.int .u8 e.kind, .int .u8 e.op, .int .u32 e.value, .int .i64 e.width, .string e.name, .slice e.sp.at_ e.subs.length e.sp.cap] 34 (0, 0) HX1.out
 have hb2 := below_setRow (Below.refl W.heap.size w1) (Nat.le_refl _) #[.int .u8 e.kind, .int .u8 e.op, .int .u32 e.value, .int .i64 e.width, .string e.name, .slice e.sp.at_ e.subs.length e.sp.cap]
 have hbz := HB1.out.trans (below_mask (by omega) hb2)
 have hos := H.out.size
 exact bodyPost_ret (results_cell_row rfl _ _ W.heap.size 34 _ (0, 0) _ rfl hbox Tryz.underlying34 rfl (expr_size _ _ _ _ _ _)) rfl ⟨e, at', rfl, HWX.out, (HNX.out.set (Nat.lt_succ_self _)).less (by omega), H.out.next (HMK.out.low (hb2.mono (by have := H.out.oldn; omega))) hbz, hbz⟩
end Go.Proofs.YthcboallnbaimaaGreatDoor
namespace Go.Proofs.YthcboallnbaimaaGreatDoor
open Go Go.RowKit Go.Maps
theorem alloc4x (w : World) (o1 o2 o3 o4 : Obj) : Below w.heap.size w ((((w.alloc o1).alloc o2).alloc o3).alloc o4) ∧ ((((w.alloc o1).alloc o2).alloc o3).alloc o4).heap[w.heap.size]? = some o1 ∧ ((((w.alloc o1).alloc o2).alloc o3).alloc o4).heap[w.heap.size + 1]? = some o2 ∧ ((((w.alloc o1).alloc o2).alloc o3).alloc o4).heap[w.heap.size + 1 + 1]? = some o3 ∧ ((((w.alloc o1).alloc o2).alloc o3).alloc o4).heap[w.heap.size + 1 + 1 + 1]? = some o4 := by
 obtain ⟨h1, h2, h3, h4, _, h6⟩ := alloc4 w o1 o2 o3 o4
 exact ⟨h6, h1, h2, h3, h4⟩
theorem row_list {α : Type} {W : World} {b k c : Nat} {t : TypeId} {fr : Nat × Nat} {enc : α → List Value} {l : List α} (hk : ∀ x, (enc x).length = k) (hc : c = l.length) (hl : l.length ≤ 1000) (h : W.heap[b]? = some (.cells (l.flatMap enc).toArray t fr)) : RowOf W.heap.size W ⟨some ⟨b, 0, none⟩, c⟩ k enc l := by
 subst hc
 refine ⟨Nat.le_refl _, by simp only [maxLen]; omega, by omega, fun _ => ⟨b, 0, rfl, (Array.getElem?_eq_some_iff.1 h).1, fun j hj r u hu => ?_⟩⟩
 have e := flat_at hk l j r u hj hu
 simp only [World.cell?, h, Nat.zero_add]
 simpa using e
theorem newX_node {lo g c : Nat} {W : World} {k o v wd : Int} {nm : ByteArray} {l : List ExprV} (hrow : RowOf W.heap.size W ⟨some ⟨g, 0, none⟩, c⟩ 6 ExprV.cells l) (hg : lo ≤ g) (hs : ∀ s, s ∈ l → NewX lo W s) (hk : 0 ≤ k ∧ k ≤ 255) (ho : 0 ≤ o ∧ o ≤ 255) (hv : 0 ≤ v ∧ v ≤ 4294967295) (hw : (Lit.int .i64 wd).wf = true) (hn : nm.size ≤ maxLen) : NewX lo W (.mk k o v wd nm ⟨some ⟨g, 0, none⟩, c⟩ l) :=
 .mk _ hk ho hv hw hn (hrow.low hg) hs
/-- The result of expr, out of the last store. -/
theorem node_fin {w W : World} {e : ExprV} (he : NewX (w.heap.size + 4) W e) (cs : Array Value) : NewX w.heap.size (W.setRow (w.heap.size + 1 + 1 + 1) cs) e :=
 (he.set (by omega)).less (by omega)
set_option maxRecDepth 1000000 in
set_option maxHeartbeats 4000000 in
theorem expr_zero : ExprOkM 0 := by
 intro q n lv ls at_ p M w h wd wh hwd
 obtain ⟨hb0, x0, x1, x2, x3⟩ := alloc4x w (.cells #[.pointer (some ⟨q, 0, none⟩)] 112) (.cells #[.int .i64 wh] 3) (.cells #[.int .i64 0] 3) (.cells #[.int .u8 0, .int .u8 0, .int .u32 0, .int .i64 0, .string ⟨#[]⟩, .slice none 0 0] 34)
 have hS : ExS q n lv ls at_ p M wh 0 w _ := ⟨h.on hb0, h.base.box_lt, h.base.nW, below_mask h.base.box_lt hb0, x0, x1, x2, x3⟩
 have HS0 := Lib.hid hS
 clear hb0 x0 x1 x2 x3 hS h
 go_enter Tryz.func60, Tryz.ntmps60
 go_upto_region 1 with fail
 generalize ((((w.alloc (.cells #[.pointer (some ⟨q, 0, none⟩)] 112)).alloc (.cells #[.int .i64 wh] 3)).alloc (.cells #[.int .i64 0] 3)).alloc (.cells #[.int .u8 0, .int .u8 0, .int .u32 0, .int .i64 0, .string ⟨#[]⟩, .slice none 0 0] 34)) = W0 at *
 have m0 := HS0.out.boxm
 have v0 := HS0.out.boxw
 have y0 := HS0.out.boxd
 have z0 := HS0.out.base.base.cell 3 rfl
 go_wp2_with fail
 refine (leaf_any q n lv ls _ p M _ HS0.out.base wd wh hwd).mono ?_
 rintro o WA ⟨e, aA, rfl, hwx, hnx, hm, hb⟩
 have HSA := Lib.hid (HS0.out.next hm hb)
 have HWX := Lib.hid (hwx.rise 0)
 have HNA : Hid (NewX (w.heap.size + 4) WA e) := Lib.hid ((hnx _).more (Nat.zero_le _))
 clear hm hb hwx hnx
 simp only [ExprV.val, Sp.val]
 go_wp2_with (first | (refine wpList_store_row rfl 34 _ _ rfl (w.heap.size + 1 + 1 + 1) #[.int .u8 e.kind, .int .u8 e.op, .int .u32 e.value, .int .i64 e.width, .string e.name, .slice e.sp.at_ e.subs.length e.sp.cap] (by rfl) (by rfl) 34 zX HSA.out.cr (expr_size _ _ _ _ _ _) (by rfl) (expr_one _ _ _ _ _ _ _ _) ?_) | fail)
 obtain ⟨f1, f2, f3⟩ := HSA.out.fin #[.int .u8 e.kind, .int .u8 e.op, .int .u32 e.value, .int .i64 e.width, .string e.name, .slice e.sp.at_ e.subs.length e.sp.cap]
 exact bodyPost_ret (results_cell_row rfl _ _ (w.heap.size + 1 + 1 + 1) 34 _ (0, 0) _ rfl f1 Tryz.underlying34 rfl (expr_size _ _ _ _ _ _)) rfl ⟨e, _, rfl, HWX.out, node_fin HNA.out _, f2, f3⟩
set_option maxRecDepth 1000000 in
set_option maxHeartbeats 8000000 in
theorem expr_succ {d : Nat} (hd10 : d ≤ 10) (hE : ExprOkM d) : ExprOkM (d + 1) := by
 intro q n lv ls at_ p M w h wd wh hwd
 have HSUB := Lib.hid (sub_of hd10 hE)
 obtain ⟨hb0, x0, x1, x2, x3⟩ := alloc4x w (.cells #[.pointer (some ⟨q, 0, none⟩)] 112) (.cells #[.int .i64 wh] 3) (.cells #[.int .i64 ((d : Int) + 1)] 3) (.cells #[.int .u8 0, .int .u8 0, .int .u32 0, .int .i64 0, .string ⟨#[]⟩, .slice none 0 0] 34)
 have hS : ExS q n lv ls at_ p M wh ((d : Int) + 1) w _ := ⟨h.on hb0, h.base.box_lt, h.base.nW, below_mask h.base.box_lt hb0, x0, x1, x2, x3⟩
 have HS0 := Lib.hid hS
 have hwdt := h.width
 have hz : ((d : Int) + 1 == 0) = false := by rw [beq_eq_false_iff_ne]; omega
 clear hb0 x0 x1 x2 x3 hS h hE hd10
 rw [show (((d + 1 : Nat)) : Int) = (d : Int) + 1 by omega]
 go_enter Tryz.func60, Tryz.ntmps60
 go_upto_region 1 with fail
 generalize ((((w.alloc (.cells #[.pointer (some ⟨q, 0, none⟩)] 112)).alloc (.cells #[.int .i64 wh] 3)).alloc (.cells #[.int .i64 ((d : Int) + 1)] 3)).alloc (.cells #[.int .u8 0, .int .u8 0, .int .u32 0, .int .i64 0, .string ⟨#[]⟩, .slice none 0 0] 34)) = W0 at *
 have HWT := Lib.hid hwdt
 clear hwdt
 have m0 := HS0.out.boxm
 have v0 := HS0.out.boxw
 have y0 := HS0.out.boxd
 have z0 := HS0.out.base.base.cell 3 rfl
 go_wp2_with fail
 refine (next_any q n lv ls _ p M.prm _ HS0.out.base.base 9 (by decide) (by decide)).mono ?_
 rintro o W1 ⟨k1, a1, rfl, lo1, hi1, hm, hb⟩
 have HS1 := Lib.hid (HS0.out.next hm hb)
 clear hm hb HS0 m0 v0 y0 z0
 have m1 := HS1.out.boxm
 have v1 := HS1.out.boxw
 have y1 := HS1.out.boxd
 have z1 := HS1.out.base.base.cell 3 rfl
 clear hz
 have hk9 : k1 = 0 ∨ k1 = 1 ∨ k1 = 2 ∨ k1 = 3 ∨ k1 = 4 ∨ k1 = 5 ∨ k1 = 6 ∨ k1 = 7 ∨ k1 = 8 := by omega
 clear lo1 hi1
 rcases hk9 with rfl | rfl | rfl | rfl | rfl | rfl | rfl | rfl | rfl
 · go_wp2_with fail
   refine (leaf_any q n lv ls _ p M _ HS1.out.base wd wh hwd).mono ?_
   rintro o WA ⟨e, aA, rfl, hwx, hnx, hm, hb⟩
   have HSA := Lib.hid (HS1.out.next hm hb)
   have HWX := Lib.hid (hwx.rise (d + 1))
   have HNA : Hid (NewX (w.heap.size + 4) WA e) := Lib.hid ((hnx _).more (Nat.zero_le _))
   clear hm hb hwx hnx
   simp only [ExprV.val, Sp.val]
   go_wp2_with (first | (refine wpList_store_row rfl 34 _ _ rfl (w.heap.size + 1 + 1 + 1) #[.int .u8 e.kind, .int .u8 e.op, .int .u32 e.value, .int .i64 e.width, .string e.name, .slice e.sp.at_ e.subs.length e.sp.cap] (by rfl) (by rfl) 34 zX HSA.out.cr (expr_size _ _ _ _ _ _) (by rfl) (expr_one _ _ _ _ _ _ _ _) ?_) | fail)
   obtain ⟨f1, f2, f3⟩ := HSA.out.fin #[.int .u8 e.kind, .int .u8 e.op, .int .u32 e.value, .int .i64 e.width, .string e.name, .slice e.sp.at_ e.subs.length e.sp.cap]
   exact bodyPost_ret (results_cell_row rfl _ _ (w.heap.size + 1 + 1 + 1) 34 _ (0, 0) _ rfl f1 Tryz.underlying34 rfl (expr_size _ _ _ _ _ _)) rfl ⟨e, _, rfl, HWX.out, node_fin HNA.out _, f2, f3⟩
 · go_wp2_with fail
   refine (leaf_any q n lv ls _ p M _ HS1.out.base wd wh hwd).mono ?_
   rintro o WA ⟨e, aA, rfl, hwx, hnx, hm, hb⟩
   have HSA := Lib.hid (HS1.out.next hm hb)
   have HWX := Lib.hid (hwx.rise (d + 1))
   have HNA : Hid (NewX (w.heap.size + 4) WA e) := Lib.hid ((hnx _).more (Nat.zero_le _))
   clear hm hb hwx hnx
   simp only [ExprV.val, Sp.val]
   go_wp2_with (first | (refine wpList_store_row rfl 34 _ _ rfl (w.heap.size + 1 + 1 + 1) #[.int .u8 e.kind, .int .u8 e.op, .int .u32 e.value, .int .i64 e.width, .string e.name, .slice e.sp.at_ e.subs.length e.sp.cap] (by rfl) (by rfl) 34 zX HSA.out.cr (expr_size _ _ _ _ _ _) (by rfl) (expr_one _ _ _ _ _ _ _ _) ?_) | fail)
   obtain ⟨f1, f2, f3⟩ := HSA.out.fin #[.int .u8 e.kind, .int .u8 e.op, .int .u32 e.value, .int .i64 e.width, .string e.name, .slice e.sp.at_ e.subs.length e.sp.cap]
   exact bodyPost_ret (results_cell_row rfl _ _ (w.heap.size + 1 + 1 + 1) 34 _ (0, 0) _ rfl f1 Tryz.underlying34 rfl (expr_size _ _ _ _ _ _)) rfl ⟨e, _, rfl, HWX.out, node_fin HNA.out _, f2, f3⟩
 · go_wp2_with fail
   refine (leaf_any q n lv ls _ p M _ HS1.out.base wd wh hwd).mono ?_
   rintro o WA ⟨e, aA, rfl, hwx, hnx, hm, hb⟩
   have HSA := Lib.hid (HS1.out.next hm hb)
   have HWX := Lib.hid (hwx.rise (d + 1))
   have HNA : Hid (NewX (w.heap.size + 4) WA e) := Lib.hid ((hnx _).more (Nat.zero_le _))
   clear hm hb hwx hnx
   simp only [ExprV.val, Sp.val]
   go_wp2_with (first | (refine wpList_store_row rfl 34 _ _ rfl (w.heap.size + 1 + 1 + 1) #[.int .u8 e.kind, .int .u8 e.op, .int .u32 e.value, .int .i64 e.width, .string e.name, .slice e.sp.at_ e.subs.length e.sp.cap] (by rfl) (by rfl) 34 zX HSA.out.cr (expr_size _ _ _ _ _ _) (by rfl) (expr_one _ _ _ _ _ _ _ _) ?_) | fail)
   obtain ⟨f1, f2, f3⟩ := HSA.out.fin #[.int .u8 e.kind, .int .u8 e.op, .int .u32 e.value, .int .i64 e.width, .string e.name, .slice e.sp.at_ e.subs.length e.sp.cap]
   exact bodyPost_ret (results_cell_row rfl _ _ (w.heap.size + 1 + 1 + 1) 34 _ (0, 0) _ rfl f1 Tryz.underlying34 rfl (expr_size _ _ _ _ _ _)) rfl ⟨e, _, rfl, HWX.out, node_fin HNA.out _, f2, f3⟩
 · by_cases h1 : wd = 1
   · subst h1
     go_wp2_with fail
     refine (next_any q n lv ls _ p M.prm _ HS1.out.base.base 3 (by decide) (by decide)).mono ?_
     rintro o W2 ⟨k2, a2, rfl, lo2, hi2, hm, hb⟩
     have HS2 := Lib.hid (HS1.out.next hm hb)
     clear hm hb HS1 m1 v1 y1 z1
     have m2 := HS2.out.boxm
     have v2 := HS2.out.boxw
     have y2 := HS2.out.boxd
     have z2 := HS2.out.base.base.cell 3 rfl
     have hwd2 : 1 ≤ 1 + k2 ∧ 1 + k2 ≤ 3 := by omega
     go_wp2_with fail
     refine (next_any q n lv ls _ p M.prm _ HS2.out.base.base 4 (by decide) (by decide)).mono ?_
     rintro o W3 ⟨k3, a3, rfl, lo3, hi3, hm, hb⟩
     have HS3 := Lib.hid (HS2.out.next hm hb)
     clear hm hb HS2 m2 v2 y2 z2
     have m3 := HS3.out.boxm
     have v3 := HS3.out.boxw
     have y3 := HS3.out.boxd
     have z3 := HS3.out.base.base.cell 3 rfl
     go_wp2_with fail
     refine (HSUB.out q n lv ls _ p M wh w _ HS3.out (1 + k2) hwd2).mono ?_
     rintro o W4 ⟨e1, a4, rfl, hwx, hnx, hm, hb⟩
     have HW1 := Lib.hid hwx
     have HS4 := Lib.hid hm
     have HN1_4 := Lib.hid hnx
     clear hwx hnx
     clear hm hb HS3 m3 v3 y3 z3
     have m4 := HS4.out.boxm
     have v4 := HS4.out.boxw
     have y4 := HS4.out.boxd
     have z4 := HS4.out.base.base.cell 3 rfl
     go_wp2_with fail
     refine (HSUB.out q n lv ls _ p M wh w _ HS4.out (1 + k2) hwd2).mono ?_
     rintro o W5 ⟨e2, a5, rfl, hwx, hnx, hm, hb⟩
     have HW2 := Lib.hid hwx
     have HS5 := Lib.hid hm
     have HN1_5 := Lib.hid (HN1_4.out.on hb (by have := HS4.out.old; omega))
     have HN2_5 := Lib.hid hnx
     clear hwx hnx
     clear hm hb HS4 m4 v4 y4 z4 HN1_4
     have m5 := HS5.out.boxm
     have v5 := HS5.out.boxw
     have y5 := HS5.out.boxd
     have z5 := HS5.out.base.base.cell 3 rfl
     go_wp2_with fail
     refine (binary29_any (13 + k3) e1 e2 _).mono ?_
     rintro o WA ⟨b, rfl, hb1, hb2, hxb, hba⟩
     have hbm := below_mask (Nat.lt_of_lt_of_le HS5.out.old (Nat.le_trans (Nat.le_add_right _ 4) HS5.out.size)) hba
     have HSA := Lib.hid (HS5.out.on hba)
     have HNA : Hid (NewX (w.heap.size + 4) WA (.mk 6 (13 + k3) 0 0 ⟨#[]⟩ ⟨some ⟨b, 0, none⟩, 2⟩ [e1, e2])) := Lib.hid (newX_node (row_two (enc := ExprV.cells) rfl hxb) (Nat.le_trans HS5.out.size hb1) (fun s hs => by
       simp only [List.mem_cons, List.not_mem_nil, or_false] at hs
       rcases hs with rfl | rfl
       · exact HN1_5.out.on hbm (by have := HS5.out.old; omega)
       · exact HN2_5.out.on hbm (by have := HS5.out.old; omega)) (show (0 : Int) ≤ 6 ∧ (6 : Int) ≤ 255 by decide) ⟨by omega, by omega⟩ (show (0 : Int) ≤ 0 ∧ (0 : Int) ≤ 4294967295 by decide) (show (Lit.int .i64 0).wf = true by decide) (show (⟨#[]⟩ : ByteArray).size ≤ maxLen by decide))
     clear hba hbm hb1 hb2 hxb
     go_wp2_with (first | (refine wpList_store_row rfl 34 _ _ rfl (w.heap.size + 1 + 1 + 1) #[.int .u8 6, .int .u8 (13 + k3), .int .u32 0, .int .i64 0, .string ⟨#[]⟩, .slice (some ⟨b, 0, none⟩) 2 2] (by rfl) (by rfl) 34 zX HSA.out.cr (expr_size _ _ _ _ _ _) (by rfl) (expr_one _ _ _ _ _ _ _ _) ?_) | fail)
     obtain ⟨f1, f2, f3⟩ := HSA.out.fin #[.int .u8 6, .int .u8 (13 + k3), .int .u32 0, .int .i64 0, .string ⟨#[]⟩, .slice (some ⟨b, 0, none⟩) 2 2]
     exact bodyPost_ret (results_cell_row rfl _ _ (w.heap.size + 1 + 1 + 1) 34 _ (0, 0) _ rfl f1 Tryz.underlying34 rfl (expr_size _ _ _ _ _ _)) rfl ⟨.mk 6 (13 + k3) 0 0 ⟨#[]⟩ ⟨some ⟨b, 0, none⟩, 2⟩ [e1, e2], _, rfl, WX.cmp (by omega) (by omega) HW1.out HW2.out, node_fin HNA.out _, f2, f3⟩
   · have hd1 : (wd == 1) = false := by simp [h1]
     clear h1
     go_wp2_with fail
     refine (next_any q n lv ls _ p M.prm _ HS1.out.base.base 10 (by decide) (by decide)).mono ?_
     rintro o W2 ⟨k2, a2, rfl, lo2, hi2, hm, hb⟩
     have HS2 := Lib.hid (HS1.out.next hm hb)
     clear hm hb HS1 m1 v1 y1 z1
     have m2 := HS2.out.boxm
     have v2 := HS2.out.boxw
     have y2 := HS2.out.boxd
     have z2 := HS2.out.base.base.cell 3 rfl
     go_wp2_with fail
     refine (HSUB.out q n lv ls _ p M wh w _ HS2.out wd hwd).mono ?_
     rintro o W3 ⟨e1, a3, rfl, hwx, hnx, hm, hb⟩
     have HW1 := Lib.hid hwx
     have HS3 := Lib.hid hm
     have HN1_3 := Lib.hid hnx
     clear hwx hnx
     clear hm hb HS2 m2 v2 y2 z2
     have m3 := HS3.out.boxm
     have v3 := HS3.out.boxw
     have y3 := HS3.out.boxd
     have z3 := HS3.out.base.base.cell 3 rfl
     go_wp2_with fail
     refine (HSUB.out q n lv ls _ p M wh w _ HS3.out wd hwd).mono ?_
     rintro o W4 ⟨e2, a4, rfl, hwx, hnx, hm, hb⟩
     have HW2 := Lib.hid hwx
     have HS4 := Lib.hid hm
     have HN1_4 := Lib.hid (HN1_3.out.on hb (by have := HS3.out.old; omega))
     have HN2_4 := Lib.hid hnx
     clear hwx hnx
     clear hm hb HS3 m3 v3 y3 z3 HN1_3
     have m4 := HS4.out.boxm
     have v4 := HS4.out.boxw
     have y4 := HS4.out.boxd
     have z4 := HS4.out.base.base.cell 3 rfl
     go_wp2_with fail
     refine (binary29_any (3 + k2) e1 e2 _).mono ?_
     rintro o WA ⟨b, rfl, hb1, hb2, hxb, hba⟩
     have hbm := below_mask (Nat.lt_of_lt_of_le HS4.out.old (Nat.le_trans (Nat.le_add_right _ 4) HS4.out.size)) hba
     have HSA := Lib.hid (HS4.out.on hba)
     have HNA : Hid (NewX (w.heap.size + 4) WA (.mk 6 (3 + k2) 0 0 ⟨#[]⟩ ⟨some ⟨b, 0, none⟩, 2⟩ [e1, e2])) := Lib.hid (newX_node (row_two (enc := ExprV.cells) rfl hxb) (Nat.le_trans HS4.out.size hb1) (fun s hs => by
       simp only [List.mem_cons, List.not_mem_nil, or_false] at hs
       rcases hs with rfl | rfl
       · exact HN1_4.out.on hbm (by have := HS4.out.old; omega)
       · exact HN2_4.out.on hbm (by have := HS4.out.old; omega)) (show (0 : Int) ≤ 6 ∧ (6 : Int) ≤ 255 by decide) ⟨by omega, by omega⟩ (show (0 : Int) ≤ 0 ∧ (0 : Int) ≤ 4294967295 by decide) (show (Lit.int .i64 0).wf = true by decide) (show (⟨#[]⟩ : ByteArray).size ≤ maxLen by decide))
     clear hba hbm hb1 hb2 hxb
     go_wp2_with (first | (refine wpList_store_row rfl 34 _ _ rfl (w.heap.size + 1 + 1 + 1) #[.int .u8 6, .int .u8 (3 + k2), .int .u32 0, .int .i64 0, .string ⟨#[]⟩, .slice (some ⟨b, 0, none⟩) 2 2] (by rfl) (by rfl) 34 zX HSA.out.cr (expr_size _ _ _ _ _ _) (by rfl) (expr_one _ _ _ _ _ _ _ _) ?_) | fail)
     obtain ⟨f1, f2, f3⟩ := HSA.out.fin #[.int .u8 6, .int .u8 (3 + k2), .int .u32 0, .int .i64 0, .string ⟨#[]⟩, .slice (some ⟨b, 0, none⟩) 2 2]
     exact bodyPost_ret (results_cell_row rfl _ _ (w.heap.size + 1 + 1 + 1) 34 _ (0, 0) _ rfl f1 Tryz.underlying34 rfl (expr_size _ _ _ _ _ _)) rfl ⟨.mk 6 (3 + k2) 0 0 ⟨#[]⟩ ⟨some ⟨b, 0, none⟩, 2⟩ [e1, e2], _, rfl, WX.bin (by omega) (by omega) HW1.out HW2.out, node_fin HNA.out _, f2, f3⟩
 · skip
   go_wp2_with fail
   refine (next_any q n lv ls _ p M.prm _ HS1.out.base.base 10 (by decide) (by decide)).mono ?_
   rintro o W2 ⟨k2, a2, rfl, lo2, hi2, hm, hb⟩
   have HS2 := Lib.hid (HS1.out.next hm hb)
   clear hm hb HS1 m1 v1 y1 z1
   have m2 := HS2.out.boxm
   have v2 := HS2.out.boxw
   have y2 := HS2.out.boxd
   have z2 := HS2.out.base.base.cell 3 rfl
   go_wp2_with fail
   refine (HSUB.out q n lv ls _ p M wh w _ HS2.out wd hwd).mono ?_
   rintro o W3 ⟨e1, a3, rfl, hwx, hnx, hm, hb⟩
   have HW1 := Lib.hid hwx
   have HS3 := Lib.hid hm
   have HN1_3 := Lib.hid hnx
   clear hwx hnx
   clear hm hb HS2 m2 v2 y2 z2
   have m3 := HS3.out.boxm
   have v3 := HS3.out.boxw
   have y3 := HS3.out.boxd
   have z3 := HS3.out.base.base.cell 3 rfl
   go_wp2_with fail
   refine (HSUB.out q n lv ls _ p M wh w _ HS3.out wd hwd).mono ?_
   rintro o W4 ⟨e2, a4, rfl, hwx, hnx, hm, hb⟩
   have HW2 := Lib.hid hwx
   have HS4 := Lib.hid hm
   have HN1_4 := Lib.hid (HN1_3.out.on hb (by have := HS3.out.old; omega))
   have HN2_4 := Lib.hid hnx
   clear hwx hnx
   clear hm hb HS3 m3 v3 y3 z3 HN1_3
   have m4 := HS4.out.boxm
   have v4 := HS4.out.boxw
   have y4 := HS4.out.boxd
   have z4 := HS4.out.base.base.cell 3 rfl
   go_wp2_with fail
   refine (binary29_any (3 + k2) e1 e2 _).mono ?_
   rintro o WA ⟨b, rfl, hb1, hb2, hxb, hba⟩
   have hbm := below_mask (Nat.lt_of_lt_of_le HS4.out.old (Nat.le_trans (Nat.le_add_right _ 4) HS4.out.size)) hba
   have HSA := Lib.hid (HS4.out.on hba)
   have HNA : Hid (NewX (w.heap.size + 4) WA (.mk 6 (3 + k2) 0 0 ⟨#[]⟩ ⟨some ⟨b, 0, none⟩, 2⟩ [e1, e2])) := Lib.hid (newX_node (row_two (enc := ExprV.cells) rfl hxb) (Nat.le_trans HS4.out.size hb1) (fun s hs => by
     simp only [List.mem_cons, List.not_mem_nil, or_false] at hs
     rcases hs with rfl | rfl
     · exact HN1_4.out.on hbm (by have := HS4.out.old; omega)
     · exact HN2_4.out.on hbm (by have := HS4.out.old; omega)) (show (0 : Int) ≤ 6 ∧ (6 : Int) ≤ 255 by decide) ⟨by omega, by omega⟩ (show (0 : Int) ≤ 0 ∧ (0 : Int) ≤ 4294967295 by decide) (show (Lit.int .i64 0).wf = true by decide) (show (⟨#[]⟩ : ByteArray).size ≤ maxLen by decide))
   clear hba hbm hb1 hb2 hxb
   go_wp2_with (first | (refine wpList_store_row rfl 34 _ _ rfl (w.heap.size + 1 + 1 + 1) #[.int .u8 6, .int .u8 (3 + k2), .int .u32 0, .int .i64 0, .string ⟨#[]⟩, .slice (some ⟨b, 0, none⟩) 2 2] (by rfl) (by rfl) 34 zX HSA.out.cr (expr_size _ _ _ _ _ _) (by rfl) (expr_one _ _ _ _ _ _ _ _) ?_) | fail)
   obtain ⟨f1, f2, f3⟩ := HSA.out.fin #[.int .u8 6, .int .u8 (3 + k2), .int .u32 0, .int .i64 0, .string ⟨#[]⟩, .slice (some ⟨b, 0, none⟩) 2 2]
   exact bodyPost_ret (results_cell_row rfl _ _ (w.heap.size + 1 + 1 + 1) 34 _ (0, 0) _ rfl f1 Tryz.underlying34 rfl (expr_size _ _ _ _ _ _)) rfl ⟨.mk 6 (3 + k2) 0 0 ⟨#[]⟩ ⟨some ⟨b, 0, none⟩, 2⟩ [e1, e2], _, rfl, WX.bin (by omega) (by omega) HW1.out HW2.out, node_fin HNA.out _, f2, f3⟩
 · skip
   go_wp2_with fail
   refine (HSUB.out q n lv ls _ p M wh w _ HS1.out 1 ⟨by decide, by decide⟩).mono ?_
   rintro o W2 ⟨e1, a2, rfl, hwx, hnx, hm, hb⟩
   have HW1 := Lib.hid hwx
   have HS2 := Lib.hid hm
   have HN1_2 := Lib.hid hnx
   clear hwx hnx
   clear hm hb HS1 m1 v1 y1 z1
   have m2 := HS2.out.boxm
   have v2 := HS2.out.boxw
   have y2 := HS2.out.boxd
   have z2 := HS2.out.base.base.cell 3 rfl
   go_wp2_with fail
   refine (HSUB.out q n lv ls _ p M wh w _ HS2.out wd hwd).mono ?_
   rintro o W3 ⟨e2, a3, rfl, hwx, hnx, hm, hb⟩
   have HW2 := Lib.hid hwx
   have HS3 := Lib.hid hm
   have HN1_3 := Lib.hid (HN1_2.out.on hb (by have := HS2.out.old; omega))
   have HN2_3 := Lib.hid hnx
   clear hwx hnx
   clear hm hb HS2 m2 v2 y2 z2 HN1_2
   have m3 := HS3.out.boxm
   have v3 := HS3.out.boxw
   have y3 := HS3.out.boxd
   have z3 := HS3.out.base.base.cell 3 rfl
   go_wp2_with fail
   refine (HSUB.out q n lv ls _ p M wh w _ HS3.out wd hwd).mono ?_
   rintro o W4 ⟨e3, a4, rfl, hwx, hnx, hm, hb⟩
   have HW3 := Lib.hid hwx
   have HS4 := Lib.hid hm
   have HN1_4 := Lib.hid (HN1_3.out.on hb (by have := HS3.out.old; omega))
   have HN2_4 := Lib.hid (HN2_3.out.on hb (by have := HS3.out.old; omega))
   have HN3_4 := Lib.hid hnx
   clear hwx hnx
   clear hm hb HS3 m3 v3 y3 z3 HN1_3 HN2_3
   have m4 := HS4.out.boxm
   have v4 := HS4.out.boxw
   have y4 := HS4.out.boxd
   have z4 := HS4.out.base.base.cell 3 rfl
   have hba : Below W4.heap.size W4 (W4.alloc (.cells #[.int .u8 e1.kind, .int .u8 e1.op, .int .u32 e1.value, .int .i64 e1.width, .string e1.name, .slice e1.sp.at_ e1.subs.length e1.sp.cap, .int .u8 e2.kind, .int .u8 e2.op, .int .u32 e2.value, .int .i64 e2.width, .string e2.name, .slice e2.sp.at_ e2.subs.length e2.sp.cap, .int .u8 e3.kind, .int .u8 e3.op, .int .u32 e3.value, .int .i64 e3.width, .string e3.name, .slice e3.sp.at_ e3.subs.length e3.sp.cap] 34)) := (Below.refl _ _).alloc (Nat.le_refl _) _
   have hbm := below_mask (Nat.lt_of_lt_of_le HS4.out.old (Nat.le_trans (Nat.le_add_right _ 4) HS4.out.size)) hba
   have HSA := Lib.hid (HS4.out.on hba)
   have HNA : Hid (NewX (w.heap.size + 4) (W4.alloc (.cells #[.int .u8 e1.kind, .int .u8 e1.op, .int .u32 e1.value, .int .i64 e1.width, .string e1.name, .slice e1.sp.at_ e1.subs.length e1.sp.cap, .int .u8 e2.kind, .int .u8 e2.op, .int .u32 e2.value, .int .i64 e2.width, .string e2.name, .slice e2.sp.at_ e2.subs.length e2.sp.cap, .int .u8 e3.kind, .int .u8 e3.op, .int .u32 e3.value, .int .i64 e3.width, .string e3.name, .slice e3.sp.at_ e3.subs.length e3.sp.cap] 34)) (.mk 7 0 0 0 ⟨#[]⟩ ⟨some ⟨W4.heap.size, 0, none⟩, 3⟩ [e1, e2, e3])) := Lib.hid (newX_node (row_list (t := 34) (fr := (0, 0)) (fun _ => rfl) rfl (by simp) (World.alloc_heap_new W4 (.cells #[.int .u8 e1.kind, .int .u8 e1.op, .int .u32 e1.value, .int .i64 e1.width, .string e1.name, .slice e1.sp.at_ e1.subs.length e1.sp.cap, .int .u8 e2.kind, .int .u8 e2.op, .int .u32 e2.value, .int .i64 e2.width, .string e2.name, .slice e2.sp.at_ e2.subs.length e2.sp.cap, .int .u8 e3.kind, .int .u8 e3.op, .int .u32 e3.value, .int .i64 e3.width, .string e3.name, .slice e3.sp.at_ e3.subs.length e3.sp.cap] 34))) HS4.out.size (fun s hs => by
     simp only [List.mem_cons, List.not_mem_nil, or_false] at hs
     rcases hs with rfl | rfl | rfl
     · exact HN1_4.out.on hbm (by have := HS4.out.old; omega)
     · exact HN2_4.out.on hbm (by have := HS4.out.old; omega)
     · exact HN3_4.out.on hbm (by have := HS4.out.old; omega)) (show (0 : Int) ≤ 7 ∧ (7 : Int) ≤ 255 by decide) (show (0 : Int) ≤ 0 ∧ (0 : Int) ≤ 255 by decide) (show (0 : Int) ≤ 0 ∧ (0 : Int) ≤ 4294967295 by decide) (show (Lit.int .i64 0).wf = true by decide) (show (⟨#[]⟩ : ByteArray).size ≤ maxLen by decide))
   clear hba hbm
   go_wp2_with (first | (refine wpList_store_row rfl 34 _ _ rfl (w.heap.size + 1 + 1 + 1) #[.int .u8 7, .int .u8 0, .int .u32 0, .int .i64 0, .string ⟨#[]⟩, .slice (some ⟨W4.heap.size, 0, none⟩) 3 3] (by rfl) (by rfl) 34 zX HSA.out.cr (expr_size _ _ _ _ _ _) (by rfl) (expr_one _ _ _ _ _ _ _ _) ?_) | fail)
   obtain ⟨f1, f2, f3⟩ := HSA.out.fin #[.int .u8 7, .int .u8 0, .int .u32 0, .int .i64 0, .string ⟨#[]⟩, .slice (some ⟨W4.heap.size, 0, none⟩) 3 3]
   exact bodyPost_ret (results_cell_row rfl _ _ (w.heap.size + 1 + 1 + 1) 34 _ (0, 0) _ rfl f1 Tryz.underlying34 rfl (expr_size _ _ _ _ _ _)) rfl ⟨.mk 7 0 0 0 ⟨#[]⟩ ⟨some ⟨W4.heap.size, 0, none⟩, 3⟩ [e1, e2, e3], _, rfl, WX.mux HW1.out HW2.out HW3.out, node_fin HNA.out _, f2, f3⟩
 · skip
   go_wp2_with fail
   refine (next_any q n lv ls _ p M.prm _ HS1.out.base.base 2 (by decide) (by decide)).mono ?_
   rintro o W2 ⟨k2, a2, rfl, lo2, hi2, hm, hb⟩
   have HS2 := Lib.hid (HS1.out.next hm hb)
   clear hm hb HS1 m1 v1 y1 z1
   have m2 := HS2.out.boxm
   have v2 := HS2.out.boxw
   have y2 := HS2.out.boxd
   have z2 := HS2.out.base.base.cell 3 rfl
   have hk2 : k2 = 0 ∨ k2 = 1 := by omega
   clear lo2 hi2
   rcases hk2 with rfl | rfl
   · skip
     go_wp2_with fail
     refine (next_any q n lv ls _ p M.prm _ HS2.out.base.base 2 (by decide) (by decide)).mono ?_
     rintro o W3 ⟨k3, a3, rfl, lo3, hi3, hm, hb⟩
     have HS3 := Lib.hid (HS2.out.next hm hb)
     clear hm hb HS2 m2 v2 y2 z2
     have m3 := HS3.out.boxm
     have v3 := HS3.out.boxw
     have y3 := HS3.out.boxd
     have z3 := HS3.out.base.base.cell 3 rfl
     go_wp2_with fail
     refine (HSUB.out q n lv ls _ p M wh w _ HS3.out wd hwd).mono ?_
     rintro o W4 ⟨e1, a4, rfl, hwx, hnx, hm, hb⟩
     have HW1 := Lib.hid hwx
     have HS4 := Lib.hid hm
     have HN1_4 := Lib.hid hnx
     clear hwx hnx
     clear hm hb HS3 m3 v3 y3 z3
     have m4 := HS4.out.boxm
     have v4 := HS4.out.boxw
     have y4 := HS4.out.boxd
     have z4 := HS4.out.base.base.cell 3 rfl
     have hba : Below W4.heap.size W4 (W4.alloc (.cells #[.int .u8 e1.kind, .int .u8 e1.op, .int .u32 e1.value, .int .i64 e1.width, .string e1.name, .slice e1.sp.at_ e1.subs.length e1.sp.cap] 34)) := (Below.refl _ _).alloc (Nat.le_refl _) _
     have hbm := below_mask (Nat.lt_of_lt_of_le HS4.out.old (Nat.le_trans (Nat.le_add_right _ 4) HS4.out.size)) hba
     have HSA := Lib.hid (HS4.out.on hba)
     have HNA : Hid (NewX (w.heap.size + 4) (W4.alloc (.cells #[.int .u8 e1.kind, .int .u8 e1.op, .int .u32 e1.value, .int .i64 e1.width, .string e1.name, .slice e1.sp.at_ e1.subs.length e1.sp.cap] 34)) (.mk 5 (1 + k3) 0 0 ⟨#[]⟩ ⟨some ⟨W4.heap.size, 0, none⟩, 1⟩ [e1])) := Lib.hid (newX_node (row_list (t := 34) (fr := (0, 0)) (fun _ => rfl) rfl (by simp) (World.alloc_heap_new W4 (.cells #[.int .u8 e1.kind, .int .u8 e1.op, .int .u32 e1.value, .int .i64 e1.width, .string e1.name, .slice e1.sp.at_ e1.subs.length e1.sp.cap] 34))) HS4.out.size (fun s hs => by
       simp only [List.mem_cons, List.not_mem_nil, or_false] at hs
       rw [hs]; exact HN1_4.out.on hbm (by have := HS4.out.old; omega)) (show (0 : Int) ≤ 5 ∧ (5 : Int) ≤ 255 by decide) ⟨by omega, by omega⟩ (show (0 : Int) ≤ 0 ∧ (0 : Int) ≤ 4294967295 by decide) (show (Lit.int .i64 0).wf = true by decide) (show (⟨#[]⟩ : ByteArray).size ≤ maxLen by decide))
     clear hba hbm
     go_wp2_with (first | (refine wpList_store_row rfl 34 _ _ rfl (w.heap.size + 1 + 1 + 1) #[.int .u8 5, .int .u8 (1 + k3), .int .u32 0, .int .i64 0, .string ⟨#[]⟩, .slice (some ⟨W4.heap.size, 0, none⟩) 1 1] (by rfl) (by rfl) 34 zX HSA.out.cr (expr_size _ _ _ _ _ _) (by rfl) (expr_one _ _ _ _ _ _ _ _) ?_) | fail)
     obtain ⟨f1, f2, f3⟩ := HSA.out.fin #[.int .u8 5, .int .u8 (1 + k3), .int .u32 0, .int .i64 0, .string ⟨#[]⟩, .slice (some ⟨W4.heap.size, 0, none⟩) 1 1]
     exact bodyPost_ret (results_cell_row rfl _ _ (w.heap.size + 1 + 1 + 1) 34 _ (0, 0) _ rfl f1 Tryz.underlying34 rfl (expr_size _ _ _ _ _ _)) rfl ⟨.mk 5 (1 + k3) 0 0 ⟨#[]⟩ ⟨some ⟨W4.heap.size, 0, none⟩, 1⟩ [e1], _, rfl, WX.un (by omega) (by omega) HW1.out, node_fin HNA.out _, f2, f3⟩
   · skip
     go_wp2_with fail
     refine (next_any q n lv ls _ p M.prm _ HS2.out.base.base 3 (by decide) (by decide)).mono ?_
     rintro o W3 ⟨k3, a3, rfl, lo3, hi3, hm, hb⟩
     have HS3 := Lib.hid (HS2.out.next hm hb)
     clear hm hb HS2 m2 v2 y2 z2
     have m3 := HS3.out.boxm
     have v3 := HS3.out.boxw
     have y3 := HS3.out.boxd
     have z3 := HS3.out.base.base.cell 3 rfl
     have hwd2 : 1 ≤ 1 + k3 ∧ 1 + k3 ≤ 3 := by omega
     go_wp2_with fail
     refine (HSUB.out q n lv ls _ p M wh w _ HS3.out (1 + k3) hwd2).mono ?_
     rintro o W4 ⟨e1, a4, rfl, hwx, hnx, hm, hb⟩
     have HW1 := Lib.hid hwx
     have HS4 := Lib.hid hm
     have HN1_4 := Lib.hid hnx
     clear hwx hnx
     clear hm hb HS3 m3 v3 y3 z3
     have m4 := HS4.out.boxm
     have v4 := HS4.out.boxw
     have y4 := HS4.out.boxd
     have z4 := HS4.out.base.base.cell 3 rfl
     have hba : Below W4.heap.size W4 (W4.alloc (.cells #[.int .u8 e1.kind, .int .u8 e1.op, .int .u32 e1.value, .int .i64 e1.width, .string e1.name, .slice e1.sp.at_ e1.subs.length e1.sp.cap] 34)) := (Below.refl _ _).alloc (Nat.le_refl _) _
     have hbm := below_mask (Nat.lt_of_lt_of_le HS4.out.old (Nat.le_trans (Nat.le_add_right _ 4) HS4.out.size)) hba
     have HSA := Lib.hid (HS4.out.on hba)
     have HNA : Hid (NewX (w.heap.size + 4) (W4.alloc (.cells #[.int .u8 e1.kind, .int .u8 e1.op, .int .u32 e1.value, .int .i64 e1.width, .string e1.name, .slice e1.sp.at_ e1.subs.length e1.sp.cap] 34)) (.mk 8 0 0 wd ⟨#[]⟩ ⟨some ⟨W4.heap.size, 0, none⟩, 1⟩ [e1])) := Lib.hid (newX_node (row_list (t := 34) (fr := (0, 0)) (fun _ => rfl) rfl (by simp) (World.alloc_heap_new W4 (.cells #[.int .u8 e1.kind, .int .u8 e1.op, .int .u32 e1.value, .int .i64 e1.width, .string e1.name, .slice e1.sp.at_ e1.subs.length e1.sp.cap] 34))) HS4.out.size (fun s hs => by
       simp only [List.mem_cons, List.not_mem_nil, or_false] at hs
       rw [hs]; exact HN1_4.out.on hbm (by have := HS4.out.old; omega)) (show (0 : Int) ≤ 8 ∧ (8 : Int) ≤ 255 by decide) (show (0 : Int) ≤ 0 ∧ (0 : Int) ≤ 255 by decide) (show (0 : Int) ≤ 0 ∧ (0 : Int) ≤ 4294967295 by decide) (wf_small hwd) (show (⟨#[]⟩ : ByteArray).size ≤ maxLen by decide))
     clear hba hbm
     go_wp2_with (first | (refine wpList_store_row rfl 34 _ _ rfl (w.heap.size + 1 + 1 + 1) #[.int .u8 8, .int .u8 0, .int .u32 0, .int .i64 wd, .string ⟨#[]⟩, .slice (some ⟨W4.heap.size, 0, none⟩) 1 1] (by rfl) (by rfl) 34 zX HSA.out.cr (expr_size _ _ _ _ _ _) (by rfl) (expr_one _ _ _ _ _ _ _ _) ?_) | fail)
     obtain ⟨f1, f2, f3⟩ := HSA.out.fin #[.int .u8 8, .int .u8 0, .int .u32 0, .int .i64 wd, .string ⟨#[]⟩, .slice (some ⟨W4.heap.size, 0, none⟩) 1 1]
     exact bodyPost_ret (results_cell_row rfl _ _ (w.heap.size + 1 + 1 + 1) 34 _ (0, 0) _ rfl f1 Tryz.underlying34 rfl (expr_size _ _ _ _ _ _)) rfl ⟨.mk 8 0 0 wd ⟨#[]⟩ ⟨some ⟨W4.heap.size, 0, none⟩, 1⟩ [e1], _, rfl, WX.cast hwd.1 (by omega) HW1.out, node_fin HNA.out _, f2, f3⟩
 · by_cases h1 : wd = p.width
   · by_cases h2 : wh = 1
     · have hd1 : (wd == p.width) = true := by simp [h1]
       have hd2 : (wh != 1) = false := by simp [h2]
       clear h1 h2
       go_wp2_with fail
       refine (leaf_any q n lv ls _ p M _ HS1.out.base wd wh hwd).mono ?_
       rintro o WA ⟨e, aA, rfl, hwx, hnx, hm, hb⟩
       have HSA := Lib.hid (HS1.out.next hm hb)
       have HWX := Lib.hid (hwx.rise (d + 1))
       have HNA : Hid (NewX (w.heap.size + 4) WA e) := Lib.hid ((hnx _).more (Nat.zero_le _))
       clear hm hb hwx hnx
       simp only [ExprV.val, Sp.val]
       go_wp2_with (first | (refine wpList_store_row rfl 34 _ _ rfl (w.heap.size + 1 + 1 + 1) #[.int .u8 e.kind, .int .u8 e.op, .int .u32 e.value, .int .i64 e.width, .string e.name, .slice e.sp.at_ e.subs.length e.sp.cap] (by rfl) (by rfl) 34 zX HSA.out.cr (expr_size _ _ _ _ _ _) (by rfl) (expr_one _ _ _ _ _ _ _ _) ?_) | fail)
       obtain ⟨f1, f2, f3⟩ := HSA.out.fin #[.int .u8 e.kind, .int .u8 e.op, .int .u32 e.value, .int .i64 e.width, .string e.name, .slice e.sp.at_ e.subs.length e.sp.cap]
       exact bodyPost_ret (results_cell_row rfl _ _ (w.heap.size + 1 + 1 + 1) 34 _ (0, 0) _ rfl f1 Tryz.underlying34 rfl (expr_size _ _ _ _ _ _)) rfl ⟨e, _, rfl, HWX.out, node_fin HNA.out _, f2, f3⟩
     · have hd1 : (wd == p.width) = true := by simp [h1]
       have hd2 : (wh != 1) = true := by simp [h2]
       have HNE := Lib.hid h2
       have HEQ : Hid (M.w = wd) := Lib.hid (by rw [← HWT.out, h1])
       clear h1 h2
       go_wp2_with fail
       refine (HSUB.out q n lv ls _ p M wh w _ HS1.out 2 ⟨by decide, by decide⟩).mono ?_
       rintro o W2 ⟨e1, a2, rfl, hwx, hnx, hm, hb⟩
       have HW1 := Lib.hid hwx
       have HS2 := Lib.hid hm
       have HN1_2 := Lib.hid hnx
       clear hwx hnx
       clear hm hb HS1 m1 v1 y1 z1
       have m2 := HS2.out.boxm
       have v2 := HS2.out.boxw
       have y2 := HS2.out.boxd
       have z2 := HS2.out.base.base.cell 3 rfl
       have hba : Below W2.heap.size W2 (W2.alloc (.cells #[.int .u8 e1.kind, .int .u8 e1.op, .int .u32 e1.value, .int .i64 e1.width, .string e1.name, .slice e1.sp.at_ e1.subs.length e1.sp.cap] 34)) := (Below.refl _ _).alloc (Nat.le_refl _) _
       have hbm := below_mask (Nat.lt_of_lt_of_le HS2.out.old (Nat.le_trans (Nat.le_add_right _ 4) HS2.out.size)) hba
       have HSA := Lib.hid (HS2.out.on hba)
       have HNA : Hid (NewX (w.heap.size + 4) (W2.alloc (.cells #[.int .u8 e1.kind, .int .u8 e1.op, .int .u32 e1.value, .int .i64 e1.width, .string e1.name, .slice e1.sp.at_ e1.subs.length e1.sp.cap] 34)) (.mk 4 0 0 0 ⟨#[]⟩ ⟨some ⟨W2.heap.size, 0, none⟩, 1⟩ [e1])) := Lib.hid (newX_node (row_list (t := 34) (fr := (0, 0)) (fun _ => rfl) rfl (by simp) (World.alloc_heap_new W2 (.cells #[.int .u8 e1.kind, .int .u8 e1.op, .int .u32 e1.value, .int .i64 e1.width, .string e1.name, .slice e1.sp.at_ e1.subs.length e1.sp.cap] 34))) HS2.out.size (fun s hs => by
         simp only [List.mem_cons, List.not_mem_nil, or_false] at hs
         rw [hs]; exact HN1_2.out.on hbm (by have := HS2.out.old; omega)) (show (0 : Int) ≤ 4 ∧ (4 : Int) ≤ 255 by decide) (show (0 : Int) ≤ 0 ∧ (0 : Int) ≤ 255 by decide) (show (0 : Int) ≤ 0 ∧ (0 : Int) ≤ 4294967295 by decide) (show (Lit.int .i64 0).wf = true by decide) (show (⟨#[]⟩ : ByteArray).size ≤ maxLen by decide))
       clear hba hbm
       go_wp2_with (first | (refine wpList_store_row rfl 34 _ _ rfl (w.heap.size + 1 + 1 + 1) #[.int .u8 4, .int .u8 0, .int .u32 0, .int .i64 0, .string ⟨#[]⟩, .slice (some ⟨W2.heap.size, 0, none⟩) 1 1] (by rfl) (by rfl) 34 zX HSA.out.cr (expr_size _ _ _ _ _ _) (by rfl) (expr_one _ _ _ _ _ _ _ _) ?_) | fail)
       obtain ⟨f1, f2, f3⟩ := HSA.out.fin #[.int .u8 4, .int .u8 0, .int .u32 0, .int .i64 0, .string ⟨#[]⟩, .slice (some ⟨W2.heap.size, 0, none⟩) 1 1]
       exact bodyPost_ret (results_cell_row rfl _ _ (w.heap.size + 1 + 1 + 1) 34 _ (0, 0) _ rfl f1 Tryz.underlying34 rfl (expr_size _ _ _ _ _ _)) rfl ⟨.mk 4 0 0 0 ⟨#[]⟩ ⟨some ⟨W2.heap.size, 0, none⟩, 1⟩ [e1], _, rfl, (HEQ.out ▸ WX.disk HNE.out HW1.out), node_fin HNA.out _, f2, f3⟩
   · have hd1 : (wd == p.width) = false := by simp [h1]
     clear h1
     go_wp2_with fail
     refine (leaf_any q n lv ls _ p M _ HS1.out.base wd wh hwd).mono ?_
     rintro o WA ⟨e, aA, rfl, hwx, hnx, hm, hb⟩
     have HSA := Lib.hid (HS1.out.next hm hb)
     have HWX := Lib.hid (hwx.rise (d + 1))
     have HNA : Hid (NewX (w.heap.size + 4) WA e) := Lib.hid ((hnx _).more (Nat.zero_le _))
     clear hm hb hwx hnx
     simp only [ExprV.val, Sp.val]
     go_wp2_with (first | (refine wpList_store_row rfl 34 _ _ rfl (w.heap.size + 1 + 1 + 1) #[.int .u8 e.kind, .int .u8 e.op, .int .u32 e.value, .int .i64 e.width, .string e.name, .slice e.sp.at_ e.subs.length e.sp.cap] (by rfl) (by rfl) 34 zX HSA.out.cr (expr_size _ _ _ _ _ _) (by rfl) (expr_one _ _ _ _ _ _ _ _) ?_) | fail)
     obtain ⟨f1, f2, f3⟩ := HSA.out.fin #[.int .u8 e.kind, .int .u8 e.op, .int .u32 e.value, .int .i64 e.width, .string e.name, .slice e.sp.at_ e.subs.length e.sp.cap]
     exact bodyPost_ret (results_cell_row rfl _ _ (w.heap.size + 1 + 1 + 1) 34 _ (0, 0) _ rfl f1 Tryz.underlying34 rfl (expr_size _ _ _ _ _ _)) rfl ⟨e, _, rfl, HWX.out, node_fin HNA.out _, f2, f3⟩
 · by_cases h1 : wd = p.width
   · by_cases h2 : wh = 0
     · have hd1 : (wd == p.width) = true := by simp [h1]
       have hd2 : (wh == 0) = true := by simp [h2]
       have HNE := Lib.hid h2
       have HEQ : Hid (M.w = wd) := Lib.hid (by rw [← HWT.out, h1])
       have HNA0 : Hid (M.N.a = ⟨#[97]⟩) := Lib.hid (by rw [HS1.out.base.std]; rfl)
       clear h1 h2
       go_wp2_with fail
       refine (HSUB.out q n lv ls _ p M wh w _ HS1.out 2 ⟨by decide, by decide⟩).mono ?_
       rintro o W2 ⟨e1, a2, rfl, hwx, hnx, hm, hb⟩
       have HW1 := Lib.hid hwx
       have HS2 := Lib.hid hm
       have HN1_2 := Lib.hid hnx
       clear hwx hnx
       clear hm hb HS1 m1 v1 y1 z1
       have m2 := HS2.out.boxm
       have v2 := HS2.out.boxw
       have y2 := HS2.out.boxd
       have z2 := HS2.out.base.base.cell 3 rfl
       have hba : Below W2.heap.size W2 (W2.alloc (.cells #[.int .u8 e1.kind, .int .u8 e1.op, .int .u32 e1.value, .int .i64 e1.width, .string e1.name, .slice e1.sp.at_ e1.subs.length e1.sp.cap] 34)) := (Below.refl _ _).alloc (Nat.le_refl _) _
       have hbm := below_mask (Nat.lt_of_lt_of_le HS2.out.old (Nat.le_trans (Nat.le_add_right _ 4) HS2.out.size)) hba
       have HSA := Lib.hid (HS2.out.on hba)
       have HNA : Hid (NewX (w.heap.size + 4) (W2.alloc (.cells #[.int .u8 e1.kind, .int .u8 e1.op, .int .u32 e1.value, .int .i64 e1.width, .string e1.name, .slice e1.sp.at_ e1.subs.length e1.sp.cap] 34)) (.mk 3 0 0 0 ⟨#[97]⟩ ⟨some ⟨W2.heap.size, 0, none⟩, 1⟩ [e1])) := Lib.hid (newX_node (row_list (t := 34) (fr := (0, 0)) (fun _ => rfl) rfl (by simp) (World.alloc_heap_new W2 (.cells #[.int .u8 e1.kind, .int .u8 e1.op, .int .u32 e1.value, .int .i64 e1.width, .string e1.name, .slice e1.sp.at_ e1.subs.length e1.sp.cap] 34))) HS2.out.size (fun s hs => by
         simp only [List.mem_cons, List.not_mem_nil, or_false] at hs
         rw [hs]; exact HN1_2.out.on hbm (by have := HS2.out.old; omega)) (show (0 : Int) ≤ 3 ∧ (3 : Int) ≤ 255 by decide) (show (0 : Int) ≤ 0 ∧ (0 : Int) ≤ 255 by decide) (show (0 : Int) ≤ 0 ∧ (0 : Int) ≤ 4294967295 by decide) (show (Lit.int .i64 0).wf = true by decide) (show (⟨#[97]⟩ : ByteArray).size ≤ maxLen by decide))
       clear hba hbm
       go_wp2_with (first | (refine wpList_store_row rfl 34 _ _ rfl (w.heap.size + 1 + 1 + 1) #[.int .u8 3, .int .u8 0, .int .u32 0, .int .i64 0, .string ⟨#[97]⟩, .slice (some ⟨W2.heap.size, 0, none⟩) 1 1] (by rfl) (by rfl) 34 zX HSA.out.cr (expr_size _ _ _ _ _ _) (by rfl) (expr_one _ _ _ _ _ _ _ _) ?_) | fail)
       obtain ⟨f1, f2, f3⟩ := HSA.out.fin #[.int .u8 3, .int .u8 0, .int .u32 0, .int .i64 0, .string ⟨#[97]⟩, .slice (some ⟨W2.heap.size, 0, none⟩) 1 1]
       exact bodyPost_ret (results_cell_row rfl _ _ (w.heap.size + 1 + 1 + 1) 34 _ (0, 0) _ rfl f1 Tryz.underlying34 rfl (expr_size _ _ _ _ _ _)) rfl ⟨.mk 3 0 0 0 ⟨#[97]⟩ ⟨some ⟨W2.heap.size, 0, none⟩, 1⟩ [e1], _, rfl, (HEQ.out ▸ HNA0.out ▸ WX.elem HNE.out HW1.out), node_fin HNA.out _, f2, f3⟩
     · have hd1 : (wd == p.width) = true := by simp [h1]
       have hd2 : (wh == 0) = false := by simp [h2]
       clear h1 h2
       go_wp2_with fail
       refine (leaf_any q n lv ls _ p M _ HS1.out.base wd wh hwd).mono ?_
       rintro o WA ⟨e, aA, rfl, hwx, hnx, hm, hb⟩
       have HSA := Lib.hid (HS1.out.next hm hb)
       have HWX := Lib.hid (hwx.rise (d + 1))
       have HNA : Hid (NewX (w.heap.size + 4) WA e) := Lib.hid ((hnx _).more (Nat.zero_le _))
       clear hm hb hwx hnx
       simp only [ExprV.val, Sp.val]
       go_wp2_with (first | (refine wpList_store_row rfl 34 _ _ rfl (w.heap.size + 1 + 1 + 1) #[.int .u8 e.kind, .int .u8 e.op, .int .u32 e.value, .int .i64 e.width, .string e.name, .slice e.sp.at_ e.subs.length e.sp.cap] (by rfl) (by rfl) 34 zX HSA.out.cr (expr_size _ _ _ _ _ _) (by rfl) (expr_one _ _ _ _ _ _ _ _) ?_) | fail)
       obtain ⟨f1, f2, f3⟩ := HSA.out.fin #[.int .u8 e.kind, .int .u8 e.op, .int .u32 e.value, .int .i64 e.width, .string e.name, .slice e.sp.at_ e.subs.length e.sp.cap]
       exact bodyPost_ret (results_cell_row rfl _ _ (w.heap.size + 1 + 1 + 1) 34 _ (0, 0) _ rfl f1 Tryz.underlying34 rfl (expr_size _ _ _ _ _ _)) rfl ⟨e, _, rfl, HWX.out, node_fin HNA.out _, f2, f3⟩
   · have hd1 : (wd == p.width) = false := by simp [h1]
     clear h1
     go_wp2_with fail
     refine (leaf_any q n lv ls _ p M _ HS1.out.base wd wh hwd).mono ?_
     rintro o WA ⟨e, aA, rfl, hwx, hnx, hm, hb⟩
     have HSA := Lib.hid (HS1.out.next hm hb)
     have HWX := Lib.hid (hwx.rise (d + 1))
     have HNA : Hid (NewX (w.heap.size + 4) WA e) := Lib.hid ((hnx _).more (Nat.zero_le _))
     clear hm hb hwx hnx
     simp only [ExprV.val, Sp.val]
     go_wp2_with (first | (refine wpList_store_row rfl 34 _ _ rfl (w.heap.size + 1 + 1 + 1) #[.int .u8 e.kind, .int .u8 e.op, .int .u32 e.value, .int .i64 e.width, .string e.name, .slice e.sp.at_ e.subs.length e.sp.cap] (by rfl) (by rfl) 34 zX HSA.out.cr (expr_size _ _ _ _ _ _) (by rfl) (expr_one _ _ _ _ _ _ _ _) ?_) | fail)
     obtain ⟨f1, f2, f3⟩ := HSA.out.fin #[.int .u8 e.kind, .int .u8 e.op, .int .u32 e.value, .int .i64 e.width, .string e.name, .slice e.sp.at_ e.subs.length e.sp.cap]
     exact bodyPost_ret (results_cell_row rfl _ _ (w.heap.size + 1 + 1 + 1) 34 _ (0, 0) _ rfl f1 Tryz.underlying34 rfl (expr_size _ _ _ _ _ _)) rfl ⟨e, _, rfl, HWX.out, node_fin HNA.out _, f2, f3⟩
theorem expr_ok (d : Nat) (hd : d ≤ 11) : ExprOkM d := by
 induction d with
 | zero => exact expr_zero
 | succ d ih => exact expr_succ (by omega) (ih (by omega))
end Go.Proofs.YthcboallnbaimaaGreatDoor
namespace Go.Proofs.YthcboallnbaimaaGreatDoor
open Go Go.RowKit Go.Maps
theorem WX.up {M : MkE} {wh : Int} {d : Nat} {wd : Int} {e : ExprV} (h : WX M wh d wd e) : WX M wh (d + 1) wd e := by
 induction h with
 | num h1 h2 h3 h4 => exact .num h1 h2 h3 h4
 | var h1 => exact .var h1
 | cmp h1 h2 _ _ i1 i2 => exact .cmp h1 h2 i1 i2
 | bin h1 h2 _ _ i1 i2 => exact .bin h1 h2 i1 i2
 | mux _ _ _ i1 i2 i3 => exact .mux i1 i2 i3
 | un h1 h2 _ i => exact .un h1 h2 i
 | cast h1 h2 _ i => exact .cast h1 h2 i
 | disk h1 _ i => exact .disk h1 i
 | elem h1 _ i => exact .elem h1 i
theorem RowOf.low' {α : Type} {n k lo : Nat} {W : World} {sp : Sp} {enc : α → List Value} {l : List α} (h : RowOf n W sp k enc l) (hb : ∀ a, sp.at_ = some a → lo ≤ a.block) : RowOf n (lowm lo W) sp k enc l :=
 ⟨h.cap, h.big, h.few, fun h0 => by
   obtain ⟨b, off, e, hlt, hc⟩ := h.row h0
   exact ⟨b, off, e, hlt, fun j hj r u hu => lowm_cell.2 ⟨(by have := hb _ e; exact this), hc j hj r u hu⟩⟩⟩
theorem own_newTs {lo : Nat} {W : World} {A : Option Addr} {n c : Nat} {l : List StmtV} (h : OwnL lo W 49 6 StmtV.cells (.slice A n c) l) (hs : ∀ s, s ∈ l → NewT lo W s) (hl : l.length ≤ 1000) : NewTs lo W ⟨A, c⟩ l := by
 obtain ⟨sp, e, hr, hb⟩ := h.row (fun _ => rfl) (by omega)
 have : sp = ⟨A, c⟩ := by
   unfold Sp.val at e
   injection e with e1 e2 e3
   rw [e1, e3]
 subst this
 exact ⟨hr.low' fun a ha => (hb a ha).1, hs⟩
theorem newT_node {lo : Nat} {W : World} {k bd : Int} {nm : ByteArray} {es ts os : Sp} {ex : List ExprV} {th el : List StmtV} (he : RowOf W.heap.size (lowm lo W) es 6 ExprV.cells ex) (hx : ∀ e, e ∈ ex → NewX lo W e) (ht : NewTs lo W ts th) (ho : NewTs lo W os el) (hk : 0 ≤ k ∧ k ≤ 255) (hb : (Lit.int .i64 bd).wf = true) (hn : nm.size ≤ maxLen) : NewT lo W (.mk k nm es ex bd ts th os el) :=
 .mk _ hk hb hn he hx ht.1 ht.2 ho.1 ho.2
theorem newTs_nil {lo : Nat} {W : World} : NewTs lo W Sp.none [] := ⟨RowOf.nil, fun _ h => absurd h (by simp)⟩
theorem NewT.set {lo g : Nat} {W : World} {s : StmtV} {cs : Array Value} (h : NewT lo W s) (hg : g < lo) : NewT lo (W.setRow g cs) s := by
 unfold NewT; rw [size_setRow]; exact RdT.cells h (keeps_set hg)
theorem NewT.below {lo : Nat} {W W' : World} {s : StmtV} (h : NewT lo W s) (hb : Below W.heap.size W W') : NewT lo W' s :=
 (RdT.cells h fun _ _ hp hc => lowm_cell.2 ⟨(lowm_cell.1 hc).1, (hb.cell hp).trans (lowm_cell.1 hc).2⟩).more hb.size
theorem NewX.below {lo : Nat} {W W' : World} {s : ExprV} (h : NewX lo W s) (hb : Below W.heap.size W W') : NewX lo W' s :=
 (RdX.cells h fun _ _ hp hc => lowm_cell.2 ⟨(lowm_cell.1 hc).1, (hb.cell hp).trans (lowm_cell.1 hc).2⟩).more hb.size
theorem NewTs.below {lo : Nat} {W W' : World} {sp : Sp} {l : List StmtV} (h : NewTs lo W sp l) (hb : Below W.heap.size W W') : NewTs lo W' sp l :=
 ⟨(h.1.cells fun _ _ hp hc => lowm_cell.2 ⟨(lowm_cell.1 hc).1, (hb.cell hp).trans (lowm_cell.1 hc).2⟩).more hb.size, fun s hs => (h.2 s hs).below hb⟩
def zT : Array Value := #[.int .u8 0, .string ⟨#[]⟩, .slice none 0 0, .int .i64 0, .slice none 0 0, .slice none 0 0]
theorem stmt_size (a b : Int) (s : ByteArray) (x y z : Value) : (Tryz.prog.info? 49).map (·.size) = some (#[Value.int .u8 a, .string s, x, .int .i64 b, y, z] : Array Value).size := by kernel_rfl
theorem stmt_one (a b : Int) (s : ByteArray) (A1 A2 A3 : Option Addr) (n1 c1 n2 c2 n3 c3 : Nat) : (#[Value.int .u8 a, .string s, .slice A1 n1 c1, .int .i64 b, .slice A2 n2 c2, .slice A3 n3 c3] : Array Value).all (·.oneCell') = true := by kernel_rfl
/-- What a round of stmts keeps: the statement's block is the first of the round. -/
structure StS (q n : Nat) (lv : Sp) (ls : List Int) (at_ : Nat) (p : ProgV) (M : MkE) (w W : World) : Prop where
 base : MkR q n lv ls at_ p M W
 old : q < w.heap.size
 oldn : n ≤ w.heap.size
 low : Below w.heap.size (mask q w) (mask q W)
 cr : W.heap[w.heap.size]? = some (.cells zT 49 (0, 0))
section
variable {q n : Nat} {lv : Sp} {ls : List Int} {at_ at' : Nat} {p : ProgV} {M : MkE} {w W W' : World}
theorem StS.size (h : StS q n lv ls at_ p M w W) : w.heap.size + 1 ≤ W.heap.size := (Array.getElem?_eq_some_iff.1 h.cr).1
theorem StS.lt (h : StS q n lv ls at_ p M w W) : q < W.heap.size := by have := h.size; have := h.old; omega
theorem StS.next (h : StS q n lv ls at_ p M w W) (h0 : Mk0 q n lv ls at' p M.prm W') (hb : Below W.heap.size (mask q W) (mask q W')) : StS q n lv ls at' p M w W' := by
 have hs := h.size
 have ho := h.old
 exact ⟨h.base.next h0 hb, ho, h.oldn, h.low.trans (hb.mono (by omega)), (mask_block hb (by omega) (by omega)).trans h.cr⟩
theorem StS.on (h : StS q n lv ls at_ p M w W) (hb : Below W.heap.size W W') : StS q n lv ls at_ p M w W' := h.next (h.base.base.on hb) (below_mask h.base.base.box_lt hb)
theorem StS.on1 (h : StS q n lv ls at_ p M w W) (hb : Below (w.heap.size + 1) W W') : StS q n lv ls at_ p M w W' :=
 have hn := h.oldn
 have hm := below_mask (B := n) h.base.base.box_lt (hb.mono (by omega))
 ⟨⟨h.base.base.low (hb.mono (by omega)), h.base.ok, h.base.std, h.base.width, h.base.inputs, h.base.ghosts, h.base.vars, h.base.irow.below hm, h.base.grow.below hm, h.base.vrow.below hm⟩, h.old, h.oldn, h.low.trans (below_mask h.lt (hb.mono (Nat.le_succ _))), (hb.block _ (Nat.lt_succ_self _)).trans h.cr⟩
/-- What a round of stmts leaves in its block. -/
structure StE (q n : Nat) (lv : Sp) (ls : List Int) (p : ProgV) (M : MkE) (hasP : Bool) (dp : Nat) (w W : World) : Prop where
 ex : ∃ (s : StmtV) (at_ : Nat), W.heap[w.heap.size]? = some (.cells #[.int .u8 s.kind, .string s.name, .slice s.es.at_ s.exprs.length s.es.cap, .int .i64 s.bound, .slice s.ts.at_ s.thn.length s.ts.cap, .slice s.os.at_ s.els.length s.os.cap] 49 (0, 0)) ∧ WT M hasP dp s ∧ NewT (w.heap.size + 1) W s ∧ MkR q n lv ls at_ p M W
 low : Below w.heap.size (mask q w) (mask q W)
theorem MkR.low (h : MkR q n lv ls at_ p M W) (hb : Below n W W') : MkR q n lv ls at_ p M W' :=
 have hm := below_mask h.base.box_lt hb
 ⟨h.base.low hb, h.ok, h.std, h.width, h.inputs, h.ghosts, h.vars, h.irow.below hm, h.grow.below hm, h.vrow.below hm⟩
theorem StS.fin {hasP : Bool} {dp : Nat} (h : StS q n lv ls at_ p M w W) (s : StmtV) (hw : WT M hasP dp s) (hn : NewT (w.heap.size + 1) W s) {cs : Array Value} (hcs : cs = #[.int .u8 s.kind, .string s.name, .slice s.es.at_ s.exprs.length s.es.cap, .int .i64 s.bound, .slice s.ts.at_ s.thn.length s.ts.cap, .slice s.os.at_ s.els.length s.os.cap]) : StE q n lv ls p M hasP dp w (W.setRow w.heap.size cs) := by
 subst hcs
 have hb := below_setRow (Below.refl w.heap.size W) (Nat.le_refl _) #[.int .u8 s.kind, .string s.name, .slice s.es.at_ s.exprs.length s.es.cap, .int .i64 s.bound, .slice s.ts.at_ s.thn.length s.ts.cap, .slice s.os.at_ s.els.length s.os.cap]
 exact ⟨⟨s, at_, setRow_heap _ _ _ _ _ _ h.cr, hw, hn.set (Nat.lt_succ_self _), h.base.low (hb.mono h.oldn)⟩, h.low.trans (below_mask h.lt hb)⟩
theorem set_row {W : World} {b i : Nat} {t : TypeId} {cs : Array Value} {v : Value} (h : W.heap[b]? = some (.cells cs t (0, 0))) : W.setCell ⟨b, i, none⟩ v = W.setRow b (cs.setIfInBounds i v) := by
 refine heap_ext rfl rfl rfl rfl fun k => ?_
 by_cases hk : k = b
 · subst hk
   rw [setRow_heap _ _ _ _ _ _ h]
   simp [World.setCell, Array.getElem?_modify, h]
 · rw [setRow_other _ _ _ _ hk]
   exact Below.heap_setCell _ _ _ _ hk
theorem row_row {W : World} {b : Nat} {cs ds : Array Value} : (W.setRow b cs).setRow b ds = W.setRow b ds := by
 refine heap_ext rfl rfl rfl rfl fun k => ?_
 simp only [World.setRow, Array.getElem?_modify]
 by_cases hk : b = k
 · simp only [hk, if_true]
   cases W.heap[k]? with
   | none => rfl
   | some o => cases o <;> rfl
 · simp only [hk, if_false]
theorem set_of_row {W : World} {b i : Nat} {t : TypeId} {old cs : Array Value} {v : Value} (h : W.heap[b]? = some (.cells old t (0, 0))) : (W.setRow b cs).setCell ⟨b, i, none⟩ v = W.setRow b (cs.setIfInBounds i v) := by
 rw [set_row (setRow_heap W b old cs t (0, 0) h), row_row]
theorem six_set {W : World} {b : Nat} {t : TypeId} {v0 v1 v2 v3 v4 v5 : Value} (h : W.heap[b]? = some (.cells zT t (0, 0))) : (((((W.setCell ⟨b, 0, none⟩ v0).setCell ⟨b, 1, none⟩ v1).setCell ⟨b, 2, none⟩ v2).setCell ⟨b, 3, none⟩ v3).setCell ⟨b, 4, none⟩ v4).setCell ⟨b, 5, none⟩ v5 = W.setRow b #[v0, v1, v2, v3, v4, v5] := by
 rw [set_row h, set_of_row h, set_of_row h, set_of_row h, set_of_row h, set_of_row h]
 rfl
/-- A statement without anything: its kind alone is stored. -/
theorem StS.fin1 {hasP : Bool} {dp : Nat} (h : StS q n lv ls at_ p M w W) {k : Int} (hk : k = 4 ∨ k = 5) : StE q n lv ls p M hasP dp w (W.setCell ⟨w.heap.size, 0, none⟩ (.int .u8 k)) := by
 have hb := (Below.refl w.heap.size W).setCell (p := ⟨w.heap.size, 0, none⟩) (Nat.le_refl _) (.int .u8 k)
 have hbx : (W.setCell ⟨w.heap.size, 0, none⟩ (.int .u8 k)).heap[w.heap.size]? = some (.cells #[.int .u8 k, .string ⟨#[]⟩, .slice none 0 0, .int .i64 0, .slice none 0 0, .slice none 0 0] 49 (0, 0)) := by
   simp [World.setCell, Array.getElem?_modify, h.cr, zT]
 refine ⟨⟨flushT k, at_, hbx, .flush hk, newT_node RowOf.nil (fun _ h => absurd h (by simp)) newTs_nil newTs_nil (by omega) (show (Lit.int .i64 0).wf = true by decide) (show (0 : Nat) ≤ maxLen by decide), h.base.low (hb.mono h.oldn)⟩, h.low.trans (below_mask h.lt hb)⟩
end
/-- A world without one block, if there is one. -/
def maskO (g : Option Nat) (W : World) : World := match g with | some b => mask b W | none => W
theorem maskO_cell {g : Option Nat} {W : World} {p : Addr} {u : Value} : (maskO g W).cell? p = some u ↔ g ≠ some p.block ∧ W.cell? p = some u := by
 cases g with
 | none => simp [maskO]
 | some b =>
   by_cases h : p.block = b
   · constructor
     · intro hc
       exfalso
       simp only [maskO, World.cell?, h, mask_at] at hc
       split at hc
       · next hh =>
         split at hh
         · cases hh
           split at hc
           · cases hc
           · simp at hc
         · cases hh
       · cases hc
     · rintro ⟨h1, _⟩
       exact absurd (by rw [h]) h1
   · have e : (maskO (some b) W).cell? p = W.cell? p := World.cell?_of_block (mask_heap h)
     rw [e]
     exact ⟨fun hc => ⟨fun e => h (Option.some.inj e).symm, hc⟩, fun hc => hc.2⟩
/-- A statement that lies in blocks from lo on, and not in block g. -/
def NewTx (lo : Nat) (g : Option Nat) (W : World) (s : StmtV) : Prop := RdT W.heap.size (lowm lo (maskO g W)) s
theorem xcell {lo : Nat} {g : Option Nat} {W : World} {p : Addr} {u : Value} : (lowm lo (maskO g W)).cell? p = some u ↔ lo ≤ p.block ∧ g ≠ some p.block ∧ W.cell? p = some u := by rw [lowm_cell, maskO_cell]
section
variable {lo q : Nat} {g : Option Nat} {W W' : World} {s : StmtV}
theorem NewTx.newT (h : NewTx lo g W s) : NewT lo W s := RdT.cells h fun _ _ _ hc => lowm_cell.2 ⟨(xcell.1 hc).1, (xcell.1 hc).2.2⟩
theorem NewTx.on (h : NewTx lo g W s) (hb : Below W.heap.size (mask q W) (mask q W')) (hq : q < lo) : NewTx lo g W' s :=
 (RdT.cells h fun p u hp hc => by
   obtain ⟨h1, h2, h3⟩ := xcell.1 hc
   exact xcell.2 ⟨h1, h2, (World.cell?_of_block (mask_block hb hp (by omega))).trans h3⟩).more (size_mask hb)
theorem NewTx.below (h : NewTx lo g W s) (hb : Below W.heap.size W W') : NewTx lo g W' s :=
 (RdT.cells h fun _ _ hp hc => xcell.2 ⟨(xcell.1 hc).1, (xcell.1 hc).2.1, (hb.cell hp).trans (xcell.1 hc).2.2⟩).more hb.size
theorem NewTx.less {lo' : Nat} (h : NewTx lo g W s) (hl : lo' ≤ lo) : NewTx lo' g W s :=
 RdT.cells h fun _ _ _ hc => xcell.2 ⟨by have := (xcell.1 hc).1; omega, (xcell.1 hc).2⟩
theorem NewTx.grow {g' : Option Nat} (h : NewTx lo g W s) (hg : W.grownBy W' g) (hat : g' = g ∨ g' = some W.heap.size) : NewTx lo g' W' s :=
 (RdT.cells h fun p u hp hc => by
   obtain ⟨h1, h2, h3⟩ := xcell.1 hc
   refine xcell.2 ⟨h1, ?_, (World.cell?_of_block (hg.block _ hp (fun e => h2 e.symm))).trans h3⟩
   rcases hat with rfl | rfl
   · exact h2
   · intro e
     have := Option.some.inj e
     omega).more hg.size
theorem NewT.tox {lo' : Nat} (h : NewT lo W s) (hg : ∀ b, g = some b → b < lo) (hl : lo' ≤ lo) : NewTx lo' g W s :=
 RdT.cells h fun p u _ hc => by
   obtain ⟨h1, h2⟩ := lowm_cell.1 hc
   exact xcell.2 ⟨by omega, fun e => by have := hg _ e; omega, h2⟩
end
/-- What a slice owns lies in a block that there is. -/
theorem OwnL.old_block {α : Type} {k B : Nat} {enc : α → List Value} {e : TypeId} {v : Value} {l : List α} {W : World} (h : OwnL B W e k enc v l) : ∀ b, v.ownBlock = some b → b < W.heap.size := fun b hb => by
 obtain ⟨_, cs, fr, hh⟩ := h.own_type hb
 exact (Array.getElem?_eq_some_iff.1 hh).1
/-- The contract of stmts. -/
def StmtsOkM (dp : Nat) : Prop := ∀ (q n : Nat) (lv : Sp) (ls : List Int) (at_ : Nat) (p : ProgV) (M : MkE) (hasP : Bool) (w : World), MkR q n lv ls at_ p M w → (M.prm = false → hasP = decide (0 < p.procs.length)) → ∀ (most : Int), 0 ≤ most ∧ most ≤ 5 →
 Calls Tryz.prog 61 #[.pointer (some ⟨q, 0, none⟩), .int .i64 most, .int .i64 dp] w fun o w' => ∃ (A : Option Addr) (c : Nat) (l : List StmtV) (at' : Nat), o = .returned (.slice A l.length c) ∧ (l.length : Int) ≤ most ∧ OwnL w.heap.size w' 49 6 StmtV.cells (.slice A l.length c) l ∧ (∀ s, s ∈ l → WT M hasP dp s) ∧ (∀ s, s ∈ l → NewTx w.heap.size (Value.slice A l.length c).ownBlock w' s) ∧ Mk0 q n lv ls at' p M.prm w' ∧ Below w.heap.size (mask q w) (mask q w')
theorem incr_any (w : World) : Calls Tryz.prog 98 #[.int .u8 3, .agg #[.int .u8 2, .int .u8 0, .int .u32 0, .int .i64 0, .string ⟨#[99]⟩, .slice none 0 0], .agg #[.int .u8 1, .int .u8 0, .int .u32 1, .int .i64 2, .string ⟨#[]⟩, .slice none 0 0]] w fun o w' => ∃ b, o = .returned (.agg #[.int .u8 6, .int .u8 3, .int .u32 0, .int .i64 0, .string ⟨#[]⟩, .slice (some ⟨b, 0, none⟩) 2 2]) ∧ w.heap.size ≤ b ∧ b < w'.heap.size ∧ w'.heap[b]? = some (.cells ((nameE ⟨#[99]⟩).cells ++ (numE 1 2).cells).toArray 34 (0, 0)) ∧ Below w.heap.size w w' :=
 binary29_any 3 (nameE ⟨#[99]⟩) (numE 1 2) w
theorem less_any (x : Int) (w : World) : Calls Tryz.prog 98 #[.int .u8 15, .agg #[.int .u8 2, .int .u8 0, .int .u32 0, .int .i64 0, .string ⟨#[99]⟩, .slice none 0 0], .agg #[.int .u8 1, .int .u8 0, .int .u32 x, .int .i64 2, .string ⟨#[]⟩, .slice none 0 0]] w fun o w' => ∃ b, o = .returned (.agg #[.int .u8 6, .int .u8 15, .int .u32 0, .int .i64 0, .string ⟨#[]⟩, .slice (some ⟨b, 0, none⟩) 2 2]) ∧ w.heap.size ≤ b ∧ b < w'.heap.size ∧ w'.heap[b]? = some (.cells ((nameE ⟨#[99]⟩).cells ++ (numE x 2).cells).toArray 34 (0, 0)) ∧ Below w.heap.size w w' :=
 binary29_any 15 (nameE ⟨#[99]⟩) (numE x 2) w
theorem num_rd (W : World) (x wd : Int) (hx : 0 ≤ x ∧ x ≤ 4294967295) (hw : (Lit.int .i64 wd).wf = true) : RdX 0 W (numE x wd) :=
 .mk _ (show (0 : Int) ≤ 1 ∧ (1 : Int) ≤ 255 by decide) (show (0 : Int) ≤ 0 ∧ (0 : Int) ≤ 255 by decide) hx hw (show (0 : Nat) ≤ maxLen by decide) RowOf.nil (fun _ h => absurd h (by simp [numE, ExprV.subs]))
/-- A node over two leaves that were just made. -/
theorem two_leaves {w W : World} {b : Nat} {k o : Int} {e1 e2 : ExprV} (h : W.heap[b]? = some (.cells (e1.cells ++ e2.cells).toArray 34 (0, 0))) (hb : w.heap.size ≤ b) (h1 : ∀ V : World, RdX 0 V e1) (h2 : ∀ V : World, RdX 0 V e2) (hk : 0 ≤ k ∧ k ≤ 255) (ho : 0 ≤ o ∧ o ≤ 255) : NewX w.heap.size W (.mk k o 0 0 ⟨#[]⟩ ⟨some ⟨b, 0, none⟩, 2⟩ [e1, e2]) :=
 newX_node (row_two (enc := ExprV.cells) rfl h) hb (fun s hs => by
   simp only [List.mem_cons, List.not_mem_nil, or_false] at hs
   rcases hs with rfl | rfl
   · exact (h1 _).more (Nat.zero_le _)
   · exact (h2 _).more (Nat.zero_le _)) hk ho (show (0 : Int) ≤ 0 ∧ (0 : Int) ≤ 4294967295 by decide) (show (Lit.int .i64 0).wf = true by decide) (show (⟨#[]⟩ : ByteArray).size ≤ maxLen by decide)
end Go.Proofs.YthcboallnbaimaaGreatDoor
