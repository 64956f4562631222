import Derived.Test.YtepacjkacjabbaaGreatDoorKAS
import Derived.Laws.Rows
import Derived.Test.YtepacjkacjabbaaGreatDoorKAI
import Derived.BigRegion
namespace Go.Proofs.YtepacjkacjabbaaGreatDoor
open Go Go.RowKit Go.Maps
def yv0 : Value := .func (.func 222) #[] #[]
theorem wpList_mapRun {P : Program} {ops : Array Oper} {Q : Exit → Act → World → Prop} {a : Act} {w w' : World} {rest : List Oper} {o : Oper} (hg : o.guard = none) (m x v : Operand) (t : TypeId) (hop : o.op = Op.mapUpdate t m x v) {mv kv vv : Value} (hm : a.eval m = mv) (hx : a.eval x = kv) (hv : a.eval v = vv)
   (hrun : (Instr.mapUpdate t mv kv vv).run P w = .ok () w') (k : wpList P ops Q rest (a.put o.dst undef) w') : wpList P ops Q (o :: rest) a w :=
 wpList_runS hg (by simp only [execOp, hop, hm, hx, hv, Sem.run_bind, hrun]; rfl) k
def listAt (p : ProgV) : Nat → List DeclV
 | 0 => p.inputs
 | 1 => p.ghosts
 | 2 => p.vars
 | _ => p.arrays
def spAt (p : ProgV) : Nat → Sp
 | 0 => p.is
 | 1 => p.gs
 | 2 => p.vs
 | _ => p.as
def declsAt (l : List DeclV) (c : Int) : List (ByteArray × Thing) := l.map fun d => (d.name, ⟨c, d.width⟩)
def thingsUpto (p : ProgV) (j : Nat) : List (ByteArray × Thing) := (List.range j).flatMap fun i => declsAt (listAt p i) ((i : Int) + 1)
theorem thingsUpto_four (p : ProgV) : thingsUpto p 4 = thingsP p := by
 simp [thingsUpto, List.range, List.range.loop, listAt, declsAt, thingsP]
theorem RdP.listAt {n₀ : Nat} {W : World} {p : ProgV} (h : RdP n₀ W p) (j : Nat) : RdDs n₀ W (spAt p j) (listAt p j) := by
 match j with
 | 0 => exact h.inputs
 | 1 => exact h.ghosts
 | 2 => exact h.vars
 | n + 3 => exact h.arrays
structure Gather (q mt mp : Nat) (cells : Array Value) (T : List (ByteArray × Thing)) (n : Nat) (T2 : List (ByteArray × Int)) (n2 : Nat) (w wr : World) : Prop where
 box : wr.heap[q]? = some (.cells cells 246 (0, 0))
 things : MapF thC 9 wr mt n (onStr (look T))
 procs : MapF numC 9 wr mp n2 (onStr (look T2))
 below : Below w.heap.size w wr
 hq : w.heap.size ≤ q
 hmt : w.heap.size ≤ mt
 hmp : w.heap.size ≤ mp
 ne : mt ≠ mp
section
variable {q mt mp n n2 : Nat} {cells : Array Value} {T : List (ByteArray × Thing)} {T2 : List (ByteArray × Int)} {w wr wr' : World}
theorem Gather.new (h : Gather q mt mp cells T n T2 n2 w wr) (hb : Below wr.heap.size wr wr') : Gather q mt mp cells T n T2 n2 w wr' :=
 ⟨(hb.block _ (Array.getElem?_eq_some_iff.1 h.box).1).trans h.box, h.things.below hb h.things.lt, h.procs.below hb h.procs.lt, h.below.trans (hb.mono h.below.size), h.hq, h.hmt, h.hmp, h.ne⟩
theorem Gather.dup (h : Gather q mt mp cells T n T2 n2 w wr) {s : ByteArray} {x y : Thing} (hs : look T s = some y) : Gather q mt mp cells (T ++ [(s, x)]) n T2 n2 w wr := by
 have e : look (T ++ [(s, x)]) = look T := by
   funext t
   rw [look_snoc]
   cases ht : look T t with
   | some z => rfl
   | none =>
     have : s ≠ t := by rintro rfl; rw [hs] at ht; cases ht
     simp [this]
 exact ⟨h.box, by rw [e]; exact h.things, h.procs, h.below, h.hq, h.hmt, h.hmp, h.ne⟩
theorem look_put {α : Type} {T : List (ByteArray × α)} {s : ByteArray} {x : α} (hs : look T s = none) : putF (onStr (look T)) (skey s) x = onStr (look (T ++ [(s, x)])) := by
 rw [putF_onStr]
 congr 1
 funext t
 rw [look_snoc]
 by_cases e : t = s
 · subst e; rw [if_pos rfl, hs]; simp
 · rw [if_neg e]
   cases look T t with
   | some y => rfl
   | none => simp [Ne.symm e]
theorem turned_below {B b : Nat} (h : wr.mapTurned wr' b) (hB : B ≤ b) : Below B wr wr' := by
 have hg := h.grown
 exact ⟨hg.os, hg.tape, hg.output, hg.size, fun k hk => by
   by_cases hlt : k < wr.heap.size
   · exact hg.block k hlt (by simp; omega)
   · obtain ⟨es, cl, es', cl', hb0, he⟩ := id h
     have := (Array.getElem?_eq_some_iff.1 hb0).1
     omega⟩
theorem Gather.put (h : Gather q mt mp cells T n T2 n2 w wr) (ht : wr.mapTurned wr' mt) {s : ByteArray} {x : Thing} (hs : look T s = none) (hmap : MapF thC 9 wr' mt (n + 1) (putF (onStr (look T)) (skey s) x)) :
   Gather q mt mp cells (T ++ [(s, x)]) (n + 1) T2 n2 w wr' := by
 have hg := ht.grown
 obtain ⟨es, cl, es', cl', hb0, he⟩ := id ht
 have hq : q ≠ mt := by
   intro e
   have := h.box
   rw [e, hb0] at this
   cases this
 exact ⟨(hg.block _ (Array.getElem?_eq_some_iff.1 h.box).1 (by simpa using hq)).trans h.box, by rw [← look_put hs]; exact hmap, h.procs.of_block (hg.block _ h.procs.lt (by simpa using h.ne.symm)), h.below.trans (turned_below ht h.hmt), h.hq, h.hmt, h.hmp, h.ne⟩
theorem Gather.dupP (h : Gather q mt mp cells T n T2 n2 w wr) {s : ByteArray} {x y : Int} (hs : look T2 s = some y) : Gather q mt mp cells T n (T2 ++ [(s, x)]) n2 w wr := by
 have e : look (T2 ++ [(s, x)]) = look T2 := by
   funext t
   rw [look_snoc]
   cases ht : look T2 t with
   | some z => rfl
   | none =>
     have : s ≠ t := by rintro rfl; rw [hs] at ht; cases ht
     simp [this]
 exact ⟨h.box, h.things, by rw [e]; exact h.procs, h.below, h.hq, h.hmt, h.hmp, h.ne⟩
theorem Gather.putP (h : Gather q mt mp cells T n T2 n2 w wr) (ht : wr.mapTurned wr' mp) {s : ByteArray} {x : Int} (hs : look T2 s = none) (hmap : MapF numC 9 wr' mp (n2 + 1) (putF (onStr (look T2)) (skey s) x)) :
   Gather q mt mp cells T n (T2 ++ [(s, x)]) (n2 + 1) w wr' := by
 have hg := ht.grown
 obtain ⟨es, cl, es', cl', hb0, he⟩ := id ht
 have hq : q ≠ mp := by
   intro e
   have := h.box
   rw [e, hb0] at this
   cases this
 exact ⟨(hg.block _ (Array.getElem?_eq_some_iff.1 h.box).1 (by simpa using hq)).trans h.box, h.things.of_block (hg.block _ h.things.lt (by simpa using h.ne)), by rw [← look_put hs]; exact hmap, h.below.trans (turned_below ht h.hmp), h.hq, h.hmt, h.hmp, h.ne⟩
end
theorem thingsUpto_succ (p : ProgV) (j : Nat) : thingsUpto p (j + 1) = thingsUpto p j ++ declsAt (listAt p j) ((j : Int) + 1) := by
 unfold thingsUpto
 rw [List.range_succ, List.flatMap_append]
 simp
theorem numbered_snoc {α : Type} (f : α → ByteArray) (x : α) : ∀ (l : List α) (n : Nat), numbered f (l ++ [x]) n = numbered f l n ++ [(f x, ((n + l.length : Nat) : Int))]
 | [], n => by simp [numbered]
 | a :: l, n => by
   rw [List.cons_append, numbered, numbered, numbered_snoc f x l (n + 1), List.cons_append]
   have e : n + 1 + l.length = n + (a :: l).length := by simp; omega
   rw [e]
theorem Gather.c22 {q mt mp : Nat} {cells : Array Value} {T : List (ByteArray × Thing)} {n : Nat} {T2 : List (ByteArray × Int)} {n2 : Nat} {w wr : World} (h : Gather q mt mp cells T n T2 n2 w wr) {i : Nat} {v : Value} (hv : cells[i]? = some v) : wr.cell? ⟨q, i, none⟩ = some v := by
 simp [World.cell?, h.box, hv]
theorem Gather.lookT {q mt mp : Nat} {cells : Array Value} {T : List (ByteArray × Thing)} {n : Nat} {T2 : List (ByteArray × Int)} {n2 : Nat} {w wr : World} (h : Gather q mt mp cells T n T2 n2 w wr) {s : ByteArray} (hs : s.size ≤ maxLen) :
   (Instr.lookup 244 (.map (some mt)) (.string s) true).run Tryz.prog wr = .ok (.tuple #[.agg #[.int .u8 ((look T s).getD ⟨0, 0⟩).kind, .int .i64 ((look T s).getD ⟨0, 0⟩).width], .bool (look T s).isSome]) wr := by
 have := h.things.look_ok lawS Tryz.underlying244 (keyS hs)
 rw [onStr_skey] at this
 exact this
theorem Gather.lookN {q mt mp : Nat} {cells : Array Value} {T : List (ByteArray × Thing)} {n : Nat} {T2 : List (ByteArray × Int)} {n2 : Nat} {w wr : World} (h : Gather q mt mp cells T n T2 n2 w wr) {s : ByteArray} (hs : s.size ≤ maxLen) :
   (Instr.lookup 119 (.map (some mp)) (.string s) true).run Tryz.prog wr = .ok (.tuple #[.int .i64 ((look T2 s).getD 0), .bool (look T2 s).isSome]) wr := by
 have := h.procs.look_ok lawS Tryz.underlying119 (keyS hs)
 rw [onStr_skey] at this
 exact this
theorem things_few {n₀ : Nat} {W : World} {p : ProgV} (h : RdP n₀ W p) {j : Nat} (hj : j ≤ 4) : (thingsUpto p j).length < maxLen := by
 have h1 := h.inputs.row.few
 have h2 := h.ghosts.row.few
 have h3 := h.vars.row.few
 have h4 := h.arrays.row.few
 have e : (thingsUpto p j).length ≤ p.inputs.length + p.ghosts.length + p.vars.length + p.arrays.length := by
   rcases (show j = 0 ∨ j = 1 ∨ j = 2 ∨ j = 3 ∨ j = 4 by omega) with rfl | rfl | rfl | rfl | rfl <;> simp [thingsUpto, List.range, List.range.loop, listAt, declsAt] <;> omega
 unfold maxLen
 omega
def NewOk (n₀ B : Nat) (p : ProgV) (w : World) (o : Ending) (w' : World) : Prop :=
 ∃ q mt mp, o = .returned (.pointer (some ⟨q, 0, none⟩)) ∧ Ckr ⟨q, p, n₀, B, yv0, mt, mp⟩ none outside 0 false w' ∧ w.heap.size ≤ q ∧ w.heap.size ≤ mt ∧ w.heap.size ≤ mp ∧ Below w.heap.size w w'
set_option maxRecDepth 100000 in
set_option maxHeartbeats 8000000 in
theorem new_any (w : World) (p : ProgV) (n₀ B : Nat) (h : RdP n₀ w p) (hn : n₀ ≤ B) (hB : B ≤ w.heap.size) : Calls Tryz.prog 203 #[p.val] w (NewOk n₀ B p w) := by
 have hmm := @run_makeMap Tryz.prog
 have hb1 : Below w.heap.size w (w.alloc (.cells #[.int .i64 p.blocks, .int .i64 p.width, .slice p.is.at_ p.inputs.length p.is.cap, .slice p.gs.at_ p.ghosts.length p.gs.cap, .slice p.vs.at_ p.vars.length p.vs.cap, .slice p.as.at_ p.arrays.length p.as.cap, .int .u8 p.require.kind, .int .u8 p.require.op, .int .u32 p.require.value, .int .i64 p.require.width, .string p.require.name, .slice p.require.sp.at_ p.require.subs.length p.require.sp.cap, .slice p.ns.at_ p.inits.length p.ns.cap, .slice p.rs.at_ p.procs.length p.rs.cap, .slice p.ws.at_ p.work.length p.ws.cap, .slice p.cs.at_ p.recover.length p.cs.cap, .int .u8 p.invariant.kind, .int .u8 p.invariant.op, .int .u32 p.invariant.value, .int .i64 p.invariant.width, .string p.invariant.name, .slice p.invariant.sp.at_ p.invariant.subs.length p.invariant.sp.cap] 35)) := (Below.refl _ _).alloc (Nat.le_refl _) _
 have hbox := World.alloc_heap_new w (.cells #[.int .i64 p.blocks, .int .i64 p.width, .slice p.is.at_ p.inputs.length p.is.cap, .slice p.gs.at_ p.ghosts.length p.gs.cap, .slice p.vs.at_ p.vars.length p.vs.cap, .slice p.as.at_ p.arrays.length p.as.cap, .int .u8 p.require.kind, .int .u8 p.require.op, .int .u32 p.require.value, .int .i64 p.require.width, .string p.require.name, .slice p.require.sp.at_ p.require.subs.length p.require.sp.cap, .slice p.ns.at_ p.inits.length p.ns.cap, .slice p.rs.at_ p.procs.length p.rs.cap, .slice p.ws.at_ p.work.length p.ws.cap, .slice p.cs.at_ p.recover.length p.cs.cap, .int .u8 p.invariant.kind, .int .u8 p.invariant.op, .int .u32 p.invariant.value, .int .i64 p.invariant.width, .string p.invariant.name, .slice p.invariant.sp.at_ p.invariant.subs.length p.invariant.sp.cap] 35)
 have HP := Lib.hid h
 have HB1 := Lib.hid hb1
 have HBX := Lib.hid hbox
 clear h hb1 hbox
 simp only [ProgV.val, Sp.val]
 go_enter Tryz.func203, Tryz.ntmps203
 go_upto_region 1 with fail
 have hs1 : (w.alloc (.cells #[.int .i64 p.blocks, .int .i64 p.width, .slice p.is.at_ p.inputs.length p.is.cap, .slice p.gs.at_ p.ghosts.length p.gs.cap, .slice p.vs.at_ p.vars.length p.vs.cap, .slice p.as.at_ p.arrays.length p.as.cap, .int .u8 p.require.kind, .int .u8 p.require.op, .int .u32 p.require.value, .int .i64 p.require.width, .string p.require.name, .slice p.require.sp.at_ p.require.subs.length p.require.sp.cap, .slice p.ns.at_ p.inits.length p.ns.cap, .slice p.rs.at_ p.procs.length p.rs.cap, .slice p.ws.at_ p.work.length p.ws.cap, .slice p.cs.at_ p.recover.length p.cs.cap, .int .u8 p.invariant.kind, .int .u8 p.invariant.op, .int .u32 p.invariant.value, .int .i64 p.invariant.width, .string p.invariant.name, .slice p.invariant.sp.at_ p.invariant.subs.length p.invariant.sp.cap] 35)).heap.size = w.heap.size + 1 := by simp
 generalize w.alloc (.cells #[.int .i64 p.blocks, .int .i64 p.width, .slice p.is.at_ p.inputs.length p.is.cap, .slice p.gs.at_ p.ghosts.length p.gs.cap, .slice p.vs.at_ p.vars.length p.vs.cap, .slice p.as.at_ p.arrays.length p.as.cap, .int .u8 p.require.kind, .int .u8 p.require.op, .int .u32 p.require.value, .int .i64 p.require.width, .string p.require.name, .slice p.require.sp.at_ p.require.subs.length p.require.sp.cap, .slice p.ns.at_ p.inits.length p.ns.cap, .slice p.rs.at_ p.procs.length p.rs.cap, .slice p.ws.at_ p.work.length p.ws.cap, .slice p.cs.at_ p.recover.length p.cs.cap, .int .u8 p.invariant.kind, .int .u8 p.invariant.op, .int .u32 p.invariant.value, .int .i64 p.invariant.width, .string p.invariant.name, .slice p.invariant.sp.at_ p.invariant.subs.length p.invariant.sp.cap] 35) = W1 at *
 go_upto_region 2 with (first
   | (refine wpList_load_row rfl 35 _ rfl w.heap.size rfl 35 _ (0, 0) _ HBX.out Tryz.underlying35 rfl (by kernel_rfl) ?_)
   | (refine wpList_build rfl 246 _ rfl (CkE.cells ⟨0, p, 0, 0, yv0, w.heap.size + 1, w.heap.size + 1 + 1⟩ none outside 0 false) (by kernel_rfl) ?_)
   | fail)
 generalize Value.agg #[.int .i64 p.blocks, .int .i64 p.width, .slice p.is.at_ p.inputs.length p.is.cap, .slice p.gs.at_ p.ghosts.length p.gs.cap, .slice p.vs.at_ p.vars.length p.vs.cap, .slice p.as.at_ p.arrays.length p.as.cap, .int .u8 p.require.kind, .int .u8 p.require.op, .int .u32 p.require.value, .int .i64 p.require.width, .string p.require.name, .slice p.require.sp.at_ p.require.subs.length p.require.sp.cap, .slice p.ns.at_ p.inits.length p.ns.cap, .slice p.rs.at_ p.procs.length p.rs.cap, .slice p.ws.at_ p.work.length p.ws.cap, .slice p.cs.at_ p.recover.length p.cs.cap, .int .u8 p.invariant.kind, .int .u8 p.invariant.op, .int .u32 p.invariant.value, .int .i64 p.invariant.width, .string p.invariant.name, .slice p.invariant.sp.at_ p.invariant.subs.length p.invariant.sp.cap] = vp
 obtain ⟨ck, hck⟩ : ∃ ck, ck = CkE.cells ⟨w.heap.size + 1 + 1 + 1, p, n₀, B, yv0, w.heap.size + 1, w.heap.size + 1 + 1⟩ none outside 0 false := ⟨_, rfl⟩
 have hck0 : CkE.cells ⟨0, p, 0, 0, yv0, w.heap.size + 1, w.heap.size + 1 + 1⟩ none outside 0 false = ck := by rw [hck]; rfl
 rw [hck0]
 have h22 : ck[22]? = some (.map (some (w.heap.size + 1))) := by rw [hck]; rfl
 have h23 : ck[23]? = some (.map (some (w.heap.size + 1 + 1))) := by rw [hck]; rfl
 have HCK := Lib.hid hck
 have hb2 : Below W1.heap.size W1 (((W1.alloc (.map #[] 0)).alloc (.map #[] 0)).alloc (.cells ck 246)) := (((Below.refl _ _).alloc (Nat.le_refl _) _).alloc (by simp) _).alloc (by simp; omega) _
 have hG : Gather (w.heap.size + 1 + 1 + 1) (w.heap.size + 1) (w.heap.size + 1 + 1) ck [] 0 [] 0 W1 (((W1.alloc (.map #[] 0)).alloc (.map #[] 0)).alloc (.cells ck 246)) := by
   have m1 := MapF.made thC 9 W1
   have m2 := MapF.made numC 9 (W1.alloc (.map #[] 0))
   rw [hs1] at m1
   rw [World.size_alloc, hs1] at m2
   have b3 := World.alloc_heap_new ((W1.alloc (.map #[] 0)).alloc (.map #[] 0)) (.cells ck 246)
   rw [World.size_alloc, World.size_alloc, hs1] at b3
   refine ⟨b3, ?_, ?_, hb2, by omega, by omega, by omega, by omega⟩
   · refine (((m1.below ((Below.refl _ _).alloc (Nat.le_refl _) _) m1.lt).below ((Below.refl _ _).alloc (Nat.le_refl _) _) (by simp; omega))).congr fun l _ => by cases l <;> rfl
   · exact (m2.below ((Below.refl _ _).alloc (Nat.le_refl _) _) m2.lt).congr fun l _ => by cases l <;> rfl
 obtain ⟨W2, hW2⟩ : ∃ W2, ((W1.alloc (.map #[] 0)).alloc (.map #[] 0)).alloc (.cells ck 246) = W2 := ⟨_, rfl⟩
 rw [hW2] at hG hb2 ⊢
 have HG := Lib.hid hG
 have hbx2 := (hb2.block w.heap.size (by omega)).trans HBX.out
 have c2 : W2.cell? ⟨w.heap.size, 2, none⟩ = some (.slice p.is.at_ p.inputs.length p.is.cap) := by simp [World.cell?, hbx2]
 have c3 : W2.cell? ⟨w.heap.size, 3, none⟩ = some (.slice p.gs.at_ p.ghosts.length p.gs.cap) := by simp [World.cell?, hbx2]
 have c4 : W2.cell? ⟨w.heap.size, 4, none⟩ = some (.slice p.vs.at_ p.vars.length p.vs.cap) := by simp [World.cell?, hbx2]
 have c5 : W2.cell? ⟨w.heap.size, 5, none⟩ = some (.slice p.as.at_ p.arrays.length p.as.cap) := by simp [World.cell?, hbx2]
 generalize Value.agg ck = vck
 clear hck hck0 hb2 hG hW2 hbx2
 have HN : Hid (n₀ ≤ w.heap.size) := Lib.hid (by omega)
 have HN1 : Hid (n₀ ≤ W1.heap.size) := Lib.hid (by omega)
 have HS1 := Lib.hid hs1
 go_wp2_with fail
 go_loopw [28] (fun v wr => ∃ (j n : Nat), j ≤ 4 ∧ n ≤ (thingsUpto p j).length ∧ v = .int .i64 j ∧ Gather (w.heap.size + 1 + 1 + 1) (w.heap.size + 1) (w.heap.size + 1 + 1) ck (thingsUpto p j) n [] 0 W1 wr) (fun v _ => 4 - (intOf v).toNat)
 case atStart => exact ⟨0, 0, by omega, Nat.zero_le _, rfl, HG.out⟩
 case round =>
   obtain ⟨j, n, hj, hnj, rfl, hg⟩ := hrel
   have HGJ := Lib.hid hg
   clear hg c2 c3 c4 c5
   by_cases hj4 : j < 4
   · have hd0 := (HP.out.below (HB1.out.mono HN.out)).listAt j
     have hI : ∀ W, (Instr.index 262 (.agg #[.slice p.is.at_ p.inputs.length p.is.cap, .slice p.gs.at_ p.ghosts.length p.gs.cap, .slice p.vs.at_ p.vars.length p.vs.cap, .slice p.as.at_ p.arrays.length p.as.cap]) (.int .i64 (j : Int))).run Tryz.prog W = .ok (.slice (spAt p j).at_ (listAt p j).length (spAt p j).cap) W := by
       intro W
       rcases (show j = 0 ∨ j = 1 ∨ j = 2 ∨ j = 3 by omega) with rfl | rfl | rfl | rfl <;> kernel_rfl
     have hsc := thingsUpto_succ p j
     have HSC := Lib.hid hsc
     have hlm := things_few HP.out (j := j + 1) (by omega)
     rw [hsc] at hlm
     have HLM := Lib.hid hlm
     have HD0 := Lib.hid hd0
     have hll := hd0.row.few
     clear hsc hd0 hlm
     generalize thingsUpto p j = T0 at *
     generalize listAt p j = l at *
     generalize spAt p j = sp at *
     obtain ⟨wo, rfl⟩ : ∃ y : World, y = wr := ⟨_, rfl⟩
     have hj0 : (0 : Int) ≤ (j : Int) := by omega
     have hjb : (j : Int) < 4 := by omega
     go_wp2_with fail
     go_loopw [34] (fun v wr => ∃ (k m : Nat), k ≤ l.length ∧ m ≤ (T0 ++ (declsAt l ((j : Int) + 1)).take k).length ∧ v = .int .i64 k ∧ Gather (w.heap.size + 1 + 1 + 1) (w.heap.size + 1) (w.heap.size + 1 + 1) ck (T0 ++ (declsAt l ((j : Int) + 1)).take k) m [] 0 W1 wr) (fun v _ => l.length - (intOf v).toNat)
     case atStart => exact ⟨0, n, Nat.zero_le _, by rw [List.take_zero, List.append_nil]; exact hnj, rfl, by rw [List.take_zero, List.append_nil]; exact HGJ.out⟩
     case round =>
       obtain ⟨k, m, hk, hm, rfl, hg⟩ := hrel
       have HGK := Lib.hid hg
       clear hg
       by_cases hlt2 : k < l.length
       · obtain ⟨b2, off2, eA, hbn2, hcell⟩ := (HD0.out.row.below (HGK.out.below.mono HN1.out)).row (by omega)
         have hok := HD0.out.ok _ (List.getElem_mem hlt2)
         have k0 : wr.cell? ⟨b2, off2 + k * 3, none⟩ = some (.string l[k].name) := hcell k hlt2 0 _ rfl
         have k1 : wr.cell? ⟨b2, off2 + k * 3 + 1, none⟩ = some (.int .i64 l[k].width) := hcell k hlt2 1 _ rfl
         have k2 : wr.cell? ⟨b2, off2 + k * 3 + 2, none⟩ = some (.int .i64 l[k].size) := hcell k hlt2 2 _ rfl
         have hts : (declsAt l ((j : Int) + 1)).take (k + 1) = (declsAt l ((j : Int) + 1)).take k ++ [(l[k].name, ⟨(j : Int) + 1, l[k].width⟩)] := by
           rw [List.take_succ_eq_append_getElem (by simpa [declsAt] using hlt2)]
           simp [declsAt]
         have HTS := Lib.hid hts
         generalize l[k] = x at *
         have hmm2 : m < maxLen := Nat.lt_of_le_of_lt hm (Nat.lt_of_le_of_lt (by simp only [List.length_append, List.length_take]; omega) HLM.out)
         have HMM := Lib.hid hmm2
         clear hmm2
         generalize hT : T0 ++ (declsAt l ((j : Int) + 1)).take k = T at *
         have HT := Lib.hid hT
         have hba : Below wr.heap.size wr (wr.alloc (.cells #[.string x.name, .int .i64 x.width, .int .i64 x.size] 50)) := (Below.refl _ wr).alloc (Nat.le_refl _) _
         have hB5 := World.alloc_heap_new wr (.cells #[.string x.name, .int .i64 x.width, .int .i64 x.size] 50)
         have hE5 := HGK.out.new hba
         have hk0 : (0 : Int) ≤ (k : Int) := by omega
         have hk1 : (k : Int) < (l.length : Int) := by omega
         have hsz5 : wr.heap.size < (wr.alloc (.cells #[.string x.name, .int .i64 x.width, .int .i64 x.size] 50)).heap.size := by simp
         clear hcell hts hT
         rw [eA]
         clear eA
         go_upto_region 8 with fail
         generalize wr.alloc (.cells #[.string x.name, .int .i64 x.width, .int .i64 x.size] 50) = W5 at *
         have HE5 := Lib.hid hE5
         have HB5 := Lib.hid hB5
         have c22 := hE5.c22 h22
         have l22 := (hE5.new ((Below.refl _ _).drew : Below _ _ W5.drew)).lookT hok.1
         obtain ⟨d0, d1, d2⟩ := three_cells hB5
         have hba6 : Below W5.heap.size W5 (W5.alloc (.cells #[.int .u8 0, .int .i64 0] 264)) := (Below.refl _ W5).alloc (Nat.le_refl _) _
         have hE6 := hE5.new hba6
         have c22b := hE6.c22 h22
         have l22b := (hE6.new ((Below.refl _ _).drew : Below _ _ (W5.alloc (.cells #[.int .u8 0, .int .i64 0] 264)).drew)).lookT hok.1
         obtain ⟨e0, e1, e2⟩ := three_cells ((hba6.block _ (Array.getElem?_eq_some_iff.1 hB5).1).trans hB5)
         clear hba hE5 hB5 k0 k1 k2 hba6 hE6
         cases hl : look T x.name with
         | some y =>
           simp only [hl, Option.getD_some, Option.isSome_some] at l22 l22b
           go_region
           all_goals
             have hbz : Below W5.heap.size W5 (W5.alloc (.cells #[.int .u8 y.kind, .int .i64 y.width] 264)).drew := ((Below.refl _ _).alloc (Nat.le_refl _) _).drew
             have HE6 := Lib.hid ((HE5.out.new hbz).dup (x := ⟨(j : Int) + 1, x.width⟩) hl)
             clear hbz l22 l22b c22 c22b hl
             go_wp2_with fail
             go_roundw
             case rel => exact ⟨k + 1, m, by omega, by rw [HTS.out, ← List.append_assoc, HT.out]; simp; omega, by go_num, by rw [HTS.out, ← List.append_assoc, HT.out]; exact HE6.out⟩
             case measure => simp [intOf]; omega
         | none =>
           simp only [hl, Option.getD_none, Option.isSome_none] at l22 l22b
           go_region
           all_goals
             have hbz : Below W5.heap.size W5 (W5.alloc (.cells #[.int .u8 0, .int .i64 0] 264)).drew := ((Below.refl _ _).alloc (Nat.le_refl _) _).drew
             have HE6 := Lib.hid (HE5.out.new hbz)
             have HB6 := Lib.hid ((hbz.block _ (Array.getElem?_eq_some_iff.1 HB5.out).1).trans HB5.out)
             clear hbz l22 l22b c22 c22b d0 d1 d2 e0 e1 e2
             go_upto_region 10 with fail
             generalize (W5.alloc (.cells #[.int .u8 0, .int .i64 0] 264)).drew = W6 at *
             have hE7 := HE6.out.new ((Below.refl _ _).drew : Below _ _ W6.drew)
             have c22 := HE6.out.c22 h22
             obtain ⟨d0, d1, d2⟩ := three_cells HB6.out
             obtain ⟨w8, hrun, hmap8, hturn8⟩ := hE7.things.store lawS Tryz.underlying244 HMM.out (keyS hok.1) (⟨(j : Int) + 1, x.width⟩ : Thing)
             have HE8 := Lib.hid (hE7.put hturn8 hl hmap8)
             replace hrun : (Instr.mapUpdate 244 (.map (some (w.heap.size + 1))) (.string x.name) (.agg #[.int .u8 ((j : Int) + 1), .int .i64 x.width])).run Tryz.prog W6.drew = .ok () w8 := hrun
             clear hE7 hmap8 hturn8 hl
             have hw1 : IntKind.u8.wrap (j : Int) = (j : Int) := by rcases (show j = 0 ∨ j = 1 ∨ j = 2 ∨ j = 3 by omega) with rfl | rfl | rfl | rfl <;> rfl
             have hw2 : IntKind.u8.wrap ((j : Int) + 1) = (j : Int) + 1 := by rcases (show j = 0 ∨ j = 1 ∨ j = 2 ∨ j = 3 by omega) with rfl | rfl | rfl | rfl <;> rfl
             go_still_tail 12, (by kernel_rfl)
             change wpList _ _ _ _ _ W6.drew
             go_wp2_with (refine wpList_mapRun rfl _ _ _ 244 rfl rfl rfl rfl hrun ?_)
             go_roundw
             case rel => exact ⟨k + 1, m + 1, by omega, by rw [HTS.out, ← List.append_assoc, HT.out]; simp; omega, by go_num, by rw [HTS.out, ← List.append_assoc, HT.out]; exact HE8.out⟩
             case measure => simp [intOf]; omega
       · obtain rfl : k = l.length := by omega
         go_wp2_with fail
         go_roundw
         case rel => exact ⟨j + 1, m, by omega, by
           rw [show l.length = (declsAt l ((j : Int) + 1)).length by simp [declsAt], List.take_length, ← HSC.out] at hm
           exact hm, by go_num, by
           have := HGK.out
           rw [show l.length = (declsAt l ((j : Int) + 1)).length by simp [declsAt], List.take_length, ← HSC.out] at this
           exact this⟩
         case measure => simp [intOf]; omega
   · obtain rfl : j = 4 := by omega
     rw [thingsUpto_four] at HGJ
     have hbx3 := (HGJ.out.below.block w.heap.size (by omega)).trans HBX.out
     have c13 : wr.cell? ⟨w.heap.size, 13, none⟩ = some (.slice p.rs.at_ p.procs.length p.rs.cap) := by simp [World.cell?, hbx3]
     obtain ⟨wo, rfl⟩ : ∃ y : World, y = wr := ⟨_, rfl⟩
     have hlp := HP.out.prow.few
     clear hbx3
     go_wp2_with fail
     go_loopw [67] (fun v wr => ∃ (k m : Nat), k ≤ p.procs.length ∧ m ≤ k ∧ v = .int .i64 k ∧ Gather (w.heap.size + 1 + 1 + 1) (w.heap.size + 1) (w.heap.size + 1 + 1) ck (thingsP p) n (numbered ProcV.name (p.procs.take k) 0) m W1 wr) (fun v _ => p.procs.length - (intOf v).toNat)
     case atStart => exact ⟨0, 0, Nat.zero_le _, Nat.le_refl _, rfl, HGJ.out⟩
     case round =>
       obtain ⟨k, m, hk, hm, rfl, hg⟩ := hrel
       have HGK := Lib.hid hg
       clear hg c13
       by_cases hlt2 : k < p.procs.length
       · obtain ⟨b2, off2, eA, hbn2, hcell⟩ := ((HP.out.below (HB1.out.mono HN.out)).prow.below (HGK.out.below.mono HN1.out)).row (by omega)
         have hok := (HP.out.procs _ (List.getElem_mem hlt2)).name
         have k0 : wr.cell? ⟨b2, off2 + k * 3, none⟩ = some (.string p.procs[k].name) := hcell k hlt2 0 _ rfl
         have k1 : wr.cell? ⟨b2, off2 + k * 3 + 1, none⟩ = some (.slice p.procs[k].ps.at_ p.procs[k].params.length p.procs[k].ps.cap) := hcell k hlt2 1 _ rfl
         have k2 : wr.cell? ⟨b2, off2 + k * 3 + 2, none⟩ = some (.slice p.procs[k].bs.at_ p.procs[k].body.length p.procs[k].bs.cap) := hcell k hlt2 2 _ rfl
         have hts : numbered ProcV.name (p.procs.take (k + 1)) 0 = numbered ProcV.name (p.procs.take k) 0 ++ [(p.procs[k].name, ((k : Nat) : Int))] := by
           rw [List.take_succ_eq_append_getElem hlt2, numbered_snoc]
           simp [Nat.min_eq_left (Nat.le_of_lt hlt2)]
         have HTS := Lib.hid hts
         generalize p.procs[k] = x at *
         generalize hT : numbered ProcV.name (p.procs.take k) 0 = T at *
         have hba : Below wr.heap.size wr (wr.alloc (.cells #[.string x.name, .slice x.ps.at_ x.params.length x.ps.cap, .slice x.bs.at_ x.body.length x.bs.cap] 54)) := (Below.refl _ wr).alloc (Nat.le_refl _) _
         have hB5 := World.alloc_heap_new wr (.cells #[.string x.name, .slice x.ps.at_ x.params.length x.ps.cap, .slice x.bs.at_ x.body.length x.bs.cap] 54)
         have hE5 := HGK.out.new hba
         have hk0 : (0 : Int) ≤ (k : Int) := by omega
         have hk1 : (k : Int) < (p.procs.length : Int) := by omega
         clear hcell hts hT
         rw [eA]
         clear eA
         go_upto_region 16 with fail
         generalize wr.alloc (.cells #[.string x.name, .slice x.ps.at_ x.params.length x.ps.cap, .slice x.bs.at_ x.body.length x.bs.cap] 54) = W5 at *
         have HE5 := Lib.hid hE5
         have HB5 := Lib.hid hB5
         have c23 := hE5.c22 h23
         have l23 := (hE5.new ((Below.refl _ _).drew : Below _ _ W5.drew)).lookN hok
         have l23b := hE5.lookN hok
         obtain ⟨d0, d1, d2⟩ := three_cells hB5
         have HN5 : Hid (∀ nq, Below W5.heap.size W5 (W5.drewN nq)) := Lib.hid fun nq => ⟨rfl, rfl, rfl, Nat.le_refl _, fun _ _ => rfl⟩
         have l23c : ∀ nq, (Instr.lookup 119 (.map (some (w.heap.size + 1 + 1))) (.string x.name) true).run Tryz.prog (W5.drewN nq) = .ok (.tuple #[.int .i64 ((look T x.name).getD 0), .bool (look T x.name).isSome]) (W5.drewN nq) := fun nq => (hE5.new (HN5.out nq)).lookN hok
         clear hba hE5 hB5 k0 k1 k2
         cases hl : look T x.name with
         | some y =>
           simp only [hl, Option.getD_some, Option.isSome_some] at l23 l23b l23c
           go_quiet (fail)
           have HE6 := Lib.hid ((HE5.out.new (HN5.out nq)).dupP (x := ((k : Nat) : Int)) hl)
           clear l23 l23b l23c c23 hl
           go_wp2_with fail
           go_roundw
           case rel => exact ⟨k + 1, m, by omega, by omega, by go_num, by rw [HTS.out]; exact HE6.out⟩
           case measure => simp [intOf]; omega
         | none =>
           simp only [hl, Option.getD_none, Option.isSome_none] at l23 l23b l23c
           go_quiet (fail)
           have HE6 := Lib.hid (HE5.out.new (HN5.out nq))
           have HB6 := Lib.hid (((HN5.out nq).block _ (Array.getElem?_eq_some_iff.1 HB5.out).1).trans HB5.out)
           clear l23 l23b l23c c23 d0 d1 d2
           go_upto_region 18 with fail
           generalize W5.drewN nq = W6 at *
           have hE7 := HE6.out.new ((Below.refl _ _).drew : Below _ _ W6.drew)
           have c23 := HE6.out.c22 h23
           obtain ⟨d0, d1, d2⟩ := three_cells HB6.out
           obtain ⟨w8, hrun, hmap8, hturn8⟩ := hE7.procs.store lawS Tryz.underlying119 (by unfold maxLen; omega) (keyS hok) ((k : Nat) : Int)
           have HE8 := Lib.hid (hE7.putP hturn8 hl hmap8)
           replace hrun : (Instr.mapUpdate 119 (.map (some (w.heap.size + 1 + 1))) (.string x.name) (.int .i64 (k : Int))).run Tryz.prog W6.drew = .ok () w8 := hrun
           clear hE7 hmap8 hturn8 hl
           go_still_tail 7, (by kernel_rfl)
           change wpList _ _ _ _ _ W6.drew
           go_wp2_with (refine wpList_mapRun rfl _ _ _ 119 rfl rfl rfl rfl hrun ?_)
           go_roundw
           case rel => first | exact ⟨k + 1, m + 1, by omega, by omega, by go_num, by rw [HTS.out]; exact HE8.out⟩ | ((repeat apply Exists.intro); exact ⟨⟨k + 1, m + 1, by omega, by omega, by go_num, by rw [HTS.out]; exact HE8.out⟩, rfl⟩)
           case measure => simp [intOf]; omega
       · obtain rfl : k = p.procs.length := by omega
         go_wp2_with fail
         go_ret
         have hG := HGK.out
         rw [List.take_length] at hG
         have hbw : Below w.heap.size w wr := HB1.out.trans (hG.below.mono (by omega))
         refine ⟨_, _, _, rfl, ⟨by rw [← HCK.out]; exact hG.box, rfl, ⟨_, hG.things⟩, ⟨_, hG.procs⟩, HP.out.below (hbw.mono HN.out), hn, ?_, ?_, ?_⟩, ?_, ?_, ?_, hbw⟩
         all_goals first | omega | (dsimp only; omega)
end Go.Proofs.YtepacjkacjabbaaGreatDoor
