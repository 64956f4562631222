import Derived.Test.YtepacjkacjabbaaGreatDoorKAG
import Derived.Test.YtepacjkacjabbaaGreatDoorKAF
import Derived.Deep.RegionWith
import Derived.RegionTactic
import Derived.BigQuiet
import Derived.Deep.QuietTactic
import Derived.Deep.CutRange
import Derived.Deep.CutBlock
import Derived.Deep.DeepCutAuto
import Derived.StillTailTactics
import Derived.Outline
import Derived.Laws.EntriesVeiled
import Derived.Carry
import Derived.Maps.OwnSet
import Derived.Maps.RangeWalk
import Derived.Below
import Derived.Lib.Hide
import Derived.Test.YtepacjkacjabbaaGreatDoorKAB
import Derived.Test.YtepacjkacjabbaaGreatDoorKAE
import Derived.Test.YtepacjkacjabbaaGreatDoorProg
import Derived.WalkKit
import Derived.Handy
import Derived.StringKeys
namespace Go.Proofs.YtepacjkacjabbaaGreatDoor
open Go Go.RowKit Go.Maps
structure CxS (γ : NmF) (w W : World) (e : ExprV) (sa : Option Addr) (sc lo k : Nat) (cur : List ExprV) : Prop where
 low : Below w.heap.size w W
 hlo : w.heap.size + 2 ≤ lo
 loW : lo ≤ W.heap.size
 at_ : ∀ a, sa = some a → a.block < lo
 box : W.heap[w.heap.size]? = some (.cells #[.int .u8 e.kind, .int .u8 e.op, .int .u32 e.value, .int .i64 e.width, .string (γ e.kind e.name), .slice sa e.subs.length sc] 30 (0, 0))
 res : W.heap[w.heap.size + 1]? = some (.cells #[.int .u8 0, .int .u8 0, .int .u32 0, .int .i64 0, .string ⟨#[]⟩, .slice none 0 0] 30 (0, 0))
 own : OwnL (w.heap.size + 2) W 30 6 ExprV.cells (.slice sa e.subs.length sc) cur
 len : cur.length = e.subs.length
 done : ∀ i (h : i < e.subs.length) (h' : i < cur.length), i < k → SmX γ e.subs[i] cur[i] ∧ NewX lo W cur[i]
 todo : ∀ i (h : i < e.subs.length) (h' : i < cur.length), k ≤ i → cur[i] = e.subs[i]
section
variable {γ : NmF} {w W W' : World} {e : ExprV} {sa : Option Addr} {sc lo k : Nat} {cur : List ExprV}
theorem NewX.lowerC {lo : Nat} {e : ExprV} (h : NewX lo W e) (hb : Below W.heap.size W W') : NewX lo W' e :=
 (RdX.cells h fun _ _ hp hc => lowm_cell.2 ⟨(lowm_cell.1 hc).1, (hb.cell hp).trans (lowm_cell.1 hc).2⟩).more hb.size
theorem CxS.on (h : CxS γ w W e sa sc lo k cur) (hb : Below W.heap.size W W') : CxS γ w W' e sa sc lo k cur :=
 ⟨h.low.trans (hb.mono h.low.size), h.hlo, Nat.le_trans h.loW hb.size, h.at_, (hb.block _ (Array.getElem?_eq_some_iff.1 h.box).1).trans h.box, (hb.block _ (Array.getElem?_eq_some_iff.1 h.res).1).trans h.res, h.own.on hb, h.len, fun i h1 h2 h3 => ⟨(h.done i h1 h2 h3).1, (h.done i h1 h2 h3).2.lowerC hb⟩, h.todo⟩
def six (W : World) (g o : Nat) (v0 v1 v2 v3 v4 v5 : Value) : World := (((((W.setCell ⟨g, o, none⟩ v0).setCell ⟨g, o + 1, none⟩ v1).setCell ⟨g, o + 2, none⟩ v2).setCell ⟨g, o + 3, none⟩ v3).setCell ⟨g, o + 4, none⟩ v4).setCell ⟨g, o + 5, none⟩ v5
theorem six_size (W : World) (g o : Nat) (v0 v1 v2 v3 v4 v5 : Value) : (six W g o v0 v1 v2 v3 v4 v5).heap.size = W.heap.size := by simp [six]
theorem six_heap (W : World) (g o : Nat) (v0 v1 v2 v3 v4 v5 : Value) {b : Nat} (h : b ≠ g) : (six W g o v0 v1 v2 v3 v4 v5).heap[b]? = W.heap[b]? := by
 unfold six
 rw [Below.heap_setCell _ _ _ _ h, Below.heap_setCell _ _ _ _ h, Below.heap_setCell _ _ _ _ h, Below.heap_setCell _ _ _ _ h, Below.heap_setCell _ _ _ _ h, Below.heap_setCell _ _ _ _ h]
theorem six_own {W : World} {g : Nat} {ty : TypeId} {a0 a1 a2 a3 a4 a5 : Value} (h : W.heap[g]? = some (.cells #[a0, a1, a2, a3, a4, a5] ty (0, 0))) (v0 v1 v2 v3 v4 v5 : Value) : (six W g 0 v0 v1 v2 v3 v4 v5).heap[g]? = some (.cells #[v0, v1, v2, v3, v4, v5] ty (0, 0)) := by
 simp [six, World.setCell, Array.getElem?_modify, h]
theorem six_below {B : Nat} {w W : World} (h : Below B w W) {g : Nat} (hg : B ≤ g) (o : Nat) (v0 v1 v2 v3 v4 v5 : Value) : Below B w (six W g o v0 v1 v2 v3 v4 v5) :=
 (((((h.setCell (p := ⟨g, o, none⟩) hg _).setCell (p := ⟨g, o + 1, none⟩) hg _).setCell (p := ⟨g, o + 2, none⟩) hg _).setCell (p := ⟨g, o + 3, none⟩) hg _).setCell (p := ⟨g, o + 4, none⟩) hg _).setCell (p := ⟨g, o + 5, none⟩) hg _
theorem six_new {lo g : Nat} {e : ExprV} (h : NewX lo W e) (hg : g < lo) (o : Nat) (v0 v1 v2 v3 v4 v5 : Value) : NewX lo (six W g o v0 v1 v2 v3 v4 v5) e := by
 unfold NewX
 rw [six_size]
 refine RdX.cells h fun p u _ hc => ?_
 obtain ⟨h1, h2⟩ := lowm_cell.1 hc
 exact lowm_cell.2 ⟨h1, (World.cell?_of_block (six_heap W g o v0 v1 v2 v3 v4 v5 (by omega))).trans h2⟩
theorem CxS.put {g : Nat} (h : CxS γ w W e (some ⟨g, 0, none⟩) sc lo k cur) (hk : k < e.subs.length) {x : ExprV} (hr : SmX γ e.subs[k] x) (hx : NewX lo W x) (hg : w.heap.size + 2 ≤ g) :
   CxS γ w (six W g (k * 6) (.int .u8 x.kind) (.int .u8 x.op) (.int .u32 x.value) (.int .i64 x.width) (.string x.name) (.slice x.sp.at_ x.subs.length x.sp.cap)) e (some ⟨g, 0, none⟩) sc lo (k + 1) (cur.set k x) := by
 have hgl := h.at_ _ rfl
 refine ⟨six_below h.low (by omega) _ _ _ _ _ _ _, h.hlo, by rw [six_size]; exact h.loW, h.at_, (six_heap _ _ _ _ _ _ _ _ _ (by omega)).trans h.box, (six_heap _ _ _ _ _ _ _ _ _ (by omega)).trans h.res, h.own.put6 (fun _ => rfl) (by rw [h.len]; exact hk) rfl, by rw [List.length_set]; exact h.len, fun i h1 h2 h3 => ?_, fun i h1 h2 h3 => ?_⟩
 · by_cases hi : i = k
   · subst hi
     rw [List.getElem_set_self]
     exact ⟨hr, six_new hx hgl _ _ _ _ _ _ _⟩
   · rw [List.getElem_set_ne (Ne.symm hi)]
     have := h.done i h1 (by rw [h.len]; exact h1) (by omega)
     exact ⟨this.1, six_new this.2 hgl _ _ _ _ _ _ _⟩
 · rw [List.getElem_set_ne (by omega)]
   exact h.todo i h1 (by rw [h.len]; exact h1) (by omega)
def cpX (γ : NmF) (e : ExprV) (sa : Option Addr) (sc : Nat) (cur : List ExprV) : ExprV := .mk e.kind e.op e.value e.width (γ e.kind e.name) ⟨sa, sc⟩ cur
theorem OwnL.low {α : Type} {enc : α → List Value} {B B2 kk n c : Nat} {W : World} {ty : TypeId} {A : Option Addr} {l : List α} (h : OwnL B W ty kk enc (.slice A n c) l) (hk : ∀ x, (enc x).length = kk) (hl : l.length ≤ 2199023255552) (hB : B2 ≤ B) : RowOf W.heap.size (lowm B2 W) ⟨A, c⟩ kk enc l := by
 obtain ⟨sp, e, hr, ha⟩ := h.row hk hl
 obtain ⟨A2, c2⟩ := sp
 have e2 := Value.slice.inj e
 obtain ⟨rfl, _, rfl⟩ := e2
 cases A with
 | none => exact ⟨hr.cap, hr.big, hr.few, fun h0 => by obtain ⟨b, off, e, _⟩ := hr.row h0; cases e⟩
 | some a =>
   obtain ⟨h1, h2, h3⟩ := ha a rfl
   obtain ⟨b, off, sp⟩ := a
   dsimp only at h1 h2 h3
   subst h2
   subst h3
   exact hr.low (by omega)
theorem CxS.fin (h : CxS γ w W e sa sc lo e.subs.length cur) (hrd : RdX w.heap.size w e) (hγ : ∀ k s, s.size ≤ maxLen → (γ k s).size ≤ maxLen) :
   SmX γ e (cpX γ e sa sc cur) ∧ NewX w.heap.size (six W (w.heap.size + 1) 0 (.int .u8 e.kind) (.int .u8 e.op) (.int .u32 e.value) (.int .i64 e.width) (.string (γ e.kind e.name)) (.slice sa e.subs.length sc)) (cpX γ e sa sc cur) ∧
   Below w.heap.size w (six W (w.heap.size + 1) 0 (.int .u8 e.kind) (.int .u8 e.op) (.int .u32 e.value) (.int .i64 e.width) (.string (γ e.kind e.name)) (.slice sa e.subs.length sc)) := by
 have hn : ∀ s ∈ cur, RdX W.heap.size (lowm lo W) s := fun s hs => by
   obtain ⟨i, hi, rfl⟩ := List.getElem_of_mem hs
   have hi2 : i < e.subs.length := by rw [← h.len]; exact hi
   exact (h.done i hi2 hi hi2).2
 refine ⟨?_, ?_, six_below h.low (by omega) _ _ _ _ _ _ _⟩
 · obtain ⟨k0, o0, v0, w0, nm0, sp0, l0⟩ := e
   exact SmX.mk h.len fun i h1 h2 => (h.done i h1 h2 h1).1
 · have hrow := h.own
   have hlo := h.hlo
   unfold NewX
   rw [six_size]
   obtain ⟨k0, o0, v0, w0, n0⟩ := (match hrd with | .mk _ a b c d e _ _ => ⟨a, b, c, d, e⟩ : _ ∧ _ ∧ _ ∧ _ ∧ _)
   have hfew : cur.length ≤ 2199023255552 := by rw [h.len]; exact hrd.row.few
   have hcells : ∀ (lo' : Nat), w.heap.size + 2 ≤ lo' → ∀ p u, p.block < W.heap.size → (lowm lo' W).cell? p = some u → (lowm w.heap.size (six W (w.heap.size + 1) 0 (.int .u8 e.kind) (.int .u8 e.op) (.int .u32 e.value) (.int .i64 e.width) (.string (γ e.kind e.name)) (.slice sa e.subs.length sc))).cell? p = some u := fun lo' hlo' p u _ hc => by
     obtain ⟨h1, h2⟩ := lowm_cell.1 hc
     exact lowm_cell.2 ⟨by omega, (World.cell?_of_block (six_heap _ _ _ _ _ _ _ _ _ (by omega))).trans h2⟩
   refine .mk _ k0 o0 v0 w0 ?_ ((h.own.low (B2 := w.heap.size + 2) (fun _ => rfl) hfew (Nat.le_refl _)).cells (hcells _ (Nat.le_refl _))) fun s hs => (hn s hs).cells (hcells _ hlo)
   show (γ e.kind e.name).size ≤ maxLen
   exact hγ _ _ n0
end
end Go.Proofs.YtepacjkacjabbaaGreatDoor
namespace Go.Proofs.YtepacjkacjabbaaGreatDoor
open Go Go.RowKit Go.Maps
structure Codec (P : Program) (e : TypeId) (α : Type) where
 val : α → Value
 dat : α → DataW Unit
 read : Value → Option (DataW Unit × List MemPlace)
 put : ∀ x, read (val x) = some (dat x, [])
 inv : ∀ v z, read v = some z → ∃ x, v = val x ∧ z = (dat x, [])
 inj : ∀ x y, dat x = dat y → x = y
 zero : α
 zrun : ∀ w, (zeroValue e).run P w = .ok (val zero) w
structure MapF {P : Program} {e : TypeId} {α : Type} (C : Codec P e α) (k : TypeId) (W : World) (b n : Nat) (f : Lit → Option α) : Prop where
 ex : ∃ D : DataW Unit, W.ownsMap P k C.read b n D ∧ ∀ l, WideAt.IsKeyLit l → Maps.has D l = (f l).isSome ∧ ∀ x, f l = some x → ∀ z, D.atKey l z = C.dat x
section
variable {P : Program} {e k t : TypeId} {α : Type} {C : Codec P e α} {W W' : World} {b n : Nat} {f g : Lit → Option α}
theorem MapF.lt (h : MapF C k W b n f) : b < W.heap.size := let ⟨_, ho, _⟩ := h.ex; ho.lt
theorem MapF.of_block (h : MapF C k W b n f) (hb : W'.heap[b]? = W.heap[b]?) : MapF C k W' b n f := by
 obtain ⟨D, ⟨es, clock, h1, F, h2, h3⟩, hD⟩ := h.ex
 exact ⟨D, ⟨es, clock, hb.trans h1, F, h2, h3⟩, hD⟩
theorem MapF.below (h : MapF C k W b n f) {B : Nat} (hb : Below B W W') (hB : b < B) : MapF C k W' b n f := h.of_block (hb.block b hB)
theorem MapF.mono (h : MapF C k W b n f) {n' : Nat} (hn : n ≤ n') : MapF C k W b n' f := by
 obtain ⟨D, ho, hD⟩ := h.ex
 exact ⟨D, ho.mono hn, hD⟩
theorem MapF.congr (h : MapF C k W b n f) (hfg : ∀ l, WideAt.IsKeyLit l → f l = g l) : MapF C k W b n g := by
 obtain ⟨D, ho, hD⟩ := h.ex
 exact ⟨D, ho, fun l hl => by rw [← hfg l hl]; exact hD l hl⟩
theorem MapF.made (C : Codec P e α) (k : TypeId) (W : World) : MapF C k (W.alloc (.map #[] 0)) W.heap.size 0 (fun _ => none) :=
 ⟨_, World.ownsMap_made W P k C.read, fun l _ => ⟨rfl, fun x hx => by cases hx⟩⟩
theorem MapF.obj (h : MapF C k W b n f) : ∃ es clock, W.heap[b]? = some (.map es clock) := by
 obtain ⟨D, ⟨es, clock, h1, _⟩, _⟩ := h.ex
 exact ⟨es, clock, h1⟩
theorem MapF.look_ok (h : MapF C k W b n f) (K : Keyed P k) (ht : P.underlying t = some (.map k e)) {key : Value} {kl : Lit} (hkey : keyOf P k key = some kl) :
   (Instr.lookup t (.map (some b)) key true).run P W = .ok (.tuple #[C.val ((f kl).getD C.zero), .bool (f kl).isSome]) W := by
 obtain ⟨D, ho, hD⟩ := h.ex
 obtain ⟨h1, h2⟩ := hD kl (K.key hkey)
 obtain ⟨v, ps, hrun, hv⟩ := ho.look_ok K ht (C.zrun W) (C.put C.zero) hkey
 rw [h1] at hrun
 rw [hrun]
 obtain ⟨x, rfl, hx⟩ := C.inv _ _ hv
 have hx1 := (Prod.mk.injEq _ _ _ _ ▸ hx).1
 suffices x = (f kl).getD C.zero by rw [this]
 cases hf : f kl with
 | none =>
   rw [hf] at h1
   rw [Maps.atKey_of_not_has h1] at hx1
   exact (C.inj _ _ hx1).symm
 | some y =>
   rw [h2 y hf] at hx1
   exact (C.inj _ _ hx1).symm
theorem MapF.look (h : MapF C k W b n f) (K : Keyed P k) (ht : P.underlying t = some (.map k e)) {key : Value} {kl : Lit} (hkey : keyOf P k key = some kl) :
   (Instr.lookup t (.map (some b)) key false).run P W = .ok (C.val ((f kl).getD C.zero)) W := by
 obtain ⟨D, ho, hD⟩ := h.ex
 obtain ⟨h1, h2⟩ := hD kl (K.key hkey)
 obtain ⟨v, ps, hrun, hv⟩ := ho.lookup K ht (C.zrun W) (C.put C.zero) hkey
 rw [hrun]
 obtain ⟨x, rfl, hx⟩ := C.inv _ _ hv
 have hx1 := (Prod.mk.injEq _ _ _ _ ▸ hx).1
 suffices x = (f kl).getD C.zero by rw [this]
 cases hf : f kl with
 | none =>
   rw [hf] at h1
   rw [Maps.atKey_of_not_has h1] at hx1
   exact (C.inj _ _ hx1).symm
 | some y =>
   rw [h2 y hf] at hx1
   exact (C.inj _ _ hx1).symm
theorem MapF.look_nil (C : Codec P e α) (W : World) (K : Keyed P k) (ht : P.underlying t = some (.map k e)) {key : Value} {kl : Lit} (hkey : keyOf P k key = some kl) :
   (Instr.lookup t (.map none) key true).run P W = .ok (.tuple #[C.val C.zero, .bool false]) W := by
 have := Maps.look_nil (w := W) true K ht (C.zrun W) hkey
 simpa using this
def putF (f : Lit → Option α) (kl : Lit) (x : α) (l : Lit) : Option α := if l.sameKey kl = true then some x else f l
theorem MapF.store (h : MapF C k W b n f) (K : Keyed P k) (ht : P.underlying t = some (.map k e)) (hn : n < maxLen) {key : Value} {kl : Lit} (hkey : keyOf P k key = some kl) (x : α) :
   ∃ w', (Instr.mapUpdate t (.map (some b)) key (C.val x)).run P W = .ok () w' ∧ MapF C k w' b (n + 1) (putF f kl x) ∧ W.mapTurned w' b := by
 obtain ⟨D, ho, hD⟩ := h.ex
 have him := ho.isMap
 have hk := K.key hkey
 obtain ⟨w', hrun, hown, hturn⟩ := ho.store K ht hn hkey (C.put x)
 refine ⟨w', hrun, ⟨_, hown, fun l hl => ?_⟩, hturn⟩
 unfold putF
 by_cases hlk : l = kl
 · subst hlk
   rw [if_pos (WideAt.sameKey_self hk)]
   exact ⟨Maps.has_put_same him hk _, fun y hy z => by cases hy; exact Maps.atKey_put_same him hk _ z⟩
 · rw [if_neg (fun h => hlk (WideAt.sameKey_eq h))]
   obtain ⟨h1, h2⟩ := hD l hl
   exact ⟨by rw [Maps.has_put_other hlk, h1], fun y hy z => by rw [Maps.atKey_put_other hlk]; exact h2 y hy z⟩
end
def skey (s : ByteArray) : Lit := .string s.data.toList
def onStr {α : Type} (g : ByteArray → Option α) : Lit → Option α
 | .string cs => g ⟨cs.toArray⟩
 | _ => none
theorem onStr_skey {α : Type} (g : ByteArray → Option α) (s : ByteArray) : onStr g (skey s) = g s := by
 show g ⟨s.data.toList.toArray⟩ = g s
 rw [Array.toArray_toList]
theorem skey_inj {s t : ByteArray} (h : skey s = skey t) : s = t := by
 unfold skey at h
 have h1 : s.data.toList = t.data.toList := by injection h
 have h2 : s.data = t.data := Array.toList_inj.1 h1
 cases s; cases t; simp at h2; rw [h2]
theorem putF_onStr {α : Type} (g : ByteArray → Option α) (s : ByteArray) (x : α) : putF (onStr g) (skey s) x = onStr (fun t => if t = s then some x else g t) := by
 funext l
 unfold putF
 by_cases h : l = skey s
 · subst h; rw [if_pos (WideAt.sameKey_self (by trivial)), onStr_skey, if_pos rfl]
 · rw [if_neg (fun e => h (WideAt.sameKey_eq e))]
   cases l with
   | string cs =>
     show g ⟨cs.toArray⟩ = if (⟨cs.toArray⟩ : ByteArray) = s then some x else g ⟨cs.toArray⟩
     rw [if_neg]
     rintro rfl
     exact h (by simp [skey])
   | _ => rfl
def onInt {α : Type} (g : Int → Option α) : Lit → Option α
 | .int .i64 n => g n
 | _ => none
theorem putF_onInt {α : Type} (g : Int → Option α) (n : Int) (x : α) : putF (onInt g) (.int .i64 n) x = onInt (fun m => if m = n then some x else g m) := by
 funext l
 unfold putF
 by_cases h : l = .int .i64 n
 · subst h; rw [if_pos (WideAt.sameKey_self (by trivial))]; simp [onInt]
 · rw [if_neg (fun e => h (WideAt.sameKey_eq e))]
   unfold onInt
   split
   · rename_i m
     show g m = if m = n then some x else g m
     rw [if_neg]
     rintro rfl
     exact h rfl
   · rfl
end Go.Proofs.YtepacjkacjabbaaGreatDoor
namespace Go.Proofs.YtepacjkacjabbaaGreatDoor
open Go Go.RowKit
def OwnC (Tc : TypeId) {β : Type} (B : Nat) (I : β → World → Prop) : Prop :=
 ∀ s W W' row, I s W → W.grownBy W' row → (∀ r, row = some r → B ≤ r ∧ ∃ o : Obj, W.heap[r]? = some o ∧ (o.isCells = false ∨ ∃ cs fr, o = .cells cs Tc fr)) → I s W'
section
variable {Tc : TypeId} {β : Type} {B : Nat} {I : β → World → Prop}
theorem OwnC.putObj (h : OwnC Tc B I) {s : β} {W : World} {l : Nat} {o : Obj} (o' : Obj) (hs : I s W) (hB : B ≤ l) (hl : W.heap[l]? = some o) (ho : o.isCells = false) : I s (W.putObj l o') :=
 h s W _ (some l) hs (grownBy_putObj' W l o') (fun r e => by cases e; exact ⟨hB, o, hl, .inl ho⟩)
theorem OwnC.alloc (h : OwnC Tc B I) {s : β} {W : World} (o : Obj) (hs : I s W) : I s (W.alloc o) :=
 h s W _ none hs (World.grownBy_alloc W o none) (fun r e => by cases e)
theorem OwnC.new (h : OwnC Tc B I) {s : β} {W W' : World} (hs : I s W) (hb : Below W.heap.size W W') : I s W' :=
 h s W _ none hs ⟨hb.os, hb.tape, hb.output, hb.size, fun k hk _ => hb.block k hk⟩ (fun r e => by cases e)
theorem OwnC.up (h : OwnC Tc B I) {C : Nat} (hBC : B ≤ C) : OwnC Tc C I := fun s W W' row hs hg hr => h s W W' row hs hg (fun r e => ⟨by have := (hr r e).1; omega, (hr r e).2⟩)
theorem OwnC.cell (h : OwnC Tc B I) {s : β} {W : World} {a : Addr} {cs : Array Value} {fr : Nat × Nat} (v : Value) (hs : I s W) (hB : B ≤ a.block) (hl : W.heap[a.block]? = some (.cells cs Tc fr)) : I s (W.setCell a v) :=
 h s W _ (some a.block) hs ⟨rfl, rfl, rfl, by simp, fun k _ hk => Below.heap_setCell _ _ _ k (fun e => hk (by rw [e]))⟩ (fun r e => by cases e; exact ⟨hB, _, hl, .inr ⟨cs, fr, rfl⟩⟩)
theorem OwnC.turned (h : OwnC Tc B I) {s : β} {W W' : World} {b : Nat} (hs : I s W) (hB : B ≤ b) (ht : W.mapTurned W' b) : I s W' := by
 obtain ⟨es, cl, es', cl', hb, e⟩ := id ht
 exact h s W _ (some b) hs ht.grown (fun r e => by cases e; exact ⟨hB, _, hb, .inl rfl⟩)
end
def SeqC {α : Type} (F : Fence) (n : Nat) (P : Program) (g : Nat) (lb : Array Value) (encs : α → Array Value) (T : TypeId → Bool) (Tc : TypeId) (n₀ : Nat) (S Sp : List α → Prop) (N : Nat) (w : World) : Prop :=
 ∀ (l : Nat) (J Jx : List α → World → Prop) (W : World), Below w.heap.size w W → OwnC Tc W.heap.size J → OwnC Tc W.heap.size Jx →
   (∀ pre x W1, J pre W1 → pre.length < N → Sp (pre ++ [x]) → YieldAt F (n - 1) P l (encs x) W1 fun e W' =>
     (e = .returned (.bool true) ∧ J (pre ++ [x]) W' ∧ KeepsT T W.heap.size W1 W' ∧ Below n₀ W1 W') ∨ (e = .returned (.bool false) ∧ Jx (pre ++ [x]) W' ∧ KeepsT T W.heap.size W1 W' ∧ Below n₀ W1 W')) →
   J [] W →
   CallsIn F n P g (#[.func (.yield l) #[] #[]] ++ lb) W fun e W' => (∃ v, e = .returned v) ∧ ((∃ xs, S xs ∧ J xs W') ∨ (∃ pre, Sp pre ∧ Jx pre W'))
def netCPost {α : Type} (T : TypeId → Bool) (B n₀ : Nat) (I : List α → World → Prop) (Ix : Code → List α → World → Prop) (xs : List α) (W : World) : Exit → Act → World → Prop
 | .normal, _, W' => KeepsT T B W W' ∧ Below n₀ W W' ∧ I xs W'
 | .ret, _, W' => KeepsT T B W W' ∧ Below n₀ W W' ∧ Ix .ret xs W'
 | .exit id, _, W' => KeepsT T B W W' ∧ Below n₀ W W' ∧ Ix (.exit id) xs W'
 | .goto t, _, W' => KeepsT T B W W' ∧ Below n₀ W W' ∧ Ix (.goto t) xs W'
 | _, _, _ => False
variable {F : Fence} {n : Nat} {P : Program} {w : World}
end Go.Proofs.YtepacjkacjabbaaGreatDoor
namespace Go.Proofs.YtepacjkacjabbaaGreatDoor
open Go Go.RowKit Go.Maps
def rThing : Value → Option (DataW Unit × List MemPlace)
 | .agg cs => match cs.toList with
   | [.int .u8 a, .int .i64 b] => some (.agg [.lit (.int .u8 a), .lit (.int .i64 b)], [])
   | _ => none
 | _ => none
def Thing.val (x : Thing) : Value := .agg #[.int .u8 x.kind, .int .i64 x.width]
def thC : Codec Tryz.prog 264 Thing where
 val := Thing.val
 dat x := .agg [.lit (.int .u8 x.kind), .lit (.int .i64 x.width)]
 read := rThing
 put _ := rfl
 inv v z h := by
   unfold rThing at h
   split at h
   · rename_i cs
     split at h
     · rename_i a b he
       cases h
       refine ⟨⟨a, b⟩, ?_, rfl⟩
       have : cs = #[.int .u8 a, .int .i64 b] := by rw [← Array.toList_inj]; exact he
       rw [this]; rfl
     · cases h
   · cases h
 inj x y h := by cases x; cases y; simp at h; simp [h]
 zero := ⟨0, 0⟩
 zrun w := by kernel_rfl
def rNum : Value → Option (DataW Unit × List MemPlace)
 | .int .i64 a => some (.lit (.int .i64 a), [])
 | _ => none
def numC : Codec Tryz.prog 3 Int where
 val x := .int .i64 x
 dat x := .lit (.int .i64 x)
 read := rNum
 put _ := rfl
 inv v z h := by
   unfold rNum at h
   split at h
   · rename_i a
     cases h
     exact ⟨a, rfl, rfl⟩
   · cases h
 inj x y h := by simpa using h
 zero := 0
 zrun w := by kernel_rfl
theorem lawS : Keyed Tryz.prog 9 := string_keyed Tryz.underlying9
theorem lawI : Keyed Tryz.prog 3 := int_keyed Tryz.underlying3
theorem keyS {s : ByteArray} (h : s.size ≤ maxLen) : keyOf Tryz.prog 9 (.string s) = some (skey s) := Go.WideMaps.keyOf_string_mk Tryz.underlying9 h
theorem keyI {a : Int} (h : (Lit.int .i64 a).wf = true) : keyOf Tryz.prog 3 (.int .i64 a) = some (.int .i64 a) := keyOf_int_mk Tryz.underlying3 h
structure CkE where
 q : Nat
 p : ProgV
 n₀ : Nat
 B : Nat
 yv : Value
 mt : Nat
 mp : Nat
def CkE.cells (K : CkE) (pm : Option Nat) (E : Env) (n : Int) (over : Bool) : Array Value :=
 #[.int .i64 K.p.blocks, .int .i64 K.p.width, .slice K.p.is.at_ K.p.inputs.length K.p.is.cap, .slice K.p.gs.at_ K.p.ghosts.length K.p.gs.cap, .slice K.p.vs.at_ K.p.vars.length K.p.vs.cap, .slice K.p.as.at_ K.p.arrays.length K.p.as.cap, .int .u8 K.p.require.kind, .int .u8 K.p.require.op, .int .u32 K.p.require.value, .int .i64 K.p.require.width, .string K.p.require.name, .slice K.p.require.sp.at_ K.p.require.subs.length K.p.require.sp.cap, .slice K.p.ns.at_ K.p.inits.length K.p.ns.cap, .slice K.p.rs.at_ K.p.procs.length K.p.rs.cap, .slice K.p.ws.at_ K.p.work.length K.p.ws.cap, .slice K.p.cs.at_ K.p.recover.length K.p.cs.cap, .int .u8 K.p.invariant.kind, .int .u8 K.p.invariant.op, .int .u32 K.p.invariant.value, .int .i64 K.p.invariant.width, .string K.p.invariant.name, .slice K.p.invariant.sp.at_ K.p.invariant.subs.length K.p.invariant.sp.cap,
   .map (some K.mt), .map (some K.mp), .map pm, .int .i64 E.within, .int .i64 n, .int .i64 0, K.yv, .bool over]
def ParamsAt (K : CkE) (E : Env) (W : World) : Option Nat → Prop
 | none => E.params = []
 | some m => K.B ≤ m ∧ ∃ n, MapF thC 9 W m n (onStr (look E.params))
structure Ckr (K : CkE) (pm : Option Nat) (E : Env) (n : Int) (over : Bool) (W : World) : Prop where
 box : W.heap[K.q]? = some (.cells (K.cells pm E n over) 246 (0, 0))
 params : ParamsAt K E W pm
 things : ∃ n, MapF thC 9 W K.mt n (onStr (look (thingsP K.p)))
 procs : ∃ n, MapF numC 9 W K.mp n (onStr (look (procsAt K.p)))
 prog : RdP K.n₀ W K.p
 n0 : K.n₀ ≤ K.B
 q : K.B ≤ K.q
 mt : K.B ≤ K.mt
 mp : K.B ≤ K.mp
theorem ParamsAt.stays {K : CkE} {E : Env} {W W' : World} {pm : Option Nat} (h : ParamsAt K E W pm) (hk : ∀ k o, K.B ≤ k → W.heap[k]? = some o → o.isCells = false → W'.heap[k]? = some o) : ParamsAt K E W' pm := by
 cases pm with
 | none => exact h
 | some m =>
   obtain ⟨h1, n, h2⟩ := h
   obtain ⟨es, cl, h3⟩ := h2.obj
   exact ⟨h1, n, h2.of_block ((hk m _ h1 h3 rfl).trans h3.symm)⟩
theorem map_stays {P : Program} {e : TypeId} {α : Type} {C : Codec P e α} {t : TypeId} {B m : Nat} {f : Lit → Option α} {W W' : World} (h : ∃ n, MapF C t W m n f) (hB : B ≤ m) (hk : ∀ k o, B ≤ k → W.heap[k]? = some o → o.isCells = false → W'.heap[k]? = some o) : ∃ n, MapF C t W' m n f := by
 obtain ⟨n, h2⟩ := h
 obtain ⟨es, cl, h3⟩ := h2.obj
 exact ⟨n, h2.of_block ((hk m _ hB h3 rfl).trans h3.symm)⟩
def TK (t : TypeId) : Bool := t == 246 || t == 35 || t == 30 || t == 43 || t == 50 || t == 54 || t == 149
structure KeepsQ (K : CkE) (W W' : World) : Prop where
 size : W.heap.size ≤ W'.heap.size
 same : ∀ (k : Nat) (o : Obj), K.B ≤ k → W.heap[k]? = some o → o.isCells = false → W'.heap[k]? = some o
 cells : ∀ (k : Nat) (cs : Array Value) (t : TypeId) (fr : Nat × Nat), W.heap[k]? = some (.cells cs t fr) → TK t = true → k ≠ K.q → W'.heap[k]? = some (.cells cs t fr)
 low : Below K.n₀ W W'
section
variable {K : CkE} {W W' W'' : World}
theorem KeepsQ.refl (K : CkE) (W : World) : KeepsQ K W W := ⟨Nat.le_refl _, fun _ _ _ h _ => h, fun _ _ _ _ h _ _ => h, Below.refl _ _⟩
theorem KeepsQ.trans (h : KeepsQ K W W') (k : KeepsQ K W' W'') : KeepsQ K W W'' :=
 ⟨Nat.le_trans h.size k.size, fun i o hB hi ho => k.same i o hB (h.same i o hB hi ho) ho, fun i cs t fr hi ht hq => k.cells i cs t fr (h.cells i cs t fr hi ht hq) ht hq, h.low.trans k.low⟩
theorem KeepsQ.of_below (h : Below W.heap.size W W') (hn : K.n₀ ≤ W.heap.size) : KeepsQ K W W' :=
 ⟨h.size, fun k _ _ hk _ => (h.block k (Array.getElem?_eq_some_iff.1 hk).1).trans hk, fun k _ _ _ hk _ _ => (h.block k (Array.getElem?_eq_some_iff.1 hk).1).trans hk, h.mono hn⟩
theorem KeepsQ.of_keeps (h : KeepsT TK K.B W W') (hl : Below K.n₀ W W') : KeepsQ K W W' := ⟨h.size, h.same, fun k cs t fr hk ht _ => h.cells k cs t fr hk ht, hl⟩
theorem KeepsQ.set {cs : Array Value} {t : TypeId} {fr : Nat × Nat} {i : Nat} (hb : W.heap[K.q]? = some (.cells cs t fr)) (hn : K.n₀ ≤ K.q) (v : Value) : KeepsQ K W (W.setCell ⟨K.q, i, none⟩ v) :=
 ⟨by simp, fun k o _ hk ho => (Below.heap_setCell _ _ _ k (fun e => by simp only at e; subst e; rw [hb] at hk; cases hk; cases ho)).trans hk,
   fun k cs' t' fr' hk _ hq => (Below.heap_setCell _ _ _ k (fun e => hq e)).trans hk, (Below.refl _ _).setCell hn _⟩
end
theorem Ckr.stays {K : CkE} {pm : Option Nat} {E : Env} {n : Int} {over : Bool} {W W' : World} (h : Ckr K pm E n over W) (hk : KeepsQ K W W') {n' : Int} {over' : Bool}
   (hb : W'.heap[K.q]? = some (.cells (K.cells pm E n' over') 246 (0, 0))) : Ckr K pm E n' over' W' :=
 ⟨hb, h.params.stays hk.same, map_stays h.things h.mt hk.same, map_stays h.procs h.mp hk.same, h.prog.below hk.low, h.n0, h.q, h.mt, h.mp⟩
theorem Ckr.lt {K : CkE} {pm : Option Nat} {E : Env} {n : Int} {over : Bool} {W : World} (h : Ckr K pm E n over W) : K.q < W.heap.size := (Array.getElem?_eq_some_iff.1 h.box).1
theorem Ckr.new {K : CkE} {pm : Option Nat} {E : Env} {n : Int} {over : Bool} {W W' : World} (h : Ckr K pm E n over W) (hb : Below W.heap.size W W') : Ckr K pm E n over W' :=
 h.stays (.of_below hb (by have := h.lt; have := h.q; have := h.n0; omega)) ((hb.block _ h.lt).trans h.box)
def TellSt (J Jx : List (Int × Int) → World → Prop) (cs : List Int) (over : Bool) (W : World) : Prop :=
 (over = false ∧ J (probs cs 0) W) ∨ (over = true ∧ ∃ l, l ≠ [] ∧ l <+: probs cs 0 ∧ Jx l W)
structure CkSt (K : CkE) (J Jx : List (Int × Int) → World → Prop) (pm : Option Nat) (E : Env) (cs : List Int) (W : World) : Prop where
 ex : ∃ over, Ckr K pm E cs.length over W ∧ TellSt J Jx cs over W
structure Told (K : CkE) (J Jx : List (Int × Int) → World → Prop) (pm : Option Nat) (E : Env) (cs : List Int) (W W' : World) : Prop where
 st : CkSt K J Jx pm E cs W'
 keeps : KeepsQ K W W'
def TellOk (K : CkE) (J Jx : List (Int × Int) → World → Prop) : Prop :=
 ∀ (pm : Option Nat) (E : Env) (cs : List Int) (W : World) (c : Int), CkSt K J Jx pm E cs W → cs.length < 1000000 →
   Calls Tryz.prog 228 #[.pointer (some ⟨K.q, 0, none⟩), .int .i64 c] W fun o W' => o = .returned (.tuple #[]) ∧ Told K J Jx pm E (cs ++ [c]) W W'
theorem CkSt.new {K : CkE} {J Jx : List (Int × Int) → World → Prop} {pm : Option Nat} {E : Env} {cs : List Int} {W W' : World} (h : CkSt K J Jx pm E cs W)
   (hJ : OwnC 246 K.B J) (hJx : OwnC 246 K.B Jx) (hb : Below W.heap.size W W') : CkSt K J Jx pm E cs W' := by
 obtain ⟨over, h1, h2⟩ := h.ex
 refine ⟨over, h1.new hb, ?_⟩
 rcases h2 with ⟨e, h2⟩ | ⟨e, l, h3, h4, h5⟩
 · exact .inl ⟨e, hJ.new h2 hb⟩
 · exact .inr ⟨e, l, h3, h4, hJx.new h5 hb⟩
end Go.Proofs.YtepacjkacjabbaaGreatDoor
namespace Go.Proofs.YtepacjkacjabbaaGreatDoor
open Go Go.RowKit
theorem wide_any (n : Int) (w : World) : Calls Tryz.prog 254 #[.int .i64 n] w fun o w' => o = .returned (.bool (wideW n)) ∧ w = w' := by
 by_cases h1 : 1 ≤ n
 · by_cases h2 : n ≤ 16
   · have e : wideW n = true := decide_eq_true ⟨h1, h2⟩
     rw [e]
     go_enter Tryz.func254, Tryz.ntmps254
     go_wp2
     go_ret
     exact ⟨by simp, rfl⟩
   · have e : wideW n = false := decide_eq_false (fun h => h2 h.2)
     rw [e]
     go_enter Tryz.func254, Tryz.ntmps254
     go_wp2
     go_ret
     exact ⟨by simp, rfl⟩
 · have e : wideW n = false := decide_eq_false (fun h => h1 h.1)
   rw [e]
   go_enter Tryz.func254, Tryz.ntmps254
   go_wp2
   go_ret
   exact ⟨by simp, rfl⟩
theorem differ_any (a b : Int) (w : World) : Calls Tryz.prog 229 #[.int .i64 a, .int .i64 b] w fun o w' => o = .returned (.bool (differW a b)) ∧ w = w' := by
 have HA := Lib.hid (wide_any a w)
 have HB := Lib.hid (wide_any b w)
 have hd : differW a b = (wideW a && wideW b && decide (a ≠ b)) := rfl
 rw [hd]
 clear hd
 cases h1 : wideW a with
 | false =>
   rw [h1] at HA
   clear h1 HB
   go_enter Tryz.func229, Tryz.ntmps229
   go_wp2_with fail
   refine HA.out.mono ?_
   rintro o w1 ⟨rfl, rfl⟩
   go_wp2_with fail
   go_ret
   exact ⟨by simp, rfl⟩
 | true =>
   rw [h1] at HA
   clear h1
   cases h2 : wideW b with
   | false =>
     rw [h2] at HB
     clear h2
     go_enter Tryz.func229, Tryz.ntmps229
     go_wp2_with fail
     refine HA.out.mono ?_
     rintro o w1 ⟨rfl, rfl⟩
     go_wp2_with fail
     refine HB.out.mono ?_
     rintro o w2 ⟨rfl, rfl⟩
     go_wp2_with fail
     go_ret
     exact ⟨by simp, rfl⟩
   | true =>
     rw [h2] at HB
     clear h2
     go_enter Tryz.func229, Tryz.ntmps229
     go_wp2_with fail
     refine HA.out.mono ?_
     rintro o w1 ⟨rfl, rfl⟩
     go_wp2_with fail
     refine HB.out.mono ?_
     rintro o w2 ⟨rfl, rfl⟩
     go_wp2_with fail
     go_ret
     exact ⟨by simp [bne, BEq.beq], rfl⟩
theorem most_any (n : Int) (w : World) : Calls Tryz.prog 257 #[.int .i64 n] w fun o w' => o = .returned (.tuple #[.int .u32 (mostW n), .int .i64 (mostE n)]) ∧ w = w' := by
 by_cases h : 1 ≤ n ∧ n ≤ 16
 · rcases (show n = 1 ∨ n = 2 ∨ n = 3 ∨ n = 4 ∨ n = 5 ∨ n = 6 ∨ n = 7 ∨ n = 8 ∨ n = 9 ∨ n = 10 ∨ n = 11 ∨ n = 12 ∨ n = 13 ∨ n = 14 ∨ n = 15 ∨ n = 16 by omega) with rfl | rfl | rfl | rfl | rfl | rfl | rfl | rfl | rfl | rfl | rfl | rfl | rfl | rfl | rfl | rfl
   all_goals
     clear h
     go_enter Tryz.func257, Tryz.ntmps257
     go_wp2
     go_returns
     exact ⟨by kernel_rfl, rfl⟩
 · have e1 : mostW n = 0 := if_neg (by simp [wideW]; omega)
   have e2 : mostE n = 220 := if_neg (by simp [wideW]; omega)
   rw [e1, e2]
   clear e1 e2
   by_cases h1 : n < 1
   · have hd : decide (n < 1) = true := decide_eq_true h1
     clear h h1
     go_enter Tryz.func257, Tryz.ntmps257
     go_wp2
     go_returns
     exact ⟨rfl, rfl⟩
   · have hd : decide (n < 1) = false := decide_eq_false h1
     have hd2 : decide (16 < n) = true := decide_eq_true (by omega)
     clear h h1
     go_enter Tryz.func257, Tryz.ntmps257
     go_wp2
     go_returns
     exact ⟨rfl, rfl⟩
end Go.Proofs.YtepacjkacjabbaaGreatDoor
namespace Go.Proofs.YtepacjkacjabbaaGreatDoor
open Go Go.RowKit Go.Maps
theorem Ckr.cell {K : CkE} {pm : Option Nat} {E : Env} {n : Int} {over : Bool} {W : World} (h : Ckr K pm E n over W) (i : Nat) (v : Value) (hv : (K.cells pm E n over)[i]? = some v) : W.cell? ⟨K.q, i, none⟩ = some v := by
 simp [World.cell?, h.box, hv]
theorem Ckr.frozen {K : CkE} {pm : Option Nat} {E : Env} {n : Int} {over : Bool} {W : World} (h : Ckr K pm E n over W) (i : Nat) : W.frozen? ⟨K.q, i, none⟩ = false := by
 simp [World.frozen?, h.box]
section
variable {K : CkE} {pm : Option Nat} {E : Env} {n : Int} {over : Bool} {W : World}
theorem Ckr.c1 (h : Ckr K pm E n over W) : W.cell? ⟨K.q, 1, none⟩ = some (.int .i64 K.p.width) := h.cell 1 _ rfl
theorem Ckr.c13 (h : Ckr K pm E n over W) : W.cell? ⟨K.q, 13, none⟩ = some (.slice K.p.rs.at_ K.p.procs.length K.p.rs.cap) := h.cell 13 _ rfl
theorem Ckr.c22 (h : Ckr K pm E n over W) : W.cell? ⟨K.q, 22, none⟩ = some (.map (some K.mt)) := h.cell 22 _ rfl
theorem Ckr.c23 (h : Ckr K pm E n over W) : W.cell? ⟨K.q, 23, none⟩ = some (.map (some K.mp)) := h.cell 23 _ rfl
theorem Ckr.c24 (h : Ckr K pm E n over W) : W.cell? ⟨K.q, 24, none⟩ = some (.map pm) := h.cell 24 _ rfl
theorem Ckr.c25 (h : Ckr K pm E n over W) : W.cell? ⟨K.q, 25, none⟩ = some (.int .i64 E.within) := h.cell 25 _ rfl
theorem Ckr.c26 (h : Ckr K pm E n over W) : W.cell? ⟨K.q, 26, none⟩ = some (.int .i64 n) := h.cell 26 _ rfl
theorem Ckr.c28 (h : Ckr K pm E n over W) : W.cell? ⟨K.q, 28, none⟩ = some K.yv := h.cell 28 _ rfl
theorem Ckr.c29 (h : Ckr K pm E n over W) : W.cell? ⟨K.q, 29, none⟩ = some (.bool over) := h.cell 29 _ rfl
end
theorem Ckr.lookP {K : CkE} {pm : Option Nat} {E : Env} {n : Int} {over : Bool} {W : World} (h : Ckr K pm E n over W) {s : ByteArray} (hs : s.size ≤ maxLen) :
   (Instr.lookup 244 (.map pm) (.string s) true).run Tryz.prog W = .ok (.tuple #[.agg #[.int .u8 ((look E.params s).getD ⟨0, 0⟩).kind, .int .i64 ((look E.params s).getD ⟨0, 0⟩).width], .bool (look E.params s).isSome]) W := by
 cases pm with
 | none =>
   have e : look E.params s = none := by rw [show E.params = [] from h.params]; rfl
   rw [e]
   exact MapF.look_nil thC W lawS Tryz.underlying244 (keyS hs)
 | some m =>
   obtain ⟨_, k, hm⟩ := h.params
   have := hm.look_ok lawS Tryz.underlying244 (keyS hs)
   rw [onStr_skey] at this
   exact this
theorem Ckr.lookT {K : CkE} {pm : Option Nat} {E : Env} {n : Int} {over : Bool} {W : World} (h : Ckr K pm E n over W) {s : ByteArray} (hs : s.size ≤ maxLen) :
   (Instr.lookup 244 (.map (some K.mt)) (.string s) false).run Tryz.prog W = .ok (.agg #[.int .u8 ((look (thingsP K.p) s).getD ⟨0, 0⟩).kind, .int .i64 ((look (thingsP K.p) s).getD ⟨0, 0⟩).width]) W := by
 obtain ⟨k, hm⟩ := h.things
 have := hm.look lawS Tryz.underlying244 (keyS hs)
 rw [onStr_skey] at this
 exact this
set_option maxRecDepth 1000000 in
theorem find_any {K : CkE} {pm : Option Nat} {E : Env} {n : Int} {over : Bool} (w : World) (h : Ckr K pm E n over w) (s : ByteArray) (hs : s.size ≤ maxLen) :
   Calls Tryz.prog 256 #[.pointer (some ⟨K.q, 0, none⟩), .string s] w fun o w' => o = .returned (.agg #[.int .u8 (findW K.p E s).kind, .int .i64 (findW K.p E s).width]) ∧ Below w.heap.size w w' := by
 have hb1 : Below w.heap.size w (w.alloc (.cells #[.int .u8 0, .int .i64 0] 264)) := (Below.refl _ w).alloc (Nat.le_refl _) _
 have h1 := h.new hb1
 have c24 := h1.c24
 have l24 := h1.lookP hs
 cases hl : look E.params s with
 | some x =>
   have hf : findW K.p E s = x := by unfold findW; rw [hl]
   rw [hf]
   rw [hl] at l24
   simp only [Option.getD_some, Option.isSome_some] at l24
   clear hf hl hb1 h1 h
   go_enter Tryz.func256, Tryz.ntmps256
   go_wp2
   go_returns
   exact ⟨rfl, ((Below.refl _ _).alloc (Nat.le_refl _) _).alloc (by simp) _⟩
 | none =>
   have hf : findW K.p E s = (look (thingsP K.p) s).getD ⟨0, 0⟩ := by unfold findW; rw [hl]
   rw [hl] at l24
   simp only [Option.getD_none, Option.isSome_none] at l24
   have hb2 : Below w.heap.size w ((w.alloc (.cells #[.int .u8 0, .int .i64 0] 264)).alloc (.cells #[.int .u8 0, .int .i64 0] 264)) := hb1.alloc (Nat.le_of_lt (by simp)) _
   have h2 := h.new hb2
   have c22 := h2.c22
   have l22 := h2.lookT hs
   rw [← hf] at l22
   generalize findW K.p E s = y at *
   clear hf hl hb1 h1 h h2 hb2
   go_enter Tryz.func256, Tryz.ntmps256
   go_wp2
   go_returns
   exact ⟨rfl, ((Below.refl _ _).alloc (Nat.le_refl _) _).alloc (by simp) _⟩
set_option maxRecDepth 1000000 in
theorem limit_any {K : CkE} {pm : Option Nat} {E : Env} {n : Int} {over : Bool} (w : World) (h : Ckr K pm E n over w) (small large : Int) :
   Calls Tryz.prog 253 #[.pointer (some ⟨K.q, 0, none⟩), .int .i64 small, .int .i64 large] w fun o w' => o = .returned (.int .i64 (limitP K.p small large)) ∧ w = w' := by
 have c13 := h.c13
 have hl := h.prog.prow.few
 clear h
 by_cases hp : 0 < K.p.procs.length
 · have e : limitP K.p small large = small := if_pos hp
   rw [e]
   have hd : decide (0 < K.p.procs.length) = true := decide_eq_true hp
   clear e hp
   go_enter Tryz.func253, Tryz.ntmps253
   go_wp2
   go_ret
   exact ⟨rfl, rfl⟩
 · have e : limitP K.p small large = large := if_neg hp
   rw [e]
   have hd : decide (0 < K.p.procs.length) = false := decide_eq_false hp
   clear e hp
   go_enter Tryz.func253, Tryz.ntmps253
   go_wp2
   go_ret
   exact ⟨rfl, rfl⟩
end Go.Proofs.YtepacjkacjabbaaGreatDoor
