/- A map that is told by what it answers: f says for each key what it holds, if anything. Over whatever program. -/
import Derived.Maps.OwnSet
import Derived.Maps.RangeWalk
import Derived.Below
import Derived.Lib.Hide
namespace Go.Proofs.YthcboallnbaimaaGreatDoor
open Go Go.RowKit Go.Maps
/-- How the elements of a map are encoded. -/
structure Codec (P : Program) (e : TypeId) (α : Type) where
  val : α → Value
  dat : α → DataW Unit
  read : Value → Option (DataW Unit × List MemPlace)
  put : ∀ x, read (val x) = some (dat x, [])
  inv : ∀ v z, read v = some z → ∃ x, v = val x ∧ z = (dat x, [])
  inj : ∀ x y, dat x = dat y → x = y
  zero : α
  zrun : ∀ w, (zeroValue e).run P w = .ok (val zero) w
/-- Block b of W is a map of at most n entries which answers as f says. -/
structure MapF {P : Program} {e : TypeId} {α : Type} (C : Codec P e α) (k : TypeId) (W : World) (b n : Nat) (f : Lit → Option α) : Prop where
  ex : ∃ D : DataW Unit, W.ownsMap P k C.read b n D ∧ ∀ l, WideAt.IsKeyLit l → Maps.has D l = (f l).isSome ∧ ∀ x, f l = some x → ∀ z, D.atKey l z = C.dat x
section
variable {P : Program} {e k t : TypeId} {α : Type} {C : Codec P e α} {W W' : World} {b n : Nat} {f g : Lit → Option α}
theorem MapF.lt (h : MapF C k W b n f) : b < W.heap.size := let ⟨_, ho, _⟩ := h.ex; ho.lt
theorem MapF.of_block (h : MapF C k W b n f) (hb : W'.heap[b]? = W.heap[b]?) : MapF C k W' b n f := by
  obtain ⟨D, ⟨es, clock, h1, F, h2, h3⟩, hD⟩ := h.ex
  exact ⟨D, ⟨es, clock, hb.trans h1, F, h2, h3⟩, hD⟩
theorem MapF.below (h : MapF C k W b n f) {B : Nat} (hb : Below B W W') (hB : b < B) : MapF C k W' b n f := h.of_block (hb.block b hB)
theorem MapF.mono (h : MapF C k W b n f) {n' : Nat} (hn : n ≤ n') : MapF C k W b n' f := by
  obtain ⟨D, ho, hD⟩ := h.ex
  exact ⟨D, ho.mono hn, hD⟩
theorem MapF.congr (h : MapF C k W b n f) (hfg : ∀ l, WideAt.IsKeyLit l → f l = g l) : MapF C k W b n g := by
  obtain ⟨D, ho, hD⟩ := h.ex
  exact ⟨D, ho, fun l hl => by rw [← hfg l hl]; exact hD l hl⟩
theorem MapF.made (C : Codec P e α) (k : TypeId) (W : World) : MapF C k (W.alloc (.map #[] 0)) W.heap.size 0 (fun _ => none) :=
  ⟨_, World.ownsMap_made W P k C.read, fun l _ => ⟨rfl, fun x hx => by cases hx⟩⟩
/-- The object that a map is. -/
theorem MapF.obj (h : MapF C k W b n f) : ∃ es clock, W.heap[b]? = some (.map es clock) := by
  obtain ⟨D, ⟨es, clock, h1, _⟩, _⟩ := h.ex
  exact ⟨es, clock, h1⟩
theorem MapF.look_ok (h : MapF C k W b n f) (K : Keyed P k) (ht : P.underlying t = some (.map k e)) {key : Value} {kl : Lit} (hkey : keyOf P k key = some kl) :
    (Instr.lookup t (.map (some b)) key true).run P W = .ok (.tuple #[C.val ((f kl).getD C.zero), .bool (f kl).isSome]) W := by
  obtain ⟨D, ho, hD⟩ := h.ex
  obtain ⟨h1, h2⟩ := hD kl (K.key hkey)
  obtain ⟨v, ps, hrun, hv⟩ := ho.look_ok K ht (C.zrun W) (C.put C.zero) hkey
  rw [h1] at hrun
  rw [hrun]
  obtain ⟨x, rfl, hx⟩ := C.inv _ _ hv
  have hx1 := (Prod.mk.injEq _ _ _ _ ▸ hx).1
  suffices x = (f kl).getD C.zero by rw [this]
  cases hf : f kl with
  | none =>
    rw [hf] at h1
    rw [Maps.atKey_of_not_has h1] at hx1
    exact (C.inj _ _ hx1).symm
  | some y =>
    rw [h2 y hf] at hx1
    exact (C.inj _ _ hx1).symm
theorem MapF.look (h : MapF C k W b n f) (K : Keyed P k) (ht : P.underlying t = some (.map k e)) {key : Value} {kl : Lit} (hkey : keyOf P k key = some kl) :
    (Instr.lookup t (.map (some b)) key false).run P W = .ok (C.val ((f kl).getD C.zero)) W := by
  obtain ⟨D, ho, hD⟩ := h.ex
  obtain ⟨h1, h2⟩ := hD kl (K.key hkey)
  obtain ⟨v, ps, hrun, hv⟩ := ho.lookup K ht (C.zrun W) (C.put C.zero) hkey
  rw [hrun]
  obtain ⟨x, rfl, hx⟩ := C.inv _ _ hv
  have hx1 := (Prod.mk.injEq _ _ _ _ ▸ hx).1
  suffices x = (f kl).getD C.zero by rw [this]
  cases hf : f kl with
  | none =>
    rw [hf] at h1
    rw [Maps.atKey_of_not_has h1] at hx1
    exact (C.inj _ _ hx1).symm
  | some y =>
    rw [h2 y hf] at hx1
    exact (C.inj _ _ hx1).symm
theorem MapF.look_nil (C : Codec P e α) (W : World) (K : Keyed P k) (ht : P.underlying t = some (.map k e)) {key : Value} {kl : Lit} (hkey : keyOf P k key = some kl) :
    (Instr.lookup t (.map none) key true).run P W = .ok (.tuple #[C.val C.zero, .bool false]) W := by
  have := Maps.look_nil (w := W) true K ht (C.zrun W) hkey
  simpa using this
def putF (f : Lit → Option α) (kl : Lit) (x : α) (l : Lit) : Option α := if l.sameKey kl = true then some x else f l
theorem MapF.store (h : MapF C k W b n f) (K : Keyed P k) (ht : P.underlying t = some (.map k e)) (hn : n < maxLen) {key : Value} {kl : Lit} (hkey : keyOf P k key = some kl) (x : α) :
    ∃ w', (Instr.mapUpdate t (.map (some b)) key (C.val x)).run P W = .ok () w' ∧ MapF C k w' b (n + 1) (putF f kl x) ∧ W.mapTurned w' b := by
  obtain ⟨D, ho, hD⟩ := h.ex
  have him := ho.isMap
  have hk := K.key hkey
  obtain ⟨w', hrun, hown, hturn⟩ := ho.store K ht hn hkey (C.put x)
  refine ⟨w', hrun, ⟨_, hown, fun l hl => ?_⟩, hturn⟩
  unfold putF
  by_cases hlk : l = kl
  · subst hlk
    rw [if_pos (WideAt.sameKey_self hk)]
    exact ⟨Maps.has_put_same him hk _, fun y hy z => by cases hy; exact Maps.atKey_put_same him hk _ z⟩
  · rw [if_neg (fun h => hlk (WideAt.sameKey_eq h))]
    obtain ⟨h1, h2⟩ := hD l hl
    exact ⟨by rw [Maps.has_put_other hlk, h1], fun y hy z => by rw [Maps.atKey_put_other hlk]; exact h2 y hy z⟩
end
/-- What a key of a string type reads as. -/
def skey (s : ByteArray) : Lit := .string s.data.toList
def onStr {α : Type} (g : ByteArray → Option α) : Lit → Option α
  | .string cs => g ⟨cs.toArray⟩
  | _ => none
theorem onStr_skey {α : Type} (g : ByteArray → Option α) (s : ByteArray) : onStr g (skey s) = g s := by
  show g ⟨s.data.toList.toArray⟩ = g s
  rw [Array.toArray_toList]
theorem skey_inj {s t : ByteArray} (h : skey s = skey t) : s = t := by
  unfold skey at h
  have h1 : s.data.toList = t.data.toList := by injection h
  have h2 : s.data = t.data := Array.toList_inj.1 h1
  cases s; cases t; simp at h2; rw [h2]
theorem putF_onStr {α : Type} (g : ByteArray → Option α) (s : ByteArray) (x : α) : putF (onStr g) (skey s) x = onStr (fun t => if t = s then some x else g t) := by
  funext l
  unfold putF
  by_cases h : l = skey s
  · subst h; rw [if_pos (WideAt.sameKey_self (by trivial)), onStr_skey, if_pos rfl]
  · rw [if_neg (fun e => h (WideAt.sameKey_eq e))]
    cases l with
    | string cs =>
      show g ⟨cs.toArray⟩ = if (⟨cs.toArray⟩ : ByteArray) = s then some x else g ⟨cs.toArray⟩
      rw [if_neg]
      rintro rfl
      exact h (by simp [skey])
    | _ => rfl
def onInt {α : Type} (g : Int → Option α) : Lit → Option α
  | .int .i64 n => g n
  | _ => none
theorem putF_onInt {α : Type} (g : Int → Option α) (n : Int) (x : α) : putF (onInt g) (.int .i64 n) x = onInt (fun m => if m = n then some x else g m) := by
  funext l
  unfold putF
  by_cases h : l = .int .i64 n
  · subst h; rw [if_pos (WideAt.sameKey_self (by trivial))]; simp [onInt]
  · rw [if_neg (fun e => h (WideAt.sameKey_eq e))]
    unfold onInt
    split
    · rename_i m
      show g m = if m = n then some x else g m
      rw [if_neg]
      rintro rfl
      exact h rfl
    · rfl
end Go.Proofs.YthcboallnbaimaaGreatDoor
