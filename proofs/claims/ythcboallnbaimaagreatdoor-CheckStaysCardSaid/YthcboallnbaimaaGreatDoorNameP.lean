/- Names: the library's words against plain ones. -/
import Derived.Test.YthcboallnbaimaaGreatDoorCheckP
import Derived.Lib.IndexMore
import Derived.Lib.SlTrimSet
namespace Go.Proofs.YthcboallnbaimaaGreatDoor
open Go
theorem contains_cons (b : UInt8) (l sub : List UInt8) : Lib.contains (b :: l) sub = (sub.isPrefixOf (b :: l) || Lib.contains l sub) := by
  unfold Lib.contains
  rw [Lib.index]
  have := Lib.index_ge l sub
  by_cases h : sub.isPrefixOf (b :: l) = true
  · rw [if_pos h, h]; simp
  · rw [if_neg h, Bool.eq_false_iff.2 h, Bool.false_or]
    by_cases h2 : Lib.index l sub = -1
    · rw [h2]; rfl
    · have : ((Lib.index l sub == -1) = true) = False := by simp [h2]
      simp only [this, if_false]
      apply decide_eq_decide.2
      omega
theorem contains_nil (b : UInt8) (t : List UInt8) : Lib.contains [] (b :: t) = false := rfl
theorem contains_skip (w r t : List UInt8) (c : UInt8) (hw : c ∉ w) : Lib.contains (w ++ r) (c :: t) = Lib.contains r (c :: t) := by
  induction w with
  | nil => rfl
  | cons x w ih =>
    have h1 : c ≠ x := fun e => hw (by rw [e]; exact List.mem_cons_self ..)
    rw [List.cons_append, contains_cons, ih (fun h => hw (List.mem_cons_of_mem _ h))]
    have : (c :: t).isPrefixOf (x :: (w ++ r)) = false := by rw [List.isPrefixOf]; simp [h1]
    rw [this, Bool.false_or]
theorem prefix_word (r : List UInt8) : ∀ (s w : List UInt8), 32 ∉ s → 32 ∉ w → (s ++ [32]).isPrefixOf (w ++ 32 :: r) = decide (w = s)
  | [], [], _, _ => rfl
  | [], x :: w, _, hw => by
    have h1 : (32 : UInt8) ≠ x := fun e => hw (by rw [e]; exact List.mem_cons_self ..)
    simp [List.isPrefixOf, h1]
  | y :: s, [], hs, _ => by
    have h1 : y ≠ 32 := fun e => hs (by rw [e]; exact List.mem_cons_self ..)
    simp [List.isPrefixOf, h1]
  | y :: s, x :: w, hs, hw => by
    have ih := prefix_word r s w (fun h => hs (List.mem_cons_of_mem _ h)) (fun h => hw (List.mem_cons_of_mem _ h))
    rw [List.cons_append, List.cons_append, List.isPrefixOf, ih]
    by_cases h : y = x
    · subst h; simp
    · have h2 : x ≠ y := fun e => h e.symm
      simp [h, h2]
def joinW : List (List UInt8) → List UInt8
  | [] => [32]
  | w :: ws => 32 :: (w ++ joinW ws)
theorem joinW_head : ∀ ws : List (List UInt8), ∃ r, joinW ws = 32 :: r
  | [] => ⟨[], rfl⟩
  | w :: ws => ⟨w ++ joinW ws, rfl⟩
theorem contains_join (s : List UInt8) (hs : 32 ∉ s) : ∀ ws : List (List UInt8), (∀ w ∈ ws, (32 : UInt8) ∉ w) → Lib.contains (joinW ws) (32 :: (s ++ [32])) = ws.any fun w => decide (w = s)
  | [], _ => by
    rw [joinW, contains_cons, contains_nil]
    cases s <;> rfl
  | w :: ws, hw => by
    rw [joinW, contains_cons, contains_skip _ _ _ _ (hw w (List.mem_cons_self ..)), contains_join s hs ws (fun x hx => hw x (List.mem_cons_of_mem _ hx)), List.any_cons]
    obtain ⟨r, hr⟩ := joinW_head ws
    rw [hr, List.isPrefixOf, prefix_word r s w hs (hw w (List.mem_cons_self ..))]
    simp
def wordsB : List (List UInt8) := words.map fun w => w.toUTF8.data.toList
theorem words_clean : ∀ w ∈ wordsB, (32 : UInt8) ∉ w := by decide
theorem dropWhile_nil (f : UInt8 → Bool) : ∀ l : List UInt8, l.dropWhile f = [] ↔ ∀ c ∈ l, f c = true
  | [] => by simp
  | c :: l => by
    rw [List.dropWhile_cons]
    by_cases h : f c = true
    · rw [if_pos h, dropWhile_nil f l]; simp [h]
    · rw [if_neg h]; simp [h]
theorem all_ne (f : String → List UInt8) (s : List UInt8) : ∀ l : List String, (l.all fun w => decide (f w ≠ s)) = !((l.map f).any fun w => decide (w = s))
  | [] => rfl
  | w :: l => by rw [List.all_cons, all_ne f s l, List.map_cons, List.any_cons]; by_cases h : f w = s <;> simp [h]
theorem trimS_nil (l cs : List UInt8) : (Lib.trimS l cs = []) ↔ ∀ c ∈ l, cs.contains c = true := by
  unfold Lib.trimS Lib.trimLeftS Lib.trimRightS
  rw [dropWhile_nil]
  constructor
  · intro h c hc
    cases hd : l.reverse.dropWhile (cs.contains ·) with
    | nil => exact (dropWhile_nil _ _).1 hd c (List.mem_reverse.2 hc)
    | cons x t =>
      have h1 := List.head?_dropWhile_not (cs.contains ·) l.reverse
      rw [hd] at h1
      have h2 := h x (by rw [hd]; simp)
      simp at h1
      rw [List.contains_iff_mem] at h2
      exact absurd h2 h1
  · intro h c hc
    have h1 : l.reverse.dropWhile (cs.contains ·) = [] := (dropWhile_nil _ _).2 fun x hx => h x (List.mem_reverse.1 hx)
    rw [h1] at hc
    cases hc
/-- The signs of names, as the program has them. -/
def signsB : List UInt8 := "abcdefghijklmnopqrstuvwxyz0123456789_".toUTF8.data.toList
set_option maxRecDepth 100000 in
theorem signs_all : ∀ n : Nat, n < 256 → signsB.contains (UInt8.ofNat n) = nameSign (UInt8.ofNat n) := by decide
theorem signs_eq (c : UInt8) : signsB.contains c = nameSign c := by
  have := signs_all c.toNat c.toNat_lt
  rwa [UInt8.ofNat_toNat] at this
/-- IsName, in the library's words. -/
def isNameG (s : List UInt8) : Bool :=
  decide (s.length ≤ 16) && (match s with | c :: _ => lower c | [] => false) && !Lib.contains (joinW wordsB) (32 :: (s ++ [32])) && decide (Lib.trimS s signsB = [])
theorem isNameG_eq (s : List UInt8) : isNameG s = isName s := by
  unfold isNameG isName
  have ht : decide (Lib.trimS s signsB = []) = s.all nameSign := by
    rw [Bool.eq_iff_iff, decide_eq_true_iff, trimS_nil, List.all_eq_true]
    constructor <;> intro h c hc <;> have := h c hc <;> rw [signs_eq] at * <;> exact this
  rw [ht]
  by_cases ha : s.all nameSign = true
  · have h32 : (32 : UInt8) ∉ s := fun h => absurd (List.all_eq_true.1 ha 32 h) (by decide)
    rw [contains_join s h32 wordsB words_clean, ha]
    rw [all_ne (fun w => w.toUTF8.data.toList) s words, Bool.and_true, Bool.and_true]
    rfl
  · rw [Bool.eq_false_iff.2 ha]
    simp
theorem cutDot_eq : ∀ s : List UInt8, cutDot s = if (Lib.cut s [46]).2.2 = true then some ((Lib.cut s [46]).1, (Lib.cut s [46]).2.1) else none
  | [] => rfl
  | c :: l => by
    have ih := cutDot_eq l
    have hg := Lib.index_ge l [46]
    rw [cutDot, ih]
    by_cases h : c.toNat = 46
    · have hc : c = 46 := UInt8.toNat.inj h
      subst hc
      have h1 : Lib.index (46 :: l) [46] = 0 := by rw [Lib.index]; rfl
      unfold Lib.cut
      rw [h1]
      simp
    · have hc : c ≠ 46 := fun e => h (by rw [e]; rfl)
      have hp : [46].isPrefixOf (c :: l) = false := by
        have : (46 : UInt8) ≠ c := fun e => hc e.symm
        simp [List.isPrefixOf, this]
      rw [if_neg h]
      unfold Lib.cut
      rw [Lib.index, hp]
      by_cases h2 : Lib.index l [46] = -1
      · simp [h2]
      · obtain ⟨k, hk⟩ : ∃ k : Nat, Lib.index l [46] = k := ⟨(Lib.index l [46]).toNat, by omega⟩
        have h3 : ((k : Int) == -1) = false := by rw [beq_eq_false_iff_ne]; omega
        have h4 : (0 : Int) ≤ (k : Int) + 1 := by omega
        have h5 : ((k : Int) + 1).toNat = k + 1 := by omega
        simp [hk, h3, h4, h5]
end Go.Proofs.YthcboallnbaimaaGreatDoor
