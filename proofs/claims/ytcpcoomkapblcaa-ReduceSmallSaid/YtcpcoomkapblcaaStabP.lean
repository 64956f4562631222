import Derived.Test.YtcpcoomkapblcaaMergeP
open Go.Sort
namespace Go.Proofs.Ytcpcoomkapblcaa
variable {α : Type} [Inhabited α]
/-- Each block of bs places is sorted. -/
def Blocks (lt : α → α → Bool) (bs n : Nat) (d : Array α) : Prop := ∀ j, SortedIn lt (j * bs) (min ((j + 1) * bs) n) d
/-- The first j blocks of bs places are sorted. -/
def Firsts (lt : α → α → Bool) (bs j : Nat) (d : Array α) : Prop := ∀ j', j' < j → SortedIn lt (j' * bs) ((j' + 1) * bs) d
variable {lt : α → α → Bool}
theorem firsts_zero (bs : Nat) (d : Array α) : Firsts lt bs 0 d := fun _ h => by omega
theorem mul_le_of_lt {j' j bs : Nat} (h : j' < j) : (j' + 1) * bs ≤ j * bs := Nat.mul_le_mul_right bs h
theorem firsts_step {bs j b : Nat} {d d' : Array α} (h : Firsts lt bs j d) (hp : PermIn (j * bs) b d d') (hs : SortedIn lt (j * bs) ((j + 1) * bs) d') : Firsts lt bs (j + 1) d' := by
  intro j' hj
  by_cases e : j' = j
  · subst e; exact hs
  · have h1 : j' < j := by omega
    have h2 := mul_le_of_lt (bs := bs) h1
    exact sortedIn_part (h j' h1) (fun i _ hi => hp.2.1 i (.inl (by omega)))
theorem blocks_of {bs n j : Nat} {d : Array α} (h : Firsts lt bs j d) (hs : SortedIn lt (j * bs) n d) (hn : n ≤ (j + 1) * bs) : Blocks lt bs n d := by
  intro j'
  by_cases h1 : j' < j
  · exact fun p q a1 a2 a3 => h j' h1 p q a1 a2 (by omega)
  · by_cases h2 : j' = j
    · subst h2
      exact fun p q a1 a2 a3 => hs p q a1 a2 (by omega)
    · have h3 := mul_le_of_lt (bs := bs) (show j < j' by omega)
      exact fun p q a1 a2 a3 => by omega
theorem blocks_pair {bs n j : Nat} {d : Array α} (h : Blocks lt bs n d) : SortedIn lt (j * (2 * bs)) (min (j * (2 * bs) + bs) n) d ∧ SortedIn lt (j * (2 * bs) + bs) (min (j * (2 * bs) + 2 * bs) n) d := by
  have e0 : j * (2 * bs) = 2 * (j * bs) := Nat.mul_left_comm _ _ _
  have e1 : 2 * j * bs = 2 * (j * bs) := Nat.mul_assoc _ _ _
  have e2 : (2 * j + 1) * bs = 2 * (j * bs) + bs := by rw [Nat.add_mul, Nat.mul_assoc, Nat.one_mul]
  have e3 : (2 * j + 1 + 1) * bs = 2 * (j * bs) + 2 * bs := by rw [Nat.add_mul, e2, Nat.one_mul]; omega
  have h1 := h (2 * j)
  have h2 := h (2 * j + 1)
  rw [e1, e2] at h1
  rw [e2, e3] at h2
  rw [e0]
  exact ⟨h1, h2⟩
theorem blocks_whole {bs n : Nat} {d : Array α} (h : Blocks lt bs n d) (hn : n ≤ bs) : SortedIn lt 0 n d := by
  have h0 := h 0
  rw [Nat.zero_mul, Nat.zero_add, Nat.one_mul] at h0
  exact fun p q a1 a2 a3 => h0 p q a1 a2 (by omega)
theorem mul_succ' (j bs : Nat) : (j + 1) * bs = j * bs + bs := by rw [Nat.add_mul, Nat.one_mul]
end Go.Proofs.Ytcpcoomkapblcaa
