import Derived.Sort.LotA
open Go.Sort
namespace Go.Proofs.Ytcpcoomkapblcaa
variable {α : Type} [Inhabited α]
/-- d' is d with the parts [a, m) and [m, b) exchanged. -/
structure Rot (a m b : Nat) (d d' : Array α) : Prop where
  perm : PermIn a b d d'
  hi : ∀ i, a ≤ i → i < a + (b - m) → d'[i]! = d[i + (m - a)]!
  lo : ∀ i, a + (b - m) ≤ i → i < b → d'[i]! = d[i - (b - m)]!
/-- d' is d with k places from a on exchanged with those from b on. -/
structure SwR (a b k : Nat) (d d' : Array α) : Prop where
  perm : ∀ l h, l ≤ a → b + k ≤ h → h ≤ d.size → PermIn l h d d'
  size : d'.size = d.size
  left : ∀ i, a ≤ i → i < a + k → d'[i]! = d[i + (b - a)]!
  right : ∀ i, b ≤ i → i < b + k → d'[i]! = d[i - (b - a)]!
  other : ∀ i, ¬ (a ≤ i ∧ i < a + k) → ¬ (b ≤ i ∧ i < b + k) → d'[i]! = d[i]!
theorem SwR.zero (a b : Nat) (d : Array α) : SwR a b 0 d d :=
  ⟨fun _ _ _ _ _ => permIn_refl _ _ _, rfl, fun _ h1 h2 => by omega, fun _ h1 h2 => by omega, fun _ _ _ => rfl⟩
theorem SwR.step {a b n k : Nat} {d d' : Array α} (h : SwR a b k d d') (hab : a + n ≤ b) (hk : k < n) (hb : b + n ≤ d.size) : SwR a b (k + 1) d (swp d' (a + k) (b + k)) := by
  have hs := h.size
  refine ⟨fun l r h1 h2 h3 => permIn_trans _ _ _ _ _ (h.perm l r h1 (by omega) h3) (swp_permIn _ _ _ _ _ (by omega) (by omega) (by omega) (by omega) (by omega)), by rw [size_swp, hs], fun i h1 h2 => ?_, fun i h1 h2 => ?_, fun i h1 h2 => ?_⟩
  · by_cases e : i = a + k
    · subst e
      rw [swp_left _ _ _ (by omega) (by omega), h.other _ (by omega) (by omega)]
      congr 1; omega
    · rw [swp_other _ _ _ _ e (by omega)]
      exact h.left i h1 (by omega)
  · by_cases e : i = b + k
    · subst e
      rw [swp_right _ _ _ (by omega), h.other _ (by omega) (by omega)]
      congr 1; omega
    · rw [swp_other _ _ _ _ (by omega) e]
      exact h.right i h1 (by omega)
  · rw [swp_other _ _ _ _ (by omega) (by omega)]
    exact h.other i (by omega) (by omega)
theorem Rot.eq {i m : Nat} {d d1 : Array α} (h : SwR (m - i) m i d d1) (hi : i ≤ m) (hb : m + i ≤ d.size) : Rot (m - i) m (m + i) d d1 := by
  refine ⟨h.perm _ _ (Nat.le_refl _) (Nat.le_refl _) hb, fun q h1 h2 => ?_, fun q h1 h2 => ?_⟩
  · rw [h.left q h1 (by omega)]
  · rw [h.right q (by omega) h2]
    congr 1; omega
theorem Rot.gt {i j m : Nat} {d d1 d' : Array α} (h : SwR (m - i) m j d d1) (hi : i ≤ m) (hij : j < i) (hb : m + j ≤ d.size) (hr : Rot (m - (i - j)) m (m + j) d1 d') : Rot (m - i) m (m + j) d d' := by
  have hs := h.size
  refine ⟨permIn_trans _ _ _ _ _ (h.perm _ _ (Nat.le_refl _) (Nat.le_refl _) hb) (permIn_mono _ _ _ _ _ _ (by omega) (Nat.le_refl _) (by omega) hr.perm), fun q h1 h2 => ?_, fun q h1 h2 => ?_⟩
  · rw [hr.perm.2.1 q (by omega), h.left q h1 (by omega)]
  · by_cases hq : q < m - (i - j) + j
    · rw [hr.hi q (by omega) (by omega), h.right _ (by omega) (by omega)]
      congr 1; omega
    · rw [hr.lo q (by omega) h2, h.other _ (by omega) (by omega)]
theorem Rot.lt {i j m : Nat} {d d1 d' : Array α} (h : SwR (m - i) (m + j - i) i d d1) (hi : i ≤ m) (hij : i < j) (hb : m + j ≤ d.size) (hr : Rot (m - i) m (m + (j - i)) d1 d') : Rot (m - i) m (m + j) d d' := by
  have hs := h.size
  refine ⟨permIn_trans _ _ _ _ _ (h.perm _ _ (Nat.le_refl _) (by omega) hb) (permIn_mono _ _ _ _ _ _ (Nat.le_refl _) (by omega) (by omega) hr.perm), fun q h1 h2 => ?_, fun q h1 h2 => ?_⟩
  · by_cases hq : q < m - i + (j - i)
    · rw [hr.hi q h1 (by omega), h.other _ (by omega) (by omega)]
    · by_cases hq2 : q < m + (j - i)
      · rw [hr.lo q (by omega) hq2, h.left _ (by omega) (by omega)]
        congr 1; omega
      · omega
  · by_cases hq2 : q < m + (j - i)
    · omega
    · rw [hr.perm.2.1 q (by omega), h.right q (by omega) (by omega)]
      congr 1; omega
theorem Rot.none_left (m b : Nat) (d : Array α) : Rot m m b d d := ⟨permIn_refl _ _ _, fun i _ _ => by congr 1; omega, fun i h1 h2 => by omega⟩
theorem Rot.none_right (a m : Nat) (d : Array α) : Rot a m m d d := ⟨permIn_refl _ _ _, fun i h1 h2 => by omega, fun i _ _ => by congr 1; omega⟩
/-- One more place to the right. -/
theorem Rot.up {a k : Nat} {d d' : Array α} (h : Rot a (a + 1) (k + 1) d d') (hak : a ≤ k) (hb : k + 1 < d.size) : Rot a (a + 1) (k + 2) d (swp d' k (k + 1)) := by
  have hs := h.perm.1
  refine ⟨permIn_trans _ _ _ _ _ (permIn_mono _ _ _ _ _ _ (Nat.le_refl _) (by omega) (by omega) h.perm) (swp_permIn _ _ _ _ _ (by omega) (by omega) (by omega) (by omega) (by omega)), fun i h1 h2 => ?_, fun i h1 h2 => ?_⟩
  · by_cases e : i = k
    · subst e
      rw [swp_left _ _ _ (by omega) (by omega), h.perm.2.1 _ (by omega)]
      congr 1; omega
    · rw [swp_other _ _ _ _ e (by omega), h.hi i h1 (by omega)]
  · have e : i = k + 1 := by omega
    subst e
    rw [swp_right _ _ _ (by omega), h.lo k (by omega) (by omega)]
    congr 1; omega
/-- One more place to the left. -/
theorem Rot.down {k m : Nat} {d d' : Array α} (h : Rot k m (m + 1) d d') (hk : 0 < k) (hkm : k ≤ m) (hb : m < d.size) : Rot (k - 1) m (m + 1) d (swp d' k (k - 1)) := by
  have hs := h.perm.1
  refine ⟨permIn_trans _ _ _ _ _ (permIn_mono _ _ _ _ _ _ (by omega) (Nat.le_refl _) (by omega) h.perm) (swp_permIn _ _ _ _ _ (by omega) (by omega) (by omega) (by omega) (by omega)), fun i h1 h2 => ?_, fun i h1 h2 => ?_⟩
  · have e : i = k - 1 := by omega
    subst e
    rw [swp_right _ _ _ (by omega), h.hi k (by omega) (by omega)]
    congr 1; omega
  · by_cases e : i = k
    · subst e
      rw [swp_left _ _ _ (by omega) (by omega), h.perm.2.1 _ (by omega)]
      congr 1; omega
    · rw [swp_other _ _ _ _ e (by omega), h.lo i (by omega) h2]
section
variable {lt : α → α → Bool} (hS : SWO lt)
include hS
omit [Inhabited α] in
theorem lt_false_of {x y z : α} (h1 : lt x y = false) (h2 : lt y z = false) : lt x z = false := hS.ntrans x y z h1 h2
omit [Inhabited α] in
theorem lt_true_left {x y z : α} (h1 : lt x z = true) (h2 : lt x y = false) : lt y z = true := by
  cases h : lt y z
  · rw [hS.ntrans x y z h2 h] at h1; cases h1
  · rfl
omit [Inhabited α] in
theorem lt_true_right {x y z : α} (h1 : lt x z = true) (h2 : lt y z = false) : lt x y = true := by
  cases h : lt x y
  · rw [hS.ntrans x y z h h2] at h1; cases h1
  · rfl
omit [Inhabited α] in
theorem lt_asym {x y : α} (h : lt x y = true) : lt y x = false := by
  cases h1 : lt y x
  · rfl
  · have := hS.trans x y x h h1
    rw [hS.irrefl x] at this; cases this
/-- The first one goes in behind those that are less. -/
theorem ins_right {a i b : Nat} {d d' : Array α} (hai : a + 1 ≤ i) (hib : i ≤ b) (hs : SortedIn lt (a + 1) b d) (h1 : ∀ h, a + 1 ≤ h → h < i → lt d[h]! d[a]! = true) (h2 : ∀ h, i ≤ h → h < b → lt d[h]! d[a]! = false)
    (hr : Rot a (a + 1) i d d') : SortedIn lt a b d' := by
  intro p q hp hpq hq
  have g : ∀ x, a ≤ x → x < b → (x + 1 < i ∧ d'[x]! = d[x + 1]!) ∨ (x + 1 = i ∧ d'[x]! = d[a]!) ∨ (i ≤ x ∧ d'[x]! = d[x]!) := by
    intro x h3 h4
    by_cases e : x + 1 < i
    · exact .inl ⟨e, by rw [hr.hi x h3 (by omega)]; congr 1; omega⟩
    · by_cases e2 : x + 1 = i
      · exact .inr (.inl ⟨e2, by rw [hr.lo x (by omega) (by omega)]; congr 1; omega⟩)
      · exact .inr (.inr ⟨by omega, hr.perm.2.1 x (by omega)⟩)
  rcases g p hp (by omega) with ⟨a1, a2⟩ | ⟨a1, a2⟩ | ⟨a1, a2⟩ <;> rcases g q (by omega) hq with ⟨b1, b2⟩ | ⟨b1, b2⟩ | ⟨b1, b2⟩ <;> rw [a2, b2]
  · exact hs _ _ (by omega) (by omega) (by omega)
  · exact lt_asym hS (h1 _ (by omega) (by omega))
  · exact hs _ _ (by omega) (by omega) hq
  · omega
  · omega
  · exact h2 _ (by omega) hq
  · omega
  · omega
  · exact hs _ _ (by omega) hpq hq
/-- The last one goes in ahead of those that are greater. -/
theorem ins_left {a i m : Nat} {d d' : Array α} (hai : a ≤ i) (him : i ≤ m) (hs : SortedIn lt a m d) (h1 : ∀ h, a ≤ h → h < i → lt d[m]! d[h]! = false) (h2 : ∀ h, i ≤ h → h < m → lt d[m]! d[h]! = true)
    (hr : Rot i m (m + 1) d d') : SortedIn lt a (m + 1) d' := by
  intro p q hp hpq hq
  have g : ∀ x, a ≤ x → x < m + 1 → (x < i ∧ d'[x]! = d[x]!) ∨ (x = i ∧ d'[x]! = d[m]!) ∨ (i < x ∧ d'[x]! = d[x - 1]!) := by
    intro x h3 h4
    by_cases e : x < i
    · exact .inl ⟨e, hr.perm.2.1 x (by omega)⟩
    · by_cases e2 : x = i
      · exact .inr (.inl ⟨e2, by rw [hr.hi x (by omega) (by omega)]; congr 1; omega⟩)
      · exact .inr (.inr ⟨by omega, by rw [hr.lo x (by omega) (by omega)]; congr 1; omega⟩)
  rcases g p hp (by omega) with ⟨a1, a2⟩ | ⟨a1, a2⟩ | ⟨a1, a2⟩ <;> rcases g q (by omega) hq with ⟨b1, b2⟩ | ⟨b1, b2⟩ | ⟨b1, b2⟩ <;> rw [a2, b2]
  · exact hs _ _ (by omega) (by omega) (by omega)
  · exact h1 _ (by omega) (by omega)
  · exact hs _ _ (by omega) (by omega) (by omega)
  · omega
  · omega
  · exact lt_asym hS (h2 _ (by omega) (by omega))
  · omega
  · omega
  · exact hs _ _ (by omega) (by omega) (by omega)
/-- What the search of symMerge knows: s where it stopped. -/
theorem sym_cross {a m b s : Nat} {d d1 : Array α} (ham : a < m) (hmb : m < b) (hs1 : SortedIn lt a m d) (hs2 : SortedIn lt m b d) (hl : a ≤ s) (hl2 : (a + b) / 2 + m ≤ b + s) (hu : s ≤ m) (hu2 : s ≤ (a + b) / 2) (hbd : b ≤ d.size)
    (h1 : ∀ c, a ≤ c → (a + b) / 2 + m ≤ b + c → c < s → lt d[(a + b) / 2 + m - 1 - c]! d[c]! = false)
    (h2 : ∀ c, s ≤ c → c < m → c < (a + b) / 2 → lt d[(a + b) / 2 + m - 1 - c]! d[c]! = true)
    (hr : Rot s m ((a + b) / 2 + m - s) d d1) :
    PermIn a b d d1 ∧ SortedIn lt a s d1 ∧ SortedIn lt s ((a + b) / 2) d1 ∧ SortedIn lt ((a + b) / 2) ((a + b) / 2 + m - s) d1 ∧ SortedIn lt ((a + b) / 2 + m - s) b d1 ∧
      (∀ i j, a ≤ i → i < (a + b) / 2 → (a + b) / 2 ≤ j → j < b → lt d1[j]! d1[i]! = false) := by
  generalize hmid : (a + b) / 2 = mid at *
  have hm1 : 2 * mid ≤ a + b := by omega
  have hm2 : a + b < 2 * mid + 2 := by omega
  clear hmid
  have g : ∀ x, a ≤ x → x < b → (x < s ∧ d1[x]! = d[x]!) ∨ (s ≤ x ∧ x < mid ∧ d1[x]! = d[x + (m - s)]!) ∨ (mid ≤ x ∧ x < mid + m - s ∧ d1[x]! = d[x - (mid - s)]!) ∨ (mid + m - s ≤ x ∧ d1[x]! = d[x]!) := by
    intro x h3 h4
    by_cases e : x < s
    · exact .inl ⟨e, hr.perm.2.1 x (by omega)⟩
    · by_cases e2 : x < mid
      · exact .inr (.inl ⟨by omega, e2, by rw [hr.hi x (by omega) (by omega)]⟩)
      · by_cases e3 : x < mid + m - s
        · exact .inr (.inr (.inl ⟨by omega, e3, by rw [hr.lo x (by omega) (by omega)]; congr 1; omega⟩))
        · exact .inr (.inr (.inr ⟨by omega, hr.perm.2.1 x (by omega)⟩))
  -- the greatest on the left of the cut is not above the least on the right of the end
  have k1 : ∀ c e, a ≤ c → c < s → mid + m - s ≤ e → e < b → lt d[e]! d[c]! = false := by
    intro c e hc1 hc2 he1 he2
    have b1 := h1 (s - 1) (by omega) (by omega) (by omega)
    rw [show mid + m - 1 - (s - 1) = mid + m - s by omega] at b1
    have b2 : lt d[e]! d[mid + m - s]! = false := by
      by_cases q : e = mid + m - s
      · rw [q]; exact hS.irrefl _
      · exact hs2 _ _ (by omega) (by omega) he2
    have b3 : lt d[s - 1]! d[c]! = false := by
      by_cases q : c = s - 1
      · rw [q]; exact hS.irrefl _
      · exact hs1 _ _ hc1 (by omega) (by omega)
    exact lt_false_of hS b2 (lt_false_of hS b1 b3)
  have k2 : ∀ c e, s ≤ c → c < m → m ≤ e → e < mid + m - s → lt d[c]! d[e]! = false := by
    intro c e hc1 hc2 he1 he2
    have b1 := lt_asym hS (h2 s (Nat.le_refl _) (by omega) (by omega))
    have b2 : lt d[c]! d[s]! = false := by
      by_cases q : c = s
      · rw [q]; exact hS.irrefl _
      · exact hs1 _ _ (by omega) (by omega) hc2
    have b3 : lt d[mid + m - 1 - s]! d[e]! = false := by
      by_cases q : e = mid + m - 1 - s
      · rw [q]; exact hS.irrefl _
      · exact hs2 _ _ (by omega) (by omega) (by omega)
    exact lt_false_of hS b2 (lt_false_of hS b1 b3)
  refine ⟨permIn_mono _ _ _ _ _ _ hl (by omega) hbd hr.perm, ?_, ?_, ?_, ?_, ?_⟩
  · intro p q hp hpq hq
    rw [hr.perm.2.1 p (by omega), hr.perm.2.1 q (by omega)]
    exact hs1 _ _ hp hpq (by omega)
  · intro p q hp hpq hq
    rw [hr.hi p hp (by omega), hr.hi q (by omega) (by omega)]
    exact hs2 _ _ (by omega) (by omega) (by omega)
  · intro p q hp hpq hq
    rw [hr.lo p (by omega) (by omega), hr.lo q (by omega) (by omega)]
    exact hs1 _ _ (by omega) (by omega) (by omega)
  · intro p q hp hpq hq
    rw [hr.perm.2.1 p (by omega), hr.perm.2.1 q (by omega)]
    exact hs2 _ _ (by omega) hpq hq
  · intro i j hi1 hi2 hj1 hj2
    rcases g i hi1 (by omega) with ⟨a1, a2⟩ | ⟨a1, a3, a2⟩ | ⟨a1, a3, a2⟩ | ⟨a1, a2⟩ <;> rcases g j (by omega) hj2 with ⟨b1, b2⟩ | ⟨b1, b3, b2⟩ | ⟨b1, b3, b2⟩ | ⟨b1, b2⟩ <;> rw [a2, b2] <;> first | omega | skip
    · exact hs1 _ _ hi1 (by omega) (by omega)
    · exact k1 _ _ hi1 a1 b1 hj2
    · exact k2 _ _ (by omega) (by omega) (by omega) (by omega)
    · exact hs2 _ _ (by omega) (by omega) hj2
omit hS in
theorem sortedIn_one {a b : Nat} (d : Array α) (h : b ≤ a + 1) : SortedIn lt a b d := fun i j h1 h2 h3 => by omega
omit hS in
theorem sortedIn_part {a b : Nat} {d d' : Array α} (h : SortedIn lt a b d) (he : ∀ i, a ≤ i → i < b → d'[i]! = d[i]!) : SortedIn lt a b d' := fun i j h1 h2 h3 => by
  rw [he i h1 (by omega), he j (by omega) h3]; exact h i j h1 h2 h3
omit hS in
/-- Two sorted parts, the second not below the first. -/
theorem sym_join {a mid b : Nat} {d1 d2 d3 : Array α} (ham : a ≤ mid) (hmb : mid ≤ b) (hb : b ≤ d1.size) (hc : ∀ i j, a ≤ i → i < mid → mid ≤ j → j < b → lt d1[j]! d1[i]! = false)
    (p1 : PermIn a mid d1 d2) (s1 : SortedIn lt a mid d2) (p2 : PermIn mid b d2 d3) (s2 : SortedIn lt mid b d3) : PermIn a b d1 d3 ∧ SortedIn lt a b d3 := by
  have hz := p1.1
  refine ⟨permIn_trans _ _ _ _ _ (permIn_mono _ _ _ _ _ _ (Nat.le_refl _) hmb hb p1) (permIn_mono _ _ _ _ _ _ ham (Nat.le_refl _) (by omega) p2), ?_⟩
  have e1 : ∀ i, i < mid → d3[i]! = d2[i]! := fun i h => p2.2.1 i (.inl h)
  have e2 : ∀ i, mid ≤ i → d2[i]! = d1[i]! := fun i h => p1.2.1 i (.inr h)
  have hx : ∀ i, a ≤ i → i < mid → ∀ j, mid ≤ j → j < b → lt d3[j]! d3[i]! = false := by
    intro i h1 h2
    rw [e1 i h2]
    refine permIn_all d2 d3 mid b (fun y => lt y d2[i]! = false) (by omega) p2 (fun j h3 h4 => ?_)
    rw [e2 j h3]
    exact permIn_all d1 d2 a mid (fun y => lt d1[j]! y = false) (by omega) p1 (fun i h5 h6 => hc i j h5 h6 h3 h4) i h1 h2
  intro p q hp hpq hq
  by_cases h1 : q < mid
  · rw [e1 p (by omega), e1 q h1]; exact s1 p q hp hpq h1
  · by_cases h2 : p < mid
    · exact hx p hp h2 q (by omega) hq
    · exact s2 p q (by omega) hpq hq
/-! ### The searches -/
theorem srt_le {l b i j : Nat} {d : Array α} (hs : SortedIn lt l b d) (h1 : l ≤ i) (h2 : i ≤ j) (h3 : j < b) : lt d[j]! d[i]! = false := by
  by_cases q : i = j
  · subst q; exact hS.irrefl _
  · exact hs _ _ h1 (by omega) h3
theorem srch_lt {l b i j : Nat} {d : Array α} {x : α} (hs : SortedIn lt l b d) (h1 : l ≤ i) (h2 : i ≤ j) (h3 : j < b) (h : lt d[j]! x = true) : lt d[i]! x = true :=
  lt_true_left hS h (srt_le hS hs h1 h2 h3)
theorem srch_ge {l b i j : Nat} {d : Array α} {x : α} (hs : SortedIn lt l b d) (h1 : l ≤ i) (h2 : i ≤ j) (h3 : j < b) (h : lt d[i]! x = false) : lt d[j]! x = false :=
  lt_false_of hS (srt_le hS hs h1 h2 h3) h
theorem srch_gt {l b i j : Nat} {d : Array α} {x : α} (hs : SortedIn lt l b d) (h1 : l ≤ i) (h2 : i ≤ j) (h3 : j < b) (h : lt x d[i]! = true) : lt x d[j]! = true :=
  lt_true_right hS h (srt_le hS hs h1 h2 h3)
theorem srch_le {l b i j : Nat} {d : Array α} {x : α} (hs : SortedIn lt l b d) (h1 : l ≤ i) (h2 : i ≤ j) (h3 : j < b) (h : lt x d[j]! = false) : lt x d[i]! = false :=
  lt_false_of hS h (srt_le hS hs h1 h2 h3)
theorem sym_dn {a m b p i j : Nat} {d : Array α} (hs1 : SortedIn lt a m d) (hs2 : SortedIn lt m b d) (h1 : a ≤ i) (h2 : i ≤ j) (h3 : j < m) (h4 : m + j ≤ p) (h5 : p < b + i) (h : lt d[p - j]! d[j]! = false) : lt d[p - i]! d[i]! = false :=
  lt_false_of hS (srt_le hS hs2 (by omega) (by omega) (by omega)) (lt_false_of hS h (srt_le hS hs1 h1 h2 h3))
theorem sym_up {a m b p i j : Nat} {d : Array α} (hs1 : SortedIn lt a m d) (hs2 : SortedIn lt m b d) (h1 : a ≤ i) (h2 : i ≤ j) (h3 : j < m) (h4 : m + j ≤ p) (h5 : p < b + i) (h : lt d[p - i]! d[i]! = true) : lt d[p - j]! d[j]! = true :=
  lt_true_left hS (lt_true_right hS h (srt_le hS hs1 h1 h2 h3)) (srt_le hS hs2 (by omega) (by omega) (by omega))
end
end Go.Proofs.Ytcpcoomkapblcaa
