/- Chapter 32's reference: IsName and its words. -/
import Derived.Test.YthcboallnbaimaaGreatDoorNames
namespace Go.Proofs.YthcboallnbaimaaGreatDoor
open Go Go.RowKit Go.Maps
/-- What the reference asks of the byte at i. -/
def okC (i : Nat) (c : UInt8) : Bool := lower c || (decide (i ≠ 0) && (decide (48 ≤ c.toNat ∧ c.toNat ≤ 57) || decide (c.toNat = 95)))
theorem bad_byte (s : ByteArray) (j : Nat) (hj : j < s.size) (h : okC j s[j] = false) : isName s.data.toList = false := by
  have hl : s.data.toList[j]? = some s[j] := by
    rw [Array.getElem?_toList]; exact Array.getElem?_eq_getElem hj
  unfold isName
  unfold okC at h
  rw [Bool.or_eq_false_iff] at h
  obtain ⟨h1, h2⟩ := h
  cases hc : s.data.toList with
  | nil => rw [hc] at hl; cases hl
  | cons c r =>
    rw [hc] at hl
    by_cases h0 : j = 0
    · subst h0
      have e : c = s[0] := by simpa using hl
      simp [e, h1]
    · have hmem : s[j] ∈ c :: r := List.mem_of_getElem? hl
      have hns : nameSign s[j] = false := by
        unfold nameSign
        rw [h1, Bool.false_or]
        simpa [h0] using h2
      have : (c :: r).all nameSign = false := by
        rw [Bool.eq_false_iff]; intro ha
        rw [List.all_eq_true] at ha
        rw [ha _ hmem] at hns; cases hns
      rw [this]; simp
theorem word_not {s : ByteArray} {x : List UInt8} (hx : x ∈ wordsB) (h : s.data.toList = x) : isName s.data.toList = false := by
  obtain ⟨w, hw, rfl⟩ := List.mem_map.1 hx
  unfold isName
  have : (words.all fun w => decide (w.toUTF8.data.toList ≠ s.data.toList)) = false := by
    rw [Bool.eq_false_iff]; intro ha
    rw [List.all_eq_true] at ha
    have := of_decide_eq_true (ha w hw)
    exact this h.symm
  rw [this]; simp
theorem name_good (s : ByteArray) (h : ∀ (j : Nat) (hj : j < s.size), okC j s[j] = true) (hw : ∀ x ∈ wordsB, s.data.toList ≠ x) : isName s.data.toList = (decide (0 < s.size) && decide (s.size < 17)) := by
  have hsz : s.data.toList.length = s.size := by simp
  have hall : s.data.toList.all nameSign = true := by
    rw [List.all_eq_true]
    intro c hc
    obtain ⟨j, hj, rfl⟩ := List.getElem_of_mem hc
    have := h j (by rw [← hsz]; exact hj)
    have e : s[j] = s.data.toList[j] := by rw [Array.getElem_toList]; rfl
    rw [e] at this
    unfold okC at this
    unfold nameSign
    rw [Bool.or_eq_true] at this
    rcases this with h1 | h1
    · rw [h1]; rfl
    · rw [Bool.and_eq_true] at h1
      rw [Bool.or_assoc, h1.2, Bool.or_true]
  have hws : (words.all fun w => decide (w.toUTF8.data.toList ≠ s.data.toList)) = true := by
    rw [List.all_eq_true]
    intro x hx
    exact decide_eq_true (fun e => hw _ (List.mem_map.2 ⟨x, hx, rfl⟩) e.symm)
  unfold isName
  rw [hall, hws, Bool.and_true, Bool.and_true, hsz]
  cases hc : s.data.toList with
  | nil =>
    have : s.size = 0 := by rw [← hsz, hc]; rfl
    simp [this]
  | cons c r =>
    have h0 : 0 < s.size := by rw [← hsz, hc]; simp
    have h2 := h 0 h0
    have e : s[0] = c := by
      have : s.data.toList[0]? = some s[0] := by rw [Array.getElem?_toList]; exact Array.getElem?_eq_getElem h0
      rw [hc] at this
      simpa using this.symm
    rw [e] at h2
    have h3 : lower c = true := by simpa [okC] using h2
    simp only [h3, Bool.and_true, h0, decide_true, Bool.true_and]
    exact decide_eq_decide.2 (by omega)
def wordsV : List ByteArray := wordsB.map fun x => ⟨x.toArray⟩
theorem wordsV_len : wordsV.length = 21 := by decide
theorem wordsV_mem {k : Nat} (h : k < wordsV.length) : (wordsV[k]).data.toList ∈ wordsB := by
  have : wordsV[k] ∈ wordsV := List.getElem_mem h
  obtain ⟨x, hx, e⟩ := List.mem_map.1 this
  rw [← e]; exact hx
theorem wordsV_all {s : ByteArray} (h : ∀ k (hk : k < wordsV.length), s ≠ wordsV[k]) : ∀ x ∈ wordsB, s.data.toList ≠ x := by
  intro x hx e
  have : (⟨x.toArray⟩ : ByteArray) ∈ wordsV := List.mem_map.2 ⟨x, hx, rfl⟩
  obtain ⟨k, hk, e2⟩ := List.getElem_of_mem this
  refine h k hk ?_
  rw [e2, ← e]
theorem words_any (w : World) : Calls Tryz.prog 39 #[] w fun o w' => (∃ b : Nat, o = .returned (.slice (some ⟨b, 0, none⟩) 21 21) ∧ b < w'.heap.size ∧ ∀ k (h : k < wordsV.length), w'.cell? ⟨b, k, none⟩ = some (.string wordsV[k])) ∧ Below w.heap.size w w' := by
  have key : ∀ A : Array Value, A = (wordsV.map Value.string).toArray → (∃ b : Nat, (Ending.returned (.slice (some ⟨w.heap.size, 0, none⟩) 21 21) : Ending) = .returned (.slice (some ⟨b, 0, none⟩) 21 21) ∧ b < (w.alloc (.cells A 9)).heap.size ∧ ∀ k (h : k < wordsV.length), (w.alloc (.cells A 9)).cell? ⟨b, k, none⟩ = some (.string wordsV[k])) ∧ Below w.heap.size w (w.alloc (.cells A 9)) := by
    rintro A rfl
    refine ⟨⟨w.heap.size, rfl, by simp, fun k hk => ?_⟩, (Below.refl _ _).alloc (Nat.le_refl _) _⟩
    have hA : (wordsV.map Value.string).toArray[k]? = some (.string wordsV[k]) := by simp [hk]
    generalize (wordsV.map Value.string).toArray = A at *
    have h := World.alloc_heap_new w (.cells A 9)
    simp only [World.cell?, h]
    exact hA
  go_enter Tryz.func39, Tryz.ntmps39
  go_wp2_with fail
  go_ret
  exact key _ (by kernel_rfl)
set_option maxRecDepth 100000 in
set_option maxHeartbeats 4000000 in
theorem refName_any (w : World) (s : ByteArray) (hs : s.size ≤ 100) :
    Calls Tryz.prog 11 #[.string s] w fun o w' => o = .returned (.bool (isName s.data.toList)) ∧ Below w.heap.size w w' := by
  have hW := fun W => words_any W
  have HW := Lib.hid hW
  clear hW
  go_enter Tryz.func11, Tryz.ntmps11
  go_wp2_with fail
  go_loopw [3] (fun v wr => ∃ j : Nat, j ≤ s.size ∧ v = .int .i64 j ∧ Hid (∀ (i : Nat) (hi : i < s.size), i < j → okC i s[i] = true) ∧ wr = w) (fun v _ => s.size - (intOf v).toNat)
  case atStart => exact ⟨0, Nat.zero_le _, rfl, Lib.hid (fun i _ h => absurd h (Nat.not_lt_zero _)), rfl⟩
  case round =>
    obtain ⟨j, hj, rfl, HOK, rfl⟩ := hrel
    by_cases hjk : j < s.size
    · have HBAD := Lib.hid (bad_byte s j hjk)
      have HON : Hid (okC j s[j] = true → ∀ (i : Nat) (hi : i < s.size), i < j + 1 → okC i s[i] = true) := Lib.hid fun h i hi hij => by
        by_cases e : i = j
        · subst e; exact h
        · exact HOK.out i hi (by omega)
      clear HOK
      obtain ⟨c, hc⟩ : ∃ c, s[j] = c := ⟨_, rfl⟩
      rw [hc] at HBAD HON
      obtain ⟨k, hk⟩ : ∃ k, c.toNat = k := ⟨_, rfl⟩
      have hck : (s[j]).toNat = k := by rw [hc, hk]
      have hok : okC j c = (decide (97 ≤ k ∧ k ≤ 122) || (decide (j ≠ 0) && (decide (48 ≤ k ∧ k ≤ 57) || decide (k = 95)))) := by unfold okC lower; rw [hk]
      rw [hok] at HBAD HON
      clear hc hk hok
      by_cases h97 : 97 ≤ k
      · by_cases h122 : k ≤ 122
        · have d97 : decide ((97 : Int) ≤ (k : Int)) = true := decide_eq_true (by omega)
          have d122 : decide ((k : Int) ≤ 122) = true := decide_eq_true (by omega)
          have HN := Lib.hid (HON.out (by simp; omega))
          clear HBAD HON h97 h122
          go_wp2_with fail
          case roundEnd => exact ⟨⟨j + 1, by omega, by simp, HN, trivial⟩, by simp only [intOf]; omega⟩
        · by_cases h0 : j = 0
          · have d97 : decide ((97 : Int) ≤ (k : Int)) = true := decide_eq_true (by omega)
            have d122 : decide ((k : Int) ≤ 122) = false := decide_eq_false (by omega)
            have dj : ((j : Int) == 0) = true := by simp; omega
            have HN := Lib.hid (HBAD.out (by simp; omega))
            clear HBAD HON h97 h122 h0
            go_wp2_with fail
            go_ret
            exact ⟨by rw [HN.out]; rfl, Below.refl _ _⟩
          · have d97 : decide ((97 : Int) ≤ (k : Int)) = true := decide_eq_true (by omega)
            have d122 : decide ((k : Int) ≤ 122) = false := decide_eq_false (by omega)
            have dj : ((j : Int) == 0) = false := by simp; omega
            have d48 : decide ((48 : Int) ≤ (k : Int)) = true := decide_eq_true (by omega)
            have d57 : decide ((k : Int) ≤ 57) = false := decide_eq_false (by omega)
            have d95 : ((k : Int) == 95) = false := by simp; omega
            have HN := Lib.hid (HBAD.out (by simp; omega))
            clear HBAD HON h97 h122 h0
            go_wp2_with fail
            go_ret
            exact ⟨by rw [HN.out]; rfl, Below.refl _ _⟩
      · by_cases h0 : j = 0
        · have d97 : decide ((97 : Int) ≤ (k : Int)) = false := decide_eq_false (by omega)
          have dj : ((j : Int) == 0) = true := by simp; omega
          have HN := Lib.hid (HBAD.out (by simp; omega))
          clear HBAD HON h97 h0
          go_wp2_with fail
          go_ret
          exact ⟨by rw [HN.out]; rfl, Below.refl _ _⟩
        · by_cases h48 : 48 ≤ k
          · by_cases h57 : k ≤ 57
            · have d97 : decide ((97 : Int) ≤ (k : Int)) = false := decide_eq_false (by omega)
              have dj : ((j : Int) == 0) = false := by simp; omega
              have d48 : decide ((48 : Int) ≤ (k : Int)) = true := decide_eq_true (by omega)
              have d57 : decide ((k : Int) ≤ 57) = true := decide_eq_true (by omega)
              have HN := Lib.hid (HON.out (by simp; omega))
              clear HBAD HON h97 h0 h48 h57
              go_wp2_with fail
              case roundEnd => exact ⟨⟨j + 1, by omega, by simp, HN, trivial⟩, by simp only [intOf]; omega⟩
            · by_cases h95 : k = 95
              · have d97 : decide ((97 : Int) ≤ (k : Int)) = false := decide_eq_false (by omega)
                have dj : ((j : Int) == 0) = false := by simp; omega
                have d48 : decide ((48 : Int) ≤ (k : Int)) = true := decide_eq_true (by omega)
                have d57 : decide ((k : Int) ≤ 57) = false := decide_eq_false (by omega)
                have d95 : ((k : Int) == 95) = true := by simp; omega
                have HN := Lib.hid (HON.out (by simp; omega))
                clear HBAD HON h97 h0 h48 h57 h95
                go_wp2_with fail
                case roundEnd => exact ⟨⟨j + 1, by omega, by simp, HN, trivial⟩, by simp only [intOf]; omega⟩
              · have d97 : decide ((97 : Int) ≤ (k : Int)) = false := decide_eq_false (by omega)
                have dj : ((j : Int) == 0) = false := by simp; omega
                have d48 : decide ((48 : Int) ≤ (k : Int)) = true := decide_eq_true (by omega)
                have d57 : decide ((k : Int) ≤ 57) = false := decide_eq_false (by omega)
                have d95 : ((k : Int) == 95) = false := by simp; omega
                have HN := Lib.hid (HBAD.out (by simp; omega))
                clear HBAD HON h97 h0 h48 h57 h95
                go_wp2_with fail
                go_ret
                exact ⟨by rw [HN.out]; rfl, Below.refl _ _⟩
          · have d97 : decide ((97 : Int) ≤ (k : Int)) = false := decide_eq_false (by omega)
            have dj : ((j : Int) == 0) = false := by simp; omega
            have d48 : decide ((48 : Int) ≤ (k : Int)) = false := decide_eq_false (by omega)
            have d95 : ((k : Int) == 95) = false := by simp; omega
            have HN := Lib.hid (HBAD.out (by simp; omega))
            clear HBAD HON h97 h0 h48
            go_wp2_with fail
            go_ret
            exact ⟨by rw [HN.out]; rfl, Below.refl _ _⟩
    · have hsj : s.size = j := by omega
      have HALL : Hid (∀ (i : Nat) (hi : i < s.size), okC i s[i] = true) := Lib.hid fun i hi => HOK.out i hi (by omega)
      clear HOK
      go_wp2_with fail
      refine (HW.out _).mono ?_
      clear HW
      rintro o w2 ⟨⟨b, rfl, hlt, hcl⟩, hb2⟩
      have HCL := Lib.hid hcl
      have HB2 := Lib.hid hb2
      clear hcl hb2
      go_wp2_with fail
      go_loopw [6] (fun v wx => ∃ j : Nat, j ≤ 21 ∧ v = .int .i64 j ∧ Hid (∀ i (hi : i < wordsV.length), i < j → s ≠ wordsV[i]) ∧ wx = w2) (fun v _ => 21 - (intOf v).toNat)
      case atStart => exact ⟨0, by omega, rfl, Lib.hid (fun i _ h => absurd h (Nat.not_lt_zero _)), rfl⟩
      case round =>
        obtain ⟨m, hm, rfl, HNO, rfl⟩ := hrel
        have hwl := wordsV_len
        by_cases hm21 : m < 21
        · have k0 := HCL.out m (by omega)
          have HMEM := Lib.hid (wordsV_mem (k := m) (by omega))
          have HON : Hid (s ≠ wordsV[m]'(by omega) → ∀ i (hi : i < wordsV.length), i < m + 1 → s ≠ wordsV[i]) := Lib.hid fun h i hi hij => by
            by_cases e : i = m
            · subst e; exact h
            · exact HNO.out i hi (by omega)
          clear HNO
          generalize wordsV[m]'(by omega) = x at *
          have hm0 : (0 : Int) ≤ (m : Int) := by omega
          have hm1 : (m : Int) < 21 := by omega
          by_cases e : s = x
          · have he : (s.toList == x.toList) = true := by rw [e]; simp
            have HN := Lib.hid (word_not (s := s) HMEM.out (by rw [e]))
            clear HON HMEM e
            go_wp2_with fail
            go_ret
            exact ⟨by rw [HN.out]; rfl, HB2.out⟩
          · have he : (s.toList == x.toList) = false := by
              rw [beq_eq_false_iff_ne]; intro h
              rw [ByteArray.toList_eq, ByteArray.toList_eq] at h
              exact e (ByteArray.ext (Array.toList_inj.1 h))
            have HN := Lib.hid (HON.out e)
            clear HON HMEM e
            go_wp2_with fail
            case roundEnd => exact ⟨⟨m + 1, by omega, by simp, HN, trivial⟩, by simp only [intOf]; omega⟩
        · obtain rfl : m = 21 := by omega
          have HG := Lib.hid (name_good s HALL.out (wordsV_all fun k hk => HNO.out k hk (by omega)))
          clear HNO HALL HCL hm21
          by_cases h0 : 0 < s.size
          · by_cases h17 : s.size < 17
            · have d0 : decide (0 < s.size) = true := decide_eq_true (by omega)
              have d17 : decide ((s.size : Int) < 17) = true := decide_eq_true (by omega)
              have HR : Hid (isName s.data.toList = true) := Lib.hid (by rw [HG.out, decide_eq_true h0, decide_eq_true h17]; rfl)
              clear h0 h17 HG hsj
              go_wp2_with fail
              go_ret
              exact ⟨by rw [HR.out]; rfl, HB2.out⟩
            · have d0 : decide (0 < s.size) = true := decide_eq_true (by omega)
              have d17 : decide ((s.size : Int) < 17) = false := decide_eq_false (by omega)
              have HR : Hid (isName s.data.toList = false) := Lib.hid (by rw [HG.out, decide_eq_true h0, decide_eq_false h17]; rfl)
              clear h0 h17 HG hsj
              go_wp2_with fail
              go_ret
              exact ⟨by rw [HR.out]; rfl, HB2.out⟩
          · have d0 : decide (0 < s.size) = false := decide_eq_false (by omega)
            have HR : Hid (isName s.data.toList = false) := Lib.hid (by rw [HG.out, decide_eq_false h0]; rfl)
            clear h0 HG hsj
            go_wp2_with fail
            go_ret
            exact ⟨by rw [HR.out]; rfl, HB2.out⟩
end Go.Proofs.YthcboallnbaimaaGreatDoor
