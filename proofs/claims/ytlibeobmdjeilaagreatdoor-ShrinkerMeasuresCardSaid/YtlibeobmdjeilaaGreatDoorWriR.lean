/- replay.Write: the text of a schedule. -/
import Derived.Test.YtlibeobmdjeilaaGreatDoorBldW
import Derived.Lib.Hide
import Derived.WalkMore
set_option linter.all false
namespace Go.Proofs.YtlibeobmdjeilaaGreatDoor
open Go Go.RowKit
/-- The slice v reads as the list l. -/
def RdG {α : Type} (mk : α → Value) (W : World) (v : Value) (l : List α) : Prop :=
  ∃ A c, v = .slice A l.length c ∧ (0 < l.length → ∃ b off, A = some ⟨b, off, .none⟩ ∧ ∀ j (h : j < l.length), W.cell? ⟨b, off + j, .none⟩ = some (mk l[j]))
theorem RdG.cells {α : Type} {mk : α → Value} {W W' : World} {v : Value} {l : List α} (h : RdG mk W v l) (hc : ∀ a u, W.cell? a = some u → W'.cell? a = some u) : RdG mk W' v l := by
  obtain ⟨A, c, e, hr⟩ := h
  refine ⟨A, c, e, fun h0 => ?_⟩
  obtain ⟨b, off, e2, hx⟩ := hr h0
  exact ⟨b, off, e2, fun j hj => hc _ _ (hx j hj)⟩
theorem cell_lt {W : World} {a : Addr} {u : Value} (ha : W.cell? a = some u) : a.block < W.heap.size := by
  unfold World.cell? at ha
  cases hh : W.heap[a.block]? with
  | none => rw [hh] at ha; cases ha
  | some o => exact (Array.getElem?_eq_some_iff.1 hh).1
theorem RdG.on {α : Type} {mk : α → Value} {W W' : World} {v : Value} {l : List α} (h : RdG mk W v l) (hb : Below W.heap.size W W') : RdG mk W' v l := h.cells fun a u ha => (hb.cell (cell_lt ha)).trans ha
theorem IsBld.on {B b : Nat} {l : List UInt8} {W W' : World} (h : IsBld B b l W) (hb : Below W.heap.size W W') : IsBld B b l W' := by
  have key : ∀ p, Lib.BuilderAt 238 5 B b p (Lib.byteCells l) W → Lib.BuilderAt 238 5 B b p (Lib.byteCells l) W' := by
    rintro p ⟨hB, v, hbk, ⟨hl, ho⟩, hne⟩
    refine ⟨hB, v, (hb.block b (Array.getElem?_eq_some_iff.1 hbk).1).trans hbk, ⟨hl, ?_⟩, hne⟩
    rcases ho with h0 | ⟨g, cap, cur, rfl, h1, h2, h3⟩
    · exact .inl h0
    · exact .inr ⟨g, cap, cur, rfl, h1, (hb.block g (Array.getElem?_eq_some_iff.1 h2).1).trans h2, h3⟩
  exact h.imp (key _) (key _)
/-- Numbers with commas between them. -/
def insP (tx : Int → List UInt8) : List Int → List UInt8
  | [] => []
  | x :: l => tx x ++ l.flatMap fun y => 44 :: tx y
def writeP (tx : Int → List UInt8) (xs : List Int) (pt : Int) (bs : List Bool) : List UInt8 := insP tx xs ++ (59 :: tx pt ++ [59]) ++ bs.map fun b => if b then 49 else 48
theorem insP_snoc (tx : Int → List UInt8) (l : List Int) (x : Int) : insP tx (l ++ [x]) = insP tx l ++ (if 0 < l.length then [44] else []) ++ tx x := by
  cases l with
  | nil => simp [insP]
  | cons y l => simp [insP, List.flatMap_append]
theorem flat_len (tx : Int → List UInt8) : ∀ (l : List Int), (∀ x ∈ l, (tx x).length ≤ 20) → (l.flatMap fun y => 44 :: tx y).length ≤ 21 * l.length
  | [], _ => by simp
  | x :: l, h => by
    have h1 := flat_len tx l fun y hy => h y (by simp [hy])
    have h2 := h x (by simp)
    simp only [List.flatMap_cons, List.length_append, List.length_cons] at h1 ⊢
    omega
theorem insP_len (tx : Int → List UInt8) (l : List Int) (h : ∀ x ∈ l, (tx x).length ≤ 20) : (insP tx l).length ≤ 21 * l.length := by
  cases l with
  | nil => simp [insP]
  | cons x l =>
    have h1 := flat_len tx l fun y hy => h y (by simp [hy])
    have h2 := h x (by simp)
    simp only [insP, List.length_append, List.length_cons]
    omega
/-- The state of the text: so much is written, and what lies below is as it was. -/
structure StW (W : World) (B : Nat) (l : List UInt8) (w : World) : Prop where
  below : Below B W w
  bld : IsBld B B l w
set_option maxRecDepth 1000000 in
set_option maxHeartbeats 8000000 in
theorem write_any (W : World) (v1 v3 : Value) (xs : List Int) (pt : Int) (bs : List Bool) (tx : Int → List UInt8) (h1 : RdG (.int .u32) W v1 xs) (h3 : RdG .bool W v3 bs) (hx : ∀ x ∈ xs, 0 ≤ x ∧ x ≤ 4294967295) (hp : -9223372036854775808 ≤ pt ∧ pt ≤ 9223372036854775807)
    (hl : xs.length ≤ 1000000) (hlb : bs.length ≤ 1000000) (hlen : ∀ n, (n ∈ xs ∨ n = pt) → (tx n).length ≤ 20)
    (HI : ∀ n W', (n ∈ xs ∨ n = pt) → Below W.heap.size W W' → Calls Tryz.prog 138 #[.int .i64 n] W' fun e w' => e = .returned (.string ⟨⟨tx n⟩⟩) ∧ Below W'.heap.size W' w') :
    Calls Tryz.prog 70 #[.agg #[v1, .int .i64 pt, v3]] W fun e w' => e = .returned (.string ⟨⟨writeP tx xs pt bs⟩⟩) ∧ Below W.heap.size W w' := by
  obtain ⟨A1, c1, rfl, hr1⟩ := h1
  obtain ⟨A3, c3, rfl, hr3⟩ := h3
  have HR1 := Lib.hid hr1
  have HR3 := Lib.hid hr3
  have HX := Lib.hid hx
  have HP := Lib.hid hp
  have HL := Lib.hid hlen
  have HII := Lib.hid HI
  clear hr1 hr3 hx hp hlen HI
  go_enter Tryz.func70, Tryz.ntmps70
  go_wp2_with fail
  obtain ⟨w1, hw1⟩ : ∃ w1, W.alloc (.cells #[.slice A1 xs.length c1, .int .i64 pt, .slice A3 bs.length c3] 93) = w1 := ⟨_, rfl⟩
  have hz1 : w1.heap.size = W.heap.size + 1 := by rw [← hw1]; exact World.size_alloc _ _
  have hb1 : Below W.heap.size W w1 := by rw [← hw1]; exact (Below.refl _ _).alloc (Nat.le_refl _) _
  have hx1 : w1.heap[W.heap.size]? = some (.cells #[.slice A1 xs.length c1, .int .i64 pt, .slice A3 bs.length c3] 93 (0, 0)) := by rw [← hw1]; exact heap_alloc_new W _
  have hf := Lib.fresh_isBuilder 238 5 w1
  rw [hw1]
  obtain ⟨w2, hw2⟩ : ∃ w2, w1.alloc (.cells #[.pointer none, .slice none 0 0] 238) = w2 := ⟨_, rfl⟩
  rw [hw2] at hf ⊢
  have hz2 : w2.heap.size = W.heap.size + 2 := by rw [← hw2, World.size_alloc, hz1]
  have hb2 : Below w1.heap.size w1 w2 := by rw [← hw2]; exact (Below.refl _ _).alloc (Nat.le_refl _) _
  rw [hz1] at hf hb2
  have HZ := Lib.hid hz2
  have HB2 := Lib.hid (hb1.trans (hb2.mono (Nat.le_succ _)))
  have HBX := Lib.hid ((hb2.block W.heap.size (Nat.lt_succ_self _)).trans hx1)
  have HF := Lib.hid (show StW w2 (W.heap.size + 1) [] w2 from ⟨Below.refl _ _, hf⟩)
  clear hw1 hz1 hb1 hx1 hw2 hz2 hb2 hf
  go_loopw [11] (fun s11 wr => ∃ k : Nat, k ≤ xs.length ∧ s11 = .int .i64 k ∧ StW w2 (W.heap.size + 1) (insP tx (xs.take k)) wr) (fun s11 _ => xs.length - (intOf s11).toNat)
  case atStart => exact ⟨0, Nat.zero_le _, rfl, HF.out⟩
  case round =>
    obtain ⟨k, hk, rfl, hst⟩ := hrel
    have HS := Lib.hid hst
    have HSZ := Lib.hid (show W.heap.size + 1 ≤ wr.heap.size from Nat.le_trans (by rw [HZ.out]; omega) hst.below.size)
    have HBW := Lib.hid (show Below W.heap.size W wr from HB2.out.trans (hst.below.mono (Nat.le_succ _)))
    have HLN := Lib.hid (show (insP tx (xs.take k)).length ≤ 21 * k from by
      have := insP_len tx (xs.take k) fun x hx => HL.out x (.inl (List.mem_of_mem_take hx))
      rw [List.length_take] at this
      omega)
    clear hst
    by_cases hlt : k < xs.length
    · obtain ⟨b, off, rfl, hcell⟩ := HR1.out (by omega)
      have hc0 := hcell k hlt
      obtain ⟨x, hxk⟩ : ∃ x, xs[k] = x := ⟨_, rfl⟩
      rw [hxk] at hc0
      have hk1 : wr.cell? ⟨b, off + k, none⟩ = some (.int .u32 x) := (HBW.out.cell (cell_lt hc0)).trans hc0
      have hmem : x ∈ xs := hxk ▸ List.getElem_mem hlt
      obtain ⟨hx0, hx1⟩ := HX.out x hmem
      have HM := Lib.hid hmem
      have HTK := Lib.hid (show xs.take (k + 1) = xs.take k ++ [x] from by rw [List.take_add_one, List.getElem?_eq_getElem hlt, hxk]; rfl)
      have HKL := Lib.hid hlt
      have hj0 : (0 : Int) ≤ (k : Int) := by omega
      have hj1 : (k : Int) < (xs.length : Int) := by omega
      clear hc0 hcell hxk hmem
      by_cases hk0 : 0 < k
      · have hkt : (0 : Int) < (k : Int) := by omega
        have HK0 := Lib.hid hk0
        clear hk0
        go_wp2_with fail
        refine (writeByte_any _ _ _ 44 (by decide) _ HS.out.bld (by have := HLN.out; have := HKL.out; omega) HSZ.out).mono ?_
        rintro o2 w3 ⟨rfl, hbl3, hb3⟩
        have HB3 := Lib.hid hb3
        have HBL3 := Lib.hid hbl3
        clear hb3 hbl3
        go_wp2_with fail
        refine (HII.out x _ (.inl HM.out) (HBW.out.trans (HB3.out.mono (Nat.le_succ _)))).mono ?_
        rintro o4 w4 ⟨rfl, hb4⟩
        have HB4 := Lib.hid hb4
        clear hb4
        go_wp2_with fail
        refine (writeString_any _ _ (insP tx (xs.take k) ++ [UInt8.ofNat 44]) ⟨⟨tx x⟩⟩ _ ((HBL3.out).on HB4.out) (by have := HLN.out; have := HKL.out; have := HL.out x (.inl HM.out); show ((insP tx (xs.take k) ++ [UInt8.ofNat 44])).length + (tx x).length ≤ _; simp only [List.length_append, List.length_cons, List.length_nil]; omega) (Nat.le_trans (Nat.le_trans HSZ.out HB3.out.size) HB4.out.size)).mono ?_
        rintro o5 w5 ⟨rfl, hbl5, hb5⟩
        have HB5 := Lib.hid hb5
        have HBL5 := Lib.hid hbl5
        clear hb5 hbl5
        go_wp2_with fail
        have hrel5 : StW w2 (W.heap.size + 1) (insP tx (xs.take (k + 1))) w5 := by
          refine ⟨((HS.out.below.trans HB3.out).trans (HB4.out.mono (Nat.le_trans HSZ.out HB3.out.size))).trans HB5.out, ?_⟩
          have e : insP tx (xs.take (k + 1)) = (insP tx (xs.take k) ++ [UInt8.ofNat 44]) ++ tx x := by
            rw [HTK.out, insP_snoc, List.length_take, Nat.min_eq_left (Nat.le_of_lt HKL.out)]
            rw [if_pos HK0.out]; rfl
          rw [e]
          exact HBL5.out
        have HR5 := Lib.hid hrel5
        have HK5 := Lib.hid (show k + 1 ≤ xs.length from HKL.out)
        have HKX := Lib.hid hlt
        clear hrel5
        go_roundw
        case rel => exact ⟨k + 1, HK5.out, by go_num, HR5.out⟩
        case measure => have := HKX.out; simp [intOf]; omega
      · have hkt : ¬ (0 : Int) < (k : Int) := by omega
        have HK0 := Lib.hid hk0
        clear hk0
        go_wp2_with fail
        refine (HII.out x _ (.inl HM.out) (HBW.out)).mono ?_
        rintro o4 w4 ⟨rfl, hb4⟩
        have HB4 := Lib.hid hb4
        clear hb4
        go_wp2_with fail
        refine (writeString_any _ _ (insP tx (xs.take k)) ⟨⟨tx x⟩⟩ _ ((HS.out.bld).on HB4.out) (by have := HLN.out; have := HKL.out; have := HL.out x (.inl HM.out); show ((insP tx (xs.take k))).length + (tx x).length ≤ _; omega) (Nat.le_trans (HSZ.out) HB4.out.size)).mono ?_
        rintro o5 w5 ⟨rfl, hbl5, hb5⟩
        have HB5 := Lib.hid hb5
        have HBL5 := Lib.hid hbl5
        clear hb5 hbl5
        go_wp2_with fail
        have hrel5 : StW w2 (W.heap.size + 1) (insP tx (xs.take (k + 1))) w5 := by
          refine ⟨((HS.out.below).trans (HB4.out.mono (HSZ.out))).trans HB5.out, ?_⟩
          have e : insP tx (xs.take (k + 1)) = (insP tx (xs.take k)) ++ tx x := by
            rw [HTK.out, insP_snoc, List.length_take, Nat.min_eq_left (Nat.le_of_lt HKL.out)]
            rw [if_neg HK0.out, List.append_nil]
          rw [e]
          exact HBL5.out
        have HR5 := Lib.hid hrel5
        have HK5 := Lib.hid (show k + 1 ≤ xs.length from HKL.out)
        have HKX := Lib.hid hlt
        clear hrel5
        go_roundw
        case rel => exact ⟨k + 1, HK5.out, by go_num, HR5.out⟩
        case measure => have := HKX.out; simp [intOf]; omega
    · obtain rfl : k = xs.length := by omega
      have HN := Lib.hid (show insP tx (xs.take xs.length) = insP tx xs from by rw [List.take_length])
      have HWK := Lib.hid (show wr.cell? ⟨W.heap.size, 1, none⟩ = some (.int .i64 pt) ∧ wr.cell? ⟨W.heap.size, 2, none⟩ = some (.slice A3 bs.length c3) from by
        have hbx : wr.heap[W.heap.size]? = _ := (HS.out.below.block _ (Nat.lt_succ_self _)).trans HBX.out
        exact ⟨by rw [Lib.cell_of_heap hbx]; rfl, by rw [Lib.cell_of_heap hbx]; rfl⟩)
      obtain ⟨d1, d2⟩ := HWK.out
      have hpl := (HL.out pt (.inr rfl))
      have HPL := Lib.hid hpl
      have HK0 := Lib.hid hlt
      clear hlt hpl
      go_wp2_with fail
      refine (HII.out pt _ (.inr rfl) HBW.out).mono ?_
      rintro o3 w3 ⟨rfl, hb3⟩
      have HB3 := Lib.hid hb3
      have hs1 : (⟨⟨tx pt⟩⟩ : ByteArray).size ≤ 140737488355328 := Nat.le_trans HPL.out (by decide)
      have hs2 : ((⟨#[59]⟩ : ByteArray) ++ ⟨⟨tx pt⟩⟩).size ≤ 140737488355328 := by
        have h1 : (⟨⟨tx pt⟩⟩ : ByteArray).size ≤ 20 := HPL.out
        rw [ByteArray.size_append]
        show 1 + _ ≤ _
        omega
      clear hb3 d1 d2
      go_wp2_with fail
      · exfalso; have := HPL.out; omega
      · exfalso; have := HPL.out; simp at *; omega
      clear hs1 hs2
      refine (writeString_any _ _ (insP tx xs) (⟨#[59]⟩ ++ ⟨⟨tx pt⟩⟩ ++ ⟨#[59]⟩) _ ((show IsBld (W.heap.size + 1) (W.heap.size + 1) (insP tx xs) wr from HN.out ▸ HS.out.bld).on HB3.out) (by
        have h1 : (⟨⟨tx pt⟩⟩ : ByteArray).size ≤ 20 := HPL.out
        have h2 := HLN.out
        rw [HN.out] at h2
        rw [ByteArray.size_append, ByteArray.size_append]
        show _ + (1 + _ + 1) ≤ _
        omega) (Nat.le_trans HSZ.out HB3.out.size)).mono ?_
      rintro o5 w5 ⟨rfl, hbl5, hb5⟩
      have HWK5 := Lib.hid (show w5.cell? ⟨W.heap.size, 2, none⟩ = some (.slice A3 bs.length c3) from (hb5.cell (Nat.lt_succ_self _)).trans ((HB3.out.cell (show W.heap.size < wr.heap.size from HSZ.out)).trans HWK.out.2))
      have HS5 := Lib.hid (show StW w2 (W.heap.size + 1) (insP tx xs ++ (59 :: tx pt ++ [59])) w5 from by
        refine ⟨(HS.out.below.trans (HB3.out.mono HSZ.out)).trans hb5, ?_⟩
        have e : (⟨#[59]⟩ ++ ⟨⟨tx pt⟩⟩ ++ ⟨#[59]⟩ : ByteArray).data.toList = 59 :: tx pt ++ [59] := by simp
        rw [← e]
        exact hbl5)
      have HL5 := Lib.hid (show (insP tx xs ++ (59 :: tx pt ++ [59])).length ≤ 21 * xs.length + 22 from by
        have h2 := HLN.out
        rw [HN.out] at h2
        have h1 := HPL.out
        simp only [List.length_append, List.length_cons, List.length_nil]
        omega)
      have d2 := HWK5.out
      clear hbl5 hb5 HWK
      obtain ⟨pre, hpre⟩ : ∃ pre, insP tx xs ++ (59 :: tx pt ++ [59]) = pre := ⟨_, rfl⟩
      have HPR := Lib.hid hpre
      rw [hpre] at HS5 HL5
      clear hpre
      go_wp2_with fail
      clear d2
      go_loopw [33] (fun s33 wq => ∃ j : Nat, j ≤ bs.length ∧ s33 = .int .i64 j ∧ StW w2 (W.heap.size + 1) (pre ++ (bs.take j).map fun b => if b then 49 else 48) wq) (fun s33 _ => bs.length - (intOf s33).toNat)
      case atStart => exact ⟨0, Nat.zero_le _, rfl, by simpa using HS5.out⟩
      case round =>
        obtain ⟨j, hj, rfl, hst⟩ := hrel
        have HSJ := Lib.hid hst
        have HSZJ := Lib.hid (show W.heap.size + 1 ≤ wr.heap.size from Nat.le_trans (by rw [HZ.out]; omega) hst.below.size)
        have HBWJ := Lib.hid (show Below W.heap.size W wr from HB2.out.trans (hst.below.mono (Nat.le_succ _)))
        have HLJ := Lib.hid (show (pre ++ (bs.take j).map fun b => if b then (49 : UInt8) else 48).length ≤ 21 * xs.length + 22 + j from by
          have := HL5.out
          rw [List.length_append, List.length_map, List.length_take]
          omega)
        clear hst
        by_cases hltj : j < bs.length
        · obtain ⟨b3, off3, rfl, hcell⟩ := HR3.out (by omega)
          have hc0 := hcell j hltj
          obtain ⟨x, hxj⟩ : ∃ x, bs[j] = x := ⟨_, rfl⟩
          rw [hxj] at hc0
          have hj1 : wr.cell? ⟨b3, off3 + j, none⟩ = some (.bool x) := (HBWJ.out.cell (cell_lt hc0)).trans hc0
          have HTJ := Lib.hid (show (bs.take (j + 1)).map (fun b => if b then (49 : UInt8) else 48) = (bs.take j).map (fun b => if b then (49 : UInt8) else 48) ++ [if x then 49 else 48] from by
            rw [List.take_add_one, List.getElem?_eq_getElem hltj, hxj, List.map_append]; rfl)
          have HJL := Lib.hid hltj
          have hk0 : (0 : Int) ≤ (j : Int) := by omega
          have hk1 : (j : Int) < (bs.length : Int) := by omega
          clear hc0 hcell hxj
          cases x with
          | true =>
            go_wp2_with fail
            refine (writeByte_any _ _ _ 49 (by decide) _ HSJ.out.bld (by have := HLJ.out; have := HJL.out; omega) HSZJ.out).mono ?_
            rintro o6 w6 ⟨rfl, hbl6, hb6⟩
            have HR6 := Lib.hid (show StW w2 (W.heap.size + 1) (pre ++ (bs.take (j + 1)).map fun b => if b then 49 else 48) w6 from ⟨HSJ.out.below.trans hb6, by rw [HTJ.out, ← List.append_assoc]; exact hbl6⟩)
            have HK6 := Lib.hid (show j + 1 ≤ bs.length from HJL.out)
            have HKX := Lib.hid hltj
            clear hb6 hbl6
            go_wp2_with fail
            go_roundw
            case rel => exact ⟨j + 1, HK6.out, by go_num, HR6.out⟩
            case measure => have := HKX.out; simp [intOf]; omega
          | false =>
            go_wp2_with fail
            refine (writeByte_any _ _ _ 48 (by decide) _ HSJ.out.bld (by have := HLJ.out; have := HJL.out; omega) HSZJ.out).mono ?_
            rintro o6 w6 ⟨rfl, hbl6, hb6⟩
            have HR6 := Lib.hid (show StW w2 (W.heap.size + 1) (pre ++ (bs.take (j + 1)).map fun b => if b then 49 else 48) w6 from ⟨HSJ.out.below.trans hb6, by rw [HTJ.out, ← List.append_assoc]; exact hbl6⟩)
            have HK6 := Lib.hid (show j + 1 ≤ bs.length from HJL.out)
            have HKX := Lib.hid hltj
            clear hb6 hbl6
            go_wp2_with fail
            go_roundw
            case rel => exact ⟨j + 1, HK6.out, by go_num, HR6.out⟩
            case measure => have := HKX.out; simp [intOf]; omega
        · obtain rfl : j = bs.length := by omega
          have HE := Lib.hid (show pre ++ (bs.take bs.length).map (fun b => if b then (49 : UInt8) else 48) = writeP tx xs pt bs from by rw [List.take_length, ← HPR.out]; rfl)
          go_wp2_with fail
          refine (Tryz.Builder_String_any _ _ _ _ HSJ.out.bld HSZJ.out).mono ?_
          rintro o6 w6 ⟨rfl, hb6⟩
          have HB6 := Lib.hid hb6
          clear hb6
          go_wp2_with fail
          go_ret
          refine ⟨by have e := HE.out; rw [List.take_length] at e; rw [← e]; rfl, HBWJ.out.trans (HB6.out.mono (Nat.le_succ _))⟩
end Go.Proofs.YtlibeobmdjeilaaGreatDoor
