/- Slices of calls: how they read; an argument that is one; ContainsFunc over one. -/
import Derived.Test.YtcpcoomkapblcaaIntsMore
import Derived.Test.YtcpcoomkapblcaaRow
import Derived.Deep.Slices
import Derived.Deep.Fields
import Derived.ChangeSame
open Go Go.RowKit Go.Maps
namespace Go.Proofs.Ytcpcoomkapblcaa
open Go.Shelf
/-- A call of a table, as the law's argument gives it. -/
structure ActD where
  kind : Int
  id : Int
  lev : Int
  lock : List Int
/-- The cells of a call. -/
def ActAt (n₀ : Nat) (W : World) (b o : Nat) (x : ActD) : Prop :=
  ∃ lv, W.cell? ⟨b, o, none⟩ = some (.int .u8 x.kind) ∧ W.cell? ⟨b, o + 1, none⟩ = some (.int .i64 x.id) ∧ W.cell? ⟨b, o + 2, none⟩ = some (.int .i64 x.lev) ∧ W.cell? ⟨b, o + 3, none⟩ = some lv ∧ RdI n₀ W lv x.lock ∧ x.lock.length ≤ maxLen ∧ 0 ≤ x.kind ∧ x.kind ≤ 255 ∧ (Lit.int .i64 x.id).wf = true ∧ (Lit.int .i64 x.lev).wf = true
def noAct : ActD := ⟨0, 0, 0, []⟩
/-- The slice value sv reads as the calls l. -/
def RdA (n₀ : Nat) (W : World) (sv : Value) (l : List ActD) : Prop :=
  ∃ A cap, sv = .slice A l.length cap ∧ l.length ≤ cap ∧ (0 < l.length → ∃ b off, A = some ⟨b, off, none⟩ ∧ b < n₀ ∧ ∀ k, k < l.length → ActAt n₀ W b (off + k * 4) (l[k]?.getD noAct))
theorem RdA.form {n₀ : Nat} {W : World} {sv : Value} {l : List ActD} (h : RdA n₀ W sv l) : ∃ A c, sv = .slice A l.length c := by
  obtain ⟨A, c, e, _⟩ := h; exact ⟨A, c, e⟩
theorem ActAt.below {n₀ : Nat} {A B : World} {b o : Nat} {x : ActD} (h : ActAt n₀ A b o x) (hb : Below n₀ A B) (hlt : b < n₀) : ActAt n₀ B b o x := by
  obtain ⟨lv, h1, h2, h3, h4, h5, h6⟩ := h
  exact ⟨lv, (hb.cell (p := ⟨b, o, none⟩) hlt).trans h1, (hb.cell (p := ⟨b, o + 1, none⟩) hlt).trans h2, (hb.cell (p := ⟨b, o + 2, none⟩) hlt).trans h3, (hb.cell (p := ⟨b, o + 3, none⟩) hlt).trans h4, h5.below hb, h6⟩
theorem RdA.below {n₀ : Nat} {A B : World} {sv : Value} {l : List ActD} (h : RdA n₀ A sv l) (hb : Below n₀ A B) : RdA n₀ B sv l := by
  obtain ⟨a, cap, rfl, hc, hr⟩ := h
  refine ⟨a, cap, rfl, hc, fun h0 => ?_⟩
  obtain ⟨b, off, e, hlt, hcell⟩ := hr h0
  exact ⟨b, off, e, hlt, fun k hk => (hcell k hk).below hb hlt⟩
set_option maxRecDepth 1000000 in
set_option maxHeartbeats 1000000 in
theorem act1_any (w : World) (x : ActD) (n₀ : Nat) (lv : Value) (hl : RdI n₀ w lv x.lock) (hll : x.lock.length ≤ maxLen) :
    Calls Try.prog 34 #[.agg #[.int .u8 x.kind, .int .i64 x.id, .int .i64 x.lev, lv]] w fun e w' => e = .returned (.bool (decide (20 < x.lock.length))) ∧ Below w.heap.size w w' := by
  obtain ⟨A, cap, rfl, _, -⟩ := hl
  unfold maxLen at hll
  go_enter Try.func34, Try.ntmps34
  go_wp2
  go_ret
  refine ⟨?_, (Below.refl _ _).alloc (Nat.le_refl _) _⟩
  congr 2
  simp
  omega
def big (x : ActD) : Bool := decide (20 < x.lock.length)
def IdxP (w : World) (l : List ActD) (e : Ending) (w' : World) : Prop := ∃ n : Int, e = .returned (.int .i64 n) ∧ decide (0 ≤ n) = l.any big ∧ Below w.heap.size w w'
set_option maxRecDepth 1000000 in
set_option maxHeartbeats 2000000 in
theorem indexAct_any (w : World) (B : Nat) (sv : Value) (l : List ActD) (hB : B ≤ w.heap.size) (hs : RdA B w sv l) (hl : l.length ≤ 1000000) :
    Calls Try.prog 53 #[sv, .func (.func 34) #[] #[]] w (IdxP w l) := by
  obtain ⟨A, cap, rfl, hcp, hr⟩ := hs
  go_enter Try.func53, Try.ntmps53
  go_wp2_with fail
  go_loopw [8] (fun s8 wr => ∃ k : Nat, k ≤ l.length ∧ s8 = .int .i64 k ∧ Hid ((l.take k).any big = false) ∧ Below w.heap.size w wr) (fun s8 _ => l.length - (intOf s8).toNat)
  case atStart => exact ⟨0, Nat.zero_le _, rfl, Lib.hid (by simp), Below.refl _ _⟩
  case round =>
    obtain ⟨k, hk, rfl, HA, hbk⟩ := hrel
    have hszk := hbk.size
    by_cases hlt : k < l.length
    · obtain ⟨b, off, rfl, hbl, hcell⟩ := hr (by omega)
      obtain ⟨lv, c1, c2, c3, c4, c5, c6, -⟩ := (hcell k hlt).below (hbk.mono hB) hbl
      have htk : l.take (k + 1) = l.take k ++ [l[k]?.getD noAct] := by rw [List.take_succ_eq_append_getElem hlt]; simp [hlt]
      have hdr : l.drop k = l[k]?.getD noAct :: l.drop (k + 1) := by rw [List.drop_eq_getElem_cons hlt]; simp [hlt]
      generalize l[k]?.getD noAct = x at *
      have HTK := Lib.hid htk
      have HDR := Lib.hid hdr
      have HC := Lib.hid (act1_any wr x B lv c5 c6)
      obtain ⟨AL, capL, rfl, -, -⟩ := id c5
      clear htk hdr hcell hr c5
      cases hβ : decide (20 < x.lock.length) with
      | true =>
        rw [hβ] at HC
        have HB : Hid (big x = true) := Lib.hid hβ
        clear hβ
        go_wp2_with fail
        refine HC.out.mono ?_
        rintro e w1 ⟨rfl, hb1⟩
        go_wp2_with fail
        go_ret
        refine ⟨k, rfl, ?_, hbk.trans (hb1.mono hszk)⟩
        have e1 : l.any big = true := by rw [← List.take_append_drop k l, List.any_append, HDR.out]; simp [HB.out]
        rw [e1]; simp
      | false =>
        rw [hβ] at HC
        have HB : Hid (big x = false) := Lib.hid hβ
        clear hβ
        go_wp2_with fail
        refine HC.out.mono ?_
        rintro e w1 ⟨rfl, hb1⟩
        go_wp2_with fail
        exact ⟨⟨k + 1, by omega, by go_num, Lib.hid (by rw [HTK.out, List.any_append, HA.out]; simp [HB.out]), hbk.trans (hb1.mono hszk)⟩, by simp [intOf]; omega⟩
    · obtain rfl : k = l.length := by omega
      clear hr
      go_wp2_with fail
      go_ret
      have h := HA.out
      rw [List.take_length] at h
      exact ⟨-1, rfl, by rw [h]; rfl, hbk⟩
set_option maxRecDepth 1000000 in
set_option maxHeartbeats 2000000 in
theorem containsAct_any (w : World) (B : Nat) (sv : Value) (l : List ActD) (hB : B ≤ w.heap.size) (hs : RdA B w sv l) (hl : l.length ≤ 1000000) :
    Calls Try.prog 33 #[sv, .func (.func 34) #[] #[]] w fun e w' => e = .returned (.bool (l.any big)) ∧ Below w.heap.size w w' := by
  have H := Lib.hid (indexAct_any w B sv l hB hs hl)
  obtain ⟨A, cap, rfl⟩ := hs.form
  clear hs
  go_enter Try.func33, Try.ntmps33
  go_wp2_with fail
  refine H.out.mono ?_
  rintro e w1 ⟨n, rfl, hn, hb1⟩
  have HN := Lib.hid hn
  clear hn
  go_wp2_with fail
  go_ret
  refine ⟨?_, hb1⟩
  rw [← HN.out]
  rfl
section
open Go.ChangeShapes Go.WideShapes Go.Deep
theorem cellsAct : Try.prog.cellsOf 59 = 4 := by kernel_rfl
theorem cellsI3 : Try.prog.cellsOf 3 = 1 := by kernel_rfl
theorem cellsI5 : Try.prog.cellsOf 5 = 1 := by kernel_rfl
theorem cellsI33 : Try.prog.cellsOf 33 = 1 := by kernel_rfl
set_option maxRecDepth 100000 in
/-- A value that reads as a slice of integers reads as a list. -/
theorem rdI_of_trod {H : Type} {enc : TypeId × Value → H} {W : World} {fuel : Nat} {v : Value} {x : DataW H × List MemPlace} (hf : DataW.trod enc Try.prog W 0 (fun _ => true) true fuel 33 [v] = some x) : ∃ zs, RdI W.heap.size W v zs ∧ zs.length ≤ maxLen := by
  rcases open_ints Try.underlying33 Try.underlying3 cellsI3 hf with ⟨hcs, hx⟩ | ⟨a, len, cap, zs, hcs, _, hl, hm, hz, hx, hcell, hwz⟩
  · injection hcs with e
    subst e
    exact ⟨[], RdI.nil _ _, by simp⟩
  · injection hcs with e
    subst e
    simp only [if_true] at hz
    have hlen : (zs.take len).length = len := by rw [List.length_take]; omega
    refine ⟨zs.take len, ⟨some a, cap, by rw [hlen], by omega, fun h0 => ?_⟩, by omega⟩
    obtain ⟨b, off, rfl, hc⟩ := Go.ints_at hcell (by omega)
    have hb : b < W.heap.size := by
      have := hc 0 (by omega)
      rcases Nat.lt_or_ge b W.heap.size with h1 | h1
      · exact h1
      · simp [World.cell?, Array.getElem?_eq_none h1] at this
    refine ⟨b, off, rfl, hb, fun j hj => ?_⟩
    have hj' : j < zs.length := by rw [hlen] at hj; omega
    rw [hc j hj']
    have hj2 : j < len := by omega
    simp [List.getElem?_take_of_lt hj2]
set_option maxRecDepth 100000 in
/-- An argument that is a slice of calls reads as a list. -/
theorem rdA_of_arg {H : Type} {enc : TypeId × Value → H} {W : World} {base : Nat} {v : Value} {d : DataW H} {p : List MemPlace}
    (hval : Value.okWide Try.prog W .any base 56 v) (h : DataW.Trod enc Try.prog W 0 (fun _ => true) true 56 v d p) : ∃ l, RdA W.heap.size W v l ∧ l.length ≤ maxLen := by
  obtain ⟨a0, len, cap, rfl⟩ := okWide_slice Try.underlying56 hval
  obtain ⟨fuel, hf⟩ := h
  rcases open_slice Try.underlying56 hf with ⟨hcs, hx⟩ | ⟨a, len', cap', m, n, D, Pl, hcs, _, hl, hm, hmm, hx, hi⟩
  · injection hcs with e
    injection e with e1 e2 e3
    subst e1 e2 e3
    exact ⟨[], ⟨none, 0, rfl, Nat.le_refl _, fun h => by simp at h⟩, by simp⟩
  · injection hcs with e
    injection e with e1 e2 e3
    subst e1 e2 e3
    simp only [if_true] at hmm
    subst hmm
    have hcell : ∀ i, i < len → ∃ (x : ActD) (lv : Value), W.cell? (a.add (i * 4)) = some (.int .u8 x.kind) ∧ W.cell? ((a.add (i * 4)).add 1) = some (.int .i64 x.id) ∧ W.cell? ((a.add (i * 4)).add 2) = some (.int .i64 x.lev) ∧ W.cell? ((a.add (i * 4)).add 3) = some lv ∧
        RdI W.heap.size W lv x.lock ∧ x.lock.length ≤ maxLen ∧ 0 ≤ x.kind ∧ x.kind ≤ 255 ∧ (Lit.int .i64 x.id).wf = true ∧ (Lit.int .i64 x.lev).wf = true := by
      intro i hil
      obtain ⟨cs', hc, ht'⟩ := hi i (by omega)
      rw [cellsAct] at hc
      obtain ⟨ys, n', hn', hy, hlen, hyl, hfd⟩ := DataW.trod_struct Try.underlying59 ht'
      obtain ⟨_, hcl, hat⟩ := World.cells?_some hc
      match cs', hcl with
      | [c0, c1, c2, c3], _ =>
        match ys, hyl with
        | [y0, y1, y2, y3], _ =>
          have h0 : DataW.trod enc Try.prog W 0 (fun _ => true) true n' 5 (List.take (Try.prog.cellsOf 5) (List.drop 0 [c0, c1, c2, c3])) = some y0 := hfd 0 _ rfl
          have h1 : DataW.trod enc Try.prog W 0 (fun _ => true) true n' 3 (List.take (Try.prog.cellsOf 3) (List.drop 1 [c0, c1, c2, c3])) = some y1 := hfd 1 _ rfl
          have h2 : DataW.trod enc Try.prog W 0 (fun _ => true) true n' 3 (List.take (Try.prog.cellsOf 3) (List.drop 2 [c0, c1, c2, c3])) = some y2 := hfd 2 _ rfl
          have h3 : DataW.trod enc Try.prog W 0 (fun _ => true) true n' 33 (List.take (Try.prog.cellsOf 33) (List.drop 3 [c0, c1, c2, c3])) = some y3 := hfd 3 _ rfl
          rw [cellsI5] at h0
          rw [cellsI3] at h1 h2
          rw [cellsI33] at h3
          obtain ⟨z0, e0, _, w0⟩ := DataW.trod_int Try.underlying5 (show DataW.trod enc Try.prog W 0 (fun _ => true) true n' 5 [c0] = some y0 from h0)
          obtain ⟨z1, e1, _, w1⟩ := DataW.trod_int Try.underlying3 (show DataW.trod enc Try.prog W 0 (fun _ => true) true n' 3 [c1] = some y1 from h1)
          obtain ⟨z2, e2, _, w2⟩ := DataW.trod_int Try.underlying3 (show DataW.trod enc Try.prog W 0 (fun _ => true) true n' 3 [c2] = some y2 from h2)
          obtain ⟨zs, hzs, hzl⟩ := rdI_of_trod (show DataW.trod enc Try.prog W 0 (fun _ => true) true n' 33 [c3] = some y3 from h3)
          injection e0 with e0
          injection e1 with e1
          injection e2 with e2
          have g0 := hat 0 (by omega)
          have g1 := hat 1 (by omega)
          have g2 := hat 2 (by omega)
          have g3 := hat 3 (by omega)
          obtain ⟨b0, b1⟩ := u8_of_wf w0
          exact ⟨⟨z0, z1, z2, zs⟩, c3, by rw [show (a.add (i * 4)).add 0 = a.add (i * 4) by simp [Addr.add]] at g0; rw [g0, ← e0]; rfl, by rw [g1, ← e1]; rfl, by rw [g2, ← e2]; rfl, by rw [g3]; rfl, hzs, hzl, b0, b1, w1, w2⟩
    have hT : ∀ k : Nat, k ≤ len → ∃ T : List ActD, T.length = k ∧ ∀ i, i < k → ∃ lv : Value, W.cell? (a.add (i * 4)) = some (.int .u8 (T[i]?.getD noAct).kind) ∧ W.cell? ((a.add (i * 4)).add 1) = some (.int .i64 (T[i]?.getD noAct).id) ∧ W.cell? ((a.add (i * 4)).add 2) = some (.int .i64 (T[i]?.getD noAct).lev) ∧ W.cell? ((a.add (i * 4)).add 3) = some lv ∧
        RdI W.heap.size W lv (T[i]?.getD noAct).lock ∧ (T[i]?.getD noAct).lock.length ≤ maxLen ∧ 0 ≤ (T[i]?.getD noAct).kind ∧ (T[i]?.getD noAct).kind ≤ 255 ∧ (Lit.int .i64 (T[i]?.getD noAct).id).wf = true ∧ (Lit.int .i64 (T[i]?.getD noAct).lev).wf = true := by
      intro k
      induction k with
      | zero => exact fun _ => ⟨[], rfl, fun i h => by omega⟩
      | succ k ih =>
        intro hk
        obtain ⟨T, hl, hc⟩ := ih (by omega)
        obtain ⟨x, hx⟩ := hcell k (by omega)
        refine ⟨T ++ [x], by simp [hl], fun i hi => ?_⟩
        by_cases e : i < k
        · rw [List.getElem?_append_left (by omega)]; exact hc i e
        · obtain rfl : i = k := by omega
          rw [List.getElem?_append_right (by omega), hl, Nat.sub_self]; exact hx
    obtain ⟨T, hl', hc⟩ := hT len (Nat.le_refl _)
    refine ⟨T, ⟨some a, m, by rw [hl'], by omega, fun h0 => ?_⟩, by omega⟩
    rw [hl'] at h0
    obtain ⟨lv0, hc0, _⟩ := hc 0 h0
    have hspot : a.spot = none := by
      have := World.cell?_spot hc0
      simpa [Addr.add] using this
    obtain ⟨b, off, spot⟩ := a
    simp only at hspot
    subst hspot
    have hb : b < W.heap.size := by
      have := hc0
      rw [show ((⟨b, off, none⟩ : Addr).add (0 * 4)) = ⟨b, off, none⟩ by simp [Addr.add]] at this
      rcases Nat.lt_or_ge b W.heap.size with h1 | h1
      · exact h1
      · simp [World.cell?, Array.getElem?_eq_none h1] at this
    refine ⟨b, off, rfl, hb, fun k hk => ?_⟩
    obtain ⟨lv, q0, q1, q2, q3, q4⟩ := hc k (by omega)
    have e0 : ((⟨b, off, none⟩ : Addr).add (k * 4)) = ⟨b, off + k * 4, none⟩ := Go.WideShapes.add_plain _ _ _
    have e1 : ((⟨b, off + k * 4, none⟩ : Addr).add 1) = ⟨b, off + k * 4 + 1, none⟩ := Go.WideShapes.add_plain _ _ _
    have e2 : ((⟨b, off + k * 4, none⟩ : Addr).add 2) = ⟨b, off + k * 4 + 2, none⟩ := Go.WideShapes.add_plain _ _ _
    have e3 : ((⟨b, off + k * 4, none⟩ : Addr).add 3) = ⟨b, off + k * 4 + 3, none⟩ := Go.WideShapes.add_plain _ _ _
    rw [e0] at q0 q1 q2 q3
    rw [e1] at q1
    rw [e2] at q2
    rw [e3] at q3
    exact ⟨lv, q0, q1, q2, q3, q4⟩
end
end Go.Proofs.Ytcpcoomkapblcaa
